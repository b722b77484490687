/- The contract of addsub.Turn: for every input; a sign turned, as codes. Condition: the listed table is laid. -/
import Derived.Test.YtkpjeceofcfnkaaGreatDoorFormat4
import Derived.Test.YtkpjeceofcfnkaaGreatDoorFormat3
import Derived.Test.YtkpjeceofcfnkaaGreatDoorCodes4
set_option maxRecDepth 100000
set_option maxHeartbeats 4000000
set_option linter.unusedSimpArgs false
set_option linter.unusedVariables false
namespace Go.Proofs.YtkpjeceofcfnkaaGreatDoor
open Go.RowKit Go.Hb
/-- The bits with the sign turned. -/
def turnF (f : Int) (v : Nat) : Nat := makeF f (!(sgnF f v)) (expF f v) (cat (hi (fracF f v)) (lo (fracF f v)))
theorem addsub_Turn (f h l : Int) [hU : U8 f] [U64 h] [U64 l] (w : World) [hLay : Laid w] :
    Calls Tryz.prog 18 #[.int .u8 f, .agg #[.int .u64 (h), .int .u64 (l)]] w fun en w' => en = .returned (.agg #[.int .u64 (hi (turnF f (cat h l))), .int .u64 (lo (turnF f (cat h l)))]) ∧ Below w.heap.size w w' := by
  go_enter Tryz.func18, Tryz.ntmps18
  skip
  (go_wp2_with fail; refine (format_Split _ _ _ _).mono ?_; rintro en v1 ⟨rfl, hB_v1⟩; have lay_v1 := laid_after hB_v1; have cc1 := cl hB_v1 (show World.cell? _ ⟨w.heap.size, 0, none⟩ = some (.int .u64 h) by go_simp); have cc2 := cl hB_v1 (show World.cell? _ ⟨w.heap.size, 1, none⟩ = some (.int .u64 l) by go_simp); obtain ⟨cc3, fcc3⟩ := pf hB_v1 (show World.cell? _ ⟨w.heap.size + 1, 0, none⟩ = some (.int .u64 0) by go_simp) (by go_simp); obtain ⟨cc4, fcc4⟩ := pf hB_v1 (show World.cell? _ ⟨w.heap.size + 1, 1, none⟩ = some (.int .u64 0) by go_simp) (by go_simp); have hs_v1 := hB_v1.size; (try simp only [World.size_alloc, World.size_setCell, World.size_drew] at hs_v1); have hBW : Below w.heap.size w v1 := below_after (w := w) (by go_grown) hB_v1; have hn_v1 := an (nl cc1) (nl cc3); clear hB_v1)
  (go_wp2_with fail; refine (format_Make _ _ _ _ _ _).mono ?_; rintro en v2 ⟨rfl, hB_v2⟩; have lay_v2 := laid_after hB_v2; have hG := cell_grown cc1 (by go_grown) hB_v2; replace cc1 := cl hG cc1; replace cc2 := cl hG cc2; replace fcc3 := fl hG fcc3 cc3; replace cc3 := cl hG cc3; replace fcc4 := fl hG fcc4 cc4; replace cc4 := cl hG cc4; have cc5 := cl hB_v2 (show World.cell? _ ⟨v1.heap.size, 0, none⟩ = some (.int .u64 (hi (fracF f (cat h l)))) by go_simp); have cc6 := cl hB_v2 (show World.cell? _ ⟨v1.heap.size, 1, none⟩ = some (.int .u64 (lo (fracF f (cat h l)))) by go_simp); replace hBW := below_after hBW hG; have hs_v2 := hG.size; clear hG; have hn_v2 := an (nl cc1) (an (nl cc3) (nl cc5)); clear hB_v2)
  go_wp2_with fail
  refine bodyPost_ret (by simp [results, Tryz.results18, go_sem, cc3, cc4]; try rfl) rfl ?_
  exact ⟨rfl, by go_grown⟩
end Go.Proofs.YtkpjeceofcfnkaaGreatDoor
namespace Go.Proofs.YtkpjeceofcfnkaaGreatDoor
open Go.RowKit Go.Hb
theorem fracF_lt128 (f : Int) (v : Nat) (h0 : 0 ≤ f) (hf : f < 4) : fracF f v < 2 ^ 128 := by
  have h1 := frac_lt_p f v h0 hf
  obtain ⟨p0, p1⟩ := precS_bd f
  exact Nat.lt_of_lt_of_le h1 (Nat.pow_le_pow_right (by decide) (by omega))
theorem expF_bd (f : Int) (v : Nat) (h0 : 0 ≤ f) (hf : f < 4) : (expF f v : Int) ≤ 2 * emaxS f + 1 := by
  obtain ⟨x1, x2⟩ := fmt_ex f h0 hf
  unfold expF
  rw [if_neg (by omega), x1]
  have := Nat.mod_lt (v / 2 ^ (precS f - 1).toNat) (y := (2 * emaxS f + 2).toNat) (by omega)
  omega
theorem turnF_c (f : Int) (v : Nat) (h0 : 0 ≤ f) (hf : f < 4) : turnF f v = codeF f v + signN f (!(sgnF f v)) := by
  unfold turnF
  rw [cat_small _ (fracF_lt128 f v h0 hf), makeF_c f _ _ _ h0 hf (by omega) (expF_bd f v h0 hf)]
  unfold codeF
  rw [Nat.mod_eq_of_lt (frac_lt_p f v h0 hf), Int.toNat_natCast]
theorem turnF_of (f : Int) (c : Nat) (neg : Bool) (h0 : 0 ≤ f) (hf : f < 4) (hc : c < 2 ^ (widthS f - 1).toNat) : turnF f (c + signN f neg) = c + signN f (!neg) := by
  rw [turnF_c f _ h0 hf, code_of f c neg h0 hf hc, (of_code f c neg h0 hf hc).2.2]
theorem endC_lt (f m : Int) (neg : Bool) (c : Nat) (h0 : 0 ≤ f) (hf : f < 4) : endC f m neg c < 2 ^ (widthS f - 1).toNat := by
  have h1 := infC_lt f h0 hf
  have h2 := endC_le f m neg c
  have h3 := Nat.two_pow_pos (precS f - 1).toNat
  omega
/-- What is rounded is turned by turning the sign and mirroring the mode. -/
theorem res_turn (f m e : Int) (v : Nat) (h0 : 0 ≤ f) (hf : f < 4) (hm : m ≤ 4) (hv : v < 2 ^ 256) : turnF f (resB f m false e v) = resB f (mirS m) true e v ∧ sgnF f (resB f (mirS m) true e v) = true := by
  rw [res_mir f m e v h0 hf hm hv, res_code f m false e v h0 hf hm hv]
  have hl := endC_lt f m false (codeR f m false KK e v) h0 hf
  rw [turnF_of f _ false h0 hf hl]
  have hz : signN f false = 0 := rfl
  rw [hz, Nat.add_zero]
  exact ⟨rfl, (of_code f _ true h0 hf hl).2.2⟩
end Go.Proofs.YtkpjeceofcfnkaaGreatDoor
