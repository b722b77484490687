/- The contracts of nan.Quiet, nan.Default, nan.Pick of one: for every input. Condition: the listed table is laid. -/
import Derived.Test.YtkpjeceofcfnkaaGreatDoorAny
import Derived.Test.YtkpjeceofcfnkaaGreatDoorLin
import Derived.Test.YtkpjeceofcfnkaaGreatDoorCodes4
set_option maxRecDepth 100000
set_option maxHeartbeats 4000000
set_option linter.unusedSimpArgs false
set_option linter.unusedVariables false
namespace Go.Hb
open Go.RowKit
theorem or_bit (x k : Nat) : x ||| 2 ^ k = if x.testBit k then x else x + 2 ^ k := by
  by_cases h : x.testBit k = true
  · rw [if_pos h]
    apply Nat.eq_of_testBit_eq
    intro i
    rw [Nat.testBit_or, Nat.testBit_two_pow]
    by_cases hi : k = i
    · subst hi; rw [h]; rfl
    · rw [decide_eq_false hi, Bool.or_false]
  · rw [if_neg h]
    have h' : x.testBit k = false := by simpa using h
    apply Nat.eq_of_testBit_eq
    intro i
    rw [Nat.testBit_or, Nat.testBit_two_pow]
    rw [Nat.testBit_eq_decide_div_mod_eq, decide_eq_false_iff_not] at h'
    have e0 : x / 2 ^ k % 2 = 0 := by omega
    have e1 : x = x / 2 ^ k / 2 * 2 ^ (k + 1) + x % 2 ^ k := by
      have a := Nat.div_add_mod x (2 ^ k)
      have b := Nat.div_add_mod (x / 2 ^ k) 2
      rw [e0] at b
      rw [Nat.pow_succ, Nat.mul_comm (2 ^ k) 2, ← Nat.mul_assoc, Nat.mul_comm (x / 2 ^ k / 2) 2, show 2 * (x / 2 ^ k / 2) = x / 2 ^ k by omega, Nat.mul_comm]
      omega
    generalize x / 2 ^ k / 2 = q at e1
    have hr : x % 2 ^ k < 2 ^ k := Nat.mod_lt _ (Nat.two_pow_pos k)
    generalize x % 2 ^ k = r at *
    have e2 : x + 2 ^ k = q * 2 ^ (k + 1) + (2 ^ k + r) := by omega
    have hlt : r < 2 ^ (k + 1) := by rw [Nat.pow_succ]; omega
    have hlt2 : 2 ^ k + r < 2 ^ (k + 1) := by rw [Nat.pow_succ]; omega
    rw [e2, e1, Nat.mul_comm q, Nat.testBit_two_pow_mul_add q hlt, Nat.testBit_two_pow_mul_add q hlt2]
    by_cases hik : i < k + 1
    · rw [if_pos hik, if_pos hik]
      by_cases hk : k = i
      · subst hk
        rw [Nat.testBit_lt_two_pow hr, Nat.testBit_two_pow_add_eq, Nat.testBit_lt_two_pow hr, decide_eq_true rfl]
        rfl
      · rw [decide_eq_false hk, Bool.or_false, Nat.testBit_two_pow_add_gt (by omega)]
    · rw [if_neg hik, if_neg hik, decide_eq_false (by omega), Bool.or_false]
theorem or_hl (x y : Nat) : Go.bits BinOp.or IntKind.u64 (hi x) (hi y) = hi (x ||| y) ∧ Go.bits BinOp.or IntKind.u64 (lo x) (lo y) = lo (x ||| y) := by
  have key : ∀ a b : Nat, a < 18446744073709551616 → b < 18446744073709551616 → Go.bits BinOp.or IntKind.u64 ((a : Nat) : Int) ((b : Nat) : Int) = ((a ||| b : Nat) : Int) := fun a b ha hb =>
    (bits_nat .u64 64 (by decide) (fun n h1 h2 => by rw [IntKind.wrap_u64]; omega) a b (by omega) (by omega)).2
  have hd : ∀ u v : Nat, (u ||| v) % 18446744073709551616 = (u % 18446744073709551616) ||| (v % 18446744073709551616) := fun u v => by
    have := @Nat.or_mod_two_pow u v 64
    exact this
  have hs : (x ||| y) / 18446744073709551616 = (x / 18446744073709551616) ||| (y / 18446744073709551616) := by
    have := @Nat.shiftRight_or_distrib 64 x y
    rw [Nat.shiftRight_eq_div_pow, Nat.shiftRight_eq_div_pow, Nat.shiftRight_eq_div_pow] at this
    exact this
  constructor
  · unfold hi
    rw [key _ _ (Nat.mod_lt _ (by decide)) (Nat.mod_lt _ (by decide)), hs, hd]
  · unfold lo
    rw [key _ _ (Nat.mod_lt _ (by decide)) (Nat.mod_lt _ (by decide)), hd]
end Go.Hb
namespace Go.Proofs.YtkpjeceofcfnkaaGreatDoor
open Go.RowKit Go.Hb
/-- A NaN made quiet. -/
def quietF (f : Int) (v : Nat) : Nat := if nanB f v then lowN v (widthS f) ||| lsh (cat 0 1) (precS f - 2) else lowN v (widthS f)
def defF (f : Int) : Nat := makeF f false (2 * emaxS f + 1) (cat (hi (lsh (cat 0 1) (precS f - 2))) (lo (lsh (cat 0 1) (precS f - 2))))
theorem nan_low (f : Int) (v : Nat) (h0 : 0 ≤ f) (hf : f < 4) : nanB f (lowN v (widthS f)) = nanB f v := by
  have hc := code_of f (codeF f v) (sgnF f v) h0 hf (code_lt f v h0 hf)
  rw [← cut_code f v h0 hf] at hc
  have a := (class_code f v h0 hf).2.2.2.2
  have b := (class_code f (lowN v (widthS f)) h0 hf).2.2.2.2
  rw [hc] at b
  unfold nanB
  rw [Bool.eq_iff_iff, decide_eq_true_eq, decide_eq_true_eq]
  exact b.trans a.symm
theorem quiet_f (f h l qh ql : Int) [hU : U8 f] [U64 h] [U64 l] [U64 qh] [U64 ql] (w : World) [hLay : Laid w] (c0 : Hid (hi (lowN (cat h l) (widthS f)) = qh)) (c1 : Hid (lo (lowN (cat h l) (widthS f)) = ql)) (n0 : Hid (nanB f (cat qh ql) = false)) :
    Calls Tryz.prog 62 #[.int .u8 f, .agg #[.int .u64 (h), .int .u64 (l)]] w fun en w' => en = .returned (.agg #[.int .u64 (qh), .int .u64 (ql)]) ∧ Below w.heap.size w w' := by
  go_enter Tryz.func62, Tryz.ntmps62
  skip
  (go_wp2_with fail; refine (format_Cut _ _ _ _).mono ?_; rw [c0.out, c1.out]; rintro en v1 ⟨rfl, hB_v1⟩; have lay_v1 := laid_after hB_v1; obtain ⟨cc1, fcc1⟩ := pf hB_v1 (show World.cell? _ ⟨w.heap.size, 0, none⟩ = some (.int .u64 h) by go_simp) (by go_simp); obtain ⟨cc2, fcc2⟩ := pf hB_v1 (show World.cell? _ ⟨w.heap.size, 1, none⟩ = some (.int .u64 l) by go_simp) (by go_simp); obtain ⟨cc3, fcc3⟩ := pf hB_v1 (show World.cell? _ ⟨w.heap.size + 1, 0, none⟩ = some (.int .u64 0) by go_simp) (by go_simp); obtain ⟨cc4, fcc4⟩ := pf hB_v1 (show World.cell? _ ⟨w.heap.size + 1, 1, none⟩ = some (.int .u64 0) by go_simp) (by go_simp); have hs_v1 := hB_v1.size; (try simp only [World.size_alloc, World.size_setCell, World.size_drew] at hs_v1); have hBW : Below w.heap.size w v1 := below_after (w := w) (by go_grown) hB_v1; have hn_v1 := an (nl cc1) (nl cc3); clear hB_v1)
  skip
  skip
  go_upto_region 2 with fail
  ((first | refine wp_rename ?_ | refine goal_rename ?_); intro W2 hw_W2; replace cc1 : W2.cell? ⟨w.heap.size, 0, none⟩ = some (.int .u64 qh) := (by rw [hw_W2]; go_simp); replace fcc1 := rf hw_W2 fcc1 (by go_simp); replace cc2 : W2.cell? ⟨w.heap.size, 1, none⟩ = some (.int .u64 ql) := (by rw [hw_W2]; go_simp); replace fcc2 := rf hw_W2 fcc2 (by go_simp); replace cc3 := rn hw_W2 cc3 (by go_simp); replace fcc3 := rf hw_W2 fcc3 (by go_simp); replace cc4 := rn hw_W2 cc4 (by go_simp); replace fcc4 := rf hw_W2 fcc4 (by go_simp); replace hBW : Below w.heap.size w W2 := (by rw [hw_W2]; (first | with_reducible exact drewN_below (by assumption) _ | go_grown)); have hn_W2 := an (nl cc1) (nl cc3); have lay_W2 : Laid W2 := Laid.below (w := w) (by assumption) hBW; clear hw_W2)
  (go_wp2_with fail; refine (class_NaN _ _ _ _).mono ?_; rw [n0.out]; rintro en v2 ⟨rfl, hB_v2⟩; have lay_v2 := laid_after hB_v2; have hG := cell_grown cc1 (by go_grown) hB_v2; replace fcc1 := fl hG fcc1 cc1; replace cc1 := cl hG cc1; replace fcc2 := fl hG fcc2 cc2; replace cc2 := cl hG cc2; replace fcc3 := fl hG fcc3 cc3; replace cc3 := cl hG cc3; replace fcc4 := fl hG fcc4 cc4; replace cc4 := cl hG cc4; replace hBW := below_after hBW hG; have hs_v2 := hG.size; clear hG; have hn_v2 := an (nl cc1) (nl cc3); clear hB_v2)
  go_wp2_with fail
  refine bodyPost_ret (by simp [results, Tryz.results62, go_sem, cc3, cc4]; try rfl) rfl ?_
  exact ⟨rfl, by go_grown⟩
theorem quiet_t (f h l qh ql bh bl rh rl : Int) [hU : U8 f] [U64 h] [U64 l] [U64 qh] [U64 ql] [U64 bh] [U64 bl] (w : World) [hLay : Laid w] (c0 : Hid (hi (lowN (cat h l) (widthS f)) = qh)) (c1 : Hid (lo (lowN (cat h l) (widthS f)) = ql)) (n0 : Hid (nanB f (cat qh ql) = true))
    (k0 : Hid (hi (lsh (cat 0 1) (precS f - 2)) = bh)) (k1 : Hid (lo (lsh (cat 0 1) (precS f - 2)) = bl)) (r0 : bits BinOp.or IntKind.u64 qh bh = rh) (r1 : bits BinOp.or IntKind.u64 ql bl = rl) :
    Calls Tryz.prog 62 #[.int .u8 f, .agg #[.int .u64 (h), .int .u64 (l)]] w fun en w' => en = .returned (.agg #[.int .u64 (rh), .int .u64 (rl)]) ∧ Below w.heap.size w w' := by
  obtain ⟨p0, p1⟩ := precS_bd f
  have hw1 : IntKind.i64.wrap (precS f - 2) = precS f - 2 := IntWalk.i64_in _ (by omega)
  go_enter Tryz.func62, Tryz.ntmps62
  skip
  (go_wp2_with fail; refine (format_Cut _ _ _ _).mono ?_; rw [c0.out, c1.out]; rintro en v1 ⟨rfl, hB_v1⟩; have lay_v1 := laid_after hB_v1; obtain ⟨cc1, fcc1⟩ := pf hB_v1 (show World.cell? _ ⟨w.heap.size, 0, none⟩ = some (.int .u64 h) by go_simp) (by go_simp); obtain ⟨cc2, fcc2⟩ := pf hB_v1 (show World.cell? _ ⟨w.heap.size, 1, none⟩ = some (.int .u64 l) by go_simp) (by go_simp); obtain ⟨cc3, fcc3⟩ := pf hB_v1 (show World.cell? _ ⟨w.heap.size + 1, 0, none⟩ = some (.int .u64 0) by go_simp) (by go_simp); obtain ⟨cc4, fcc4⟩ := pf hB_v1 (show World.cell? _ ⟨w.heap.size + 1, 1, none⟩ = some (.int .u64 0) by go_simp) (by go_simp); have hs_v1 := hB_v1.size; (try simp only [World.size_alloc, World.size_setCell, World.size_drew] at hs_v1); have hBW : Below w.heap.size w v1 := below_after (w := w) (by go_grown) hB_v1; have hn_v1 := an (nl cc1) (nl cc3); clear hB_v1)
  skip
  skip
  go_upto_region 2 with fail
  ((first | refine wp_rename ?_ | refine goal_rename ?_); intro W2 hw_W2; replace cc1 : W2.cell? ⟨w.heap.size, 0, none⟩ = some (.int .u64 qh) := (by rw [hw_W2]; go_simp); replace fcc1 := rf hw_W2 fcc1 (by go_simp); replace cc2 : W2.cell? ⟨w.heap.size, 1, none⟩ = some (.int .u64 ql) := (by rw [hw_W2]; go_simp); replace fcc2 := rf hw_W2 fcc2 (by go_simp); replace cc3 := rn hw_W2 cc3 (by go_simp); replace fcc3 := rf hw_W2 fcc3 (by go_simp); replace cc4 := rn hw_W2 cc4 (by go_simp); replace fcc4 := rf hw_W2 fcc4 (by go_simp); replace hBW : Below w.heap.size w W2 := (by rw [hw_W2]; (first | with_reducible exact drewN_below (by assumption) _ | go_grown)); have hn_W2 := an (nl cc1) (nl cc3); have lay_W2 : Laid W2 := Laid.below (w := w) (by assumption) hBW; clear hw_W2)
  (go_wp2_with fail; refine (class_NaN _ _ _ _).mono ?_; rw [n0.out]; rintro en v2 ⟨rfl, hB_v2⟩; have lay_v2 := laid_after hB_v2; have hG := cell_grown cc1 (by go_grown) hB_v2; replace fcc1 := fl hG fcc1 cc1; replace cc1 := cl hG cc1; replace fcc2 := fl hG fcc2 cc2; replace cc2 := cl hG cc2; replace fcc3 := fl hG fcc3 cc3; replace cc3 := cl hG cc3; replace fcc4 := fl hG fcc4 cc4; replace cc4 := cl hG cc4; replace hBW := below_after hBW hG; have hs_v2 := hG.size; clear hG; have hn_v2 := an (nl cc1) (nl cc3); clear hB_v2)
  (go_wp2_with fail; refine (format_Prec _ _).mono ?_; rintro en v3 ⟨rfl, hB_v3⟩; have lay_v3 := laid_after hB_v3; have hG := cell_grown cc1 (by go_grown) hB_v3; replace fcc1 := fl hG fcc1 cc1; replace cc1 := cl hG cc1; replace fcc2 := fl hG fcc2 cc2; replace cc2 := cl hG cc2; replace fcc3 := fl hG fcc3 cc3; replace cc3 := cl hG cc3; replace fcc4 := fl hG fcc4 cc4; replace cc4 := cl hG cc4; replace hBW := below_after hBW hG; have hs_v3 := hG.size; clear hG; have hn_v3 := an (nl cc1) (nl cc3); clear hB_v3)
  (go_wp2_with fail; refine (shift_Left' _ _ _ _).mono ?_; rw [k0.out, k1.out]; rintro en v4 ⟨rfl, hB_v4⟩; have lay_v4 := laid_after hB_v4; have hG := cell_grown cc1 (by go_grown) hB_v4; replace fcc1 := fl hG fcc1 cc1; replace cc1 := cl hG cc1; replace fcc2 := fl hG fcc2 cc2; replace cc2 := cl hG cc2; replace fcc3 := fl hG fcc3 cc3; replace cc3 := cl hG cc3; replace fcc4 := fl hG fcc4 cc4; replace cc4 := cl hG cc4; replace hBW := below_after hBW hG; have hs_v4 := hG.size; clear hG; have hn_v4 := an (nl cc1) (nl cc3); clear hB_v4)
  go_upto_region 4 with fail
  ((first | refine wp_rename ?_ | refine goal_rename ?_); intro W4 hw_W4; have hG := named cc1 W4 (by rw [hw_W4]; first | with_reducible exact drewN_below (Below.refl _ _) _ | go_grown); replace fcc1 := fl hG fcc1 cc1; replace cc1 := cl hG cc1; replace fcc2 := fl hG fcc2 cc2; replace cc2 := cl hG cc2; replace fcc3 := fl hG fcc3 cc3; replace cc3 := cl hG cc3; replace fcc4 := fl hG fcc4 cc4; replace cc4 := cl hG cc4; have cc5 : W4.cell? ⟨v4.heap.size, 0, none⟩ = some (.int .u64 bh) := (by rw [hw_W4]; go_simp); have cc6 : W4.cell? ⟨v4.heap.size, 1, none⟩ = some (.int .u64 bl) := (by rw [hw_W4]; go_simp); replace hBW := below_after hBW hG; have hs_W4 := hG.size; clear hG; have hn_W4 := an (nl cc1) (an (nl cc3) (nl cc5)); have lay_W4 : Laid W4 := Laid.below (w := w) (by assumption) hBW; clear hw_W4)
  go_region
  skip
  skip
  go_upto_region 5 with fail
  ((first | refine wp_rename ?_ | refine goal_rename ?_); intro W5 hw_W5; replace cc1 : W5.cell? ⟨w.heap.size, 0, none⟩ = some (.int .u64 rh) := (by rw [hw_W5]; go_simp); replace fcc1 := rf hw_W5 fcc1 (by go_simp); replace cc2 : W5.cell? ⟨w.heap.size, 1, none⟩ = some (.int .u64 rl) := (by rw [hw_W5]; go_simp); replace fcc2 := rf hw_W5 fcc2 (by go_simp); replace cc3 := rn hw_W5 cc3 (by go_simp); replace fcc3 := rf hw_W5 fcc3 (by go_simp); replace cc4 := rn hw_W5 cc4 (by go_simp); replace fcc4 := rf hw_W5 fcc4 (by go_simp); replace cc5 := rn hw_W5 cc5 (by go_simp); replace cc6 := rn hw_W5 cc6 (by go_simp); replace hBW : Below w.heap.size w W5 := (by rw [hw_W5]; (first | with_reducible exact drewN_below (by assumption) _ | go_grown)); have hn_W5 := an (nl cc1) (an (nl cc3) (nl cc5)); have lay_W5 : Laid W5 := Laid.below (w := w) (by assumption) hBW; clear hw_W5)
  go_wp2_with fail
  refine bodyPost_ret (by simp [results, Tryz.results62, go_sem, cc3, cc4]; try rfl) rfl ?_
  exact ⟨rfl, by go_grown⟩
theorem nan_Quiet (f h l : Int) [hU : U8 f] [U64 h] [U64 l] (w : World) [hLay : Laid w] :
    Calls Tryz.prog 62 #[.int .u8 f, .agg #[.int .u64 (h), .int .u64 (l)]] w fun en w' => en = .returned (.agg #[.int .u64 (hi (quietF f (cat h l))), .int .u64 (lo (quietF f (cat h l)))]) ∧ Below w.heap.size w w' := by
  have hl : lowN (cat h l) (widthS f) < 2 ^ 128 := Nat.lt_of_le_of_lt (Nat.mod_le _ _) (cat_lt h l)
  have hc := cat_small _ hl
  have hn : nanB f (lowN (cat h l) (widthS f)) = nanB f (cat h l) := by
    by_cases hf : f < 4
    · exact nan_low f _ hU.ge hf
    · have hz : ∀ v, nanB f v = false := fun v => by unfold nanB classF; rw [if_pos (by omega)]; rfl
      rw [hz, hz]
  cases hb : nanB f (cat h l)
  · have e : quietF f (cat h l) = lowN (cat h l) (widthS f) := by unfold quietF; rw [hb, if_neg (by decide)]
    rw [e]
    exact quiet_f f h l _ _ w (Lib.hid rfl) (Lib.hid rfl) (Lib.hid (by rw [hc, hn, hb]))
  · have e : quietF f (cat h l) = lowN (cat h l) (widthS f) ||| lsh (cat 0 1) (precS f - 2) := by unfold quietF; rw [hb, if_pos rfl]
    obtain ⟨o1, o2⟩ := or_hl (lowN (cat h l) (widthS f)) (lsh (cat 0 1) (precS f - 2))
    rw [e, ← o1, ← o2]
    exact quiet_t f h l _ _ _ _ _ _ w (Lib.hid rfl) (Lib.hid rfl) (Lib.hid (by rw [hc, hn, hb])) (Lib.hid rfl) (Lib.hid rfl) rfl rfl
theorem nan_Default (f : Int) [hU : U8 f] (w : World) [hLay : Laid w] :
    Calls Tryz.prog 61 #[.int .u8 f] w fun en w' => en = .returned (.agg #[.int .u64 (hi (defF f)), .int .u64 (lo (defF f))]) ∧ Below w.heap.size w w' := by
  obtain ⟨p0, p1⟩ := precS_bd f
  obtain ⟨em0, em1⟩ := emaxS_bd f
  have hw1 : IntKind.i64.wrap (precS f - 2) = precS f - 2 := IntWalk.i64_in _ (by omega)
  have hw2 : IntKind.i64.wrap (2 * emaxS f) = 2 * emaxS f := IntWalk.i64_in _ (by omega)
  have hw3 : IntKind.i64.wrap (2 * emaxS f + 1) = 2 * emaxS f + 1 := IntWalk.i64_in _ (by omega)
  go_enter Tryz.func61, Tryz.ntmps61
  skip
  (go_wp2_with fail; refine (format_Emax _ _).mono ?_; rintro en v1 ⟨rfl, hB_v1⟩; have lay_v1 := laid_after hB_v1; obtain ⟨cc1, fcc1⟩ := pf hB_v1 (show World.cell? _ ⟨w.heap.size, 0, none⟩ = some (.int .u64 0) by go_simp) (by go_simp); obtain ⟨cc2, fcc2⟩ := pf hB_v1 (show World.cell? _ ⟨w.heap.size, 1, none⟩ = some (.int .u64 0) by go_simp) (by go_simp); have hs_v1 := hB_v1.size; (try simp only [World.size_alloc, World.size_setCell, World.size_drew] at hs_v1); have hBW : Below w.heap.size w v1 := below_after (w := w) (by go_grown) hB_v1; have hn_v1 := nl cc1; clear hB_v1)
  (go_wp2_with fail; refine (format_Prec _ _).mono ?_; rintro en v2 ⟨rfl, hB_v2⟩; have lay_v2 := laid_after hB_v2; have hG := cell_grown cc1 (by go_grown) hB_v2; replace fcc1 := fl hG fcc1 cc1; replace cc1 := cl hG cc1; replace fcc2 := fl hG fcc2 cc2; replace cc2 := cl hG cc2; replace hBW := below_after hBW hG; have hs_v2 := hG.size; clear hG; have hn_v2 := nl cc1; clear hB_v2)
  (go_wp2_with fail; refine (shift_Left' _ _ _ _).mono ?_; rintro en v3 ⟨rfl, hB_v3⟩; have lay_v3 := laid_after hB_v3; have hG := cell_grown cc1 (by go_grown) hB_v3; replace fcc1 := fl hG fcc1 cc1; replace cc1 := cl hG cc1; replace fcc2 := fl hG fcc2 cc2; replace cc2 := cl hG cc2; replace hBW := below_after hBW hG; have hs_v3 := hG.size; clear hG; have hn_v3 := nl cc1; clear hB_v3)
  (go_wp2_with fail; refine (format_Make _ _ _ _ _ _).mono ?_; rintro en v4 ⟨rfl, hB_v4⟩; have lay_v4 := laid_after hB_v4; have hG := cell_grown cc1 (by go_grown) hB_v4; replace fcc1 := fl hG fcc1 cc1; replace cc1 := cl hG cc1; replace fcc2 := fl hG fcc2 cc2; replace cc2 := cl hG cc2; replace hBW := below_after hBW hG; have hs_v4 := hG.size; clear hG; have hn_v4 := nl cc1; clear hB_v4)
  go_wp2_with fail
  refine bodyPost_ret (by simp [results, Tryz.results61, go_sem, cc1, cc2]; try rfl) rfl ?_
  exact ⟨rfl, by go_grown⟩
end Go.Proofs.YtkpjeceofcfnkaaGreatDoor
