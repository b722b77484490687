/- The contracts of nan.Quiet, nan.Default, nan.Pick of one: for every input. Condition: the listed table is laid. -/
import Derived.Test.YtkpjeceofcfnkaaGreatDoorNan
import Derived.Test.YtkpjeceofcfnkaaGreatDoorLin
import Derived.Test.YtkpjeceofcfnkaaGreatDoorCodes4
set_option linter.unusedSimpArgs false
set_option linter.unusedVariables false
namespace Go.Hb
open Go.RowKit
theorem or_bit (x k : Nat) : x ||| 2 ^ k = if x.testBit k then x else x + 2 ^ k := by
  by_cases h : x.testBit k = true
  · rw [if_pos h]
    apply Nat.eq_of_testBit_eq
    intro i
    rw [Nat.testBit_or, Nat.testBit_two_pow]
    by_cases hi : k = i
    · subst hi; rw [h]; rfl
    · rw [decide_eq_false hi, Bool.or_false]
  · rw [if_neg h]
    have h' : x.testBit k = false := by simpa using h
    apply Nat.eq_of_testBit_eq
    intro i
    rw [Nat.testBit_or, Nat.testBit_two_pow]
    rw [Nat.testBit_eq_decide_div_mod_eq, decide_eq_false_iff_not] at h'
    have e0 : x / 2 ^ k % 2 = 0 := by omega
    have e1 : x = x / 2 ^ k / 2 * 2 ^ (k + 1) + x % 2 ^ k := by
      have a := Nat.div_add_mod x (2 ^ k)
      have b := Nat.div_add_mod (x / 2 ^ k) 2
      rw [e0] at b
      rw [Nat.pow_succ, Nat.mul_comm (2 ^ k) 2, ← Nat.mul_assoc, Nat.mul_comm (x / 2 ^ k / 2) 2, show 2 * (x / 2 ^ k / 2) = x / 2 ^ k by omega, Nat.mul_comm]
      omega
    generalize x / 2 ^ k / 2 = q at e1
    have hr : x % 2 ^ k < 2 ^ k := Nat.mod_lt _ (Nat.two_pow_pos k)
    generalize x % 2 ^ k = r at *
    have e2 : x + 2 ^ k = q * 2 ^ (k + 1) + (2 ^ k + r) := by omega
    have hlt : r < 2 ^ (k + 1) := by rw [Nat.pow_succ]; omega
    have hlt2 : 2 ^ k + r < 2 ^ (k + 1) := by rw [Nat.pow_succ]; omega
    rw [e2, e1, Nat.mul_comm q, Nat.testBit_two_pow_mul_add q hlt, Nat.testBit_two_pow_mul_add q hlt2]
    by_cases hik : i < k + 1
    · rw [if_pos hik, if_pos hik]
      by_cases hk : k = i
      · subst hk
        rw [Nat.testBit_lt_two_pow hr, Nat.testBit_two_pow_add_eq, Nat.testBit_lt_two_pow hr, decide_eq_true rfl]
        rfl
      · rw [decide_eq_false hk, Bool.or_false, Nat.testBit_two_pow_add_gt (by omega)]
    · rw [if_neg hik, if_neg hik, decide_eq_false (by omega), Bool.or_false]
theorem or_hl (x y : Nat) : Go.bits BinOp.or IntKind.u64 (hi x) (hi y) = hi (x ||| y) ∧ Go.bits BinOp.or IntKind.u64 (lo x) (lo y) = lo (x ||| y) := by
  have key : ∀ a b : Nat, a < 18446744073709551616 → b < 18446744073709551616 → Go.bits BinOp.or IntKind.u64 ((a : Nat) : Int) ((b : Nat) : Int) = ((a ||| b : Nat) : Int) := fun a b ha hb =>
    (bits_nat .u64 64 (by decide) (fun n h1 h2 => by rw [IntKind.wrap_u64]; omega) a b (by omega) (by omega)).2
  have hd : ∀ u v : Nat, (u ||| v) % 18446744073709551616 = (u % 18446744073709551616) ||| (v % 18446744073709551616) := fun u v => by
    have := @Nat.or_mod_two_pow u v 64
    exact this
  have hs : (x ||| y) / 18446744073709551616 = (x / 18446744073709551616) ||| (y / 18446744073709551616) := by
    have := @Nat.shiftRight_or_distrib 64 x y
    rw [Nat.shiftRight_eq_div_pow, Nat.shiftRight_eq_div_pow, Nat.shiftRight_eq_div_pow] at this
    exact this
  constructor
  · unfold hi
    rw [key _ _ (Nat.mod_lt _ (by decide)) (Nat.mod_lt _ (by decide)), hs, hd]
  · unfold lo
    rw [key _ _ (Nat.mod_lt _ (by decide)) (Nat.mod_lt _ (by decide)), hd]
end Go.Hb
namespace Go.Proofs.YtkpjeceofcfnkaaGreatDoor
open Go.RowKit Go.Hb
/-- A NaN made quiet. -/
def quietF (f : Int) (v : Nat) : Nat := if nanB f v then lowN v (widthS f) ||| lsh (cat 0 1) (precS f - 2) else lowN v (widthS f)
def defF (f : Int) : Nat := makeF f false (2 * emaxS f + 1) (cat (hi (lsh (cat 0 1) (precS f - 2))) (lo (lsh (cat 0 1) (precS f - 2))))
theorem nan_low (f : Int) (v : Nat) (h0 : 0 ≤ f) (hf : f < 4) : nanB f (lowN v (widthS f)) = nanB f v := by
  have hc := code_of f (codeF f v) (sgnF f v) h0 hf (code_lt f v h0 hf)
  rw [← cut_code f v h0 hf] at hc
  have a := (class_code f v h0 hf).2.2.2.2
  have b := (class_code f (lowN v (widthS f)) h0 hf).2.2.2.2
  rw [hc] at b
  unfold nanB
  rw [Bool.eq_iff_iff, decide_eq_true_eq, decide_eq_true_eq]
  exact b.trans a.symm
set_option maxRecDepth 100000 in
set_option maxHeartbeats 4000000 in
theorem quiet_f (f h l qh ql : Int) [hU : U8 f] [U64 h] [U64 l] [U64 qh] [U64 ql] (w : World) [hLay : Laid w] (c0 : Hid (hi (lowN (cat h l) (widthS f)) = qh)) (c1 : Hid (lo (lowN (cat h l) (widthS f)) = ql)) (n0 : Hid (nanB f (cat qh ql) = false)) :
    Calls Tryz.prog 62 #[.int .u8 f, .agg #[.int .u64 (h), .int .u64 (l)]] w fun en w' => en = .returned (.agg #[.int .u64 (qh), .int .u64 (ql)]) ∧ Below w.heap.size w w' := by
  go_enter Tryz.func62, Tryz.ntmps62
  skip
  (go_wp2_with fail; refine (format_Cut _ _ _ _).mono ?_; rw [c0.out, c1.out]; rintro en v1 ⟨rfl, hB_v1⟩; have lay_v1 := laid_after hB_v1; obtain ⟨cc1, fcc1⟩ := pf hB_v1 (show World.cell? _ ⟨w.heap.size, 0, none⟩ = some (.int .u64 h) by go_simp) (by go_simp); obtain ⟨cc2, fcc2⟩ := pf hB_v1 (show World.cell? _ ⟨w.heap.size, 1, none⟩ = some (.int .u64 l) by go_simp) (by go_simp); obtain ⟨cc3, fcc3⟩ := pf hB_v1 (show World.cell? _ ⟨w.heap.size + 1, 0, none⟩ = some (.int .u64 0) by go_simp) (by go_simp); obtain ⟨cc4, fcc4⟩ := pf hB_v1 (show World.cell? _ ⟨w.heap.size + 1, 1, none⟩ = some (.int .u64 0) by go_simp) (by go_simp); have hs_v1 := hB_v1.size; (try simp only [World.size_alloc, World.size_setCell, World.size_drew] at hs_v1); have hBW : Below w.heap.size w v1 := below_after (w := w) (by go_grown) hB_v1; have hn_v1 := an (nl cc1) (nl cc3); clear hB_v1)
  skip
  skip
  go_upto_region 2 with fail
  ((first | refine wp_rename ?_ | refine goal_rename ?_); intro W2 hw_W2; replace cc1 : W2.cell? ⟨w.heap.size, 0, none⟩ = some (.int .u64 qh) := (by rw [hw_W2]; go_simp); replace fcc1 := rf hw_W2 fcc1 (by go_simp); replace cc2 : W2.cell? ⟨w.heap.size, 1, none⟩ = some (.int .u64 ql) := (by rw [hw_W2]; go_simp); replace fcc2 := rf hw_W2 fcc2 (by go_simp); replace cc3 := rn hw_W2 cc3 (by go_simp); replace fcc3 := rf hw_W2 fcc3 (by go_simp); replace cc4 := rn hw_W2 cc4 (by go_simp); replace fcc4 := rf hw_W2 fcc4 (by go_simp); replace hBW : Below w.heap.size w W2 := (by rw [hw_W2]; (first | with_reducible exact drewN_below (by assumption) _ | go_grown)); have hn_W2 := an (nl cc1) (nl cc3); have lay_W2 : Laid W2 := Laid.below (w := w) (by assumption) hBW; clear hw_W2)
  (go_wp2_with fail; refine (class_NaN _ _ _ _).mono ?_; rw [n0.out]; rintro en v2 ⟨rfl, hB_v2⟩; have lay_v2 := laid_after hB_v2; have hG := cell_grown cc1 (by go_grown) hB_v2; replace fcc1 := fl hG fcc1 cc1; replace cc1 := cl hG cc1; replace fcc2 := fl hG fcc2 cc2; replace cc2 := cl hG cc2; replace fcc3 := fl hG fcc3 cc3; replace cc3 := cl hG cc3; replace fcc4 := fl hG fcc4 cc4; replace cc4 := cl hG cc4; have hs_v2 := hG.size; clear hG; replace hBW : Below w.heap.size w v2 := below_after (w := w) (by go_grown) hB_v2; have hn_v2 := an (nl cc1) (nl cc3); clear hB_v2)
  go_wp2_with fail
  refine bodyPost_ret (by simp [results, Tryz.results62, go_sem, cc3, cc4]; try rfl) rfl ?_
  exact ⟨rfl, by go_grown⟩
set_option maxRecDepth 100000 in
set_option maxHeartbeats 4000000 in
theorem quiet_t (f h l qh ql bh bl rh rl : Int) [hU : U8 f] [U64 h] [U64 l] [U64 qh] [U64 ql] [U64 bh] [U64 bl] (w : World) [hLay : Laid w] (c0 : Hid (hi (lowN (cat h l) (widthS f)) = qh)) (c1 : Hid (lo (lowN (cat h l) (widthS f)) = ql)) (n0 : Hid (nanB f (cat qh ql) = true))
    (k0 : Hid (hi (lsh (cat 0 1) (precS f - 2)) = bh)) (k1 : Hid (lo (lsh (cat 0 1) (precS f - 2)) = bl)) (r0 : bits BinOp.or IntKind.u64 qh bh = rh) (r1 : bits BinOp.or IntKind.u64 ql bl = rl) :
    Calls Tryz.prog 62 #[.int .u8 f, .agg #[.int .u64 (h), .int .u64 (l)]] w fun en w' => en = .returned (.agg #[.int .u64 (rh), .int .u64 (rl)]) ∧ Below w.heap.size w w' := by
  obtain ⟨p0, p1⟩ := precS_bd f
  have hw1 : IntKind.i64.wrap (precS f - 2) = precS f - 2 := IntWalk.i64_in _ (by omega)
  go_enter Tryz.func62, Tryz.ntmps62
  skip
  (go_wp2_with fail; refine (format_Cut _ _ _ _).mono ?_; rw [c0.out, c1.out]; rintro en v1 ⟨rfl, hB_v1⟩; have lay_v1 := laid_after hB_v1; obtain ⟨cc1, fcc1⟩ := pf hB_v1 (show World.cell? _ ⟨w.heap.size, 0, none⟩ = some (.int .u64 h) by go_simp) (by go_simp); obtain ⟨cc2, fcc2⟩ := pf hB_v1 (show World.cell? _ ⟨w.heap.size, 1, none⟩ = some (.int .u64 l) by go_simp) (by go_simp); obtain ⟨cc3, fcc3⟩ := pf hB_v1 (show World.cell? _ ⟨w.heap.size + 1, 0, none⟩ = some (.int .u64 0) by go_simp) (by go_simp); obtain ⟨cc4, fcc4⟩ := pf hB_v1 (show World.cell? _ ⟨w.heap.size + 1, 1, none⟩ = some (.int .u64 0) by go_simp) (by go_simp); have hs_v1 := hB_v1.size; (try simp only [World.size_alloc, World.size_setCell, World.size_drew] at hs_v1); have hBW : Below w.heap.size w v1 := below_after (w := w) (by go_grown) hB_v1; have hn_v1 := an (nl cc1) (nl cc3); clear hB_v1)
  skip
  skip
  go_upto_region 2 with fail
  ((first | refine wp_rename ?_ | refine goal_rename ?_); intro W2 hw_W2; replace cc1 : W2.cell? ⟨w.heap.size, 0, none⟩ = some (.int .u64 qh) := (by rw [hw_W2]; go_simp); replace fcc1 := rf hw_W2 fcc1 (by go_simp); replace cc2 : W2.cell? ⟨w.heap.size, 1, none⟩ = some (.int .u64 ql) := (by rw [hw_W2]; go_simp); replace fcc2 := rf hw_W2 fcc2 (by go_simp); replace cc3 := rn hw_W2 cc3 (by go_simp); replace fcc3 := rf hw_W2 fcc3 (by go_simp); replace cc4 := rn hw_W2 cc4 (by go_simp); replace fcc4 := rf hw_W2 fcc4 (by go_simp); replace hBW : Below w.heap.size w W2 := (by rw [hw_W2]; (first | with_reducible exact drewN_below (by assumption) _ | go_grown)); have hn_W2 := an (nl cc1) (nl cc3); have lay_W2 : Laid W2 := Laid.below (w := w) (by assumption) hBW; clear hw_W2)
  (go_wp2_with fail; refine (class_NaN _ _ _ _).mono ?_; rw [n0.out]; rintro en v2 ⟨rfl, hB_v2⟩; have lay_v2 := laid_after hB_v2; have hG := cell_grown cc1 (by go_grown) hB_v2; replace fcc1 := fl hG fcc1 cc1; replace cc1 := cl hG cc1; replace fcc2 := fl hG fcc2 cc2; replace cc2 := cl hG cc2; replace fcc3 := fl hG fcc3 cc3; replace cc3 := cl hG cc3; replace fcc4 := fl hG fcc4 cc4; replace cc4 := cl hG cc4; have hs_v2 := hG.size; clear hG; replace hBW : Below w.heap.size w v2 := below_after (w := w) (by go_grown) hB_v2; have hn_v2 := an (nl cc1) (nl cc3); clear hB_v2)
  (go_wp2_with fail; refine (format_Prec _ _).mono ?_; rintro en v3 ⟨rfl, hB_v3⟩; have lay_v3 := laid_after hB_v3; have hG := cell_grown cc1 (by go_grown) hB_v3; replace fcc1 := fl hG fcc1 cc1; replace cc1 := cl hG cc1; replace fcc2 := fl hG fcc2 cc2; replace cc2 := cl hG cc2; replace fcc3 := fl hG fcc3 cc3; replace cc3 := cl hG cc3; replace fcc4 := fl hG fcc4 cc4; replace cc4 := cl hG cc4; have hs_v3 := hG.size; clear hG; replace hBW : Below w.heap.size w v3 := below_after (w := w) (by go_grown) hB_v3; have hn_v3 := an (nl cc1) (nl cc3); clear hB_v3)
  (go_wp2_with fail; refine (shift_Left' _ _ _ _).mono ?_; rw [k0.out, k1.out]; rintro en v4 ⟨rfl, hB_v4⟩; have lay_v4 := laid_after hB_v4; have hG := cell_grown cc1 (by go_grown) hB_v4; replace fcc1 := fl hG fcc1 cc1; replace cc1 := cl hG cc1; replace fcc2 := fl hG fcc2 cc2; replace cc2 := cl hG cc2; replace fcc3 := fl hG fcc3 cc3; replace cc3 := cl hG cc3; replace fcc4 := fl hG fcc4 cc4; replace cc4 := cl hG cc4; have hs_v4 := hG.size; clear hG; replace hBW : Below w.heap.size w v4 := below_after (w := w) (by go_grown) hB_v4; have hn_v4 := an (nl cc1) (nl cc3); clear hB_v4)
  go_upto_region 4 with fail
  ((first | refine wp_rename ?_ | refine goal_rename ?_); intro W4 hw_W4; have hG := named cc1 W4 (by rw [hw_W4]; first | with_reducible exact drewN_below (Below.refl _ _) _ | go_grown); replace fcc1 := fl hG fcc1 cc1; replace cc1 := cl hG cc1; replace fcc2 := fl hG fcc2 cc2; replace cc2 := cl hG cc2; replace fcc3 := fl hG fcc3 cc3; replace cc3 := cl hG cc3; replace fcc4 := fl hG fcc4 cc4; replace cc4 := cl hG cc4; have cc5 : W4.cell? ⟨v4.heap.size, 0, none⟩ = some (.int .u64 bh) := (by rw [hw_W4]; go_simp); have cc6 : W4.cell? ⟨v4.heap.size, 1, none⟩ = some (.int .u64 bl) := (by rw [hw_W4]; go_simp); replace hBW := below_after hBW hG; have hs_W4 := hG.size; clear hG; have hn_W4 := an (nl cc1) (an (nl cc3) (nl cc5)); have lay_W4 : Laid W4 := Laid.below (w := w) (by assumption) hBW; clear hw_W4)
  go_region
  skip
  skip
  go_upto_region 5 with fail
  ((first | refine wp_rename ?_ | refine goal_rename ?_); intro W5 hw_W5; replace cc1 : W5.cell? ⟨w.heap.size, 0, none⟩ = some (.int .u64 rh) := (by rw [hw_W5]; go_simp); replace fcc1 := rf hw_W5 fcc1 (by go_simp); replace cc2 : W5.cell? ⟨w.heap.size, 1, none⟩ = some (.int .u64 rl) := (by rw [hw_W5]; go_simp); replace fcc2 := rf hw_W5 fcc2 (by go_simp); replace cc3 := rn hw_W5 cc3 (by go_simp); replace fcc3 := rf hw_W5 fcc3 (by go_simp); replace cc4 := rn hw_W5 cc4 (by go_simp); replace fcc4 := rf hw_W5 fcc4 (by go_simp); replace cc5 := rn hw_W5 cc5 (by go_simp); replace cc6 := rn hw_W5 cc6 (by go_simp); replace hBW : Below w.heap.size w W5 := (by rw [hw_W5]; (first | with_reducible exact drewN_below (by assumption) _ | go_grown)); have hn_W5 := an (nl cc1) (an (nl cc3) (nl cc5)); have lay_W5 : Laid W5 := Laid.below (w := w) (by assumption) hBW; clear hw_W5)
  go_wp2_with fail
  refine bodyPost_ret (by simp [results, Tryz.results62, go_sem, cc3, cc4]; try rfl) rfl ?_
  exact ⟨rfl, by go_grown⟩
theorem nan_Quiet (f h l : Int) [hU : U8 f] [U64 h] [U64 l] (w : World) [hLay : Laid w] :
    Calls Tryz.prog 62 #[.int .u8 f, .agg #[.int .u64 (h), .int .u64 (l)]] w fun en w' => en = .returned (.agg #[.int .u64 (hi (quietF f (cat h l))), .int .u64 (lo (quietF f (cat h l)))]) ∧ Below w.heap.size w w' := by
  have hl : lowN (cat h l) (widthS f) < 2 ^ 128 := Nat.lt_of_le_of_lt (Nat.mod_le _ _) (cat_lt h l)
  have hc := cat_small _ hl
  have hn : nanB f (lowN (cat h l) (widthS f)) = nanB f (cat h l) := by
    by_cases hf : f < 4
    · exact nan_low f _ hU.ge hf
    · have hz : ∀ v, nanB f v = false := fun v => by unfold nanB classF; rw [if_pos (by omega)]; rfl
      rw [hz, hz]
  cases hb : nanB f (cat h l)
  · have e : quietF f (cat h l) = lowN (cat h l) (widthS f) := by unfold quietF; rw [hb, if_neg (by decide)]
    rw [e]
    exact quiet_f f h l _ _ w (Lib.hid rfl) (Lib.hid rfl) (Lib.hid (by rw [hc, hn, hb]))
  · have e : quietF f (cat h l) = lowN (cat h l) (widthS f) ||| lsh (cat 0 1) (precS f - 2) := by unfold quietF; rw [hb, if_pos rfl]
    obtain ⟨o1, o2⟩ := or_hl (lowN (cat h l) (widthS f)) (lsh (cat 0 1) (precS f - 2))
    rw [e, ← o1, ← o2]
    exact quiet_t f h l _ _ _ _ _ _ w (Lib.hid rfl) (Lib.hid rfl) (Lib.hid (by rw [hc, hn, hb])) (Lib.hid rfl) (Lib.hid rfl) rfl rfl
set_option maxRecDepth 100000 in
set_option maxHeartbeats 4000000 in
theorem nan_Default (f : Int) [hU : U8 f] (w : World) [hLay : Laid w] :
    Calls Tryz.prog 61 #[.int .u8 f] w fun en w' => en = .returned (.agg #[.int .u64 (hi (defF f)), .int .u64 (lo (defF f))]) ∧ Below w.heap.size w w' := by
  obtain ⟨p0, p1⟩ := precS_bd f
  obtain ⟨em0, em1⟩ := emaxS_bd f
  have hw1 : IntKind.i64.wrap (precS f - 2) = precS f - 2 := IntWalk.i64_in _ (by omega)
  have hw2 : IntKind.i64.wrap (2 * emaxS f) = 2 * emaxS f := IntWalk.i64_in _ (by omega)
  have hw3 : IntKind.i64.wrap (2 * emaxS f + 1) = 2 * emaxS f + 1 := IntWalk.i64_in _ (by omega)
  go_enter Tryz.func61, Tryz.ntmps61
  skip
  (go_wp2_with fail; refine (format_Emax _ _).mono ?_; rintro en v1 ⟨rfl, hB_v1⟩; have lay_v1 := laid_after hB_v1; obtain ⟨cc1, fcc1⟩ := pf hB_v1 (show World.cell? _ ⟨w.heap.size, 0, none⟩ = some (.int .u64 0) by go_simp) (by go_simp); obtain ⟨cc2, fcc2⟩ := pf hB_v1 (show World.cell? _ ⟨w.heap.size, 1, none⟩ = some (.int .u64 0) by go_simp) (by go_simp); have hs_v1 := hB_v1.size; (try simp only [World.size_alloc, World.size_setCell, World.size_drew] at hs_v1); have hBW : Below w.heap.size w v1 := below_after (w := w) (by go_grown) hB_v1; have hn_v1 := nl cc1; clear hB_v1)
  (go_wp2_with fail; refine (format_Prec _ _).mono ?_; rintro en v2 ⟨rfl, hB_v2⟩; have lay_v2 := laid_after hB_v2; have hG := cell_grown cc1 (by go_grown) hB_v2; replace fcc1 := fl hG fcc1 cc1; replace cc1 := cl hG cc1; replace fcc2 := fl hG fcc2 cc2; replace cc2 := cl hG cc2; have hs_v2 := hG.size; clear hG; replace hBW : Below w.heap.size w v2 := below_after (w := w) (by go_grown) hB_v2; have hn_v2 := nl cc1; clear hB_v2)
  (go_wp2_with fail; refine (shift_Left' _ _ _ _).mono ?_; rintro en v3 ⟨rfl, hB_v3⟩; have lay_v3 := laid_after hB_v3; have hG := cell_grown cc1 (by go_grown) hB_v3; replace fcc1 := fl hG fcc1 cc1; replace cc1 := cl hG cc1; replace fcc2 := fl hG fcc2 cc2; replace cc2 := cl hG cc2; have hs_v3 := hG.size; clear hG; replace hBW : Below w.heap.size w v3 := below_after (w := w) (by go_grown) hB_v3; have hn_v3 := nl cc1; clear hB_v3)
  (go_wp2_with fail; refine (format_Make _ _ _ _ _ _).mono ?_; rintro en v4 ⟨rfl, hB_v4⟩; have lay_v4 := laid_after hB_v4; have hG := cell_grown cc1 (by go_grown) hB_v4; replace fcc1 := fl hG fcc1 cc1; replace cc1 := cl hG cc1; replace fcc2 := fl hG fcc2 cc2; replace cc2 := cl hG cc2; have hs_v4 := hG.size; clear hG; replace hBW : Below w.heap.size w v4 := below_after (w := w) (by go_grown) hB_v4; have hn_v4 := nl cc1; clear hB_v4)
  go_wp2_with fail
  refine bodyPost_ret (by simp [results, Tryz.results61, go_sem, cc1, cc2]; try rfl) rfl ?_
  exact ⟨rfl, by go_grown⟩
theorem neq_nilSig (W : World) : (binOp .neq 38 (.func (.func 64) #[] #[]) .nilFunc).run Tryz.prog W = .ok (.bool true) W := by kernel_rfl
set_option maxRecDepth 100000 in
set_option maxHeartbeats 4000000 in
theorem any1_is (f h l : Int) (bi bf : Nat) [hU : U8 f] [U64 h] [U64 l] (w : World) [hLay : Laid w] (ci : w.cell? ⟨bi, 0, none⟩ = some (.func (.func 64) #[] #[])) (cf : w.cell? ⟨bf, 0, none⟩ = some (.int .u8 f)) :
    Calls Tryz.prog 99 #[.agg #[.int .u64 (h), .int .u64 (l)], .pointer (some ⟨bi, 0, none⟩), .pointer (some ⟨bf, 0, none⟩)] w fun en w' => en = .returned (.bool (sigB f (cat h l))) ∧ Below w.heap.size w w' := by
  have sbi : bi < w.heap.size := World.block_lt_of_cell? w _ ci
  have sbf : bf < w.heap.size := World.block_lt_of_cell? w _ cf
  go_enter Tryz.func99, Tryz.ntmps99
  skip
  go_upto_region 1 with fail
  ((first | refine wp_rename ?_ | refine goal_rename ?_); intro W1 hw_W1; have cc1 : W1.cell? ⟨bi, 0, none⟩ = some (.func (.func 64) #[] #[]) := (by rw [hw_W1]; go_simp); have cc2 : W1.cell? ⟨bf, 0, none⟩ = some (.int .u8 f) := (by rw [hw_W1]; go_simp); have cc3 : W1.cell? ⟨w.heap.size, 0, none⟩ = some (.int .u64 h) := (by rw [hw_W1]; go_simp); have cc4 : W1.cell? ⟨w.heap.size, 1, none⟩ = some (.int .u64 l) := (by rw [hw_W1]; go_simp); have hBW : Below w.heap.size w W1 := (by rw [hw_W1]; (first | with_reducible exact drewN_below (by assumption) _ | go_grown)); have hn_W1 := an (nl cc1) (an (nl cc2) (nl cc3)); have lay_W1 : Laid W1 := Laid.below (w := w) (by assumption) hBW; clear hw_W1)
  go_wp2_with fail
  refine (class_Signaling _ _ _ _).mono ?_
  rintro en v1 ⟨rfl, hB1⟩
  have hb1 : Below w.heap.size w v1 := below_after hBW hB1
  go_wp2_with fail
  go_returns
  exact ⟨rfl, by go_grown⟩
set_option maxRecDepth 100000 in
set_option maxHeartbeats 4000000 in
theorem any1_index (f h l : Int) (b bi bf : Nat) [hU : U8 f] [U64 h] [U64 l] (w : World) [hLay : Laid w] (ci : w.cell? ⟨bi, 0, none⟩ = some (.func (.func 64) #[] #[])) (cf : w.cell? ⟨bf, 0, none⟩ = some (.int .u8 f))
    (c0 : w.cell? ⟨b, 0, none⟩ = some (.int .u64 h)) (c1 : w.cell? ⟨b, 1, none⟩ = some (.int .u64 l)) :
    Calls Tryz.prog 59 #[.slice (some ⟨b, 0, none⟩) 1 1, .func (.func 99) #[] #[.pointer (some ⟨bi, 0, none⟩), .pointer (some ⟨bf, 0, none⟩)]] w fun en w' => en = .returned (.int .i64 (idx1 (sigB f (cat h l)))) ∧ Below w.heap.size w w' := by
  cases hn0 : sigB f (cat h l)
  · go_enter Tryz.func59, Tryz.ntmps59
    go_wp2
    refine wp_loop_rounds 2 ?_
    rw [rounds_succ]
    go_wp2_with fail
    refine (any1_is f _ _ bi bf _ ci cf).mono ?_
    rw [hn0]
    rintro en v1 ⟨rfl, hB1⟩
    have hb : Below w.heap.size w v1 := below_after (w := w) (by go_grown) hB1
    go_wp2
    rw [rounds_succ]
    go_wp2
    go_returns
    exact ⟨rfl, by go_grown⟩
  · go_enter Tryz.func59, Tryz.ntmps59
    go_wp2
    refine wp_loop_rounds 2 ?_
    rw [rounds_succ]
    go_wp2_with fail
    refine (any1_is f _ _ bi bf _ ci cf).mono ?_
    rw [hn0]
    rintro en v1 ⟨rfl, hB1⟩
    have hb : Below w.heap.size w v1 := below_after (w := w) (by go_grown) hB1
    go_wp2
    go_returns
    exact ⟨rfl, by go_grown⟩
theorem idx1_ge (a : Bool) : decide (idx1 a ≥ 0) = a := by cases a <;> rfl
set_option maxRecDepth 100000 in
set_option maxHeartbeats 4000000 in
theorem any1_contains (f h l : Int) (b bi bf : Nat) [hU : U8 f] [U64 h] [U64 l] (w : World) [hLay : Laid w] (ci : w.cell? ⟨bi, 0, none⟩ = some (.func (.func 64) #[] #[])) (cf : w.cell? ⟨bf, 0, none⟩ = some (.int .u8 f)) (c0 : w.cell? ⟨b, 0, none⟩ = some (.int .u64 h)) (c1 : w.cell? ⟨b, 1, none⟩ = some (.int .u64 l)) :
    Calls Tryz.prog 98 #[.slice (some ⟨b, 0, none⟩) 1 1, .func (.func 99) #[] #[.pointer (some ⟨bi, 0, none⟩), .pointer (some ⟨bf, 0, none⟩)]] w fun en w' => en = .returned (.bool (sigB f (cat h l))) ∧ Below w.heap.size w w' := by
  have hi := idx1_ge (sigB f (cat h l))
  go_enter Tryz.func98, Tryz.ntmps98
  go_wp2_with fail
  refine (any1_index f h l b bi bf _ ci cf c0 c1).mono ?_
  rintro en v1 ⟨rfl, hB1⟩
  go_wp2_with fail
  go_returns
  exact ⟨rfl, by go_grown⟩
set_option maxRecDepth 100000 in
set_option maxHeartbeats 4000000 in
theorem any1_Sig (f h l : Int) (b : Nat) [hU : U8 f] [U64 h] [U64 l] (w : World) [hLay : Laid w] (c0 : w.cell? ⟨b, 0, none⟩ = some (.int .u64 h)) (c1 : w.cell? ⟨b, 1, none⟩ = some (.int .u64 l)) :
    Calls Tryz.prog 63 #[.int .u8 f, .func (.func 64) #[] #[], .slice (some ⟨b, 0, none⟩) 1 1] w fun en w' => en = .returned (.bool (sigB f (cat h l))) ∧ Below w.heap.size w w' := by
  have hb : b < w.heap.size := World.block_lt_of_cell? w _ c0
  have hnn := fun W => neq_nilSig W
  go_enter Tryz.func63, Tryz.ntmps63
  skip
  go_upto_region 1 with fail
  ((first | refine wp_rename ?_ | refine goal_rename ?_); intro W1 hw_W1; have cc1 : W1.cell? ⟨b, 0, none⟩ = some (.int .u64 h) := (by rw [hw_W1]; go_simp); have cc2 : W1.cell? ⟨b, 1, none⟩ = some (.int .u64 l) := (by rw [hw_W1]; go_simp); have cc3 : W1.cell? ⟨w.heap.size, 0, none⟩ = some (.int .u8 f) := (by rw [hw_W1]; go_simp); have cc4 : W1.cell? ⟨w.heap.size + 1, 0, none⟩ = some (.func (.func 64) #[] #[]) := (by rw [hw_W1]; go_simp); have hBW : Below w.heap.size w W1 := (by rw [hw_W1]; (first | with_reducible exact drewN_below (by assumption) _ | go_grown)); have hn_W1 := an (nl cc1) (an (nl cc3) (nl cc4)); have lay_W1 : Laid W1 := Laid.below (w := w) (by assumption) hBW; clear hw_W1)
  go_wp2_with fail
  refine (any1_contains f h l b _ _ _ (by assumption) (by assumption) (by assumption) (by assumption)).mono ?_
  rintro en v1 ⟨rfl, hB1⟩
  have hb1 : Below w.heap.size w v1 := below_after hBW hB1
  go_wp2_with fail
  go_returns
  exact ⟨rfl, by go_grown⟩
theorem idx1_f : idx1 false = -1 := rfl
theorem idx1_t : idx1 true = 0 := rfl
set_option maxRecDepth 100000 in
set_option maxHeartbeats 4000000 in
theorem pick1_none (f h l : Int) (b : Nat) [hU : U8 f] [U64 h] [U64 l] (w : World) [hLay : Laid w] (c0 : w.cell? ⟨b, 0, none⟩ = some (.int .u64 h)) (c1 : w.cell? ⟨b, 1, none⟩ = some (.int .u64 l)) (hf : ¬ f < 4) (n0 : Hid (nanB f (cat h l) = false)) :
    Calls Tryz.prog 29 #[.int .u8 f, .bool false, .slice (some ⟨b, 0, none⟩) 1 1] w fun en w' => en = .returned (.tuple #[.agg #[.int .u64 0, .int .u64 0, .int .u8 0], .bool false]) ∧ Below w.heap.size w w' := by
  have sb : b < w.heap.size := World.block_lt_of_cell? w _ c0
  have hfd : decide (f < 4) = false := decide_eq_false hf
  clear hf
  go_enter Tryz.func29, Tryz.ntmps29
  skip
  (go_wp2_with fail; refine (pick_index1 f h l b w.heap.size _ (by first | assumption | go_simp) (by first | omega | (go_simp; done) | (go_simp; omega)) (by first | assumption | go_simp) (by first | assumption | go_simp)).mono ?_; rw [n0.out, idx1_f]; rintro en v1 ⟨rfl, hB_v1⟩; have lay_v1 := laid_after hB_v1; have cc1 := cl hB_v1 (show World.cell? _ ⟨b, 0, none⟩ = some (.int .u64 h) by go_simp); have cc2 := cl hB_v1 (show World.cell? _ ⟨b, 1, none⟩ = some (.int .u64 l) by go_simp); have cc3 := cl hB_v1 (show World.cell? _ ⟨w.heap.size, 0, none⟩ = some (.int .u8 f) by go_simp); obtain ⟨cc4, fcc4⟩ := pf hB_v1 (show World.cell? _ ⟨w.heap.size + 1, 0, none⟩ = some (.int .u64 0) by go_simp) (by go_simp); obtain ⟨cc5, fcc5⟩ := pf hB_v1 (show World.cell? _ ⟨w.heap.size + 1, 1, none⟩ = some (.int .u64 0) by go_simp) (by go_simp); obtain ⟨cc6, fcc6⟩ := pf hB_v1 (show World.cell? _ ⟨w.heap.size + 1, 2, none⟩ = some (.int .u8 0) by go_simp) (by go_simp); have hs_v1 := hB_v1.size; (try simp only [World.size_alloc, World.size_setCell, World.size_drew] at hs_v1); have hBW : Below w.heap.size w v1 := below_after (w := w) (by go_grown) hB_v1; have hn_v1 := an (nl cc1) (an (nl cc3) (nl cc4)); clear hB_v1)
  (go_wp2_with fail; refine (format_Known_b _ _).mono ?_; rintro en v2 ⟨rfl, hB_v2⟩; have lay_v2 := laid_after hB_v2; have hG := cell_grown cc1 (by go_grown) hB_v2; replace cc1 := cl hG cc1; replace cc2 := cl hG cc2; replace cc3 := cl hG cc3; replace fcc4 := fl hG fcc4 cc4; replace cc4 := cl hG cc4; replace fcc5 := fl hG fcc5 cc5; replace cc5 := cl hG cc5; replace fcc6 := fl hG fcc6 cc6; replace cc6 := cl hG cc6; have hs_v2 := hG.size; clear hG; replace hBW : Below w.heap.size w v2 := below_after (w := w) (by go_grown) hB_v2; have hn_v2 := an (nl cc1) (an (nl cc3) (nl cc4)); clear hB_v2)
  go_wp2_with fail
  refine bodyPost_ret (by simp [results, Tryz.results29, go_sem, cc4, cc5, cc6]; try rfl) rfl ?_
  exact ⟨rfl, by go_grown⟩
set_option maxRecDepth 100000 in
set_option maxHeartbeats 4000000 in
theorem pick1_no (f h l : Int) (b : Nat) [hU : U8 f] [U64 h] [U64 l] (w : World) [hLay : Laid w] (c0 : w.cell? ⟨b, 0, none⟩ = some (.int .u64 h)) (c1 : w.cell? ⟨b, 1, none⟩ = some (.int .u64 l)) (hf : f < 4) (n0 : Hid (nanB f (cat h l) = false)) :
    Calls Tryz.prog 29 #[.int .u8 f, .bool false, .slice (some ⟨b, 0, none⟩) 1 1] w fun en w' => en = .returned (.tuple #[.agg #[.int .u64 0, .int .u64 0, .int .u8 0], .bool false]) ∧ Below w.heap.size w w' := by
  have sb : b < w.heap.size := World.block_lt_of_cell? w _ c0
  have hfd : decide (f < 4) = true := decide_eq_true hf
  clear hf
  go_enter Tryz.func29, Tryz.ntmps29
  skip
  (go_wp2_with fail; refine (pick_index1 f h l b w.heap.size _ (by first | assumption | go_simp) (by first | omega | (go_simp; done) | (go_simp; omega)) (by first | assumption | go_simp) (by first | assumption | go_simp)).mono ?_; rw [n0.out, idx1_f]; rintro en v1 ⟨rfl, hB_v1⟩; have lay_v1 := laid_after hB_v1; have cc1 := cl hB_v1 (show World.cell? _ ⟨b, 0, none⟩ = some (.int .u64 h) by go_simp); have cc2 := cl hB_v1 (show World.cell? _ ⟨b, 1, none⟩ = some (.int .u64 l) by go_simp); have cc3 := cl hB_v1 (show World.cell? _ ⟨w.heap.size, 0, none⟩ = some (.int .u8 f) by go_simp); obtain ⟨cc4, fcc4⟩ := pf hB_v1 (show World.cell? _ ⟨w.heap.size + 1, 0, none⟩ = some (.int .u64 0) by go_simp) (by go_simp); obtain ⟨cc5, fcc5⟩ := pf hB_v1 (show World.cell? _ ⟨w.heap.size + 1, 1, none⟩ = some (.int .u64 0) by go_simp) (by go_simp); obtain ⟨cc6, fcc6⟩ := pf hB_v1 (show World.cell? _ ⟨w.heap.size + 1, 2, none⟩ = some (.int .u8 0) by go_simp) (by go_simp); have hs_v1 := hB_v1.size; (try simp only [World.size_alloc, World.size_setCell, World.size_drew] at hs_v1); have hBW : Below w.heap.size w v1 := below_after (w := w) (by go_grown) hB_v1; have hn_v1 := an (nl cc1) (an (nl cc3) (nl cc4)); clear hB_v1)
  (go_wp2_with fail; refine (format_Known_b _ _).mono ?_; rintro en v2 ⟨rfl, hB_v2⟩; have lay_v2 := laid_after hB_v2; have hG := cell_grown cc1 (by go_grown) hB_v2; replace cc1 := cl hG cc1; replace cc2 := cl hG cc2; replace cc3 := cl hG cc3; replace fcc4 := fl hG fcc4 cc4; replace cc4 := cl hG cc4; replace fcc5 := fl hG fcc5 cc5; replace cc5 := cl hG cc5; replace fcc6 := fl hG fcc6 cc6; replace cc6 := cl hG cc6; have hs_v2 := hG.size; clear hG; replace hBW : Below w.heap.size w v2 := below_after (w := w) (by go_grown) hB_v2; have hn_v2 := an (nl cc1) (an (nl cc3) (nl cc4)); clear hB_v2)
  go_wp2_with fail
  refine bodyPost_ret (by simp [results, Tryz.results29, go_sem, cc4, cc5, cc6]; try rfl) rfl ?_
  exact ⟨rfl, by go_grown⟩
set_option maxRecDepth 100000 in
set_option maxHeartbeats 4000000 in
theorem pick1_s (f h l qh ql : Int) (b : Nat) [hU : U8 f] [U64 h] [U64 l] (w : World) [hLay : Laid w] (c0 : w.cell? ⟨b, 0, none⟩ = some (.int .u64 h)) (c1 : w.cell? ⟨b, 1, none⟩ = some (.int .u64 l)) [U64 qh] [U64 ql] (hf : f < 4) (n0 : Hid (nanB f (cat h l) = true)) (q0 : Hid (hi (quietF f (cat h l)) = qh)) (q1 : Hid (lo (quietF f (cat h l)) = ql)) (s0 : Hid (sigB f (cat h l) = true)) :
    Calls Tryz.prog 29 #[.int .u8 f, .bool false, .slice (some ⟨b, 0, none⟩) 1 1] w fun en w' => en = .returned (.tuple #[.agg #[.int .u64 qh, .int .u64 ql, .int .u8 1], .bool true]) ∧ Below w.heap.size w w' := by
  have sb : b < w.heap.size := World.block_lt_of_cell? w _ c0
  have hfd : decide (f < 4) = true := decide_eq_true hf
  clear hf
  go_enter Tryz.func29, Tryz.ntmps29
  skip
  (go_wp2_with fail; refine (pick_index1 f h l b w.heap.size _ (by first | assumption | go_simp) (by first | omega | (go_simp; done) | (go_simp; omega)) (by first | assumption | go_simp) (by first | assumption | go_simp)).mono ?_; rw [n0.out, idx1_t]; rintro en v1 ⟨rfl, hB_v1⟩; have lay_v1 := laid_after hB_v1; have cc1 := cl hB_v1 (show World.cell? _ ⟨b, 0, none⟩ = some (.int .u64 h) by go_simp); have cc2 := cl hB_v1 (show World.cell? _ ⟨b, 1, none⟩ = some (.int .u64 l) by go_simp); have cc3 := cl hB_v1 (show World.cell? _ ⟨w.heap.size, 0, none⟩ = some (.int .u8 f) by go_simp); obtain ⟨cc4, fcc4⟩ := pf hB_v1 (show World.cell? _ ⟨w.heap.size + 1, 0, none⟩ = some (.int .u64 0) by go_simp) (by go_simp); obtain ⟨cc5, fcc5⟩ := pf hB_v1 (show World.cell? _ ⟨w.heap.size + 1, 1, none⟩ = some (.int .u64 0) by go_simp) (by go_simp); obtain ⟨cc6, fcc6⟩ := pf hB_v1 (show World.cell? _ ⟨w.heap.size + 1, 2, none⟩ = some (.int .u8 0) by go_simp) (by go_simp); have hs_v1 := hB_v1.size; (try simp only [World.size_alloc, World.size_setCell, World.size_drew] at hs_v1); have hBW : Below w.heap.size w v1 := below_after (w := w) (by go_grown) hB_v1; have hn_v1 := an (nl cc1) (an (nl cc3) (nl cc4)); clear hB_v1)
  (go_wp2_with fail; refine (format_Known_b _ _).mono ?_; rintro en v2 ⟨rfl, hB_v2⟩; have lay_v2 := laid_after hB_v2; have hG := cell_grown cc1 (by go_grown) hB_v2; replace cc1 := cl hG cc1; replace cc2 := cl hG cc2; replace cc3 := cl hG cc3; replace fcc4 := fl hG fcc4 cc4; replace cc4 := cl hG cc4; replace fcc5 := fl hG fcc5 cc5; replace cc5 := cl hG cc5; replace fcc6 := fl hG fcc6 cc6; replace cc6 := cl hG cc6; have hs_v2 := hG.size; clear hG; replace hBW : Below w.heap.size w v2 := below_after (w := w) (by go_grown) hB_v2; have hn_v2 := an (nl cc1) (an (nl cc3) (nl cc4)); clear hB_v2)
  (go_wp2_with fail; refine (nan_Default _ _).mono ?_; rintro en v3 ⟨rfl, hB_v3⟩; have lay_v3 := laid_after hB_v3; have hG := cell_grown cc1 (by go_grown) hB_v3; replace cc1 := cl hG cc1; replace cc2 := cl hG cc2; replace cc3 := cl hG cc3; replace fcc4 := fl hG fcc4 cc4; replace cc4 := cl hG cc4; replace fcc5 := fl hG fcc5 cc5; replace cc5 := cl hG cc5; replace fcc6 := fl hG fcc6 cc6; replace cc6 := cl hG cc6; have hs_v3 := hG.size; clear hG; replace hBW : Below w.heap.size w v3 := below_after (w := w) (by go_grown) hB_v3; have hn_v3 := an (nl cc1) (an (nl cc3) (nl cc4)); clear hB_v3)
  go_upto_region 6 with fail
  ((first | refine wp_rename ?_ | refine goal_rename ?_); intro W6 hw_W6; have hG := named cc1 W6 (by rw [hw_W6]; first | with_reducible exact drewN_below (Below.refl _ _) _ | go_grown); replace cc1 := cl hG cc1; replace cc2 := cl hG cc2; replace cc3 := cl hG cc3; replace fcc4 := fl hG fcc4 cc4; replace cc4 := cl hG cc4; replace fcc5 := fl hG fcc5 cc5; replace cc5 := cl hG cc5; replace fcc6 := fl hG fcc6 cc6; replace cc6 := cl hG cc6; have cc7 : W6.cell? ⟨v3.heap.size, 0, none⟩ = some (.int .u64 (hi (defF f))) := (by rw [hw_W6]; go_simp); have fcc7 : W6.frozen? ⟨v3.heap.size, 0, none⟩ = false := (by rw [hw_W6]; go_simp); have cc8 : W6.cell? ⟨v3.heap.size, 1, none⟩ = some (.int .u64 (lo (defF f))) := (by rw [hw_W6]; go_simp); have fcc8 : W6.frozen? ⟨v3.heap.size, 1, none⟩ = false := (by rw [hw_W6]; go_simp); have cc9 : W6.cell? ⟨v3.heap.size, 2, none⟩ = some (.int .u8 0) := (by rw [hw_W6]; go_simp); have fcc9 : W6.frozen? ⟨v3.heap.size, 2, none⟩ = false := (by rw [hw_W6]; go_simp); replace hBW := below_after hBW hG; have hs_W6 := hG.size; clear hG; have hn_W6 := an (nl cc1) (an (nl cc3) (an (nl cc4) (nl cc7))); have lay_W6 : Laid W6 := Laid.below (w := w) (by assumption) hBW; clear hw_W6)
  refine Lin.wp_region_lin (by kernel_rfl) (by intro _ _ d _ _ h; cases d <;> exact h) (by kernel_rfl) (fun w' => Below W6.heap.size W6 w' ∧ w'.cell? ⟨b, 0, none⟩ = some (.int .u64 h) ∧ w'.cell? ⟨b, 1, none⟩ = some (.int .u64 l) ∧ w'.cell? ⟨w.heap.size, 0, none⟩ = some (.int .u8 f)) ⟨(Below.refl _ _).drew, by go_simp, by go_simp, by go_simp⟩ ?_
  simp only [List.length_cons, List.length_nil, Nat.reduceAdd]
  iterate 5 (refine Lin.lex_val rfl rfl rfl ?_; apply Exists.intro; refine ⟨fun w' hw' => ?_, ?_⟩; (focus (have hBw := hw'.1; have hSw := hw'.2; clear hw'; (try dsimp only at hBw hSw); go_simp; first | with_reducible exact Lin.lin_value | with_reducible exact Lin.lin_skip)); (try simp only [Act.put, List.setIfInBounds_toArray, List.set_cons_zero, List.set_cons_succ]))
  (refine Lin.lex_val rfl rfl rfl ?_; apply Exists.intro; refine ⟨fun w' hw' => ?_, ?_⟩; (focus (have hBw := hw'.1; have hSw := hw'.2; clear hw'; (try dsimp only at hBw hSw); have lay' : Laid w' := Laid.below lay_W6 hBw; go_simp; first | exact Lin.lin_ret (nan_Quiet _ _ _ _) (by rw [q0.out, q1.out]))); (try simp only [Act.put, List.setIfInBounds_toArray, List.set_cons_zero, List.set_cons_succ]))
  (refine Lin.lex_val rfl rfl rfl ?_; apply Exists.intro; refine ⟨fun w' hw' => ?_, ?_⟩; (focus (have hBw := hw'.1; have hSw := hw'.2; clear hw'; (try dsimp only at hBw hSw); go_simp; first | with_reducible exact Lin.lin_value | with_reducible exact Lin.lin_skip)); (try simp only [Act.put, List.setIfInBounds_toArray, List.set_cons_zero, List.set_cons_succ]))
  refine Lin.lex_rest rfl ?_
  refine Lin.lex_end ?_
  refine Lin.fin0 (fun wa wb hc hb => ⟨hc.1.trans (hb.mono hc.1.size), cell_later hb hc.2.1, cell_later hb hc.2.2.1, cell_later hb hc.2.2.2⟩) (by kernel_rfl) ?_
  intro X hw_X
  have hb_X := hw_X.1; clear hw_X
  have lay_X : Laid X := Laid.below lay_W6 hb_X
  (replace cc1 := cl hb_X cc1; replace cc2 := cl hb_X cc2; replace cc3 := cl hb_X cc3; replace fcc4 := fl hb_X fcc4 cc4; replace cc4 := cl hb_X cc4; replace fcc5 := fl hb_X fcc5 cc5; replace cc5 := cl hb_X cc5; replace fcc6 := fl hb_X fcc6 cc6; replace cc6 := cl hb_X cc6; replace fcc7 := fl hb_X fcc7 cc7; replace cc7 := cl hb_X cc7; replace fcc8 := fl hb_X fcc8 cc8; replace cc8 := cl hb_X cc8; replace fcc9 := fl hb_X fcc9 cc9; replace cc9 := cl hb_X cc9; replace hBW := below_after hBW hb_X; have hsb_X := hb_X.size; have hn_X := an (nl cc1) (an (nl cc3) (an (nl cc4) (nl cc7))))
  (refine wpAny_ready (rs := [7]) (by kernel_rfl) (by simp) ?_; refine AllReady.cons rfl (fun K hK => ?_) AllReady.nil; go_simp; refine hK _ _ ?_; clear hK K)
  refine wpAny_done (by kernel_rfl) ?_ _
  apply_assumption
  ((first | refine wp_rename ?_ | refine goal_rename ?_); intro Xs hw_Xs; replace cc1 := rn hw_Xs cc1 (by go_simp); replace cc2 := rn hw_Xs cc2 (by go_simp); replace cc3 := rn hw_Xs cc3 (by go_simp); replace cc4 := rn hw_Xs cc4 (by go_simp); replace fcc4 := rf hw_Xs fcc4 (by go_simp); replace cc5 := rn hw_Xs cc5 (by go_simp); replace fcc5 := rf hw_Xs fcc5 (by go_simp); replace cc6 := rn hw_Xs cc6 (by go_simp); replace fcc6 := rf hw_Xs fcc6 (by go_simp); replace cc7 : Xs.cell? ⟨v3.heap.size, 0, none⟩ = some (.int .u64 qh) := (by rw [hw_Xs]; go_simp); replace fcc7 := rf hw_Xs fcc7 (by go_simp); replace cc8 : Xs.cell? ⟨v3.heap.size, 1, none⟩ = some (.int .u64 ql) := (by rw [hw_Xs]; go_simp); replace fcc8 := rf hw_Xs fcc8 (by go_simp); replace cc9 := rn hw_Xs cc9 (by go_simp); replace fcc9 := rf hw_Xs fcc9 (by go_simp); replace hBW : Below w.heap.size w Xs := (by rw [hw_Xs]; (first | with_reducible exact drewN_below (by assumption) _ | go_grown)); have hn_Xs := an (nl cc1) (an (nl cc3) (an (nl cc4) (nl cc7))); have lay_Xs : Laid Xs := Laid.below (w := w) (by assumption) hBW; clear hw_Xs)
  (go_wp2_with fail; refine (any1_Sig f h l _ _ (by first | assumption | go_simp) (by first | assumption | go_simp)).mono ?_; rw [s0.out]; rintro en v5 ⟨rfl, hB_v5⟩; have lay_v5 := laid_after hB_v5; have hG := cell_grown cc1 (by go_grown) hB_v5; replace cc1 := cl hG cc1; replace cc2 := cl hG cc2; replace cc3 := cl hG cc3; replace fcc4 := fl hG fcc4 cc4; replace cc4 := cl hG cc4; replace fcc5 := fl hG fcc5 cc5; replace cc5 := cl hG cc5; replace fcc6 := fl hG fcc6 cc6; replace cc6 := cl hG cc6; replace fcc7 := fl hG fcc7 cc7; replace cc7 := cl hG cc7; replace fcc8 := fl hG fcc8 cc8; replace cc8 := cl hG cc8; replace fcc9 := fl hG fcc9 cc9; replace cc9 := cl hG cc9; have hs_v5 := hG.size; clear hG; replace hBW : Below w.heap.size w v5 := below_after (w := w) (by go_grown) hB_v5; have hn_v5 := an (nl cc1) (an (nl cc3) (an (nl cc4) (nl cc7))); clear hB_v5)
  skip
  go_wp2_with fail
  refine bodyPost_ret (by simp [results, Tryz.results29, go_sem, cc4, cc5, cc6]; try rfl) rfl ?_
  exact ⟨rfl, by go_grown⟩
set_option maxRecDepth 100000 in
set_option maxHeartbeats 4000000 in
theorem pick1_q (f h l qh ql : Int) (b : Nat) [hU : U8 f] [U64 h] [U64 l] (w : World) [hLay : Laid w] (c0 : w.cell? ⟨b, 0, none⟩ = some (.int .u64 h)) (c1 : w.cell? ⟨b, 1, none⟩ = some (.int .u64 l)) [U64 qh] [U64 ql] (hf : f < 4) (n0 : Hid (nanB f (cat h l) = true)) (q0 : Hid (hi (quietF f (cat h l)) = qh)) (q1 : Hid (lo (quietF f (cat h l)) = ql)) (s0 : Hid (sigB f (cat h l) = false)) :
    Calls Tryz.prog 29 #[.int .u8 f, .bool false, .slice (some ⟨b, 0, none⟩) 1 1] w fun en w' => en = .returned (.tuple #[.agg #[.int .u64 qh, .int .u64 ql, .int .u8 0], .bool true]) ∧ Below w.heap.size w w' := by
  have sb : b < w.heap.size := World.block_lt_of_cell? w _ c0
  have hfd : decide (f < 4) = true := decide_eq_true hf
  clear hf
  go_enter Tryz.func29, Tryz.ntmps29
  skip
  (go_wp2_with fail; refine (pick_index1 f h l b w.heap.size _ (by first | assumption | go_simp) (by first | omega | (go_simp; done) | (go_simp; omega)) (by first | assumption | go_simp) (by first | assumption | go_simp)).mono ?_; rw [n0.out, idx1_t]; rintro en v1 ⟨rfl, hB_v1⟩; have lay_v1 := laid_after hB_v1; have cc1 := cl hB_v1 (show World.cell? _ ⟨b, 0, none⟩ = some (.int .u64 h) by go_simp); have cc2 := cl hB_v1 (show World.cell? _ ⟨b, 1, none⟩ = some (.int .u64 l) by go_simp); have cc3 := cl hB_v1 (show World.cell? _ ⟨w.heap.size, 0, none⟩ = some (.int .u8 f) by go_simp); obtain ⟨cc4, fcc4⟩ := pf hB_v1 (show World.cell? _ ⟨w.heap.size + 1, 0, none⟩ = some (.int .u64 0) by go_simp) (by go_simp); obtain ⟨cc5, fcc5⟩ := pf hB_v1 (show World.cell? _ ⟨w.heap.size + 1, 1, none⟩ = some (.int .u64 0) by go_simp) (by go_simp); obtain ⟨cc6, fcc6⟩ := pf hB_v1 (show World.cell? _ ⟨w.heap.size + 1, 2, none⟩ = some (.int .u8 0) by go_simp) (by go_simp); have hs_v1 := hB_v1.size; (try simp only [World.size_alloc, World.size_setCell, World.size_drew] at hs_v1); have hBW : Below w.heap.size w v1 := below_after (w := w) (by go_grown) hB_v1; have hn_v1 := an (nl cc1) (an (nl cc3) (nl cc4)); clear hB_v1)
  (go_wp2_with fail; refine (format_Known_b _ _).mono ?_; rintro en v2 ⟨rfl, hB_v2⟩; have lay_v2 := laid_after hB_v2; have hG := cell_grown cc1 (by go_grown) hB_v2; replace cc1 := cl hG cc1; replace cc2 := cl hG cc2; replace cc3 := cl hG cc3; replace fcc4 := fl hG fcc4 cc4; replace cc4 := cl hG cc4; replace fcc5 := fl hG fcc5 cc5; replace cc5 := cl hG cc5; replace fcc6 := fl hG fcc6 cc6; replace cc6 := cl hG cc6; have hs_v2 := hG.size; clear hG; replace hBW : Below w.heap.size w v2 := below_after (w := w) (by go_grown) hB_v2; have hn_v2 := an (nl cc1) (an (nl cc3) (nl cc4)); clear hB_v2)
  (go_wp2_with fail; refine (nan_Default _ _).mono ?_; rintro en v3 ⟨rfl, hB_v3⟩; have lay_v3 := laid_after hB_v3; have hG := cell_grown cc1 (by go_grown) hB_v3; replace cc1 := cl hG cc1; replace cc2 := cl hG cc2; replace cc3 := cl hG cc3; replace fcc4 := fl hG fcc4 cc4; replace cc4 := cl hG cc4; replace fcc5 := fl hG fcc5 cc5; replace cc5 := cl hG cc5; replace fcc6 := fl hG fcc6 cc6; replace cc6 := cl hG cc6; have hs_v3 := hG.size; clear hG; replace hBW : Below w.heap.size w v3 := below_after (w := w) (by go_grown) hB_v3; have hn_v3 := an (nl cc1) (an (nl cc3) (nl cc4)); clear hB_v3)
  go_upto_region 6 with fail
  ((first | refine wp_rename ?_ | refine goal_rename ?_); intro W6 hw_W6; have hG := named cc1 W6 (by rw [hw_W6]; first | with_reducible exact drewN_below (Below.refl _ _) _ | go_grown); replace cc1 := cl hG cc1; replace cc2 := cl hG cc2; replace cc3 := cl hG cc3; replace fcc4 := fl hG fcc4 cc4; replace cc4 := cl hG cc4; replace fcc5 := fl hG fcc5 cc5; replace cc5 := cl hG cc5; replace fcc6 := fl hG fcc6 cc6; replace cc6 := cl hG cc6; have cc7 : W6.cell? ⟨v3.heap.size, 0, none⟩ = some (.int .u64 (hi (defF f))) := (by rw [hw_W6]; go_simp); have fcc7 : W6.frozen? ⟨v3.heap.size, 0, none⟩ = false := (by rw [hw_W6]; go_simp); have cc8 : W6.cell? ⟨v3.heap.size, 1, none⟩ = some (.int .u64 (lo (defF f))) := (by rw [hw_W6]; go_simp); have fcc8 : W6.frozen? ⟨v3.heap.size, 1, none⟩ = false := (by rw [hw_W6]; go_simp); have cc9 : W6.cell? ⟨v3.heap.size, 2, none⟩ = some (.int .u8 0) := (by rw [hw_W6]; go_simp); have fcc9 : W6.frozen? ⟨v3.heap.size, 2, none⟩ = false := (by rw [hw_W6]; go_simp); replace hBW := below_after hBW hG; have hs_W6 := hG.size; clear hG; have hn_W6 := an (nl cc1) (an (nl cc3) (an (nl cc4) (nl cc7))); have lay_W6 : Laid W6 := Laid.below (w := w) (by assumption) hBW; clear hw_W6)
  refine Lin.wp_region_lin (by kernel_rfl) (by intro _ _ d _ _ h; cases d <;> exact h) (by kernel_rfl) (fun w' => Below W6.heap.size W6 w' ∧ w'.cell? ⟨b, 0, none⟩ = some (.int .u64 h) ∧ w'.cell? ⟨b, 1, none⟩ = some (.int .u64 l) ∧ w'.cell? ⟨w.heap.size, 0, none⟩ = some (.int .u8 f)) ⟨(Below.refl _ _).drew, by go_simp, by go_simp, by go_simp⟩ ?_
  simp only [List.length_cons, List.length_nil, Nat.reduceAdd]
  iterate 5 (refine Lin.lex_val rfl rfl rfl ?_; apply Exists.intro; refine ⟨fun w' hw' => ?_, ?_⟩; (focus (have hBw := hw'.1; have hSw := hw'.2; clear hw'; (try dsimp only at hBw hSw); go_simp; first | with_reducible exact Lin.lin_value | with_reducible exact Lin.lin_skip)); (try simp only [Act.put, List.setIfInBounds_toArray, List.set_cons_zero, List.set_cons_succ]))
  (refine Lin.lex_val rfl rfl rfl ?_; apply Exists.intro; refine ⟨fun w' hw' => ?_, ?_⟩; (focus (have hBw := hw'.1; have hSw := hw'.2; clear hw'; (try dsimp only at hBw hSw); have lay' : Laid w' := Laid.below lay_W6 hBw; go_simp; first | exact Lin.lin_ret (nan_Quiet _ _ _ _) (by rw [q0.out, q1.out]))); (try simp only [Act.put, List.setIfInBounds_toArray, List.set_cons_zero, List.set_cons_succ]))
  (refine Lin.lex_val rfl rfl rfl ?_; apply Exists.intro; refine ⟨fun w' hw' => ?_, ?_⟩; (focus (have hBw := hw'.1; have hSw := hw'.2; clear hw'; (try dsimp only at hBw hSw); go_simp; first | with_reducible exact Lin.lin_value | with_reducible exact Lin.lin_skip)); (try simp only [Act.put, List.setIfInBounds_toArray, List.set_cons_zero, List.set_cons_succ]))
  refine Lin.lex_rest rfl ?_
  refine Lin.lex_end ?_
  refine Lin.fin0 (fun wa wb hc hb => ⟨hc.1.trans (hb.mono hc.1.size), cell_later hb hc.2.1, cell_later hb hc.2.2.1, cell_later hb hc.2.2.2⟩) (by kernel_rfl) ?_
  intro X hw_X
  have hb_X := hw_X.1; clear hw_X
  have lay_X : Laid X := Laid.below lay_W6 hb_X
  (replace cc1 := cl hb_X cc1; replace cc2 := cl hb_X cc2; replace cc3 := cl hb_X cc3; replace fcc4 := fl hb_X fcc4 cc4; replace cc4 := cl hb_X cc4; replace fcc5 := fl hb_X fcc5 cc5; replace cc5 := cl hb_X cc5; replace fcc6 := fl hb_X fcc6 cc6; replace cc6 := cl hb_X cc6; replace fcc7 := fl hb_X fcc7 cc7; replace cc7 := cl hb_X cc7; replace fcc8 := fl hb_X fcc8 cc8; replace cc8 := cl hb_X cc8; replace fcc9 := fl hb_X fcc9 cc9; replace cc9 := cl hb_X cc9; replace hBW := below_after hBW hb_X; have hsb_X := hb_X.size; have hn_X := an (nl cc1) (an (nl cc3) (an (nl cc4) (nl cc7))))
  (refine wpAny_ready (rs := [7]) (by kernel_rfl) (by simp) ?_; refine AllReady.cons rfl (fun K hK => ?_) AllReady.nil; go_simp; refine hK _ _ ?_; clear hK K)
  refine wpAny_done (by kernel_rfl) ?_ _
  apply_assumption
  ((first | refine wp_rename ?_ | refine goal_rename ?_); intro Xs hw_Xs; replace cc1 := rn hw_Xs cc1 (by go_simp); replace cc2 := rn hw_Xs cc2 (by go_simp); replace cc3 := rn hw_Xs cc3 (by go_simp); replace cc4 := rn hw_Xs cc4 (by go_simp); replace fcc4 := rf hw_Xs fcc4 (by go_simp); replace cc5 := rn hw_Xs cc5 (by go_simp); replace fcc5 := rf hw_Xs fcc5 (by go_simp); replace cc6 := rn hw_Xs cc6 (by go_simp); replace fcc6 := rf hw_Xs fcc6 (by go_simp); replace cc7 : Xs.cell? ⟨v3.heap.size, 0, none⟩ = some (.int .u64 qh) := (by rw [hw_Xs]; go_simp); replace fcc7 := rf hw_Xs fcc7 (by go_simp); replace cc8 : Xs.cell? ⟨v3.heap.size, 1, none⟩ = some (.int .u64 ql) := (by rw [hw_Xs]; go_simp); replace fcc8 := rf hw_Xs fcc8 (by go_simp); replace cc9 := rn hw_Xs cc9 (by go_simp); replace fcc9 := rf hw_Xs fcc9 (by go_simp); replace hBW : Below w.heap.size w Xs := (by rw [hw_Xs]; (first | with_reducible exact drewN_below (by assumption) _ | go_grown)); have hn_Xs := an (nl cc1) (an (nl cc3) (an (nl cc4) (nl cc7))); have lay_Xs : Laid Xs := Laid.below (w := w) (by assumption) hBW; clear hw_Xs)
  (go_wp2_with fail; refine (any1_Sig f h l _ _ (by first | assumption | go_simp) (by first | assumption | go_simp)).mono ?_; rw [s0.out]; rintro en v5 ⟨rfl, hB_v5⟩; have lay_v5 := laid_after hB_v5; have hG := cell_grown cc1 (by go_grown) hB_v5; replace cc1 := cl hG cc1; replace cc2 := cl hG cc2; replace cc3 := cl hG cc3; replace fcc4 := fl hG fcc4 cc4; replace cc4 := cl hG cc4; replace fcc5 := fl hG fcc5 cc5; replace cc5 := cl hG cc5; replace fcc6 := fl hG fcc6 cc6; replace cc6 := cl hG cc6; replace fcc7 := fl hG fcc7 cc7; replace cc7 := cl hG cc7; replace fcc8 := fl hG fcc8 cc8; replace cc8 := cl hG cc8; replace fcc9 := fl hG fcc9 cc9; replace cc9 := cl hG cc9; have hs_v5 := hG.size; clear hG; replace hBW : Below w.heap.size w v5 := below_after (w := w) (by go_grown) hB_v5; have hn_v5 := an (nl cc1) (an (nl cc3) (an (nl cc4) (nl cc7))); clear hB_v5)
  go_wp2_with fail
  refine bodyPost_ret (by simp [results, Tryz.results29, go_sem, cc4, cc5, cc6]; try rfl) rfl ?_
  exact ⟨rfl, by go_grown⟩
end Go.Proofs.YtkpjeceofcfnkaaGreatDoor
