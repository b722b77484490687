/- The contracts of the reference's ends: Inf, Max, Infinite, Over, Least, Normal: for every input. Condition: the listed table is laid. -/
import Derived.Test.YtgpedgppdggjmaaDoorNum6
import Derived.Test.YtgpedgppdggjmaaDoorOver
import Derived.Test.YtgpedgppdggjmaaDoorCodes
set_option linter.unusedSimpArgs false
set_option linter.unusedVariables false
namespace Go.Proofs.YtgpedgppdggjmaaDoor
open Go.RowKit Go.Hb
theorem dl_nought : dl 0 ≤ 100000 := by rw [dl_zero]; omega
set_option maxRecDepth 100000 in
set_option maxHeartbeats 1000000 in
theorem ref_Make_none (f e : Int) (neg : Bool) (v : Value) [hU : U8 f] (w : World) (hf : 4 ≤ f) :
    Calls Tryd.prog 56 #[.int .u8 f, .bool neg, .int .i64 e, v] w fun en w' => en = .returned (.agg #[.int .u64 (0), .int .u64 (0)]) ∧ Below w.heap.size w w' := by
  have hw := (fmt_none f hf).1
  go_enter Tryd.func56, Tryd.ntmps56
  (go_wp2_with fail; refine (ref_Width f _).mono ?_; rw [hw]; rintro en _ ⟨rfl, rfl⟩)
  go_wp2_with fail
  refine bodyPost_ret (by simp [results, Tryd.results56, go_sem]; try rfl) rfl ?_
  exact ⟨rfl, by go_grown⟩
set_option maxRecDepth 100000 in
set_option maxHeartbeats 1000000 in
theorem ref_Inf (f : Int) (neg : Bool) [hU : U8 f] (w : World) [hLay : Laid w] (hf : f < 4) :
    Calls Tryd.prog 54 #[.int .u8 f, .bool neg] w fun en w' => en = .returned (.agg #[.int .u64 (hi (makeF f neg (2 * emaxS f + 1) 0)), .int .u64 (lo (makeF f neg (2 * emaxS f + 1) 0))]) ∧ Below w.heap.size w w' := by
  obtain ⟨m0, m1⟩ := emaxS_bd f
  have hE : U64 (2 * emaxS f + 1) := ⟨by omega, by omega⟩
  have l0 := dl_nought
  have hp1 : IntKind.i64.wrap (2 * emaxS f) = 2 * emaxS f := IntWalk.i64_in _ (by omega)
  have hp2 : IntKind.i64.wrap (2 * emaxS f + 1) = 2 * emaxS f + 1 := IntWalk.i64_in _ (by omega)
  go_enter Tryd.func54, Tryd.ntmps54
  skip
  (go_wp2_with fail; refine (ref_Emax f _).mono ?_; rintro en _ ⟨rfl, rfl⟩)
  (go_wp2_with fail; refine (ref_Make f (2 * emaxS f + 1) neg _ 0 _ hf (by omega) (RN.nil _) l0).mono ?_; rintro en v1 ⟨rfl, hB_v1⟩; have lay_v1 := laid_after hB_v1; obtain ⟨cc1, fcc1⟩ := pf hB_v1 (show World.cell? _ ⟨w.heap.size, 0, none⟩ = some (.int .u64 0) by go_simp) (by go_simp); obtain ⟨cc2, fcc2⟩ := pf hB_v1 (show World.cell? _ ⟨w.heap.size, 1, none⟩ = some (.int .u64 0) by go_simp) (by go_simp); have hs_v1 := hB_v1.size; (try simp only [World.size_alloc, World.size_setCell, World.size_drew] at hs_v1); have hBW : Below w.heap.size w v1 := below_after (w := w) (by go_grown) hB_v1; have hn_v1 := nl cc1; clear hB_v1)
  go_wp2_with fail
  refine bodyPost_ret (by simp [results, Tryd.results54, go_sem, cc1, cc2]; try rfl) rfl ?_
  exact ⟨rfl, by go_grown⟩
set_option maxRecDepth 100000 in
set_option maxHeartbeats 1000000 in
theorem ref_Max (f : Int) (neg : Bool) [hU : U8 f] (w : World) [hLay : Laid w] (hf : f < 4) :
    Calls Tryd.prog 52 #[.int .u8 f, .bool neg] w fun en w' => en = .returned (.agg #[.int .u64 (hi (makeF f neg (2 * emaxS f) (2 ^ (precS f - 1).toNat - 1))), .int .u64 (lo (makeF f neg (2 * emaxS f) (2 ^ (precS f - 1).toNat - 1)))]) ∧ Below w.heap.size w w' := by
  obtain ⟨m0, m1⟩ := emaxS_bd f
  obtain ⟨b1, b2, b3, b4, b5, b6⟩ := fmt_bd f U8.ge hf
  have hw0 : (widthS f == 0) = false := by rw [beq_eq_false_iff_ne]; omega
  have hE : U64 (2 * emaxS f) := ⟨by omega, by omega⟩
  have hp1 : IntKind.i64.wrap (2 * emaxS f) = 2 * emaxS f := IntWalk.i64_in _ (by omega)
  have hp2 : IntKind.i64.wrap (precS f - 1) = precS f - 1 := IntWalk.i64_in _ (by omega)
  have l6 : dl (2 ^ (precS f - 1).toNat) ≤ 100000 := dl_of _ (precS f).toNat (Nat.pow_lt_pow_right (by decide) (by omega)) (by omega)
  have h1 : 1 ≤ 2 ^ (precS f - 1).toNat := Nat.two_pow_pos _
  have l7 : dl (2 ^ (precS f - 1).toNat - 1) ≤ 100000 := Nat.le_trans (dl_mono (Nat.sub_le _ _)) l6
  go_enter Tryd.func52, Tryd.ntmps52
  skip
  (go_wp2_with fail; refine (ref_Width f _).mono ?_; rintro en _ ⟨rfl, rfl⟩)
  (go_wp2_with fail; refine (ref_Emax f _).mono ?_; rintro en _ ⟨rfl, rfl⟩)
  (go_wp2_with fail; refine (ref_Prec f _).mono ?_; rintro en _ ⟨rfl, rfl⟩)
  (go_wp2_with fail; refine (num_Full_at (precS f - 1).toNat _ _ (by omega) (by omega)).mono ?_; rintro en v1 ⟨⟨u1, rfl, hR_u1⟩, hB_v1⟩; have lay_v1 := laid_after hB_v1; obtain ⟨cc1, fcc1⟩ := pf hB_v1 (show World.cell? _ ⟨w.heap.size, 0, none⟩ = some (.int .u64 0) by go_simp) (by go_simp); obtain ⟨cc2, fcc2⟩ := pf hB_v1 (show World.cell? _ ⟨w.heap.size, 1, none⟩ = some (.int .u64 0) by go_simp) (by go_simp); have hs_v1 := hB_v1.size; (try simp only [World.size_alloc, World.size_setCell, World.size_drew] at hs_v1); have hBW : Below w.heap.size w v1 := below_after (w := w) (by go_grown) hB_v1; have hn_v1 := nl cc1; clear hB_v1)
  (go_wp2_with fail; refine (num_Of 1 _).mono ?_; rintro en v2 ⟨⟨u2, rfl, hR_u2⟩, hB_v2⟩; have lay_v2 := laid_after hB_v2; replace hR_u1 := RN.later hR_u1 (below_after (by go_grown) hB_v2); have hG := cell_grown cc1 (by go_grown) hB_v2; replace fcc1 := fl hG fcc1 cc1; replace cc1 := cl hG cc1; replace fcc2 := fl hG fcc2 cc2; replace cc2 := cl hG cc2; have hs_v2 := hG.size; clear hG; replace hBW : Below w.heap.size w v2 := below_after (w := w) (by go_grown) hB_v2; have hn_v2 := nl cc1; clear hB_v2)
  (go_wp2_with fail; refine (num_Sub _ _ u1 u2 _ hR_u1 hR_u2 l6 h1).mono ?_; rintro en v3 ⟨⟨u3, rfl, hR_u3⟩, hB_v3⟩; have lay_v3 := laid_after hB_v3; replace hR_u1 := RN.later hR_u1 (below_after (by go_grown) hB_v3); replace hR_u2 := RN.later hR_u2 (below_after (by go_grown) hB_v3); have hG := cell_grown cc1 (by go_grown) hB_v3; replace fcc1 := fl hG fcc1 cc1; replace cc1 := cl hG cc1; replace fcc2 := fl hG fcc2 cc2; replace cc2 := cl hG cc2; have hs_v3 := hG.size; clear hG; replace hBW : Below w.heap.size w v3 := below_after (w := w) (by go_grown) hB_v3; have hn_v3 := nl cc1; clear hB_v3)
  (go_wp2_with fail; refine (ref_Make f (2 * emaxS f) neg _ _ _ hf (by omega) hR_u3 l7).mono ?_; rintro en v4 ⟨rfl, hB_v4⟩; have lay_v4 := laid_after hB_v4; replace hR_u1 := RN.later hR_u1 (below_after (by go_grown) hB_v4); replace hR_u2 := RN.later hR_u2 (below_after (by go_grown) hB_v4); replace hR_u3 := RN.later hR_u3 (below_after (by go_grown) hB_v4); have hG := cell_grown cc1 (by go_grown) hB_v4; replace fcc1 := fl hG fcc1 cc1; replace cc1 := cl hG cc1; replace fcc2 := fl hG fcc2 cc2; replace cc2 := cl hG cc2; have hs_v4 := hG.size; clear hG; replace hBW : Below w.heap.size w v4 := below_after (w := w) (by go_grown) hB_v4; have hn_v4 := nl cc1; clear hB_v4)
  go_wp2_with fail
  refine bodyPost_ret (by simp [results, Tryd.results52, go_sem, cc1, cc2]; try rfl) rfl ?_
  exact ⟨by simp, by go_grown⟩
set_option maxRecDepth 100000 in
set_option maxHeartbeats 1000000 in
theorem ref_Infinite (m : Int) (neg : Bool) (w : World) (m0 : 0 ≤ m) (m1 : m ≤ 4) :
    Calls Tryd.prog 53 #[.int .u8 m, .bool neg] w fun en w' => en = .returned (.bool (nextS m neg true 3)) ∧ w = w' := by
  have : m = 0 ∨ m = 1 ∨ m = 2 ∨ m = 3 ∨ m = 4 := by omega
  rcases this with rfl | rfl | rfl | rfl | rfl <;> cases neg
  all_goals (go_enter Tryd.func53, Tryd.ntmps53; go_wp2_with fail; go_returns; exact ⟨rfl, by first | rfl | trivial⟩)
theorem max_same (f : Int) (neg : Bool) (h0 : 0 ≤ f) (hf : f < 4) : makeF f neg (2 * emaxS f) (2 ^ (precS f - 1).toNat - 1) = makeF f neg (2 * emaxS f) (cat 18446744073709551615 18446744073709551615) := by
  obtain ⟨b1, b2, b3, b4, b5, b6⟩ := fmt_bd f h0 hf
  have e : cat 18446744073709551615 18446744073709551615 = 2 ^ 128 - 1 := by decide
  have e2 : (2 ^ (precS f - 1).toNat - 1) % 2 ^ (precS f - 1).toNat = 2 ^ (precS f - 1).toNat - 1 := Nat.mod_eq_of_lt (Nat.sub_lt (Nat.two_pow_pos _) (by decide))
  rw [e]
  unfold makeF
  rw [ones_mod _ (by omega), e2]
set_option maxRecDepth 100000 in
set_option maxHeartbeats 1000000 in
theorem ref_Over_in (f m : Int) (neg : Bool) [hU : U8 f] (w : World) [hLay : Laid w] (hf : f < 4) (m0 : 0 ≤ m) (m1 : m ≤ 4) :
    Calls Tryd.prog 12 #[.int .u8 f, .int .u8 m, .bool neg] w fun en w' => en = .returned (.agg #[.int .u64 (hi (overB f m neg)), .int .u64 (lo (overB f m neg)), .int .u8 20]) ∧ Below w.heap.size w w' := by
  have hms := max_same f neg U8.ge hf
  have q1 : decide (f > 3) = false := decide_eq_false (by omega)
  have q2 : decide (m > 4) = false := decide_eq_false (by omega)
  have hX : ∃ X0 X1 : Int, hi (makeF f neg (2 * emaxS f) (cat 18446744073709551615 18446744073709551615)) = X0 ∧ lo (makeF f neg (2 * emaxS f) (cat 18446744073709551615 18446744073709551615)) = X1 := ⟨_, _, rfl, rfl⟩
  obtain ⟨X0, X1, hX0, hX1⟩ := hX
  have hY : ∃ Y0 Y1 : Int, hi (makeF f neg (2 * emaxS f + 1) 0) = Y0 ∧ lo (makeF f neg (2 * emaxS f + 1) 0) = Y1 := ⟨_, _, rfl, rfl⟩
  obtain ⟨Y0, Y1, hY0, hY1⟩ := hY
  have hX0 := Lib.hid hX0
  have hX1 := Lib.hid hX1
  have hY0 := Lib.hid hY0
  have hY1 := Lib.hid hY1
  have hms := Lib.hid hms
  unfold overB
  by_cases hn : nextS m neg true 3 = true
  · rw [if_pos hn, hY0.out, hY1.out]
    go_enter Tryd.func12, Tryd.ntmps12
    skip
    (go_wp2_with fail; refine (ref_Max f neg _ hf).mono ?_; rw [hms.out, hX0.out, hX1.out]; rintro en v1 ⟨rfl, hB_v1⟩; have lay_v1 := laid_after hB_v1; obtain ⟨cc1, fcc1⟩ := pf hB_v1 (show World.cell? _ ⟨w.heap.size, 0, none⟩ = some (.int .u64 0) by go_simp) (by go_simp); obtain ⟨cc2, fcc2⟩ := pf hB_v1 (show World.cell? _ ⟨w.heap.size, 1, none⟩ = some (.int .u64 0) by go_simp) (by go_simp); obtain ⟨cc3, fcc3⟩ := pf hB_v1 (show World.cell? _ ⟨w.heap.size, 2, none⟩ = some (.int .u8 0) by go_simp) (by go_simp); have hs_v1 := hB_v1.size; (try simp only [World.size_alloc, World.size_setCell, World.size_drew] at hs_v1); have hBW : Below w.heap.size w v1 := below_after (w := w) (by go_grown) hB_v1; have hn_v1 := nl cc1; clear hB_v1)
    (go_wp2_with fail; refine (ref_Infinite m neg _ m0 m1).mono ?_; rintro en _ ⟨rfl, rfl⟩)
    (go_wp2_with fail; refine (ref_Inf f neg _ hf).mono ?_; rw [hY0.out, hY1.out]; rintro en v2 ⟨rfl, hB_v2⟩; have lay_v2 := laid_after hB_v2; have hG := cell_grown cc1 (by go_grown) hB_v2; replace fcc1 := fl hG fcc1 cc1; replace cc1 := cl hG cc1; replace fcc2 := fl hG fcc2 cc2; replace cc2 := cl hG cc2; replace fcc3 := fl hG fcc3 cc3; replace cc3 := cl hG cc3; obtain ⟨cc4, fcc4⟩ := pf hB_v2 (show World.cell? _ ⟨v1.heap.size, 0, none⟩ = some (.int .u64 X0) by go_simp) (by go_simp); obtain ⟨cc5, fcc5⟩ := pf hB_v2 (show World.cell? _ ⟨v1.heap.size, 1, none⟩ = some (.int .u64 X1) by go_simp) (by go_simp); have hs_v2 := hG.size; clear hG; replace hBW : Below w.heap.size w v2 := below_after (w := w) (by go_grown) hB_v2; have hn_v2 := an (nl cc1) (nl cc4); clear hB_v2)
    go_wp2_with fail
    refine bodyPost_ret (by simp [results, Tryd.results12, go_sem, cc1, cc2, cc3]; try rfl) rfl ?_
    exact ⟨rfl, by go_grown⟩
  · have hn : nextS m neg true 3 = false := by simpa using hn
    rw [if_neg (by simp [hn]), hX0.out, hX1.out]
    go_enter Tryd.func12, Tryd.ntmps12
    skip
    (go_wp2_with fail; refine (ref_Max f neg _ hf).mono ?_; rw [hms.out, hX0.out, hX1.out]; rintro en v1 ⟨rfl, hB_v1⟩; have lay_v1 := laid_after hB_v1; obtain ⟨cc1, fcc1⟩ := pf hB_v1 (show World.cell? _ ⟨w.heap.size, 0, none⟩ = some (.int .u64 0) by go_simp) (by go_simp); obtain ⟨cc2, fcc2⟩ := pf hB_v1 (show World.cell? _ ⟨w.heap.size, 1, none⟩ = some (.int .u64 0) by go_simp) (by go_simp); obtain ⟨cc3, fcc3⟩ := pf hB_v1 (show World.cell? _ ⟨w.heap.size, 2, none⟩ = some (.int .u8 0) by go_simp) (by go_simp); have hs_v1 := hB_v1.size; (try simp only [World.size_alloc, World.size_setCell, World.size_drew] at hs_v1); have hBW : Below w.heap.size w v1 := below_after (w := w) (by go_grown) hB_v1; have hn_v1 := nl cc1; clear hB_v1)
    (go_wp2_with fail; refine (ref_Infinite m neg _ m0 m1).mono ?_; rintro en _ ⟨rfl, rfl⟩)
    go_upto_region 6 with fail
    ((first | refine wp_rename ?_ | refine goal_rename ?_); intro W6 hw_W6; have hG := named cc1 W6 (by rw [hw_W6]; first | with_reducible exact drewN_below (Below.refl _ _) _ | go_grown); replace fcc1 := fl hG fcc1 cc1; replace cc1 := cl hG cc1; replace fcc2 := fl hG fcc2 cc2; replace cc2 := cl hG cc2; replace fcc3 := fl hG fcc3 cc3; replace cc3 := cl hG cc3; have cc4 : W6.cell? ⟨v1.heap.size, 0, none⟩ = some (.int .u64 X0) := (by rw [hw_W6]; go_simp); have fcc4 : W6.frozen? ⟨v1.heap.size, 0, none⟩ = false := (by rw [hw_W6]; go_simp); have cc5 : W6.cell? ⟨v1.heap.size, 1, none⟩ = some (.int .u64 X1) := (by rw [hw_W6]; go_simp); have fcc5 : W6.frozen? ⟨v1.heap.size, 1, none⟩ = false := (by rw [hw_W6]; go_simp); replace hBW := below_after hBW hG; have hs_W6 := hG.size; clear hG; have hn_W6 := an (nl cc1) (nl cc4); have lay_W6 : Laid W6 := Laid.below (w := w) (by assumption) hBW; clear hw_W6)
    go_wp2_with fail
    refine bodyPost_ret (by simp [results, Tryd.results12, go_sem, cc1, cc2, cc3]; try rfl) rfl ?_
    exact ⟨rfl, by go_grown⟩
end Go.Proofs.YtgpedgppdggjmaaDoor
