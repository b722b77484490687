/- The contracts of the reference's formats, ends and rounding (chapters 7, 13, 14, 15), the plain law of its rounding, the walk of OverEnds. Condition: the listed table is laid. -/
import Derived.Test.YtkpjeceofcfnkaaGreatDoorNumA
import Derived.Test.YtkpjeceofcfnkaaGreatDoorFormat4
import Derived.Test.YtkpjeceofcfnkaaGreatDoorOver
import Derived.Test.YtkpjeceofcfnkaaGreatDoorCodes
import Derived.Test.YtkpjeceofcfnkaaGreatDoorOver
set_option maxRecDepth 100000
set_option maxHeartbeats 4000000
set_option linter.unusedSimpArgs false
set_option linter.unusedVariables false
namespace Go.Proofs.YtkpjeceofcfnkaaGreatDoor
open Go.RowKit Go.Hb
theorem num_Shl_at (a n : Nat) (j : Int) (va : Value) (w : World) (hj : j = (n : Nat)) (ha : RN w va a) (la : dl a ≤ 100000) (hn : n ≤ 1000000) : Calls Tryz.prog 25 #[va, .int .i64 j] w fun en w' => GivesN (a * 2 ^ n) en w' ∧ Below w.heap.size w w' := by
  subst hj; exact num_Shl a n va w ha la hn
theorem num_Shr_at (a n : Nat) (j : Int) (va : Value) (w : World) (hj : j = (n : Nat)) (ha : RN w va a) (la : dl a ≤ 100000) (hn : n ≤ 1000000) : Calls Tryz.prog 48 #[va, .int .i64 j] w fun en w' => GivesN (a / 2 ^ n) en w' ∧ Below w.heap.size w w' := by
  subst hj; exact num_Shr a n va w ha la hn
theorem num_Cut_at (a n : Nat) (j : Int) (va : Value) (w : World) (hj : j = (n : Nat)) (ha : RN w va a) (la : dl a ≤ 100000) (hn : n ≤ 1000000) : Calls Tryz.prog 46 #[va, .int .i64 j] w fun en w' => GivesN (a % 2 ^ n) en w' ∧ Below w.heap.size w w' := by
  subst hj; exact num_Cut a n va w ha la hn
theorem num_Full_at (n : Nat) (j : Int) (w : World) (hj : j = (n : Nat)) (hn : n ≤ 1000000) : Calls Tryz.prog 22 #[.int .i64 j] w fun en w' => GivesN (2 ^ n) en w' ∧ Below w.heap.size w w' := by
  subst hj; exact num_Full n w hn
theorem num_Bit_at (a i : Nat) (j : Int) (v : Value) (w : World) (hj : j = (i : Nat)) (h : RN w v a) (hi : i ≤ 1000000) : Calls Tryz.prog 49 #[v, .int .i64 j] w fun en w' => en = .returned (.bool (a.testBit i)) ∧ w = w' := by
  subst hj; exact num_Bit a i v w h hi
theorem fmt_cases (f : Int) (h0 : 0 ≤ f) : f = 0 ∨ f = 1 ∨ f = 2 ∨ f = 3 ∨ ((f == 0) = false ∧ (f == 1) = false ∧ (f == 2) = false ∧ (f == 3) = false ∧ 4 ≤ f) := by
  by_cases h : f < 4
  · have : f = 0 ∨ f = 1 ∨ f = 2 ∨ f = 3 := by omega
    rcases this with h | h | h | h
    · exact Or.inl h
    · exact Or.inr (Or.inl h)
    · exact Or.inr (Or.inr (Or.inl h))
    · exact Or.inr (Or.inr (Or.inr (Or.inl h)))
  · refine Or.inr (Or.inr (Or.inr (Or.inr ⟨?_, ?_, ?_, ?_, by omega⟩)))
    all_goals (rw [beq_eq_false_iff_ne]; omega)
theorem ref_Width (f : Int) [hU : U8 f] (w : World) : Calls Tryz.prog 44 #[.int .u8 f] w fun en w' => en = .returned (.int .i64 (widthS f)) ∧ w = w' := by
  rcases fmt_cases f hU.ge with rfl | rfl | rfl | rfl | ⟨h0, h1, h2, h3, h4⟩
  case inr.inr.inr.inr => rw [(fmt_none f h4).1]; go_enter Tryz.func44, Tryz.ntmps44; go_wp2_with fail; go_returns; exact ⟨rfl, by first | rfl | trivial⟩
  all_goals (go_enter Tryz.func44, Tryz.ntmps44; go_wp2_with fail; go_returns; exact ⟨rfl, by first | rfl | trivial⟩)
theorem ref_Prec (f : Int) [hU : U8 f] (w : World) : Calls Tryz.prog 23 #[.int .u8 f] w fun en w' => en = .returned (.int .i64 (precS f)) ∧ w = w' := by
  rcases fmt_cases f hU.ge with rfl | rfl | rfl | rfl | ⟨h0, h1, h2, h3, h4⟩
  case inr.inr.inr.inr => rw [(fmt_none f h4).2.1]; go_enter Tryz.func23, Tryz.ntmps23; go_wp2_with fail; go_returns; exact ⟨rfl, by first | rfl | trivial⟩
  all_goals (go_enter Tryz.func23, Tryz.ntmps23; go_wp2_with fail; go_returns; exact ⟨rfl, by first | rfl | trivial⟩)
theorem ref_Emax (f : Int) [hU : U8 f] (w : World) : Calls Tryz.prog 20 #[.int .u8 f] w fun en w' => en = .returned (.int .i64 (emaxS f)) ∧ w = w' := by
  rcases fmt_cases f hU.ge with rfl | rfl | rfl | rfl | ⟨h0, h1, h2, h3, h4⟩
  case inr.inr.inr.inr => rw [(fmt_none f h4).2.2]; go_enter Tryz.func20, Tryz.ntmps20; go_wp2_with fail; go_returns; exact ⟨rfl, by first | rfl | trivial⟩
  all_goals (go_enter Tryz.func20, Tryz.ntmps20; go_wp2_with fail; go_returns; exact ⟨rfl, by first | rfl | trivial⟩)
theorem dl_of (n k : Nat) (h : n < 2 ^ k) (hk : k ≤ 3000000) : dl n ≤ 100000 := by
  have := blen_le_of n k h
  unfold dl; omega
theorem ref_Make (f e : Int) (neg : Bool) (v : Value) (frac : Nat) [hU : U8 f] [hE : U64 e] (w : World) [hLay : Laid w] (hf : f < 4) (he : e ≤ 1048576) (hR_v : RN w v frac) (lf : dl frac ≤ 100000) :
    Calls Tryz.prog 16 #[.int .u8 f, .bool neg, .int .i64 e, v] w fun en w' => en = .returned (.agg #[.int .u64 (hi (makeF f neg e frac)), .int .u64 (lo (makeF f neg e frac))]) ∧ Below w.heap.size w w' := by
  obtain ⟨b1, b2, b3, b4, b5, b6⟩ := fmt_bd f U8.ge hf
  have he0 := hE.ge
  have hwe : IntKind.u64.wrap e = e := by rw [IntKind.wrap_u64]; omega
  have hp1 : IntKind.i64.wrap (precS f - 1) = precS f - 1 := IntWalk.i64_in _ (by omega)
  have hp2 : IntKind.i64.wrap (widthS f - 1) = widthS f - 1 := IntWalk.i64_in _ (by omega)
  have hp3 : IntKind.i64.wrap (widthS f - precS f) = widthS f - precS f := IntWalk.i64_in _ (by omega)
  have hw0 : (widthS f == 0) = false := by rw [beq_eq_false_iff_ne]; omega
  have q1 : decide (e < 0) = false := decide_eq_false (by omega)
  have q2 : decide (e > 1048576) = false := decide_eq_false (by omega)
  have l1 : dl e.toNat ≤ 100000 := dl_of _ 32 (by omega) (by omega)
  have x2 : e.toNat % 2 ^ (widthS f - precS f).toNat < 2 ^ 32 := Nat.lt_of_le_of_lt (Nat.mod_le _ _) (by omega)
  have l2 : dl (e.toNat % 2 ^ (widthS f - precS f).toNat) ≤ 100000 := dl_of _ 32 x2 (by omega)
  have x3 : e.toNat % 2 ^ (widthS f - precS f).toNat * 2 ^ (precS f - 1).toNat < 2 ^ (32 + (precS f - 1).toNat) := by rw [Nat.pow_add]; exact Nat.mul_lt_mul_of_pos_right x2 (Nat.two_pow_pos _)
  have l3 : dl (e.toNat % 2 ^ (widthS f - precS f).toNat * 2 ^ (precS f - 1).toNat) ≤ 100000 := dl_of _ _ x3 (by omega)
  have x4 : frac % 2 ^ (precS f - 1).toNat < 2 ^ (precS f - 1).toNat := Nat.mod_lt _ (Nat.two_pow_pos _)
  have l4 : dl (frac % 2 ^ (precS f - 1).toNat) ≤ 100000 := dl_of _ _ x4 (by omega)
  have x5 : e.toNat % 2 ^ (widthS f - precS f).toNat * 2 ^ (precS f - 1).toNat + frac % 2 ^ (precS f - 1).toNat < 2 ^ (33 + (precS f - 1).toNat) := by
    have := Nat.pow_le_pow_right (n := 2) (by decide) (show (precS f - 1).toNat ≤ 32 + (precS f - 1).toNat by omega)
    rw [show 33 + (precS f - 1).toNat = 32 + (precS f - 1).toNat + 1 by omega, Nat.pow_succ]; omega
  have l5 := dl_of _ _ x5 (by omega)
  have l6 : dl (2 ^ (widthS f - 1).toNat) ≤ 100000 := dl_of _ (widthS f).toNat (Nat.pow_lt_pow_right (by decide) (by omega)) (by omega)
  have hM : makeF f neg e frac = e.toNat % 2 ^ (widthS f - precS f).toNat * 2 ^ (precS f - 1).toNat + frac % 2 ^ (precS f - 1).toNat + (if neg then 2 ^ (widthS f - 1).toNat else 0) := by
    unfold makeF; rw [if_neg (by omega), if_neg (by omega)]
  clear he he0 x2 x3 x4 x5
  rw [hM]
  clear hM
  go_enter Tryz.func16, Tryz.ntmps16
  skip
  skip
  (go_wp2_with fail; refine (ref_Width f _).mono ?_; rintro en _ ⟨rfl, rfl⟩)
  (go_wp2_with fail; refine (num_Of e _).mono ?_; rintro en v1 ⟨⟨u1, rfl, hR_u1⟩, hB_v1⟩; have lay_v1 := laid_after hB_v1; replace hR_v := RN.later hR_v (below_after (by go_grown) hB_v1); obtain ⟨cc1, fcc1⟩ := pf hB_v1 (show World.cell? _ ⟨w.heap.size, 0, none⟩ = some (.int .u64 0) by go_simp) (by go_simp); obtain ⟨cc2, fcc2⟩ := pf hB_v1 (show World.cell? _ ⟨w.heap.size, 1, none⟩ = some (.int .u64 0) by go_simp) (by go_simp); have hs_v1 := hB_v1.size; (try simp only [World.size_alloc, World.size_setCell, World.size_drew] at hs_v1); have hBW : Below w.heap.size w v1 := below_after (w := w) (by go_grown) hB_v1; have hn_v1 := nl cc1; clear hB_v1)
  (go_wp2_with fail; refine (ref_Width f _).mono ?_; rintro en _ ⟨rfl, rfl⟩)
  (go_wp2_with fail; refine (ref_Prec f _).mono ?_; rintro en _ ⟨rfl, rfl⟩)
  (go_wp2_with fail; refine (num_Cut_at e.toNat (widthS f - precS f).toNat _ u1 _ (by omega) hR_u1 l1 (by omega)).mono ?_; rintro en v2 ⟨⟨u2, rfl, hR_u2⟩, hB_v2⟩; have lay_v2 := laid_after hB_v2; replace hR_v := RN.later hR_v (below_after (by go_grown) hB_v2); replace hR_u1 := RN.later hR_u1 (below_after (by go_grown) hB_v2); have hG := cell_grown cc1 (by go_grown) hB_v2; replace fcc1 := fl hG fcc1 cc1; replace cc1 := cl hG cc1; replace fcc2 := fl hG fcc2 cc2; replace cc2 := cl hG cc2; replace hBW := below_after hBW hG; have hs_v2 := hG.size; clear hG; have hn_v2 := nl cc1; clear hB_v2)
  (go_wp2_with fail; refine (ref_Prec f _).mono ?_; rintro en _ ⟨rfl, rfl⟩)
  (go_wp2_with fail; refine (num_Shl_at _ (precS f - 1).toNat _ u2 _ (by omega) hR_u2 l2 (by omega)).mono ?_; rintro en v3 ⟨⟨u3, rfl, hR_u3⟩, hB_v3⟩; have lay_v3 := laid_after hB_v3; replace hR_v := RN.later hR_v (below_after (by go_grown) hB_v3); replace hR_u1 := RN.later hR_u1 (below_after (by go_grown) hB_v3); replace hR_u2 := RN.later hR_u2 (below_after (by go_grown) hB_v3); have hG := cell_grown cc1 (by go_grown) hB_v3; replace fcc1 := fl hG fcc1 cc1; replace cc1 := cl hG cc1; replace fcc2 := fl hG fcc2 cc2; replace cc2 := cl hG cc2; replace hBW := below_after hBW hG; have hs_v3 := hG.size; clear hG; have hn_v3 := nl cc1; clear hB_v3)
  (go_wp2_with fail; refine (ref_Prec f _).mono ?_; rintro en _ ⟨rfl, rfl⟩)
  (go_wp2_with fail; refine (num_Cut_at frac (precS f - 1).toNat _ v _ (by omega) hR_v lf (by omega)).mono ?_; rintro en v4 ⟨⟨u4, rfl, hR_u4⟩, hB_v4⟩; have lay_v4 := laid_after hB_v4; replace hR_v := RN.later hR_v (below_after (by go_grown) hB_v4); replace hR_u1 := RN.later hR_u1 (below_after (by go_grown) hB_v4); replace hR_u2 := RN.later hR_u2 (below_after (by go_grown) hB_v4); replace hR_u3 := RN.later hR_u3 (below_after (by go_grown) hB_v4); have hG := cell_grown cc1 (by go_grown) hB_v4; replace fcc1 := fl hG fcc1 cc1; replace cc1 := cl hG cc1; replace fcc2 := fl hG fcc2 cc2; replace cc2 := cl hG cc2; replace hBW := below_after hBW hG; have hs_v4 := hG.size; clear hG; have hn_v4 := nl cc1; clear hB_v4)
  (go_wp2_with fail; refine (num_Add _ _ u3 u4 _ hR_u3 hR_u4 l3 l4).mono ?_; rintro en v5 ⟨⟨u5, rfl, hR_u5⟩, hB_v5⟩; have lay_v5 := laid_after hB_v5; replace hR_v := RN.later hR_v (below_after (by go_grown) hB_v5); replace hR_u1 := RN.later hR_u1 (below_after (by go_grown) hB_v5); replace hR_u2 := RN.later hR_u2 (below_after (by go_grown) hB_v5); replace hR_u3 := RN.later hR_u3 (below_after (by go_grown) hB_v5); replace hR_u4 := RN.later hR_u4 (below_after (by go_grown) hB_v5); have hG := cell_grown cc1 (by go_grown) hB_v5; replace fcc1 := fl hG fcc1 cc1; replace cc1 := cl hG cc1; replace fcc2 := fl hG fcc2 cc2; replace cc2 := cl hG cc2; replace hBW := below_after hBW hG; have hs_v5 := hG.size; clear hG; have hn_v5 := nl cc1; clear hB_v5)
  skip
  cases neg
  · (go_wp2_with fail; refine (num_Bits _ u5 _ hR_u5).mono ?_; rintro en v8 ⟨rfl, hB_v8⟩; have lay_v8 := laid_after hB_v8; replace hR_v := RN.later hR_v (below_after (by go_grown) hB_v8); replace hR_u1 := RN.later hR_u1 (below_after (by go_grown) hB_v8); replace hR_u2 := RN.later hR_u2 (below_after (by go_grown) hB_v8); replace hR_u3 := RN.later hR_u3 (below_after (by go_grown) hB_v8); replace hR_u4 := RN.later hR_u4 (below_after (by go_grown) hB_v8); replace hR_u5 := RN.later hR_u5 (below_after (by go_grown) hB_v8); have hG := cell_grown cc1 (by go_grown) hB_v8; replace fcc1 := fl hG fcc1 cc1; replace cc1 := cl hG cc1; replace fcc2 := fl hG fcc2 cc2; replace cc2 := cl hG cc2; replace hBW := below_after hBW hG; have hs_v8 := hG.size; clear hG; have hn_v8 := nl cc1; clear hB_v8)
    go_wp2_with fail
    refine bodyPost_ret (by simp [results, Tryz.results16, go_sem, cc1, cc2]; try rfl) rfl ?_
    exact ⟨by simp, by go_grown⟩
  · skip
    (go_wp2_with fail; refine (ref_Width f _).mono ?_; rintro en _ ⟨rfl, rfl⟩)
    (go_wp2_with fail; refine (num_Full_at (widthS f - 1).toNat _ _ (by omega) (by omega)).mono ?_; rintro en v6 ⟨⟨u6, rfl, hR_u6⟩, hB_v6⟩; have lay_v6 := laid_after hB_v6; replace hR_v := RN.later hR_v (below_after (by go_grown) hB_v6); replace hR_u1 := RN.later hR_u1 (below_after (by go_grown) hB_v6); replace hR_u2 := RN.later hR_u2 (below_after (by go_grown) hB_v6); replace hR_u3 := RN.later hR_u3 (below_after (by go_grown) hB_v6); replace hR_u4 := RN.later hR_u4 (below_after (by go_grown) hB_v6); replace hR_u5 := RN.later hR_u5 (below_after (by go_grown) hB_v6); have hG := cell_grown cc1 (by go_grown) hB_v6; replace fcc1 := fl hG fcc1 cc1; replace cc1 := cl hG cc1; replace fcc2 := fl hG fcc2 cc2; replace cc2 := cl hG cc2; replace hBW := below_after hBW hG; have hs_v6 := hG.size; clear hG; have hn_v6 := nl cc1; clear hB_v6)
    (go_wp2_with fail; refine (num_Add _ _ u5 u6 _ hR_u5 hR_u6 l5 l6).mono ?_; rintro en v7 ⟨⟨u7, rfl, hR_u7⟩, hB_v7⟩; have lay_v7 := laid_after hB_v7; replace hR_v := RN.later hR_v (below_after (by go_grown) hB_v7); replace hR_u1 := RN.later hR_u1 (below_after (by go_grown) hB_v7); replace hR_u2 := RN.later hR_u2 (below_after (by go_grown) hB_v7); replace hR_u3 := RN.later hR_u3 (below_after (by go_grown) hB_v7); replace hR_u4 := RN.later hR_u4 (below_after (by go_grown) hB_v7); replace hR_u5 := RN.later hR_u5 (below_after (by go_grown) hB_v7); replace hR_u6 := RN.later hR_u6 (below_after (by go_grown) hB_v7); have hG := cell_grown cc1 (by go_grown) hB_v7; replace fcc1 := fl hG fcc1 cc1; replace cc1 := cl hG cc1; replace fcc2 := fl hG fcc2 cc2; replace cc2 := cl hG cc2; replace hBW := below_after hBW hG; have hs_v7 := hG.size; clear hG; have hn_v7 := nl cc1; clear hB_v7)
    (go_wp2_with fail; refine (num_Bits _ u7 _ hR_u7).mono ?_; rintro en v8 ⟨rfl, hB_v8⟩; have lay_v8 := laid_after hB_v8; replace hR_v := RN.later hR_v (below_after (by go_grown) hB_v8); replace hR_u1 := RN.later hR_u1 (below_after (by go_grown) hB_v8); replace hR_u2 := RN.later hR_u2 (below_after (by go_grown) hB_v8); replace hR_u3 := RN.later hR_u3 (below_after (by go_grown) hB_v8); replace hR_u4 := RN.later hR_u4 (below_after (by go_grown) hB_v8); replace hR_u5 := RN.later hR_u5 (below_after (by go_grown) hB_v8); replace hR_u6 := RN.later hR_u6 (below_after (by go_grown) hB_v8); replace hR_u7 := RN.later hR_u7 (below_after (by go_grown) hB_v8); have hG := cell_grown cc1 (by go_grown) hB_v8; replace fcc1 := fl hG fcc1 cc1; replace cc1 := cl hG cc1; replace fcc2 := fl hG fcc2 cc2; replace cc2 := cl hG cc2; replace hBW := below_after hBW hG; have hs_v8 := hG.size; clear hG; have hn_v8 := nl cc1; clear hB_v8)
    go_wp2_with fail
    refine bodyPost_ret (by simp [results, Tryz.results16, go_sem, cc1, cc2]; try rfl) rfl ?_
    exact ⟨by simp, by go_grown⟩
end Go.Proofs.YtkpjeceofcfnkaaGreatDoor
namespace Go.Proofs.YtkpjeceofcfnkaaGreatDoor
open Go.RowKit Go.Hb
theorem dl_nought : dl 0 ≤ 100000 := by rw [dl_zero]; omega
theorem ref_Make_none (f e : Int) (neg : Bool) (v : Value) [hU : U8 f] (w : World) (hf : 4 ≤ f) :
    Calls Tryz.prog 16 #[.int .u8 f, .bool neg, .int .i64 e, v] w fun en w' => en = .returned (.agg #[.int .u64 (0), .int .u64 (0)]) ∧ Below w.heap.size w w' := by
  have hw := (fmt_none f hf).1
  go_enter Tryz.func16, Tryz.ntmps16
  (go_wp2_with fail; refine (ref_Width f _).mono ?_; rw [hw]; rintro en _ ⟨rfl, rfl⟩)
  go_wp2_with fail
  refine bodyPost_ret (by simp [results, Tryz.results16, go_sem]; try rfl) rfl ?_
  exact ⟨rfl, by go_grown⟩
theorem ref_Inf (f : Int) (neg : Bool) [hU : U8 f] (w : World) [hLay : Laid w] (hf : f < 4) :
    Calls Tryz.prog 37 #[.int .u8 f, .bool neg] w fun en w' => en = .returned (.agg #[.int .u64 (hi (makeF f neg (2 * emaxS f + 1) 0)), .int .u64 (lo (makeF f neg (2 * emaxS f + 1) 0))]) ∧ Below w.heap.size w w' := by
  obtain ⟨m0, m1⟩ := emaxS_bd f
  have hE : U64 (2 * emaxS f + 1) := ⟨by omega, by omega⟩
  have l0 := dl_nought
  have hp1 : IntKind.i64.wrap (2 * emaxS f) = 2 * emaxS f := IntWalk.i64_in _ (by omega)
  have hp2 : IntKind.i64.wrap (2 * emaxS f + 1) = 2 * emaxS f + 1 := IntWalk.i64_in _ (by omega)
  go_enter Tryz.func37, Tryz.ntmps37
  skip
  (go_wp2_with fail; refine (ref_Emax f _).mono ?_; rintro en _ ⟨rfl, rfl⟩)
  (go_wp2_with fail; refine (ref_Make f (2 * emaxS f + 1) neg _ 0 _ hf (by omega) (RN.nil _) l0).mono ?_; rintro en v1 ⟨rfl, hB_v1⟩; have lay_v1 := laid_after hB_v1; obtain ⟨cc1, fcc1⟩ := pf hB_v1 (show World.cell? _ ⟨w.heap.size, 0, none⟩ = some (.int .u64 0) by go_simp) (by go_simp); obtain ⟨cc2, fcc2⟩ := pf hB_v1 (show World.cell? _ ⟨w.heap.size, 1, none⟩ = some (.int .u64 0) by go_simp) (by go_simp); have hs_v1 := hB_v1.size; (try simp only [World.size_alloc, World.size_setCell, World.size_drew] at hs_v1); have hBW : Below w.heap.size w v1 := below_after (w := w) (by go_grown) hB_v1; have hn_v1 := nl cc1; clear hB_v1)
  go_wp2_with fail
  refine bodyPost_ret (by simp [results, Tryz.results37, go_sem, cc1, cc2]; try rfl) rfl ?_
  exact ⟨rfl, by go_grown⟩
theorem ref_Max (f : Int) (neg : Bool) [hU : U8 f] (w : World) [hLay : Laid w] (hf : f < 4) :
    Calls Tryz.prog 122 #[.int .u8 f, .bool neg] w fun en w' => en = .returned (.agg #[.int .u64 (hi (makeF f neg (2 * emaxS f) (2 ^ (precS f - 1).toNat - 1))), .int .u64 (lo (makeF f neg (2 * emaxS f) (2 ^ (precS f - 1).toNat - 1)))]) ∧ Below w.heap.size w w' := by
  obtain ⟨m0, m1⟩ := emaxS_bd f
  obtain ⟨b1, b2, b3, b4, b5, b6⟩ := fmt_bd f U8.ge hf
  have hw0 : (widthS f == 0) = false := by rw [beq_eq_false_iff_ne]; omega
  have hE : U64 (2 * emaxS f) := ⟨by omega, by omega⟩
  have hp1 : IntKind.i64.wrap (2 * emaxS f) = 2 * emaxS f := IntWalk.i64_in _ (by omega)
  have hp2 : IntKind.i64.wrap (precS f - 1) = precS f - 1 := IntWalk.i64_in _ (by omega)
  have l6 : dl (2 ^ (precS f - 1).toNat) ≤ 100000 := dl_of _ (precS f).toNat (Nat.pow_lt_pow_right (by decide) (by omega)) (by omega)
  have h1 : 1 ≤ 2 ^ (precS f - 1).toNat := Nat.two_pow_pos _
  have l7 : dl (2 ^ (precS f - 1).toNat - 1) ≤ 100000 := Nat.le_trans (dl_mono (Nat.sub_le _ _)) l6
  go_enter Tryz.func122, Tryz.ntmps122
  skip
  (go_wp2_with fail; refine (ref_Width f _).mono ?_; rintro en _ ⟨rfl, rfl⟩)
  (go_wp2_with fail; refine (ref_Emax f _).mono ?_; rintro en _ ⟨rfl, rfl⟩)
  (go_wp2_with fail; refine (ref_Prec f _).mono ?_; rintro en _ ⟨rfl, rfl⟩)
  (go_wp2_with fail; refine (num_Full_at (precS f - 1).toNat _ _ (by omega) (by omega)).mono ?_; rintro en v1 ⟨⟨u1, rfl, hR_u1⟩, hB_v1⟩; have lay_v1 := laid_after hB_v1; obtain ⟨cc1, fcc1⟩ := pf hB_v1 (show World.cell? _ ⟨w.heap.size, 0, none⟩ = some (.int .u64 0) by go_simp) (by go_simp); obtain ⟨cc2, fcc2⟩ := pf hB_v1 (show World.cell? _ ⟨w.heap.size, 1, none⟩ = some (.int .u64 0) by go_simp) (by go_simp); have hs_v1 := hB_v1.size; (try simp only [World.size_alloc, World.size_setCell, World.size_drew] at hs_v1); have hBW : Below w.heap.size w v1 := below_after (w := w) (by go_grown) hB_v1; have hn_v1 := nl cc1; clear hB_v1)
  (go_wp2_with fail; refine (num_Of 1 _).mono ?_; rintro en v2 ⟨⟨u2, rfl, hR_u2⟩, hB_v2⟩; have lay_v2 := laid_after hB_v2; replace hR_u1 := RN.later hR_u1 (below_after (by go_grown) hB_v2); have hG := cell_grown cc1 (by go_grown) hB_v2; replace fcc1 := fl hG fcc1 cc1; replace cc1 := cl hG cc1; replace fcc2 := fl hG fcc2 cc2; replace cc2 := cl hG cc2; replace hBW := below_after hBW hG; have hs_v2 := hG.size; clear hG; have hn_v2 := nl cc1; clear hB_v2)
  (go_wp2_with fail; refine (num_Sub _ _ u1 u2 _ hR_u1 hR_u2 l6 h1).mono ?_; rintro en v3 ⟨⟨u3, rfl, hR_u3⟩, hB_v3⟩; have lay_v3 := laid_after hB_v3; replace hR_u1 := RN.later hR_u1 (below_after (by go_grown) hB_v3); replace hR_u2 := RN.later hR_u2 (below_after (by go_grown) hB_v3); have hG := cell_grown cc1 (by go_grown) hB_v3; replace fcc1 := fl hG fcc1 cc1; replace cc1 := cl hG cc1; replace fcc2 := fl hG fcc2 cc2; replace cc2 := cl hG cc2; replace hBW := below_after hBW hG; have hs_v3 := hG.size; clear hG; have hn_v3 := nl cc1; clear hB_v3)
  (go_wp2_with fail; refine (ref_Make f (2 * emaxS f) neg _ _ _ hf (by omega) hR_u3 l7).mono ?_; rintro en v4 ⟨rfl, hB_v4⟩; have lay_v4 := laid_after hB_v4; replace hR_u1 := RN.later hR_u1 (below_after (by go_grown) hB_v4); replace hR_u2 := RN.later hR_u2 (below_after (by go_grown) hB_v4); replace hR_u3 := RN.later hR_u3 (below_after (by go_grown) hB_v4); have hG := cell_grown cc1 (by go_grown) hB_v4; replace fcc1 := fl hG fcc1 cc1; replace cc1 := cl hG cc1; replace fcc2 := fl hG fcc2 cc2; replace cc2 := cl hG cc2; replace hBW := below_after hBW hG; have hs_v4 := hG.size; clear hG; have hn_v4 := nl cc1; clear hB_v4)
  go_wp2_with fail
  refine bodyPost_ret (by simp [results, Tryz.results122, go_sem, cc1, cc2]; try rfl) rfl ?_
  exact ⟨by simp, by go_grown⟩
theorem ref_Infinite (m : Int) (neg : Bool) (w : World) (m0 : 0 ≤ m) (m1 : m ≤ 4) :
    Calls Tryz.prog 123 #[.int .u8 m, .bool neg] w fun en w' => en = .returned (.bool (nextS m neg true 3)) ∧ w = w' := by
  have : m = 0 ∨ m = 1 ∨ m = 2 ∨ m = 3 ∨ m = 4 := by omega
  rcases this with rfl | rfl | rfl | rfl | rfl <;> cases neg
  all_goals (go_enter Tryz.func123, Tryz.ntmps123; go_wp2_with fail; go_returns; exact ⟨rfl, by first | rfl | trivial⟩)
theorem max_same (f : Int) (neg : Bool) (h0 : 0 ≤ f) (hf : f < 4) : makeF f neg (2 * emaxS f) (2 ^ (precS f - 1).toNat - 1) = makeF f neg (2 * emaxS f) (cat 18446744073709551615 18446744073709551615) := by
  obtain ⟨b1, b2, b3, b4, b5, b6⟩ := fmt_bd f h0 hf
  have e : cat 18446744073709551615 18446744073709551615 = 2 ^ 128 - 1 := by decide
  have e2 : (2 ^ (precS f - 1).toNat - 1) % 2 ^ (precS f - 1).toNat = 2 ^ (precS f - 1).toNat - 1 := Nat.mod_eq_of_lt (Nat.sub_lt (Nat.two_pow_pos _) (by decide))
  rw [e]
  unfold makeF
  rw [ones_mod _ (by omega), e2]
theorem ref_Over_in (f m : Int) (neg : Bool) [hU : U8 f] (w : World) [hLay : Laid w] (hf : f < 4) (m0 : 0 ≤ m) (m1 : m ≤ 4) :
    Calls Tryz.prog 84 #[.int .u8 f, .int .u8 m, .bool neg] w fun en w' => en = .returned (.agg #[.int .u64 (hi (overB f m neg)), .int .u64 (lo (overB f m neg)), .int .u8 20]) ∧ Below w.heap.size w w' := by
  have hms := max_same f neg U8.ge hf
  have q1 : decide (f > 3) = false := decide_eq_false (by omega)
  have q2 : decide (m > 4) = false := decide_eq_false (by omega)
  have hX : ∃ X0 X1 : Int, hi (makeF f neg (2 * emaxS f) (cat 18446744073709551615 18446744073709551615)) = X0 ∧ lo (makeF f neg (2 * emaxS f) (cat 18446744073709551615 18446744073709551615)) = X1 := ⟨_, _, rfl, rfl⟩
  obtain ⟨X0, X1, hX0, hX1⟩ := hX
  have hY : ∃ Y0 Y1 : Int, hi (makeF f neg (2 * emaxS f + 1) 0) = Y0 ∧ lo (makeF f neg (2 * emaxS f + 1) 0) = Y1 := ⟨_, _, rfl, rfl⟩
  obtain ⟨Y0, Y1, hY0, hY1⟩ := hY
  have hX0 := Lib.hid hX0
  have hX1 := Lib.hid hX1
  have hY0 := Lib.hid hY0
  have hY1 := Lib.hid hY1
  have hms := Lib.hid hms
  unfold overB
  by_cases hn : nextS m neg true 3 = true
  · rw [if_pos hn, hY0.out, hY1.out]
    go_enter Tryz.func84, Tryz.ntmps84
    skip
    (go_wp2_with fail; refine (ref_Max f neg _ hf).mono ?_; rw [hms.out, hX0.out, hX1.out]; rintro en v1 ⟨rfl, hB_v1⟩; have lay_v1 := laid_after hB_v1; obtain ⟨cc1, fcc1⟩ := pf hB_v1 (show World.cell? _ ⟨w.heap.size, 0, none⟩ = some (.int .u64 0) by go_simp) (by go_simp); obtain ⟨cc2, fcc2⟩ := pf hB_v1 (show World.cell? _ ⟨w.heap.size, 1, none⟩ = some (.int .u64 0) by go_simp) (by go_simp); obtain ⟨cc3, fcc3⟩ := pf hB_v1 (show World.cell? _ ⟨w.heap.size, 2, none⟩ = some (.int .u8 0) by go_simp) (by go_simp); have hs_v1 := hB_v1.size; (try simp only [World.size_alloc, World.size_setCell, World.size_drew] at hs_v1); have hBW : Below w.heap.size w v1 := below_after (w := w) (by go_grown) hB_v1; have hn_v1 := nl cc1; clear hB_v1)
    (go_wp2_with fail; refine (ref_Infinite m neg _ m0 m1).mono ?_; rintro en _ ⟨rfl, rfl⟩)
    (go_wp2_with fail; refine (ref_Inf f neg _ hf).mono ?_; rw [hY0.out, hY1.out]; rintro en v2 ⟨rfl, hB_v2⟩; have lay_v2 := laid_after hB_v2; have hG := cell_grown cc1 (by go_grown) hB_v2; replace fcc1 := fl hG fcc1 cc1; replace cc1 := cl hG cc1; replace fcc2 := fl hG fcc2 cc2; replace cc2 := cl hG cc2; replace fcc3 := fl hG fcc3 cc3; replace cc3 := cl hG cc3; obtain ⟨cc4, fcc4⟩ := pf hB_v2 (show World.cell? _ ⟨v1.heap.size, 0, none⟩ = some (.int .u64 X0) by go_simp) (by go_simp); obtain ⟨cc5, fcc5⟩ := pf hB_v2 (show World.cell? _ ⟨v1.heap.size, 1, none⟩ = some (.int .u64 X1) by go_simp) (by go_simp); replace hBW := below_after hBW hG; have hs_v2 := hG.size; clear hG; have hn_v2 := an (nl cc1) (nl cc4); clear hB_v2)
    go_wp2_with fail
    refine bodyPost_ret (by simp [results, Tryz.results84, go_sem, cc1, cc2, cc3]; try rfl) rfl ?_
    exact ⟨rfl, by go_grown⟩
  · have hn : nextS m neg true 3 = false := by simpa using hn
    rw [if_neg (by simp [hn]), hX0.out, hX1.out]
    go_enter Tryz.func84, Tryz.ntmps84
    skip
    (go_wp2_with fail; refine (ref_Max f neg _ hf).mono ?_; rw [hms.out, hX0.out, hX1.out]; rintro en v1 ⟨rfl, hB_v1⟩; have lay_v1 := laid_after hB_v1; obtain ⟨cc1, fcc1⟩ := pf hB_v1 (show World.cell? _ ⟨w.heap.size, 0, none⟩ = some (.int .u64 0) by go_simp) (by go_simp); obtain ⟨cc2, fcc2⟩ := pf hB_v1 (show World.cell? _ ⟨w.heap.size, 1, none⟩ = some (.int .u64 0) by go_simp) (by go_simp); obtain ⟨cc3, fcc3⟩ := pf hB_v1 (show World.cell? _ ⟨w.heap.size, 2, none⟩ = some (.int .u8 0) by go_simp) (by go_simp); have hs_v1 := hB_v1.size; (try simp only [World.size_alloc, World.size_setCell, World.size_drew] at hs_v1); have hBW : Below w.heap.size w v1 := below_after (w := w) (by go_grown) hB_v1; have hn_v1 := nl cc1; clear hB_v1)
    (go_wp2_with fail; refine (ref_Infinite m neg _ m0 m1).mono ?_; rintro en _ ⟨rfl, rfl⟩)
    go_upto_region 6 with fail
    ((first | refine wp_rename ?_ | refine goal_rename ?_); intro W6 hw_W6; have hG := named cc1 W6 (by rw [hw_W6]; first | with_reducible exact drewN_below (Below.refl _ _) _ | go_grown); replace fcc1 := fl hG fcc1 cc1; replace cc1 := cl hG cc1; replace fcc2 := fl hG fcc2 cc2; replace cc2 := cl hG cc2; replace fcc3 := fl hG fcc3 cc3; replace cc3 := cl hG cc3; have cc4 : W6.cell? ⟨v1.heap.size, 0, none⟩ = some (.int .u64 X0) := (by rw [hw_W6]; go_simp); have fcc4 : W6.frozen? ⟨v1.heap.size, 0, none⟩ = false := (by rw [hw_W6]; go_simp); have cc5 : W6.cell? ⟨v1.heap.size, 1, none⟩ = some (.int .u64 X1) := (by rw [hw_W6]; go_simp); have fcc5 : W6.frozen? ⟨v1.heap.size, 1, none⟩ = false := (by rw [hw_W6]; go_simp); replace hBW := below_after hBW hG; have hs_W6 := hG.size; clear hG; have hn_W6 := an (nl cc1) (nl cc4); have lay_W6 : Laid W6 := Laid.below (w := w) (by assumption) hBW; clear hw_W6)
    go_wp2_with fail
    refine bodyPost_ret (by simp [results, Tryz.results84, go_sem, cc1, cc2, cc3]; try rfl) rfl ?_
    exact ⟨rfl, by go_grown⟩
end Go.Proofs.YtkpjeceofcfnkaaGreatDoor
namespace Go.Proofs.YtkpjeceofcfnkaaGreatDoor
open Go.RowKit Go.Hb
theorem ref_Over (f m : Int) (neg : Bool) [hU : U8 f] [hM : U8 m] (w : World) [hLay : Laid w] :
    Calls Tryz.prog 84 #[.int .u8 f, .int .u8 m, .bool neg] w fun en w' => en = .returned (.agg #[.int .u64 (hi (overO f m neg)), .int .u64 (lo (overO f m neg)), .int .u8 (overFl f m)]) ∧ Below w.heap.size w w' := by
  by_cases hk : f < 4 ∧ m ≤ 4
  · have h1 : overO f m neg = overB f m neg := by unfold overO; rw [if_pos hk]
    have h2 : overFl f m = 20 := by unfold overFl; rw [if_pos hk]
    rw [h1, h2]
    exact ref_Over_in f m neg w hk.1 hM.ge hk.2
  · have h1 : overO f m neg = 0 := by unfold overO; rw [if_neg hk]
    have h2 : overFl f m = 0 := by unfold overFl; rw [if_neg hk]
    have h3 : hi 0 = 0 := rfl
    have h4 : lo 0 = 0 := rfl
    rw [h1, h2, h3, h4]
    by_cases hf : f < 4
    · have q1 : decide (f > 3) = false := decide_eq_false (by omega)
      have q2 : decide (m > 4) = true := decide_eq_true (by omega)
      go_enter Tryz.func84, Tryz.ntmps84
      go_wp2_with fail
      refine bodyPost_ret (by simp [results, Tryz.results84, go_sem]; try rfl) rfl ?_
      exact ⟨rfl, by go_grown⟩
    · have q1 : decide (f > 3) = true := decide_eq_true (by omega)
      go_enter Tryz.func84, Tryz.ntmps84
      go_wp2_with fail
      refine bodyPost_ret (by simp [results, Tryz.results84, go_sem]; try rfl) rfl ?_
      exact ⟨rfl, by go_grown⟩
theorem makeF_none (f e : Int) (neg : Bool) (x : Nat) (h : 4 ≤ f) : makeF f neg e x = 0 := by unfold makeF; rw [if_pos h]
end Go.Proofs.YtkpjeceofcfnkaaGreatDoor
namespace Go.Proofs.YtkpjeceofcfnkaaGreatDoor
open Go.RowKit Go.Hb
/-- A number Q by 2^n: its floor, what is left, and the rounded one. -/
def floorR (q : Nat) (n : Int) : Nat := if n ≤ 0 then q * 2 ^ (-n).toNat else q / 2 ^ n.toNat
def restR (q : Nat) (n : Int) : Int := if n ≤ 0 then 0 else restN q n.toNat
def cutR (m : Int) (neg : Bool) (q : Nat) (n : Int) : Nat := floorR q n + (if nextS m neg (floorR q n % 2 == 1) (restR q n) then 1 else 0)
theorem restG_scale (d g s : Nat) (hs : 0 < s) : restG (d * s) (g * s) = restG d g := by
  unfold restG
  have h1 : d * s = 0 ↔ d = 0 := by rw [Nat.mul_eq_zero]; omega
  have h2 : 2 * (d * s) < g * s ↔ 2 * d < g := by rw [← Nat.mul_assoc]; exact Nat.mul_lt_mul_right hs
  have h3 : 2 * (d * s) = g * s ↔ 2 * d = g := by rw [← Nat.mul_assoc]; exact Nat.mul_left_inj (by omega)
  simp only [h1, h2, h3]
theorem cut_unit (Q t : Nat) (E K unit : Int) (h0 : 0 ≤ E + K) (ht : unit + K = t) : Q * 2 ^ (E + K).toNat / 2 ^ t = floorR Q (unit - E) ∧ restN (Q * 2 ^ (E + K).toNat) t = restR Q (unit - E) := by
  unfold floorR restR
  by_cases h : unit - E ≤ 0
  · have e : (E + K).toNat = (-(unit - E)).toNat + t := by omega
    rw [if_pos h, if_pos h, e, Nat.pow_add, ← Nat.mul_assoc, Nat.mul_div_cancel _ (Nat.two_pow_pos _), restN_G, Nat.mul_mod_left]
    exact ⟨rfl, by simp [restG]⟩
  · have e : t = (E + K).toNat + (unit - E).toNat := by omega
    rw [if_neg h, if_neg h, restN_G, restN_G]
    generalize (unit - E).toNat = b at *
    subst e
    generalize (E + K).toNat = a at *
    have hp := Nat.two_pow_pos a
    rw [Nat.pow_add, ← Nat.div_div_eq_div_mul, Nat.mul_div_cancel _ hp, Nat.mul_comm (2 ^ a) (2 ^ b), Nat.mul_mod_mul_right, restG_scale _ _ _ hp]
    exact ⟨rfl, rfl⟩
theorem code_cut (p B : Nat) (m : Int) (neg : Bool) (Q : Nat) (E K unit : Int) (hp : 2 ≤ p) (h0 : 0 ≤ E + K) (ht : unit + K = cutAt p B (Q * 2 ^ (E + K).toNat)) :
    codeX p B m neg (Q * 2 ^ (E + K).toNat) = (cutAt p B (Q * 2 ^ (E + K).toNat) - B) * 2 ^ (p - 1) + cutR m neg Q (unit - E) ∧ restC p B (Q * 2 ^ (E + K).toNat) = restR Q (unit - E) ∧
    cutR m neg Q (unit - E) ≤ 2 * 2 ^ (p - 1) ∧ (cutAt p B (Q * 2 ^ (E + K).toNat) = B ∨ 2 ^ (p - 1) ≤ cutR m neg Q (unit - E)) := by
  obtain ⟨c1, c2⟩ := cut_unit Q _ E K unit h0 ht
  obtain ⟨b1, b2, b3⟩ := cut_bd p B (Q * 2 ^ (E + K).toNat) (by omega)
  rw [c1] at b2 b3
  refine ⟨?_, by rw [restC_N p B _ (by omega), c2], ?_, ?_⟩
  · unfold codeX
    rw [floorC_odd p B _ hp, restC_N p B _ (by omega), c1, c2]
    unfold floorC cutR
    rw [c1, Nat.add_assoc]
  · unfold cutR; split <;> omega
  · unfold cutR; split <;> omega
/-- The reference's answer. -/
def ownR (f m : Int) (neg : Bool) (Q : Nat) (E : Int) : Int := blen (cutR m neg Q (blen Q - precS f)) + blen Q - 1 + E - precS f
def unitR (f : Int) (Q : Nat) (E : Int) : Int := max (blen Q - 1 + E) (leastS f) - (precS f - 1)
def lowR (f m : Int) (neg : Bool) (Q : Nat) (E : Int) : Nat := cutR m neg Q (unitR f Q E - E)
def tinyR (f m : Int) (aft neg : Bool) (Q : Nat) (E : Int) : Bool := if aft then decide (ownR f m neg Q E < leastS f) else decide ((blen Q : Int) - 1 + E < leastS f)
def refB (f m : Int) (neg : Bool) (Q : Nat) (E : Int) : Nat :=
  if Q = 0 then makeF f neg 0 0 else if emaxS f < ownR f m neg Q E then overB f m neg else
    if (blen (lowR f m neg Q E) : Int) < precS f then makeF f neg 0 (lowR f m neg Q E) else
      makeF f neg (blen (lowR f m neg Q E) + unitR f Q E - leastS f) (lowR f m neg Q E / 2 ^ (blen (lowR f m neg Q E) - precS f).toNat)
def refFl (f m : Int) (aft neg : Bool) (Q : Nat) (E : Int) : Int :=
  if Q = 0 then 0 else if emaxS f < ownR f m neg Q E then 20 else flagsS (restR Q (unitR f Q E - E) != 0) (tinyR f m aft neg Q E)
theorem blen_full (p n : Nat) (hp : 1 ≤ p) (h1 : 2 ^ (p - 1) ≤ n) (h2 : n ≤ 2 * 2 ^ (p - 1)) : (n < 2 * 2 ^ (p - 1) ∧ blen n = p) ∨ (n = 2 * 2 ^ (p - 1) ∧ blen n = p + 1) := by
  have e : 2 * 2 ^ (p - 1) = 2 ^ p := by rw [← Nat.pow_succ']; congr 1; omega
  by_cases h : n = 2 * 2 ^ (p - 1)
  · right
    refine ⟨h, ?_⟩
    apply blen_unique
    · rw [h, e]; exact Nat.pow_lt_pow_right (by decide) (by omega)
    · right; rw [h, e]; exact Nat.le_refl _
  · left
    refine ⟨by omega, ?_⟩
    apply blen_unique
    · rw [← e]; omega
    · exact Or.inr h1
theorem cut_is (X Q : Nat) (E K : Int) (hQ : Q ≠ 0) (h0 : 0 ≤ E + K) (hX : X = Q * 2 ^ (E + K).toNat) : (blen X : Int) = blen Q + (E + K) := by
  rw [hX, blen_up _ _ hQ]; omega
/-- How far a rounded number reaches, by its free code. -/
theorem own_code (f m : Int) (neg : Bool) (Q : Nat) (E K : Int) (hf0 : 0 ≤ f) (hf : f < 4) (hQ : Q ≠ 0) (h0 : 0 ≤ E + K) (hK : precS f ≤ E + K) (T : Nat) :
    ownR f m neg Q E + K + 1 - precS f < T ↔ codeX (precS f).toNat 0 m neg (Q * 2 ^ (E + K).toNat) < (T + 1) * 2 ^ ((precS f).toNat - 1) := by
  obtain ⟨f1, f2, f3, f4, f5, f6⟩ := fmt_bd f hf0 hf
  have hb := cut_is _ Q E K hQ h0 rfl
  have hq := blen_ne Q hQ
  have hc : (cutAt (precS f).toNat 0 (Q * 2 ^ (E + K).toNat) : Int) = blen Q + (E + K) - precS f := by unfold cutAt; omega
  have hu : (blen Q : Int) - precS f = (blen Q + E - precS f) - E := by omega
  obtain ⟨c1, _, c3, c4⟩ := code_cut (precS f).toNat 0 m neg Q E K (blen Q + E - precS f) (by omega) h0 (by omega)
  rw [← hu] at c1 c3 c4
  have hn : 2 ^ ((precS f).toNat - 1) ≤ cutR m neg Q (blen Q - precS f) := by
    rcases c4 with c4 | c4
    · omega
    · exact c4
  unfold ownR
  rw [c1]
  generalize cutR m neg Q (blen Q - precS f) = n at *
  have hcn : cutAt (precS f).toNat 0 (Q * 2 ^ (E + K).toNat) - 0 = (blen Q + (E + K) - precS f).toNat := by omega
  rw [hcn]
  generalize hs : (blen Q + (E + K) - precS f).toNat = s at *
  have hp := Nat.two_pow_pos ((precS f).toNat - 1)
  rcases blen_full (precS f).toNat n (by omega) hn c3 with ⟨g1, g2⟩ | ⟨g1, g2⟩
  · have e1 : (blen n : Int) = precS f := by omega
    generalize 2 ^ ((precS f).toNat - 1) = u at *
    rw [e1]
    have e2 : s * u + n < (T + 1) * u ↔ s < T := by
      constructor
      · intro h
        have h3 : (s + 1) * u < (T + 1) * u := by rw [Nat.succ_mul]; omega
        exact Nat.succ_lt_succ_iff.1 (Nat.lt_of_mul_lt_mul_right h3)
      · intro h
        have h3 : (s + 2) * u ≤ (T + 1) * u := Nat.mul_le_mul_right _ (by omega)
        have h4 : (s + 2) * u = s * u + 2 * u := Nat.add_mul _ _ _
        omega
    rw [e2]; omega
  · have e1 : (blen n : Int) = precS f + 1 := by omega
    rw [e1, g1]
    generalize 2 ^ ((precS f).toNat - 1) = u at *
    have e2 : s * u + 2 * u < (T + 1) * u ↔ s + 1 < T := by
      rw [← Nat.add_mul]
      constructor
      · intro h; have := Nat.lt_of_mul_lt_mul_right h; omega
      · intro h; exact Nat.mul_lt_mul_of_pos_right (by omega) hp
    rw [e2]; omega
theorem code_free (p B : Nat) (m : Int) (neg : Bool) (X : Nat) (hp : 2 ≤ p) (h : B + p ≤ blen X) : codeX p 0 m neg X = codeX p B m neg X + B * 2 ^ (p - 1) := by
  have h1 : cutAt p 0 X = cutAt p B X := by unfold cutAt; omega
  have h2 : cutAt p 0 X - 0 = cutAt p B X - B + B := by unfold cutAt; omega
  unfold codeX
  rw [floorC_odd p 0 _ hp, floorC_odd p B _ hp, restC_N p 0 _ (by omega), restC_N p B _ (by omega), h1]
  unfold floorC
  rw [h2, h1, Nat.add_mul]; omega
theorem code_few (p B : Nat) (m : Int) (neg : Bool) (X : Nat) (hp : 2 ≤ p) (h : blen X < B + p) : codeX p B m neg X ≤ 2 * 2 ^ (p - 1) := by
  have h1 : cutAt p B X = B := by unfold cutAt; omega
  obtain ⟨b1, b2, b3⟩ := cut_bd p B X (by omega)
  unfold codeX floorC
  rw [h1] at *
  rw [Nat.sub_self, Nat.zero_mul]
  split <;> omega
theorem code_free_few (p B : Nat) (m : Int) (neg : Bool) (X : Nat) (hp : 2 ≤ p) (h : blen X < B + p) : codeX p 0 m neg X ≤ (B + 1) * 2 ^ (p - 1) := by
  obtain ⟨b1, b2, b3⟩ := cut_bd p 0 X (by omega)
  by_cases h0 : blen X ≤ p
  · have h1 : cutAt p 0 X = 0 := by unfold cutAt; omega
    by_cases hB : B = 0
    · subst hB
      have hx : X < 2 ^ (p - 1) := Nat.lt_of_lt_of_le (blen_lt X) (Nat.pow_le_pow_right (by decide) (by omega))
      unfold codeX
      rw [restC_N p 0 _ (by omega)]
      unfold floorC
      rw [h1, Nat.pow_zero, Nat.div_one]
      split <;> omega
    · have h3 : 2 * 2 ^ (p - 1) ≤ (B + 1) * 2 ^ (p - 1) := Nat.mul_le_mul_right _ (by omega)
      have h4 : codeX p 0 m neg X ≤ 2 * 2 ^ (p - 1) := by
        rw [h1] at b2
        unfold codeX floorC
        rw [h1, Nat.sub_self, Nat.zero_mul]
        split <;> omega
      omega
  · have h1 : cutAt p 0 X = blen X - p := by unfold cutAt; omega
    have h3 : (blen X - p + 2) * 2 ^ (p - 1) ≤ (B + 1) * 2 ^ (p - 1) := Nat.mul_le_mul_right _ (by omega)
    have h4 : codeX p 0 m neg X ≤ (blen X - p) * 2 ^ (p - 1) + 2 * 2 ^ (p - 1) := by
      rw [h1] at b2
      unfold codeX floorC
      rw [h1, Nat.sub_zero]
      generalize (blen X - p) * 2 ^ (p - 1) = y at *
      split <;> omega
    rw [Nat.add_mul] at h3
    omega
theorem ref_over (f m : Int) (neg : Bool) (Q : Nat) (E K : Int) (hf0 : 0 ≤ f) (hf : f < 4) (hQ : Q ≠ 0) (h0 : 0 ≤ E + K) (hK : 20000 ≤ K) (hK2 : precS f ≤ E + K) :
    emaxS f < ownR f m neg Q E ↔ infC f ≤ codeX (precS f).toNat (unitB f (K - 255)) m neg (Q * 2 ^ (E + K).toNat) := by
  obtain ⟨f1, f2, f3, f4, f5, f6⟩ := fmt_bd f hf0 hf
  obtain ⟨x1, x2⟩ := fmt_ex f hf0 hf
  obtain ⟨m0, m1⟩ := emaxS_bd f
  have hB : (unitB f (K - 255) : Int) = 1 - emaxS f - precS f + 1 + K := by unfold unitB leastS; omega
  have ho := own_code f m neg Q E K hf0 hf hQ h0 hK2 (emaxS f + 2 - precS f + K).toNat
  have hu := Nat.two_pow_pos ((precS f).toNat - 1)
  have hi : infC f = (2 * emaxS f + 1).toNat * 2 ^ ((precS f).toNat - 1) := by unfold infC; congr 2; omega
  rw [hi]
  generalize hX : Q * 2 ^ (E + K).toNat = X at *
  by_cases hb : unitB f (K - 255) + (precS f).toNat ≤ blen X
  · have e := code_free (precS f).toNat (unitB f (K - 255)) m neg X (by omega) hb
    have e2 : ((emaxS f + 2 - precS f + K).toNat + 1) * 2 ^ ((precS f).toNat - 1) = (2 * emaxS f + 1).toNat * 2 ^ ((precS f).toNat - 1) + unitB f (K - 255) * 2 ^ ((precS f).toNat - 1) := by rw [← Nat.add_mul]; congr 1; omega
    rw [e, e2] at ho
    omega
  · have c1 := code_few (precS f).toNat (unitB f (K - 255)) m neg X (by omega) (by omega)
    have c2 := code_free_few (precS f).toNat (unitB f (K - 255)) m neg X (by omega) (by omega)
    have e1 : 3 * 2 ^ ((precS f).toNat - 1) ≤ (2 * emaxS f + 1).toNat * 2 ^ ((precS f).toNat - 1) := Nat.mul_le_mul_right _ (by omega)
    have e2 : (unitB f (K - 255) + 1 + 1) * 2 ^ ((precS f).toNat - 1) ≤ ((emaxS f + 2 - precS f + K).toNat + 1) * 2 ^ ((precS f).toNat - 1) := Nat.mul_le_mul_right _ (by omega)
    rw [Nat.succ_mul] at e2
    have := ho.2 (by omega)
    omega
theorem unit_cut (f : Int) (Q : Nat) (E K : Int) (hf0 : 0 ≤ f) (hf : f < 4) (hQ : Q ≠ 0) (h0 : 0 ≤ E + K) (hK : 20000 ≤ K) : unitR f Q E + K = cutAt (precS f).toNat (unitB f (K - 255)) (Q * 2 ^ (E + K).toNat) := by
  obtain ⟨f1, f2, f3, f4, f5, f6⟩ := fmt_bd f hf0 hf
  obtain ⟨m0, m1⟩ := emaxS_bd f
  have hb := cut_is _ Q E K hQ h0 rfl
  have hB : (unitB f (K - 255) : Int) = 1 - emaxS f - precS f + 1 + K := by unfold unitB leastS; omega
  unfold unitR cutAt leastS
  omega
theorem ref_code (f m : Int) (neg : Bool) (Q : Nat) (E K : Int) (hf0 : 0 ≤ f) (hf : f < 4) (hQ : Q ≠ 0) (h0 : 0 ≤ E + K) (hK : 20000 ≤ K) (hK2 : precS f ≤ E + K) :
    refB f m neg Q E = endC f m neg (codeX (precS f).toNat (unitB f (K - 255)) m neg (Q * 2 ^ (E + K).toNat)) + signN f neg := by
  obtain ⟨f1, f2, f3, f4, f5, f6⟩ := fmt_bd f hf0 hf
  obtain ⟨x1, x2⟩ := fmt_ex f hf0 hf
  obtain ⟨m0, m1⟩ := emaxS_bd f
  have hB : (unitB f (K - 255) : Int) = 1 - emaxS f - precS f + 1 + K := by unfold unitB leastS; omega
  have ho := ref_over f m neg Q E K hf0 hf hQ h0 hK hK2
  have hu := unit_cut f Q E K hf0 hf hQ h0 hK
  obtain ⟨c1, c2, c3, c4⟩ := code_cut (precS f).toNat (unitB f (K - 255)) m neg Q E K (unitR f Q E) (by omega) h0 hu
  have hi : infC f = (2 * emaxS f + 1).toNat * 2 ^ ((precS f).toNat - 1) := by unfold infC; congr 2; omega
  have hl : cutR m neg Q (unitR f Q E - E) = lowR f m neg Q E := rfl
  rw [hl] at c1 c3 c4
  have hcb : unitB f (K - 255) ≤ cutAt (precS f).toNat (unitB f (K - 255)) (Q * 2 ^ (E + K).toNat) := Nat.le_max_right _ _
  unfold refB endC
  rw [if_neg hQ]
  by_cases hov : emaxS f < ownR f m neg Q E
  · rw [if_pos hov, if_pos (ho.1 hov), overB_c f m neg hf0 hf]
  · have hno := fun h => hov (ho.2 h)
    rw [if_neg hov, if_neg hno]
    rw [c1, hi] at hno
    rw [c1]
    have hlo : leastS f = 1 - emaxS f := rfl
    generalize cutAt (precS f).toNat (unitB f (K - 255)) (Q * 2 ^ (E + K).toNat) = t at *
    generalize lowR f m neg Q E = n at *
    have hp1 : (precS f - 1).toNat = (precS f).toNat - 1 := by omega
    have hup := Nat.two_pow_pos ((precS f).toNat - 1)
    have hfew : ∀ s : Nat, ¬ (2 * emaxS f + 1).toNat * 2 ^ ((precS f).toNat - 1) ≤ s * 2 ^ ((precS f).toNat - 1) → (s : Int) < 2 * emaxS f + 1 := fun s h => by
      have : s < (2 * emaxS f + 1).toNat := Nat.lt_of_not_le fun h' => h (Nat.mul_le_mul_right _ h')
      omega
    by_cases hn : n < 2 ^ ((precS f).toNat - 1)
    · have hbn : blen n ≤ (precS f).toNat - 1 := by
        by_cases hz : n = 0
        · rw [hz, blen_zero]; exact Nat.zero_le _
        · have h1 := blen_le n hz
          have := (Nat.pow_lt_pow_iff_right (a := 2) (by decide)).1 (Nat.lt_of_le_of_lt h1 hn)
          omega
      have ht : t = unitB f (K - 255) := by rcases c4 with h | h <;> omega
      rw [if_pos (by omega), makeF_c f 0 neg n hf0 hf (by omega) (by omega), hp1, Nat.mod_eq_of_lt hn, ht, Nat.sub_self]
      simp
    · rcases blen_full (precS f).toNat n (by omega) (by omega) c3 with ⟨g1, g2⟩ | ⟨g1, g2⟩
      · have e1 : (blen n : Int) = precS f := by omega
        have e2 : n % 2 ^ ((precS f).toNat - 1) = n - 2 ^ ((precS f).toNat - 1) := by rw [Nat.mod_eq_sub_mod (by omega), Nat.mod_eq_of_lt (by omega)]
        have hs := hfew (t - unitB f (K - 255) + 1) (by rw [Nat.succ_mul]; omega)
        have e3 : (precS f + unitR f Q E - leastS f).toNat = t - unitB f (K - 255) + 1 := by omega
        rw [if_neg (by omega), e1, show (precS f - precS f).toNat = 0 by omega, Nat.pow_zero, Nat.div_one, makeF_c f _ neg n hf0 hf (by omega) (by omega), hp1, e2, e3, Nat.succ_mul]
        omega
      · have e1 : (blen n : Int) = precS f + 1 := by omega
        have hs := hfew (t - unitB f (K - 255) + 2) (by rw [Nat.add_mul]; omega)
        have e3 : (precS f + 1 + unitR f Q E - leastS f).toNat = t - unitB f (K - 255) + 2 := by omega
        rw [if_neg (by omega), e1, show (precS f + 1 - precS f).toNat = 1 by omega, Nat.pow_one, g1, Nat.mul_div_cancel_left _ (by decide), makeF_c f _ neg _ hf0 hf (by omega) (by omega), hp1, Nat.mod_self, e3, Nat.add_mul, Nat.add_zero]
theorem ref_flag (f m : Int) (aft neg : Bool) (Q : Nat) (E K : Int) (hf0 : 0 ≤ f) (hf : f < 4) (hQ : Q ≠ 0) (h0 : 0 ≤ E + K) (hK : 20000 ≤ K) (hK2 : precS f ≤ E + K) :
    refFl f m aft neg Q E = flagX f m aft neg (unitB f (K - 255)) (Q * 2 ^ (E + K).toNat) := by
  obtain ⟨f1, f2, f3, f4, f5, f6⟩ := fmt_bd f hf0 hf
  obtain ⟨m0, m1⟩ := emaxS_bd f
  have hB : (unitB f (K - 255) : Int) = 1 - emaxS f - precS f + 1 + K := by unfold unitB leastS; omega
  have ho := ref_over f m neg Q E K hf0 hf hQ h0 hK hK2
  have hu := unit_cut f Q E K hf0 hf hQ h0 hK
  obtain ⟨_, c2, _, _⟩ := code_cut (precS f).toNat (unitB f (K - 255)) m neg Q E K (unitR f Q E) (by omega) h0 hu
  have hown := own_code f m neg Q E K hf0 hf hQ h0 hK2 (unitB f (K - 255))
  have hb := cut_is _ Q E K hQ h0 rfl
  have hlo : leastS f = 1 - emaxS f := rfl
  have hX0 : Q * 2 ^ (E + K).toNat ≠ 0 := Nat.mul_ne_zero hQ (Nat.ne_of_gt (Nat.two_pow_pos _))
  have hfl : floorC (precS f).toNat (unitB f (K - 255)) (Q * 2 ^ (E + K).toNat) < 2 ^ ((precS f).toNat - 1) ↔ (blen Q : Int) - 1 + E < leastS f := by
    obtain ⟨b1, b2, b3⟩ := cut_bd (precS f).toNat (unitB f (K - 255)) (Q * 2 ^ (E + K).toNat) (by omega)
    have hup := Nat.two_pow_pos ((precS f).toNat - 1)
    constructor
    · intro h
      unfold floorC at h
      by_cases ht : cutAt (precS f).toNat (unitB f (K - 255)) (Q * 2 ^ (E + K).toNat) = unitB f (K - 255)
      · rw [ht, Nat.sub_self, Nat.zero_mul, Nat.zero_add] at h
        rw [Nat.div_lt_iff_lt_mul (Nat.two_pow_pos _), ← Nat.pow_add] at h
        have h1 := blen_le _ hX0
        have := (Nat.pow_lt_pow_iff_right (a := 2) (by decide)).1 (Nat.lt_of_le_of_lt h1 h)
        omega
      · have : 1 * 2 ^ ((precS f).toNat - 1) ≤ (cutAt (precS f).toNat (unitB f (K - 255)) (Q * 2 ^ (E + K).toNat) - unitB f (K - 255)) * 2 ^ ((precS f).toNat - 1) := Nat.mul_le_mul_right _ (by omega)
        omega
    · intro h
      have ht : cutAt (precS f).toNat (unitB f (K - 255)) (Q * 2 ^ (E + K).toNat) = unitB f (K - 255) := by unfold cutAt; omega
      unfold floorC
      rw [ht, Nat.sub_self, Nat.zero_mul, Nat.zero_add, Nat.div_lt_iff_lt_mul (Nat.two_pow_pos _), ← Nat.pow_add]
      exact Nat.lt_of_lt_of_le (blen_lt _) (Nat.pow_le_pow_right (by decide) (by omega))
  have htiny : tinyR f m aft neg Q E = tinyX (precS f).toNat (unitB f (K - 255)) m aft neg (Q * 2 ^ (E + K).toNat) := by
    unfold tinyR tinyX
    rw [decide_eq_decide.2 hfl]
    cases aft
    · simp
    · simp only [Bool.not_true, Bool.false_or, if_true]
      have hle : ownR f m neg Q E < leastS f → (blen Q : Int) - 1 + E < leastS f := fun h => by
        have hn : (precS f : Int) ≤ blen (cutR m neg Q (blen Q - precS f)) := by
          have hc : (cutAt (precS f).toNat 0 (Q * 2 ^ (E + K).toNat) : Int) = blen Q + (E + K) - precS f := by unfold cutAt; omega
          have hq := blen_ne Q hQ
          obtain ⟨_, _, d3, d4⟩ := code_cut (precS f).toNat 0 m neg Q E K (blen Q + E - precS f) (by omega) h0 (by omega)
          rw [show (blen Q : Int) + E - precS f - E = blen Q - precS f by omega] at d3 d4
          have hn : 2 ^ ((precS f).toNat - 1) ≤ cutR m neg Q (blen Q - precS f) := by
            rcases d4 with d4 | d4
            · omega
            · exact d4
          rcases blen_full (precS f).toNat _ (by omega) hn d3 with ⟨_, g2⟩ | ⟨_, g2⟩ <;> omega
        unfold ownR at h
        omega
      rw [← decide_eq_decide.2 hown]
      have e : decide (ownR f m neg Q E + K + 1 - precS f < unitB f (K - 255)) = decide (ownR f m neg Q E < leastS f) := by rw [decide_eq_decide]; omega
      rw [e]
      by_cases h : ownR f m neg Q E < leastS f
      · rw [decide_eq_true h, decide_eq_true (hle h)]; rfl
      · rw [decide_eq_false h, Bool.and_false]
  unfold refFl flagX
  rw [if_neg hQ, c2, htiny]
  by_cases hov : emaxS f < ownR f m neg Q E
  · rw [if_pos hov, if_pos (ho.1 hov)]
  · rw [if_neg hov, if_neg fun h => hov (ho.2 h)]
end Go.Proofs.YtkpjeceofcfnkaaGreatDoor
namespace Go.Proofs.YtkpjeceofcfnkaaGreatDoor
open Go.RowKit Go.Hb
theorem ref_Next (m r : Int) (neg odd : Bool) (w : World) (m0 : 0 ≤ m) (m1 : m ≤ 4) (r0 : 0 ≤ r) (r1 : r ≤ 3) :
    Calls Tryz.prog 58 #[.int .u8 m, .bool neg, .bool odd, .int .i64 r] w fun en w' => en = .returned (.bool (nextS m neg odd r)) ∧ w = w' := by
  have h1 : m = 0 ∨ m = 1 ∨ m = 2 ∨ m = 3 ∨ m = 4 := by omega
  have h2 : r = 0 ∨ r = 1 ∨ r = 2 ∨ r = 3 := by omega
  clear m0 m1 r0 r1
  rcases h2 with rfl | rfl | rfl | rfl
  · have e : nextS m neg odd 0 = false := by unfold nextS; simp
    rw [e]
    clear e h1
    go_enter Tryz.func58, Tryz.ntmps58
    go_wp2_with fail
    go_returns
    exact ⟨rfl, by first | rfl | trivial⟩
  all_goals rcases h1 with rfl | rfl | rfl | rfl | rfl
  all_goals (go_enter Tryz.func58, Tryz.ntmps58; go_wp2_with fail; go_returns; exact ⟨ret_bool (by cases neg <;> cases odd <;> rfl), by first | rfl | trivial⟩)
theorem restR_bd (Q : Nat) (n : Int) : 0 ≤ restR Q n ∧ restR Q n ≤ 3 := by
  unfold restR
  split
  · omega
  · rw [restN_G]; exact restG_bd _ _
theorem dl_ne (d : Nat) (h : d ≠ 0) : (((dl d : Nat) : Int) == 0) = false := by rw [beq_eq_false_iff_ne]; have := dl_pos d h; omega
theorem rest_walk (Q d : Nat) (n r : Int) (v : Value) (w : World) [hLay : Laid w] (hR_v : RN w v Q) (lq : dl Q ≤ 30000) (n0 : ¬ n ≤ 0) (n1 : n ≤ 4000000000000000) (hd : Q % 2 ^ n.toNat = d)
    (hr : (d = 0 ∧ r = 0) ∨ (d ≠ 0 ∧ (blen d : Int) < n ∧ r = 1) ∨ (d ≠ 0 ∧ ¬ (blen d : Int) < n ∧ (cmpR d (2 ^ (n - 1).toNat) = 0 ∧ r = 2 ∨ cmpR d (2 ^ (n - 1).toNat) = 1 ∧ r = 3))) :
    Calls Tryz.prog 56 #[v, .int .i64 n, .bool false] w fun en w' => en = .returned (.int .i64 r) ∧ Below w.heap.size w w' := by
  have q1 : decide (n ≤ 0) = false := decide_eq_false n0
  have ld : dl d ≤ 100000 := by rw [← hd]; exact Nat.le_trans (dl_mono (Nat.mod_le _ _)) (by omega)
  have bQ : (blen Q : Int) ≤ 960000 := by unfold dl at lq; omega
  have hn1 : IntKind.i64.wrap (n - 1) = n - 1 := IntWalk.i64_in _ (by omega)
  have hR_v' := hR_v
  obtain ⟨qv, cv, rfl, _, _⟩ := hR_v'
  by_cases hA : n ≤ (blen Q : Nat)
  · have q2 : decide (n ≤ (blen Q : Nat)) = true := decide_eq_true hA
    have n9 : n ≤ 1000000 := by omega
    have lp : dl (2 ^ (n - 1).toNat) ≤ 100000 := dl_of _ n.toNat (Nat.pow_lt_pow_right (by decide) (by omega)) (by omega)
    clear hA
    rcases hr with ⟨hd0, rfl⟩ | ⟨hd0, hb, rfl⟩ | ⟨hd0, hb, hc⟩
    · have hdl : dl d = 0 := by rw [hd0, dl_zero]
      clear hd0
      go_enter Tryz.func56, Tryz.ntmps56
      skip
      skip
      (go_wp2_with fail; refine (num_Len Q _ _ hR_v (by omega)).mono ?_; rintro en _ ⟨rfl, rfl⟩)
      (go_wp2_with fail; refine (num_Cut_at Q n.toNat _ _ _ (by omega) hR_v (by omega) (by omega)).mono ?_; rw [hd]; rintro en v1 ⟨⟨u1, rfl, hR_u1⟩, hB_v1⟩; have lay_v1 := laid_after hB_v1; replace hR_v := RN.later hR_v (below_after (by go_grown) hB_v1); have hs_v1 := hB_v1.size; (try simp only [World.size_alloc, World.size_setCell, World.size_drew] at hs_v1); have hBW : Below w.heap.size w v1 := below_after (w := w) (by go_grown) hB_v1; clear hB_v1)
      obtain ⟨q1, c1, rfl, _, _⟩ := id hR_u1
      go_wp2_with fail
      go_returns
      exact ⟨rfl, by go_grown⟩
    · have hdl := dl_ne d hd0
      have q3 := decide_eq_true hb
      clear hb
      go_enter Tryz.func56, Tryz.ntmps56
      skip
      skip
      (go_wp2_with fail; refine (num_Len Q _ _ hR_v (by omega)).mono ?_; rintro en _ ⟨rfl, rfl⟩)
      (go_wp2_with fail; refine (num_Cut_at Q n.toNat _ _ _ (by omega) hR_v (by omega) (by omega)).mono ?_; rw [hd]; rintro en v1 ⟨⟨u1, rfl, hR_u1⟩, hB_v1⟩; have lay_v1 := laid_after hB_v1; replace hR_v := RN.later hR_v (below_after (by go_grown) hB_v1); have hs_v1 := hB_v1.size; (try simp only [World.size_alloc, World.size_setCell, World.size_drew] at hs_v1); have hBW : Below w.heap.size w v1 := below_after (w := w) (by go_grown) hB_v1; clear hB_v1)
      obtain ⟨q1, c1, rfl, _, _⟩ := id hR_u1
      (go_wp2_with fail; refine (num_Len d _ _ hR_u1 ld).mono ?_; rintro en _ ⟨rfl, rfl⟩)
      go_wp2_with fail
      go_returns
      exact ⟨rfl, by go_grown⟩
    · have hdl := dl_ne d hd0
      have q3 := decide_eq_false hb
      clear hb
      rcases hc with ⟨hc, rfl⟩ | ⟨hc, rfl⟩
      all_goals (
        go_enter Tryz.func56, Tryz.ntmps56
        skip
        skip
        (go_wp2_with fail; refine (num_Len Q _ _ hR_v (by omega)).mono ?_; rintro en _ ⟨rfl, rfl⟩)
        (go_wp2_with fail; refine (num_Cut_at Q n.toNat _ _ _ (by omega) hR_v (by omega) (by omega)).mono ?_; rw [hd]; rintro en v1 ⟨⟨u1, rfl, hR_u1⟩, hB_v1⟩; have lay_v1 := laid_after hB_v1; replace hR_v := RN.later hR_v (below_after (by go_grown) hB_v1); have hs_v1 := hB_v1.size; (try simp only [World.size_alloc, World.size_setCell, World.size_drew] at hs_v1); have hBW : Below w.heap.size w v1 := below_after (w := w) (by go_grown) hB_v1; clear hB_v1)
        obtain ⟨q1, c1, rfl, _, _⟩ := id hR_u1
        (go_wp2_with fail; refine (num_Len d _ _ hR_u1 ld).mono ?_; rintro en _ ⟨rfl, rfl⟩)
        (go_wp2_with fail; refine (num_Full_at (n - 1).toNat _ _ (by omega) (by omega)).mono ?_; rintro en v2 ⟨⟨u2, rfl, hR_u2⟩, hB_v2⟩; have lay_v2 := laid_after hB_v2; replace hR_v := RN.later hR_v (below_after (by go_grown) hB_v2); replace hR_u1 := RN.later hR_u1 (below_after (by go_grown) hB_v2); have hs_v2 := hB_v2.size; (try simp only [World.size_alloc, World.size_setCell, World.size_drew] at hs_v2); replace hBW : Below w.heap.size w v2 := below_after (w := w) (by go_grown) hB_v2; clear hB_v2)
        (go_wp2_with fail; refine (num_Cmp d _ _ u2 _ hR_u1 hR_u2 ld lp).mono ?_; rw [hc]; rintro en v3 ⟨rfl, hB_v3⟩; have lay_v3 := laid_after hB_v3; replace hR_v := RN.later hR_v (below_after (by go_grown) hB_v3); replace hR_u1 := RN.later hR_u1 (below_after (by go_grown) hB_v3); replace hR_u2 := RN.later hR_u2 (below_after (by go_grown) hB_v3); have hs_v3 := hB_v3.size; (try simp only [World.size_alloc, World.size_setCell, World.size_drew] at hs_v3); replace hBW : Below w.heap.size w v3 := below_after (w := w) (by go_grown) hB_v3; clear hB_v3)
        go_wp2_with fail
        go_returns
        exact ⟨rfl, by go_grown⟩)
  · have q2 : decide (n ≤ (blen Q : Nat)) = false := decide_eq_false hA
    have e : Q = d := by rw [← hd]; exact (Nat.mod_eq_of_lt (lt_of_blen _ _ (by omega))).symm
    subst e
    clear hA hd
    rcases hr with ⟨hd0, rfl⟩ | ⟨hd0, hb, rfl⟩ | ⟨hd0, hb, hc⟩
    · have hdl : dl Q = 0 := by rw [hd0, dl_zero]
      rw [hdl] at hR_v
      clear hd0
      go_enter Tryz.func56, Tryz.ntmps56
      skip
      skip
      (go_wp2_with fail; refine (num_Len Q _ _ hR_v (by omega)).mono ?_; rintro en _ ⟨rfl, rfl⟩)
      go_wp2_with fail
      go_returns
      exact ⟨rfl, by go_grown⟩
    · have hdl := dl_ne Q hd0
      have q3 := decide_eq_true hb
      clear hb
      go_enter Tryz.func56, Tryz.ntmps56
      skip
      skip
      (go_wp2_with fail; refine (num_Len Q _ _ hR_v (by omega)).mono ?_; rintro en _ ⟨rfl, rfl⟩)
      (go_wp2_with fail; refine (num_Len Q _ _ hR_v (by omega)).mono ?_; rintro en _ ⟨rfl, rfl⟩)
      go_wp2_with fail
      go_returns
      exact ⟨rfl, by go_grown⟩
    · exact absurd (of_decide_eq_false q2) (by omega)
theorem ref_Rest (Q : Nat) (n : Int) (v : Value) (w : World) [hLay : Laid w] (hR_v : RN w v Q) (lq : dl Q ≤ 30000) (n1 : n ≤ 4000000000000000) :
    Calls Tryz.prog 56 #[v, .int .i64 n, .bool false] w fun en w' => en = .returned (.int .i64 (restR Q n)) ∧ Below w.heap.size w w' := by
  by_cases n0 : n ≤ 0
  · have q1 : decide (n ≤ 0) = true := decide_eq_true n0
    have e : restR Q n = 0 := by unfold restR; rw [if_pos n0]
    rw [e]
    clear e
    go_enter Tryz.func56, Tryz.ntmps56
    go_wp2_with fail
    go_returns
    exact ⟨rfl, by go_grown⟩
  · refine rest_walk Q (Q % 2 ^ n.toNat) n _ v w hR_v lq n0 n1 rfl ?_
    have e : restR Q n = restG (Q % 2 ^ n.toNat) (2 ^ n.toNat) := by unfold restR; rw [if_neg n0, restN_G]
    have hlt : Q % 2 ^ n.toNat < 2 ^ n.toNat := Nat.mod_lt _ (Nat.two_pow_pos _)
    rw [e]
    generalize Q % 2 ^ n.toNat = d at *
    have ep : 2 ^ n.toNat = 2 * 2 ^ (n - 1).toNat := by rw [← Nat.pow_succ']; congr 1; omega
    rw [ep]
    have hb : (blen d : Int) < n ↔ d < 2 ^ (n - 1).toNat := by
      constructor
      · intro h; exact lt_of_blen _ _ (by omega)
      · intro h; have := blen_le_of _ _ h; omega
    unfold restG
    by_cases h0 : d = 0
    · exact Or.inl ⟨h0, by rw [if_pos h0]⟩
    · rw [if_neg h0]
      by_cases h1 : d < 2 ^ (n - 1).toNat
      · exact Or.inr (Or.inl ⟨h0, hb.2 h1, by rw [if_pos (by omega)]⟩)
      · refine Or.inr (Or.inr ⟨h0, fun h => h1 (hb.1 h), ?_⟩)
        rw [if_neg (by omega)]
        by_cases h2 : d = 2 ^ (n - 1).toNat
        · exact Or.inl ⟨by rw [← h2, cmpR_eq], by rw [if_pos (by omega)]⟩
        · exact Or.inr ⟨cmpR_gt (by omega), by rw [if_neg (by omega)]⟩
def GivesNI (n : Nat) (r : Int) (e : Ending) (w : World) : Prop := ∃ u, e = .returned (.tuple #[u, .int .i64 r]) ∧ RN w u n
theorem cut_walk (Q F : Nat) (n r m : Int) (neg b inc : Bool) (v : Value) (w : World) [hLay : Laid w] (hR_v : RN w v Q) (lq : dl Q ≤ 30000) (lF : dl F ≤ 100000) (n1 : n ≤ 4000000000000000) (n2 : -1000000 ≤ n) (m0 : 0 ≤ m) (m1 : m ≤ 4)
    (hr : Hid (restR Q n = r)) (r0 : 0 ≤ r) (r1 : r ≤ 3) (hb : Hid (F.testBit 0 = b)) (hi : Hid (nextS m neg b r = inc))
    (hF : (n ≤ 0 ∧ Q * 2 ^ (-n).toNat = F) ∨ (¬ n ≤ 0 ∧ n ≤ (blen Q : Nat) ∧ Q / 2 ^ n.toNat = F) ∨ (¬ n ≤ 0 ∧ ¬ n ≤ (blen Q : Nat) ∧ F = 0)) :
    Calls Tryz.prog 26 #[v, .int .i64 n, .bool false, .int .u8 m, .bool neg] w fun en w' => GivesNI (F + if inc then 1 else 0) r en w' ∧ Below w.heap.size w w' := by
  have bQ : (blen Q : Int) ≤ 960000 := by unfold dl at lq; omega
  have hng : IntKind.i64.wrap (-n) = -n := IntWalk.i64_in _ (by omega)
  rcases hF with ⟨h1, hF⟩ | ⟨h1, h2, hF⟩ | ⟨h1, h2, hF⟩
  · have q1 := decide_eq_true h1
    go_enter Tryz.func26, Tryz.ntmps26
    skip
    skip
    (go_wp2_with fail; refine (ref_Rest Q n v _ hR_v lq n1).mono ?_; rw [hr.out]; rintro en v1 ⟨rfl, hB_v1⟩; have lay_v1 := laid_after hB_v1; replace hR_v := RN.later hR_v (below_after (by go_grown) hB_v1); have hs_v1 := hB_v1.size; (try simp only [World.size_alloc, World.size_setCell, World.size_drew] at hs_v1); have hBW : Below w.heap.size w v1 := below_after (w := w) (by go_grown) hB_v1; clear hB_v1)
    (go_wp2_with fail; refine (num_Shl_at Q (-n).toNat _ v _ (by omega) hR_v (by omega) (by omega)).mono ?_; rw [hF]; rintro en v2 ⟨⟨u2, rfl, hR_u2⟩, hB_v2⟩; have lay_v2 := laid_after hB_v2; replace hR_v := RN.later hR_v (below_after (by go_grown) hB_v2); have hs_v2 := hB_v2.size; (try simp only [World.size_alloc, World.size_setCell, World.size_drew] at hs_v2); replace hBW : Below w.heap.size w v2 := below_after (w := w) (by go_grown) hB_v2; clear hB_v2)
    (go_wp2_with fail; refine (num_Bit_at F 0 _ u2 _ rfl hR_u2 (by omega)).mono ?_; rw [hb.out]; rintro en _ ⟨rfl, rfl⟩)
    (go_wp2_with fail; refine (ref_Next m r neg b _ m0 m1 r0 r1).mono ?_; rw [hi.out]; rintro en _ ⟨rfl, rfl⟩)
    skip
    cases inc
    · go_wp2_with fail
      go_returns
      exact ⟨⟨_, rfl, hR_u2⟩, by go_grown⟩
    · skip
      (go_wp2_with fail; refine (num_Of 1 _).mono ?_; rintro en v3 ⟨⟨u3, rfl, hR_u3⟩, hB_v3⟩; have lay_v3 := laid_after hB_v3; replace hR_v := RN.later hR_v (below_after (by go_grown) hB_v3); replace hR_u2 := RN.later hR_u2 (below_after (by go_grown) hB_v3); have hs_v3 := hB_v3.size; (try simp only [World.size_alloc, World.size_setCell, World.size_drew] at hs_v3); replace hBW : Below w.heap.size w v3 := below_after (w := w) (by go_grown) hB_v3; clear hB_v3)
      (go_wp2_with fail; refine (num_Add F 1 u2 u3 _ hR_u2 hR_u3 lF (by have := dl_one; omega)).mono ?_; rintro en v4 ⟨⟨u4, rfl, hR_u4⟩, hB_v4⟩; have lay_v4 := laid_after hB_v4; replace hR_v := RN.later hR_v (below_after (by go_grown) hB_v4); replace hR_u2 := RN.later hR_u2 (below_after (by go_grown) hB_v4); replace hR_u3 := RN.later hR_u3 (below_after (by go_grown) hB_v4); have hs_v4 := hB_v4.size; (try simp only [World.size_alloc, World.size_setCell, World.size_drew] at hs_v4); replace hBW : Below w.heap.size w v4 := below_after (w := w) (by go_grown) hB_v4; clear hB_v4)
      go_wp2_with fail
      go_returns
      exact ⟨⟨_, rfl, hR_u4⟩, by go_grown⟩
  · have q1 := decide_eq_false h1
    have q2 := decide_eq_true h2
    go_enter Tryz.func26, Tryz.ntmps26
    skip
    skip
    (go_wp2_with fail; refine (ref_Rest Q n v _ hR_v lq n1).mono ?_; rw [hr.out]; rintro en v1 ⟨rfl, hB_v1⟩; have lay_v1 := laid_after hB_v1; replace hR_v := RN.later hR_v (below_after (by go_grown) hB_v1); have hs_v1 := hB_v1.size; (try simp only [World.size_alloc, World.size_setCell, World.size_drew] at hs_v1); have hBW : Below w.heap.size w v1 := below_after (w := w) (by go_grown) hB_v1; clear hB_v1)
    (go_wp2_with fail; refine (num_Len Q v _ hR_v (by omega)).mono ?_; rintro en _ ⟨rfl, rfl⟩)
    (go_wp2_with fail; refine (num_Shr_at Q n.toNat _ v _ (by omega) hR_v (by omega) (by omega)).mono ?_; rw [hF]; rintro en v2 ⟨⟨u2, rfl, hR_u2⟩, hB_v2⟩; have lay_v2 := laid_after hB_v2; replace hR_v := RN.later hR_v (below_after (by go_grown) hB_v2); have hs_v2 := hB_v2.size; (try simp only [World.size_alloc, World.size_setCell, World.size_drew] at hs_v2); replace hBW : Below w.heap.size w v2 := below_after (w := w) (by go_grown) hB_v2; clear hB_v2)
    (go_wp2_with fail; refine (num_Bit_at F 0 _ u2 _ rfl hR_u2 (by omega)).mono ?_; rw [hb.out]; rintro en _ ⟨rfl, rfl⟩)
    (go_wp2_with fail; refine (ref_Next m r neg b _ m0 m1 r0 r1).mono ?_; rw [hi.out]; rintro en _ ⟨rfl, rfl⟩)
    skip
    cases inc
    · go_wp2_with fail
      go_returns
      exact ⟨⟨_, rfl, hR_u2⟩, by go_grown⟩
    · skip
      (go_wp2_with fail; refine (num_Of 1 _).mono ?_; rintro en v3 ⟨⟨u3, rfl, hR_u3⟩, hB_v3⟩; have lay_v3 := laid_after hB_v3; replace hR_v := RN.later hR_v (below_after (by go_grown) hB_v3); replace hR_u2 := RN.later hR_u2 (below_after (by go_grown) hB_v3); have hs_v3 := hB_v3.size; (try simp only [World.size_alloc, World.size_setCell, World.size_drew] at hs_v3); replace hBW : Below w.heap.size w v3 := below_after (w := w) (by go_grown) hB_v3; clear hB_v3)
      (go_wp2_with fail; refine (num_Add F 1 u2 u3 _ hR_u2 hR_u3 lF (by have := dl_one; omega)).mono ?_; rintro en v4 ⟨⟨u4, rfl, hR_u4⟩, hB_v4⟩; have lay_v4 := laid_after hB_v4; replace hR_v := RN.later hR_v (below_after (by go_grown) hB_v4); replace hR_u2 := RN.later hR_u2 (below_after (by go_grown) hB_v4); replace hR_u3 := RN.later hR_u3 (below_after (by go_grown) hB_v4); have hs_v4 := hB_v4.size; (try simp only [World.size_alloc, World.size_setCell, World.size_drew] at hs_v4); replace hBW : Below w.heap.size w v4 := below_after (w := w) (by go_grown) hB_v4; clear hB_v4)
      go_wp2_with fail
      go_returns
      exact ⟨⟨_, rfl, hR_u4⟩, by go_grown⟩
  · have q1 := decide_eq_false h1
    have q2 := decide_eq_false h2
    subst hF
    go_enter Tryz.func26, Tryz.ntmps26
    skip
    skip
    (go_wp2_with fail; refine (ref_Rest Q n v _ hR_v lq n1).mono ?_; rw [hr.out]; rintro en v1 ⟨rfl, hB_v1⟩; have lay_v1 := laid_after hB_v1; replace hR_v := RN.later hR_v (below_after (by go_grown) hB_v1); have hs_v1 := hB_v1.size; (try simp only [World.size_alloc, World.size_setCell, World.size_drew] at hs_v1); have hBW : Below w.heap.size w v1 := below_after (w := w) (by go_grown) hB_v1; clear hB_v1)
    (go_wp2_with fail; refine (num_Len Q v _ hR_v (by omega)).mono ?_; rintro en _ ⟨rfl, rfl⟩)
    (go_wp2_with fail; refine (num_Bit_at 0 0 _ _ _ rfl (RN.nil _) (by omega)).mono ?_; rw [hb.out]; rintro en _ ⟨rfl, rfl⟩)
    (go_wp2_with fail; refine (ref_Next m r neg b _ m0 m1 r0 r1).mono ?_; rw [hi.out]; rintro en _ ⟨rfl, rfl⟩)
    skip
    cases inc
    · go_wp2_with fail
      go_returns
      exact ⟨⟨_, rfl, RN.nil _⟩, by go_grown⟩
    · skip
      (go_wp2_with fail; refine (num_Of 1 _).mono ?_; rintro en v3 ⟨⟨u3, rfl, hR_u3⟩, hB_v3⟩; have lay_v3 := laid_after hB_v3; replace hR_v := RN.later hR_v (below_after (by go_grown) hB_v3); have hs_v3 := hB_v3.size; (try simp only [World.size_alloc, World.size_setCell, World.size_drew] at hs_v3); replace hBW : Below w.heap.size w v3 := below_after (w := w) (by go_grown) hB_v3; clear hB_v3)
      (go_wp2_with fail; refine (num_Add 0 1 _ u3 _ (RN.nil _) hR_u3 lF (by have := dl_one; omega)).mono ?_; rintro en v4 ⟨⟨u4, rfl, hR_u4⟩, hB_v4⟩; have lay_v4 := laid_after hB_v4; replace hR_v := RN.later hR_v (below_after (by go_grown) hB_v4); replace hR_u3 := RN.later hR_u3 (below_after (by go_grown) hB_v4); have hs_v4 := hB_v4.size; (try simp only [World.size_alloc, World.size_setCell, World.size_drew] at hs_v4); replace hBW : Below w.heap.size w v4 := below_after (w := w) (by go_grown) hB_v4; clear hB_v4)
      go_wp2_with fail
      go_returns
      exact ⟨⟨_, rfl, hR_u4⟩, by go_grown⟩
theorem floorR_len (Q : Nat) (n : Int) (h : dl Q ≤ 50000) (h2 : -1000000 ≤ n) : dl (floorR Q n) ≤ 100000 := by
  unfold floorR
  split
  · have : Q * 2 ^ (-n).toNat < 2 ^ (32 * dl Q + (-n).toNat) := by rw [Nat.pow_add]; exact Nat.mul_lt_mul_of_pos_right (dl_lt Q) (Nat.two_pow_pos _)
    exact dl_of _ _ this (by omega)
  · exact Nat.le_trans (dl_mono (Nat.div_le_self _ _)) (by omega)
theorem ref_Cut (Q : Nat) (n m : Int) (neg : Bool) (v : Value) (w : World) [hLay : Laid w] (hR_v : RN w v Q) (lq : dl Q ≤ 30000) (n1 : n ≤ 4000000000000000) (n2 : -1000000 ≤ n) (m0 : 0 ≤ m) (m1 : m ≤ 4) :
    Calls Tryz.prog 26 #[v, .int .i64 n, .bool false, .int .u8 m, .bool neg] w fun en w' => GivesNI (cutR m neg Q n) (restR Q n) en w' ∧ Below w.heap.size w w' := by
  have e : cutR m neg Q n = floorR Q n + if nextS m neg ((floorR Q n).testBit 0) (restR Q n) = true then 1 else 0 := by
    unfold cutR
    have : (floorR Q n % 2 == 1) = (floorR Q n).testBit 0 := by rw [Nat.testBit_zero]; rfl
    rw [this]
  rw [e]
  refine cut_walk Q (floorR Q n) n (restR Q n) m neg _ _ v w hR_v lq (floorR_len Q n (by omega) n2) n1 n2 m0 m1 rfl (restR_bd Q n).1 (restR_bd Q n).2 rfl rfl ?_
  unfold floorR
  by_cases h0 : n ≤ 0
  · exact Or.inl ⟨h0, by rw [if_pos h0]⟩
  · by_cases h1 : n ≤ (blen Q : Nat)
    · exact Or.inr (Or.inl ⟨h0, h1, by rw [if_neg h0]⟩)
    · exact Or.inr (Or.inr ⟨h0, h1, by rw [if_neg h0]; exact Nat.div_eq_of_lt (lt_of_blen _ _ (by omega))⟩)
end Go.Proofs.YtkpjeceofcfnkaaGreatDoor
namespace Go.Proofs.YtkpjeceofcfnkaaGreatDoor
open Go.RowKit Go.Hb
theorem ref_Cut_at (Q : Nat) (n j m : Int) (neg : Bool) (v : Value) (w : World) [hLay : Laid w] (hj : j = n) (hR_v : RN w v Q) (lq : dl Q ≤ 30000) (n1 : n ≤ 4000000000000000) (n2 : -1000000 ≤ n) (m0 : 0 ≤ m) (m1 : m ≤ 4) :
    Calls Tryz.prog 26 #[v, .int .i64 j, .bool false, .int .u8 m, .bool neg] w fun en w' => GivesNI (cutR m neg Q n) (restR Q n) en w' ∧ Below w.heap.size w w' := by
  subst hj; exact ref_Cut Q j m neg v w hR_v lq n1 n2 m0 m1
theorem ref_Make_at (f e j : Int) (neg : Bool) (v : Value) (frac : Nat) [hU : U8 f] (w : World) [hLay : Laid w] (hj : j = e) (hf : f < 4) (e0 : 0 ≤ e) (he : e ≤ 1048576) (hR_v : RN w v frac) (lf : dl frac ≤ 100000) :
    Calls Tryz.prog 16 #[.int .u8 f, .bool neg, .int .i64 j, v] w fun en w' => en = .returned (.agg #[.int .u64 (hi (makeF f neg e frac)), .int .u64 (lo (makeF f neg e frac))]) ∧ Below w.heap.size w w' := by
  subst hj
  haveI : U64 j := ⟨e0, by omega⟩
  exact ref_Make f j neg v frac w hf he hR_v lf
theorem num_Len_b (a : Nat) (v : Value) (w : World) (h : RN w v a) (la : dl a ≤ 100000) : Calls Tryz.prog 57 #[v] w fun en w' => en = .returned (.int .i64 (blen a : Nat)) ∧ Below w.heap.size w w' :=
  (num_Len a v w h la).mono fun _ _ ⟨h1, h2⟩ => ⟨h1, h2 ▸ Below.refl _ _⟩
end Go.Proofs.YtkpjeceofcfnkaaGreatDoor
namespace Go.Proofs.YtkpjeceofcfnkaaGreatDoor
open Go.RowKit Go.Hb
end Go.Proofs.YtkpjeceofcfnkaaGreatDoor
