/- The contracts of the reference's formats: Width, Prec, Emax, Cut, Make, Inf, Max: for every format. Condition: the listed table is laid. -/
import Derived.Test.YtgpedgppdggjmaaDoorNum5
import Derived.Test.YtgpedgppdggjmaaDoorFormat4
set_option linter.unusedSimpArgs false
set_option linter.unusedVariables false
namespace Go.Proofs.YtgpedgppdggjmaaDoor
open Go.RowKit Go.Hb
theorem num_Shl_at (a n : Nat) (j : Int) (va : Value) (w : World) (hj : j = (n : Nat)) (ha : RN w va a) (la : dl a ≤ 100000) (hn : n ≤ 1000000) : Calls Tryd.prog 108 #[va, .int .i64 j] w fun en w' => GivesN (a * 2 ^ n) en w' ∧ Below w.heap.size w w' := by
  subst hj; exact num_Shl a n va w ha la hn
theorem num_Shr_at (a n : Nat) (j : Int) (va : Value) (w : World) (hj : j = (n : Nat)) (ha : RN w va a) (la : dl a ≤ 100000) (hn : n ≤ 1000000) : Calls Tryd.prog 70 #[va, .int .i64 j] w fun en w' => GivesN (a / 2 ^ n) en w' ∧ Below w.heap.size w w' := by
  subst hj; exact num_Shr a n va w ha la hn
theorem num_Cut_at (a n : Nat) (j : Int) (va : Value) (w : World) (hj : j = (n : Nat)) (ha : RN w va a) (la : dl a ≤ 100000) (hn : n ≤ 1000000) : Calls Tryd.prog 73 #[va, .int .i64 j] w fun en w' => GivesN (a % 2 ^ n) en w' ∧ Below w.heap.size w w' := by
  subst hj; exact num_Cut a n va w ha la hn
theorem num_Full_at (n : Nat) (j : Int) (w : World) (hj : j = (n : Nat)) (hn : n ≤ 1000000) : Calls Tryd.prog 76 #[.int .i64 j] w fun en w' => GivesN (2 ^ n) en w' ∧ Below w.heap.size w w' := by
  subst hj; exact num_Full n w hn
theorem num_Bit_at (a i : Nat) (j : Int) (v : Value) (w : World) (hj : j = (i : Nat)) (h : RN w v a) (hi : i ≤ 1000000) : Calls Tryd.prog 74 #[v, .int .i64 j] w fun en w' => en = .returned (.bool (a.testBit i)) ∧ w = w' := by
  subst hj; exact num_Bit a i v w h hi
theorem fmt_cases (f : Int) (h0 : 0 ≤ f) : f = 0 ∨ f = 1 ∨ f = 2 ∨ f = 3 ∨ ((f == 0) = false ∧ (f == 1) = false ∧ (f == 2) = false ∧ (f == 3) = false ∧ 4 ≤ f) := by
  by_cases h : f < 4
  · have : f = 0 ∨ f = 1 ∨ f = 2 ∨ f = 3 := by omega
    rcases this with h | h | h | h
    · exact Or.inl h
    · exact Or.inr (Or.inl h)
    · exact Or.inr (Or.inr (Or.inl h))
    · exact Or.inr (Or.inr (Or.inr (Or.inl h)))
  · refine Or.inr (Or.inr (Or.inr (Or.inr ⟨?_, ?_, ?_, ?_, by omega⟩)))
    all_goals (rw [beq_eq_false_iff_ne]; omega)
set_option maxRecDepth 100000 in
theorem ref_Width (f : Int) [hU : U8 f] (w : World) : Calls Tryd.prog 95 #[.int .u8 f] w fun en w' => en = .returned (.int .i64 (widthS f)) ∧ w = w' := by
  rcases fmt_cases f hU.ge with rfl | rfl | rfl | rfl | ⟨h0, h1, h2, h3, h4⟩
  case inr.inr.inr.inr => rw [(fmt_none f h4).1]; go_enter Tryd.func95, Tryd.ntmps95; go_wp2_with fail; go_returns; exact ⟨rfl, by first | rfl | trivial⟩
  all_goals (go_enter Tryd.func95, Tryd.ntmps95; go_wp2_with fail; go_returns; exact ⟨rfl, by first | rfl | trivial⟩)
set_option maxRecDepth 100000 in
theorem ref_Prec (f : Int) [hU : U8 f] (w : World) : Calls Tryd.prog 67 #[.int .u8 f] w fun en w' => en = .returned (.int .i64 (precS f)) ∧ w = w' := by
  rcases fmt_cases f hU.ge with rfl | rfl | rfl | rfl | ⟨h0, h1, h2, h3, h4⟩
  case inr.inr.inr.inr => rw [(fmt_none f h4).2.1]; go_enter Tryd.func67, Tryd.ntmps67; go_wp2_with fail; go_returns; exact ⟨rfl, by first | rfl | trivial⟩
  all_goals (go_enter Tryd.func67, Tryd.ntmps67; go_wp2_with fail; go_returns; exact ⟨rfl, by first | rfl | trivial⟩)
set_option maxRecDepth 100000 in
theorem ref_Emax (f : Int) [hU : U8 f] (w : World) : Calls Tryd.prog 10 #[.int .u8 f] w fun en w' => en = .returned (.int .i64 (emaxS f)) ∧ w = w' := by
  rcases fmt_cases f hU.ge with rfl | rfl | rfl | rfl | ⟨h0, h1, h2, h3, h4⟩
  case inr.inr.inr.inr => rw [(fmt_none f h4).2.2]; go_enter Tryd.func10, Tryd.ntmps10; go_wp2_with fail; go_returns; exact ⟨rfl, by first | rfl | trivial⟩
  all_goals (go_enter Tryd.func10, Tryd.ntmps10; go_wp2_with fail; go_returns; exact ⟨rfl, by first | rfl | trivial⟩)
theorem dl_of (n k : Nat) (h : n < 2 ^ k) (hk : k ≤ 3000000) : dl n ≤ 100000 := by
  have := blen_le_of n k h
  unfold dl; omega
set_option maxRecDepth 100000 in
set_option maxHeartbeats 2000000 in
theorem ref_Make (f e : Int) (neg : Bool) (v : Value) (frac : Nat) [hU : U8 f] [hE : U64 e] (w : World) [hLay : Laid w] (hf : f < 4) (he : e ≤ 1048576) (hR_v : RN w v frac) (lf : dl frac ≤ 100000) :
    Calls Tryd.prog 56 #[.int .u8 f, .bool neg, .int .i64 e, v] w fun en w' => en = .returned (.agg #[.int .u64 (hi (makeF f neg e frac)), .int .u64 (lo (makeF f neg e frac))]) ∧ Below w.heap.size w w' := by
  obtain ⟨b1, b2, b3, b4, b5, b6⟩ := fmt_bd f U8.ge hf
  have he0 := hE.ge
  have hwe : IntKind.u64.wrap e = e := by rw [IntKind.wrap_u64]; omega
  have hp1 : IntKind.i64.wrap (precS f - 1) = precS f - 1 := IntWalk.i64_in _ (by omega)
  have hp2 : IntKind.i64.wrap (widthS f - 1) = widthS f - 1 := IntWalk.i64_in _ (by omega)
  have hp3 : IntKind.i64.wrap (widthS f - precS f) = widthS f - precS f := IntWalk.i64_in _ (by omega)
  have hw0 : (widthS f == 0) = false := by rw [beq_eq_false_iff_ne]; omega
  have q1 : decide (e < 0) = false := decide_eq_false (by omega)
  have q2 : decide (e > 1048576) = false := decide_eq_false (by omega)
  have l1 : dl e.toNat ≤ 100000 := dl_of _ 32 (by omega) (by omega)
  have x2 : e.toNat % 2 ^ (widthS f - precS f).toNat < 2 ^ 32 := Nat.lt_of_le_of_lt (Nat.mod_le _ _) (by omega)
  have l2 : dl (e.toNat % 2 ^ (widthS f - precS f).toNat) ≤ 100000 := dl_of _ 32 x2 (by omega)
  have x3 : e.toNat % 2 ^ (widthS f - precS f).toNat * 2 ^ (precS f - 1).toNat < 2 ^ (32 + (precS f - 1).toNat) := by rw [Nat.pow_add]; exact Nat.mul_lt_mul_of_pos_right x2 (Nat.two_pow_pos _)
  have l3 : dl (e.toNat % 2 ^ (widthS f - precS f).toNat * 2 ^ (precS f - 1).toNat) ≤ 100000 := dl_of _ _ x3 (by omega)
  have x4 : frac % 2 ^ (precS f - 1).toNat < 2 ^ (precS f - 1).toNat := Nat.mod_lt _ (Nat.two_pow_pos _)
  have l4 : dl (frac % 2 ^ (precS f - 1).toNat) ≤ 100000 := dl_of _ _ x4 (by omega)
  have x5 : e.toNat % 2 ^ (widthS f - precS f).toNat * 2 ^ (precS f - 1).toNat + frac % 2 ^ (precS f - 1).toNat < 2 ^ (33 + (precS f - 1).toNat) := by
    have := Nat.pow_le_pow_right (n := 2) (by decide) (show (precS f - 1).toNat ≤ 32 + (precS f - 1).toNat by omega)
    rw [show 33 + (precS f - 1).toNat = 32 + (precS f - 1).toNat + 1 by omega, Nat.pow_succ]; omega
  have l5 := dl_of _ _ x5 (by omega)
  have l6 : dl (2 ^ (widthS f - 1).toNat) ≤ 100000 := dl_of _ (widthS f).toNat (Nat.pow_lt_pow_right (by decide) (by omega)) (by omega)
  have hM : makeF f neg e frac = e.toNat % 2 ^ (widthS f - precS f).toNat * 2 ^ (precS f - 1).toNat + frac % 2 ^ (precS f - 1).toNat + (if neg then 2 ^ (widthS f - 1).toNat else 0) := by
    unfold makeF; rw [if_neg (by omega), if_neg (by omega)]
  clear he he0 x2 x3 x4 x5
  rw [hM]
  clear hM
  go_enter Tryd.func56, Tryd.ntmps56
  skip
  skip
  (go_wp2_with fail; refine (ref_Width f _).mono ?_; rintro en _ ⟨rfl, rfl⟩)
  (go_wp2_with fail; refine (num_Of e _).mono ?_; rintro en v1 ⟨⟨u1, rfl, hR_u1⟩, hB_v1⟩; have lay_v1 := laid_after hB_v1; replace hR_v := RN.later hR_v (below_after (by go_grown) hB_v1); obtain ⟨cc1, fcc1⟩ := pf hB_v1 (show World.cell? _ ⟨w.heap.size, 0, none⟩ = some (.int .u64 0) by go_simp) (by go_simp); obtain ⟨cc2, fcc2⟩ := pf hB_v1 (show World.cell? _ ⟨w.heap.size, 1, none⟩ = some (.int .u64 0) by go_simp) (by go_simp); have hs_v1 := hB_v1.size; (try simp only [World.size_alloc, World.size_setCell, World.size_drew] at hs_v1); have hBW : Below w.heap.size w v1 := below_after (w := w) (by go_grown) hB_v1; have hn_v1 := nl cc1; clear hB_v1)
  (go_wp2_with fail; refine (ref_Width f _).mono ?_; rintro en _ ⟨rfl, rfl⟩)
  (go_wp2_with fail; refine (ref_Prec f _).mono ?_; rintro en _ ⟨rfl, rfl⟩)
  (go_wp2_with fail; refine (num_Cut_at e.toNat (widthS f - precS f).toNat _ u1 _ (by omega) hR_u1 l1 (by omega)).mono ?_; rintro en v2 ⟨⟨u2, rfl, hR_u2⟩, hB_v2⟩; have lay_v2 := laid_after hB_v2; replace hR_v := RN.later hR_v (below_after (by go_grown) hB_v2); replace hR_u1 := RN.later hR_u1 (below_after (by go_grown) hB_v2); have hG := cell_grown cc1 (by go_grown) hB_v2; replace fcc1 := fl hG fcc1 cc1; replace cc1 := cl hG cc1; replace fcc2 := fl hG fcc2 cc2; replace cc2 := cl hG cc2; have hs_v2 := hG.size; clear hG; replace hBW : Below w.heap.size w v2 := below_after (w := w) (by go_grown) hB_v2; have hn_v2 := nl cc1; clear hB_v2)
  (go_wp2_with fail; refine (ref_Prec f _).mono ?_; rintro en _ ⟨rfl, rfl⟩)
  (go_wp2_with fail; refine (num_Shl_at _ (precS f - 1).toNat _ u2 _ (by omega) hR_u2 l2 (by omega)).mono ?_; rintro en v3 ⟨⟨u3, rfl, hR_u3⟩, hB_v3⟩; have lay_v3 := laid_after hB_v3; replace hR_v := RN.later hR_v (below_after (by go_grown) hB_v3); replace hR_u1 := RN.later hR_u1 (below_after (by go_grown) hB_v3); replace hR_u2 := RN.later hR_u2 (below_after (by go_grown) hB_v3); have hG := cell_grown cc1 (by go_grown) hB_v3; replace fcc1 := fl hG fcc1 cc1; replace cc1 := cl hG cc1; replace fcc2 := fl hG fcc2 cc2; replace cc2 := cl hG cc2; have hs_v3 := hG.size; clear hG; replace hBW : Below w.heap.size w v3 := below_after (w := w) (by go_grown) hB_v3; have hn_v3 := nl cc1; clear hB_v3)
  (go_wp2_with fail; refine (ref_Prec f _).mono ?_; rintro en _ ⟨rfl, rfl⟩)
  (go_wp2_with fail; refine (num_Cut_at frac (precS f - 1).toNat _ v _ (by omega) hR_v lf (by omega)).mono ?_; rintro en v4 ⟨⟨u4, rfl, hR_u4⟩, hB_v4⟩; have lay_v4 := laid_after hB_v4; replace hR_v := RN.later hR_v (below_after (by go_grown) hB_v4); replace hR_u1 := RN.later hR_u1 (below_after (by go_grown) hB_v4); replace hR_u2 := RN.later hR_u2 (below_after (by go_grown) hB_v4); replace hR_u3 := RN.later hR_u3 (below_after (by go_grown) hB_v4); have hG := cell_grown cc1 (by go_grown) hB_v4; replace fcc1 := fl hG fcc1 cc1; replace cc1 := cl hG cc1; replace fcc2 := fl hG fcc2 cc2; replace cc2 := cl hG cc2; have hs_v4 := hG.size; clear hG; replace hBW : Below w.heap.size w v4 := below_after (w := w) (by go_grown) hB_v4; have hn_v4 := nl cc1; clear hB_v4)
  (go_wp2_with fail; refine (num_Add _ _ u3 u4 _ hR_u3 hR_u4 l3 l4).mono ?_; rintro en v5 ⟨⟨u5, rfl, hR_u5⟩, hB_v5⟩; have lay_v5 := laid_after hB_v5; replace hR_v := RN.later hR_v (below_after (by go_grown) hB_v5); replace hR_u1 := RN.later hR_u1 (below_after (by go_grown) hB_v5); replace hR_u2 := RN.later hR_u2 (below_after (by go_grown) hB_v5); replace hR_u3 := RN.later hR_u3 (below_after (by go_grown) hB_v5); replace hR_u4 := RN.later hR_u4 (below_after (by go_grown) hB_v5); have hG := cell_grown cc1 (by go_grown) hB_v5; replace fcc1 := fl hG fcc1 cc1; replace cc1 := cl hG cc1; replace fcc2 := fl hG fcc2 cc2; replace cc2 := cl hG cc2; have hs_v5 := hG.size; clear hG; replace hBW : Below w.heap.size w v5 := below_after (w := w) (by go_grown) hB_v5; have hn_v5 := nl cc1; clear hB_v5)
  skip
  cases neg
  · (go_wp2_with fail; refine (num_Bits _ u5 _ hR_u5).mono ?_; rintro en v8 ⟨rfl, hB_v8⟩; have lay_v8 := laid_after hB_v8; replace hR_v := RN.later hR_v (below_after (by go_grown) hB_v8); replace hR_u1 := RN.later hR_u1 (below_after (by go_grown) hB_v8); replace hR_u2 := RN.later hR_u2 (below_after (by go_grown) hB_v8); replace hR_u3 := RN.later hR_u3 (below_after (by go_grown) hB_v8); replace hR_u4 := RN.later hR_u4 (below_after (by go_grown) hB_v8); replace hR_u5 := RN.later hR_u5 (below_after (by go_grown) hB_v8); have hG := cell_grown cc1 (by go_grown) hB_v8; replace fcc1 := fl hG fcc1 cc1; replace cc1 := cl hG cc1; replace fcc2 := fl hG fcc2 cc2; replace cc2 := cl hG cc2; have hs_v8 := hG.size; clear hG; replace hBW : Below w.heap.size w v8 := below_after (w := w) (by go_grown) hB_v8; have hn_v8 := nl cc1; clear hB_v8)
    go_wp2_with fail
    refine bodyPost_ret (by simp [results, Tryd.results56, go_sem, cc1, cc2]; try rfl) rfl ?_
    exact ⟨by simp, by go_grown⟩
  · skip
    (go_wp2_with fail; refine (ref_Width f _).mono ?_; rintro en _ ⟨rfl, rfl⟩)
    (go_wp2_with fail; refine (num_Full_at (widthS f - 1).toNat _ _ (by omega) (by omega)).mono ?_; rintro en v6 ⟨⟨u6, rfl, hR_u6⟩, hB_v6⟩; have lay_v6 := laid_after hB_v6; replace hR_v := RN.later hR_v (below_after (by go_grown) hB_v6); replace hR_u1 := RN.later hR_u1 (below_after (by go_grown) hB_v6); replace hR_u2 := RN.later hR_u2 (below_after (by go_grown) hB_v6); replace hR_u3 := RN.later hR_u3 (below_after (by go_grown) hB_v6); replace hR_u4 := RN.later hR_u4 (below_after (by go_grown) hB_v6); replace hR_u5 := RN.later hR_u5 (below_after (by go_grown) hB_v6); have hG := cell_grown cc1 (by go_grown) hB_v6; replace fcc1 := fl hG fcc1 cc1; replace cc1 := cl hG cc1; replace fcc2 := fl hG fcc2 cc2; replace cc2 := cl hG cc2; have hs_v6 := hG.size; clear hG; replace hBW : Below w.heap.size w v6 := below_after (w := w) (by go_grown) hB_v6; have hn_v6 := nl cc1; clear hB_v6)
    (go_wp2_with fail; refine (num_Add _ _ u5 u6 _ hR_u5 hR_u6 l5 l6).mono ?_; rintro en v7 ⟨⟨u7, rfl, hR_u7⟩, hB_v7⟩; have lay_v7 := laid_after hB_v7; replace hR_v := RN.later hR_v (below_after (by go_grown) hB_v7); replace hR_u1 := RN.later hR_u1 (below_after (by go_grown) hB_v7); replace hR_u2 := RN.later hR_u2 (below_after (by go_grown) hB_v7); replace hR_u3 := RN.later hR_u3 (below_after (by go_grown) hB_v7); replace hR_u4 := RN.later hR_u4 (below_after (by go_grown) hB_v7); replace hR_u5 := RN.later hR_u5 (below_after (by go_grown) hB_v7); replace hR_u6 := RN.later hR_u6 (below_after (by go_grown) hB_v7); have hG := cell_grown cc1 (by go_grown) hB_v7; replace fcc1 := fl hG fcc1 cc1; replace cc1 := cl hG cc1; replace fcc2 := fl hG fcc2 cc2; replace cc2 := cl hG cc2; have hs_v7 := hG.size; clear hG; replace hBW : Below w.heap.size w v7 := below_after (w := w) (by go_grown) hB_v7; have hn_v7 := nl cc1; clear hB_v7)
    (go_wp2_with fail; refine (num_Bits _ u7 _ hR_u7).mono ?_; rintro en v8 ⟨rfl, hB_v8⟩; have lay_v8 := laid_after hB_v8; replace hR_v := RN.later hR_v (below_after (by go_grown) hB_v8); replace hR_u1 := RN.later hR_u1 (below_after (by go_grown) hB_v8); replace hR_u2 := RN.later hR_u2 (below_after (by go_grown) hB_v8); replace hR_u3 := RN.later hR_u3 (below_after (by go_grown) hB_v8); replace hR_u4 := RN.later hR_u4 (below_after (by go_grown) hB_v8); replace hR_u5 := RN.later hR_u5 (below_after (by go_grown) hB_v8); replace hR_u6 := RN.later hR_u6 (below_after (by go_grown) hB_v8); replace hR_u7 := RN.later hR_u7 (below_after (by go_grown) hB_v8); have hG := cell_grown cc1 (by go_grown) hB_v8; replace fcc1 := fl hG fcc1 cc1; replace cc1 := cl hG cc1; replace fcc2 := fl hG fcc2 cc2; replace cc2 := cl hG cc2; have hs_v8 := hG.size; clear hG; replace hBW : Below w.heap.size w v8 := below_after (w := w) (by go_grown) hB_v8; have hn_v8 := nl cc1; clear hB_v8)
    go_wp2_with fail
    refine bodyPost_ret (by simp [results, Tryd.results56, go_sem, cc1, cc2]; try rfl) rfl ?_
    exact ⟨by simp, by go_grown⟩
end Go.Proofs.YtgpedgppdggjmaaDoor
