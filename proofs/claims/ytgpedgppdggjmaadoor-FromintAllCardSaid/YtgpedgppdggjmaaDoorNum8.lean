/- The contracts of the reference's rounding of a number by 2^n: Next, Rest, Cut: for every number that is not too long. -/
import Derived.Test.YtgpedgppdggjmaaDoorNum7
import Derived.Test.YtgpedgppdggjmaaDoorRoundP
set_option linter.unusedSimpArgs false
set_option linter.unusedVariables false
namespace Go.Proofs.YtgpedgppdggjmaaDoor
open Go.RowKit Go.Hb
set_option maxRecDepth 100000 in
set_option maxHeartbeats 4000000 in
theorem ref_Next (m r : Int) (neg odd : Bool) (w : World) (m0 : 0 ≤ m) (m1 : m ≤ 4) (r0 : 0 ≤ r) (r1 : r ≤ 3) :
    Calls Tryd.prog 118 #[.int .u8 m, .bool neg, .bool odd, .int .i64 r] w fun en w' => en = .returned (.bool (nextS m neg odd r)) ∧ w = w' := by
  have h1 : m = 0 ∨ m = 1 ∨ m = 2 ∨ m = 3 ∨ m = 4 := by omega
  have h2 : r = 0 ∨ r = 1 ∨ r = 2 ∨ r = 3 := by omega
  clear m0 m1 r0 r1
  rcases h2 with rfl | rfl | rfl | rfl
  · have e : nextS m neg odd 0 = false := by unfold nextS; simp
    rw [e]
    clear e h1
    go_enter Tryd.func118, Tryd.ntmps118
    go_wp2_with fail
    go_returns
    exact ⟨rfl, by first | rfl | trivial⟩
  all_goals rcases h1 with rfl | rfl | rfl | rfl | rfl
  all_goals (go_enter Tryd.func118, Tryd.ntmps118; go_wp2_with fail; go_returns; exact ⟨ret_bool (by cases neg <;> cases odd <;> rfl), by first | rfl | trivial⟩)
theorem restR_bd (Q : Nat) (n : Int) : 0 ≤ restR Q n ∧ restR Q n ≤ 3 := by
  unfold restR
  split
  · omega
  · rw [restN_G]; exact restG_bd _ _
theorem dl_ne (d : Nat) (h : d ≠ 0) : (((dl d : Nat) : Int) == 0) = false := by rw [beq_eq_false_iff_ne]; have := dl_pos d h; omega
set_option maxRecDepth 100000 in
set_option maxHeartbeats 1000000 in
theorem rest_walk (Q d : Nat) (n r : Int) (v : Value) (w : World) [hLay : Laid w] (hR_v : RN w v Q) (lq : dl Q ≤ 30000) (n0 : ¬ n ≤ 0) (n1 : n ≤ 4000000000000000) (hd : Q % 2 ^ n.toNat = d)
    (hr : (d = 0 ∧ r = 0) ∨ (d ≠ 0 ∧ (blen d : Int) < n ∧ r = 1) ∨ (d ≠ 0 ∧ ¬ (blen d : Int) < n ∧ (cmpR d (2 ^ (n - 1).toNat) = 0 ∧ r = 2 ∨ cmpR d (2 ^ (n - 1).toNat) = 1 ∧ r = 3))) :
    Calls Tryd.prog 117 #[v, .int .i64 n, .bool false] w fun en w' => en = .returned (.int .i64 r) ∧ Below w.heap.size w w' := by
  have q1 : decide (n ≤ 0) = false := decide_eq_false n0
  have ld : dl d ≤ 100000 := by rw [← hd]; exact Nat.le_trans (dl_mono (Nat.mod_le _ _)) (by omega)
  have bQ : (blen Q : Int) ≤ 960000 := by unfold dl at lq; omega
  have hn1 : IntKind.i64.wrap (n - 1) = n - 1 := IntWalk.i64_in _ (by omega)
  have hR_v' := hR_v
  obtain ⟨qv, cv, rfl, _, _⟩ := hR_v'
  by_cases hA : n ≤ (blen Q : Nat)
  · have q2 : decide (n ≤ (blen Q : Nat)) = true := decide_eq_true hA
    have n9 : n ≤ 1000000 := by omega
    have lp : dl (2 ^ (n - 1).toNat) ≤ 100000 := dl_of _ n.toNat (Nat.pow_lt_pow_right (by decide) (by omega)) (by omega)
    clear hA
    rcases hr with ⟨hd0, rfl⟩ | ⟨hd0, hb, rfl⟩ | ⟨hd0, hb, hc⟩
    · have hdl : dl d = 0 := by rw [hd0, dl_zero]
      clear hd0
      go_enter Tryd.func117, Tryd.ntmps117
      skip
      skip
      (go_wp2_with fail; refine (num_Len Q _ _ hR_v (by omega)).mono ?_; rintro en _ ⟨rfl, rfl⟩)
      (go_wp2_with fail; refine (num_Cut_at Q n.toNat _ _ _ (by omega) hR_v (by omega) (by omega)).mono ?_; rw [hd]; rintro en v1 ⟨⟨u1, rfl, hR_u1⟩, hB_v1⟩; have lay_v1 := laid_after hB_v1; replace hR_v := RN.later hR_v (below_after (by go_grown) hB_v1); have hs_v1 := hB_v1.size; (try simp only [World.size_alloc, World.size_setCell, World.size_drew] at hs_v1); have hBW : Below w.heap.size w v1 := below_after (w := w) (by go_grown) hB_v1; clear hB_v1)
      obtain ⟨q1, c1, rfl, _, _⟩ := id hR_u1
      go_wp2_with fail
      go_returns
      exact ⟨rfl, by go_grown⟩
    · have hdl := dl_ne d hd0
      have q3 := decide_eq_true hb
      clear hb
      go_enter Tryd.func117, Tryd.ntmps117
      skip
      skip
      (go_wp2_with fail; refine (num_Len Q _ _ hR_v (by omega)).mono ?_; rintro en _ ⟨rfl, rfl⟩)
      (go_wp2_with fail; refine (num_Cut_at Q n.toNat _ _ _ (by omega) hR_v (by omega) (by omega)).mono ?_; rw [hd]; rintro en v1 ⟨⟨u1, rfl, hR_u1⟩, hB_v1⟩; have lay_v1 := laid_after hB_v1; replace hR_v := RN.later hR_v (below_after (by go_grown) hB_v1); have hs_v1 := hB_v1.size; (try simp only [World.size_alloc, World.size_setCell, World.size_drew] at hs_v1); have hBW : Below w.heap.size w v1 := below_after (w := w) (by go_grown) hB_v1; clear hB_v1)
      obtain ⟨q1, c1, rfl, _, _⟩ := id hR_u1
      (go_wp2_with fail; refine (num_Len d _ _ hR_u1 ld).mono ?_; rintro en _ ⟨rfl, rfl⟩)
      go_wp2_with fail
      go_returns
      exact ⟨rfl, by go_grown⟩
    · have hdl := dl_ne d hd0
      have q3 := decide_eq_false hb
      clear hb
      rcases hc with ⟨hc, rfl⟩ | ⟨hc, rfl⟩
      all_goals (
        go_enter Tryd.func117, Tryd.ntmps117
        skip
        skip
        (go_wp2_with fail; refine (num_Len Q _ _ hR_v (by omega)).mono ?_; rintro en _ ⟨rfl, rfl⟩)
        (go_wp2_with fail; refine (num_Cut_at Q n.toNat _ _ _ (by omega) hR_v (by omega) (by omega)).mono ?_; rw [hd]; rintro en v1 ⟨⟨u1, rfl, hR_u1⟩, hB_v1⟩; have lay_v1 := laid_after hB_v1; replace hR_v := RN.later hR_v (below_after (by go_grown) hB_v1); have hs_v1 := hB_v1.size; (try simp only [World.size_alloc, World.size_setCell, World.size_drew] at hs_v1); have hBW : Below w.heap.size w v1 := below_after (w := w) (by go_grown) hB_v1; clear hB_v1)
        obtain ⟨q1, c1, rfl, _, _⟩ := id hR_u1
        (go_wp2_with fail; refine (num_Len d _ _ hR_u1 ld).mono ?_; rintro en _ ⟨rfl, rfl⟩)
        (go_wp2_with fail; refine (num_Full_at (n - 1).toNat _ _ (by omega) (by omega)).mono ?_; rintro en v2 ⟨⟨u2, rfl, hR_u2⟩, hB_v2⟩; have lay_v2 := laid_after hB_v2; replace hR_v := RN.later hR_v (below_after (by go_grown) hB_v2); replace hR_u1 := RN.later hR_u1 (below_after (by go_grown) hB_v2); have hs_v2 := hB_v2.size; (try simp only [World.size_alloc, World.size_setCell, World.size_drew] at hs_v2); replace hBW : Below w.heap.size w v2 := below_after (w := w) (by go_grown) hB_v2; clear hB_v2)
        (go_wp2_with fail; refine (num_Cmp d _ _ u2 _ hR_u1 hR_u2 ld lp).mono ?_; rw [hc]; rintro en v3 ⟨rfl, hB_v3⟩; have lay_v3 := laid_after hB_v3; replace hR_v := RN.later hR_v (below_after (by go_grown) hB_v3); replace hR_u1 := RN.later hR_u1 (below_after (by go_grown) hB_v3); replace hR_u2 := RN.later hR_u2 (below_after (by go_grown) hB_v3); have hs_v3 := hB_v3.size; (try simp only [World.size_alloc, World.size_setCell, World.size_drew] at hs_v3); replace hBW : Below w.heap.size w v3 := below_after (w := w) (by go_grown) hB_v3; clear hB_v3)
        go_wp2_with fail
        go_returns
        exact ⟨rfl, by go_grown⟩)
  · have q2 : decide (n ≤ (blen Q : Nat)) = false := decide_eq_false hA
    have e : Q = d := by rw [← hd]; exact (Nat.mod_eq_of_lt (lt_of_blen _ _ (by omega))).symm
    subst e
    clear hA hd
    rcases hr with ⟨hd0, rfl⟩ | ⟨hd0, hb, rfl⟩ | ⟨hd0, hb, hc⟩
    · have hdl : dl Q = 0 := by rw [hd0, dl_zero]
      rw [hdl] at hR_v
      clear hd0
      go_enter Tryd.func117, Tryd.ntmps117
      skip
      skip
      (go_wp2_with fail; refine (num_Len Q _ _ hR_v (by omega)).mono ?_; rintro en _ ⟨rfl, rfl⟩)
      go_wp2_with fail
      go_returns
      exact ⟨rfl, by go_grown⟩
    · have hdl := dl_ne Q hd0
      have q3 := decide_eq_true hb
      clear hb
      go_enter Tryd.func117, Tryd.ntmps117
      skip
      skip
      (go_wp2_with fail; refine (num_Len Q _ _ hR_v (by omega)).mono ?_; rintro en _ ⟨rfl, rfl⟩)
      (go_wp2_with fail; refine (num_Len Q _ _ hR_v (by omega)).mono ?_; rintro en _ ⟨rfl, rfl⟩)
      go_wp2_with fail
      go_returns
      exact ⟨rfl, by go_grown⟩
    · exact absurd (of_decide_eq_false q2) (by omega)
theorem ref_Rest (Q : Nat) (n : Int) (v : Value) (w : World) [hLay : Laid w] (hR_v : RN w v Q) (lq : dl Q ≤ 30000) (n1 : n ≤ 4000000000000000) :
    Calls Tryd.prog 117 #[v, .int .i64 n, .bool false] w fun en w' => en = .returned (.int .i64 (restR Q n)) ∧ Below w.heap.size w w' := by
  by_cases n0 : n ≤ 0
  · have q1 : decide (n ≤ 0) = true := decide_eq_true n0
    have e : restR Q n = 0 := by unfold restR; rw [if_pos n0]
    rw [e]
    clear e
    go_enter Tryd.func117, Tryd.ntmps117
    go_wp2_with fail
    go_returns
    exact ⟨rfl, by go_grown⟩
  · refine rest_walk Q (Q % 2 ^ n.toNat) n _ v w hR_v lq n0 n1 rfl ?_
    have e : restR Q n = restG (Q % 2 ^ n.toNat) (2 ^ n.toNat) := by unfold restR; rw [if_neg n0, restN_G]
    have hlt : Q % 2 ^ n.toNat < 2 ^ n.toNat := Nat.mod_lt _ (Nat.two_pow_pos _)
    rw [e]
    generalize Q % 2 ^ n.toNat = d at *
    have ep : 2 ^ n.toNat = 2 * 2 ^ (n - 1).toNat := by rw [← Nat.pow_succ']; congr 1; omega
    rw [ep]
    have hb : (blen d : Int) < n ↔ d < 2 ^ (n - 1).toNat := by
      constructor
      · intro h; exact lt_of_blen _ _ (by omega)
      · intro h; have := blen_le_of _ _ h; omega
    unfold restG
    by_cases h0 : d = 0
    · exact Or.inl ⟨h0, by rw [if_pos h0]⟩
    · rw [if_neg h0]
      by_cases h1 : d < 2 ^ (n - 1).toNat
      · exact Or.inr (Or.inl ⟨h0, hb.2 h1, by rw [if_pos (by omega)]⟩)
      · refine Or.inr (Or.inr ⟨h0, fun h => h1 (hb.1 h), ?_⟩)
        rw [if_neg (by omega)]
        by_cases h2 : d = 2 ^ (n - 1).toNat
        · exact Or.inl ⟨by rw [← h2, cmpR_eq], by rw [if_pos (by omega)]⟩
        · exact Or.inr ⟨cmpR_gt (by omega), by rw [if_neg (by omega)]⟩
def GivesNI (n : Nat) (r : Int) (e : Ending) (w : World) : Prop := ∃ u, e = .returned (.tuple #[u, .int .i64 r]) ∧ RN w u n
set_option maxRecDepth 100000 in
set_option maxHeartbeats 1000000 in
theorem cut_walk (Q F : Nat) (n r m : Int) (neg b inc : Bool) (v : Value) (w : World) [hLay : Laid w] (hR_v : RN w v Q) (lq : dl Q ≤ 30000) (lF : dl F ≤ 100000) (n1 : n ≤ 4000000000000000) (n2 : -1000000 ≤ n) (m0 : 0 ≤ m) (m1 : m ≤ 4)
    (hr : Hid (restR Q n = r)) (r0 : 0 ≤ r) (r1 : r ≤ 3) (hb : Hid (F.testBit 0 = b)) (hi : Hid (nextS m neg b r = inc))
    (hF : (n ≤ 0 ∧ Q * 2 ^ (-n).toNat = F) ∨ (¬ n ≤ 0 ∧ n ≤ (blen Q : Nat) ∧ Q / 2 ^ n.toNat = F) ∨ (¬ n ≤ 0 ∧ ¬ n ≤ (blen Q : Nat) ∧ F = 0)) :
    Calls Tryd.prog 69 #[v, .int .i64 n, .bool false, .int .u8 m, .bool neg] w fun en w' => GivesNI (F + if inc then 1 else 0) r en w' ∧ Below w.heap.size w w' := by
  have bQ : (blen Q : Int) ≤ 960000 := by unfold dl at lq; omega
  have hng : IntKind.i64.wrap (-n) = -n := IntWalk.i64_in _ (by omega)
  rcases hF with ⟨h1, hF⟩ | ⟨h1, h2, hF⟩ | ⟨h1, h2, hF⟩
  · have q1 := decide_eq_true h1
    go_enter Tryd.func69, Tryd.ntmps69
    skip
    skip
    (go_wp2_with fail; refine (ref_Rest Q n v _ hR_v lq n1).mono ?_; rw [hr.out]; rintro en v1 ⟨rfl, hB_v1⟩; have lay_v1 := laid_after hB_v1; replace hR_v := RN.later hR_v (below_after (by go_grown) hB_v1); have hs_v1 := hB_v1.size; (try simp only [World.size_alloc, World.size_setCell, World.size_drew] at hs_v1); have hBW : Below w.heap.size w v1 := below_after (w := w) (by go_grown) hB_v1; clear hB_v1)
    (go_wp2_with fail; refine (num_Shl_at Q (-n).toNat _ v _ (by omega) hR_v (by omega) (by omega)).mono ?_; rw [hF]; rintro en v2 ⟨⟨u2, rfl, hR_u2⟩, hB_v2⟩; have lay_v2 := laid_after hB_v2; replace hR_v := RN.later hR_v (below_after (by go_grown) hB_v2); have hs_v2 := hB_v2.size; (try simp only [World.size_alloc, World.size_setCell, World.size_drew] at hs_v2); replace hBW : Below w.heap.size w v2 := below_after (w := w) (by go_grown) hB_v2; clear hB_v2)
    (go_wp2_with fail; refine (num_Bit_at F 0 _ u2 _ rfl hR_u2 (by omega)).mono ?_; rw [hb.out]; rintro en _ ⟨rfl, rfl⟩)
    (go_wp2_with fail; refine (ref_Next m r neg b _ m0 m1 r0 r1).mono ?_; rw [hi.out]; rintro en _ ⟨rfl, rfl⟩)
    skip
    cases inc
    · go_wp2_with fail
      go_returns
      exact ⟨⟨_, rfl, hR_u2⟩, by go_grown⟩
    · skip
      (go_wp2_with fail; refine (num_Of 1 _).mono ?_; rintro en v3 ⟨⟨u3, rfl, hR_u3⟩, hB_v3⟩; have lay_v3 := laid_after hB_v3; replace hR_v := RN.later hR_v (below_after (by go_grown) hB_v3); replace hR_u2 := RN.later hR_u2 (below_after (by go_grown) hB_v3); have hs_v3 := hB_v3.size; (try simp only [World.size_alloc, World.size_setCell, World.size_drew] at hs_v3); replace hBW : Below w.heap.size w v3 := below_after (w := w) (by go_grown) hB_v3; clear hB_v3)
      (go_wp2_with fail; refine (num_Add F 1 u2 u3 _ hR_u2 hR_u3 lF (by have := dl_one; omega)).mono ?_; rintro en v4 ⟨⟨u4, rfl, hR_u4⟩, hB_v4⟩; have lay_v4 := laid_after hB_v4; replace hR_v := RN.later hR_v (below_after (by go_grown) hB_v4); replace hR_u2 := RN.later hR_u2 (below_after (by go_grown) hB_v4); replace hR_u3 := RN.later hR_u3 (below_after (by go_grown) hB_v4); have hs_v4 := hB_v4.size; (try simp only [World.size_alloc, World.size_setCell, World.size_drew] at hs_v4); replace hBW : Below w.heap.size w v4 := below_after (w := w) (by go_grown) hB_v4; clear hB_v4)
      go_wp2_with fail
      go_returns
      exact ⟨⟨_, rfl, hR_u4⟩, by go_grown⟩
  · have q1 := decide_eq_false h1
    have q2 := decide_eq_true h2
    go_enter Tryd.func69, Tryd.ntmps69
    skip
    skip
    (go_wp2_with fail; refine (ref_Rest Q n v _ hR_v lq n1).mono ?_; rw [hr.out]; rintro en v1 ⟨rfl, hB_v1⟩; have lay_v1 := laid_after hB_v1; replace hR_v := RN.later hR_v (below_after (by go_grown) hB_v1); have hs_v1 := hB_v1.size; (try simp only [World.size_alloc, World.size_setCell, World.size_drew] at hs_v1); have hBW : Below w.heap.size w v1 := below_after (w := w) (by go_grown) hB_v1; clear hB_v1)
    (go_wp2_with fail; refine (num_Len Q v _ hR_v (by omega)).mono ?_; rintro en _ ⟨rfl, rfl⟩)
    (go_wp2_with fail; refine (num_Shr_at Q n.toNat _ v _ (by omega) hR_v (by omega) (by omega)).mono ?_; rw [hF]; rintro en v2 ⟨⟨u2, rfl, hR_u2⟩, hB_v2⟩; have lay_v2 := laid_after hB_v2; replace hR_v := RN.later hR_v (below_after (by go_grown) hB_v2); have hs_v2 := hB_v2.size; (try simp only [World.size_alloc, World.size_setCell, World.size_drew] at hs_v2); replace hBW : Below w.heap.size w v2 := below_after (w := w) (by go_grown) hB_v2; clear hB_v2)
    (go_wp2_with fail; refine (num_Bit_at F 0 _ u2 _ rfl hR_u2 (by omega)).mono ?_; rw [hb.out]; rintro en _ ⟨rfl, rfl⟩)
    (go_wp2_with fail; refine (ref_Next m r neg b _ m0 m1 r0 r1).mono ?_; rw [hi.out]; rintro en _ ⟨rfl, rfl⟩)
    skip
    cases inc
    · go_wp2_with fail
      go_returns
      exact ⟨⟨_, rfl, hR_u2⟩, by go_grown⟩
    · skip
      (go_wp2_with fail; refine (num_Of 1 _).mono ?_; rintro en v3 ⟨⟨u3, rfl, hR_u3⟩, hB_v3⟩; have lay_v3 := laid_after hB_v3; replace hR_v := RN.later hR_v (below_after (by go_grown) hB_v3); replace hR_u2 := RN.later hR_u2 (below_after (by go_grown) hB_v3); have hs_v3 := hB_v3.size; (try simp only [World.size_alloc, World.size_setCell, World.size_drew] at hs_v3); replace hBW : Below w.heap.size w v3 := below_after (w := w) (by go_grown) hB_v3; clear hB_v3)
      (go_wp2_with fail; refine (num_Add F 1 u2 u3 _ hR_u2 hR_u3 lF (by have := dl_one; omega)).mono ?_; rintro en v4 ⟨⟨u4, rfl, hR_u4⟩, hB_v4⟩; have lay_v4 := laid_after hB_v4; replace hR_v := RN.later hR_v (below_after (by go_grown) hB_v4); replace hR_u2 := RN.later hR_u2 (below_after (by go_grown) hB_v4); replace hR_u3 := RN.later hR_u3 (below_after (by go_grown) hB_v4); have hs_v4 := hB_v4.size; (try simp only [World.size_alloc, World.size_setCell, World.size_drew] at hs_v4); replace hBW : Below w.heap.size w v4 := below_after (w := w) (by go_grown) hB_v4; clear hB_v4)
      go_wp2_with fail
      go_returns
      exact ⟨⟨_, rfl, hR_u4⟩, by go_grown⟩
  · have q1 := decide_eq_false h1
    have q2 := decide_eq_false h2
    subst hF
    go_enter Tryd.func69, Tryd.ntmps69
    skip
    skip
    (go_wp2_with fail; refine (ref_Rest Q n v _ hR_v lq n1).mono ?_; rw [hr.out]; rintro en v1 ⟨rfl, hB_v1⟩; have lay_v1 := laid_after hB_v1; replace hR_v := RN.later hR_v (below_after (by go_grown) hB_v1); have hs_v1 := hB_v1.size; (try simp only [World.size_alloc, World.size_setCell, World.size_drew] at hs_v1); have hBW : Below w.heap.size w v1 := below_after (w := w) (by go_grown) hB_v1; clear hB_v1)
    (go_wp2_with fail; refine (num_Len Q v _ hR_v (by omega)).mono ?_; rintro en _ ⟨rfl, rfl⟩)
    (go_wp2_with fail; refine (num_Bit_at 0 0 _ _ _ rfl (RN.nil _) (by omega)).mono ?_; rw [hb.out]; rintro en _ ⟨rfl, rfl⟩)
    (go_wp2_with fail; refine (ref_Next m r neg b _ m0 m1 r0 r1).mono ?_; rw [hi.out]; rintro en _ ⟨rfl, rfl⟩)
    skip
    cases inc
    · go_wp2_with fail
      go_returns
      exact ⟨⟨_, rfl, RN.nil _⟩, by go_grown⟩
    · skip
      (go_wp2_with fail; refine (num_Of 1 _).mono ?_; rintro en v3 ⟨⟨u3, rfl, hR_u3⟩, hB_v3⟩; have lay_v3 := laid_after hB_v3; replace hR_v := RN.later hR_v (below_after (by go_grown) hB_v3); have hs_v3 := hB_v3.size; (try simp only [World.size_alloc, World.size_setCell, World.size_drew] at hs_v3); replace hBW : Below w.heap.size w v3 := below_after (w := w) (by go_grown) hB_v3; clear hB_v3)
      (go_wp2_with fail; refine (num_Add 0 1 _ u3 _ (RN.nil _) hR_u3 lF (by have := dl_one; omega)).mono ?_; rintro en v4 ⟨⟨u4, rfl, hR_u4⟩, hB_v4⟩; have lay_v4 := laid_after hB_v4; replace hR_v := RN.later hR_v (below_after (by go_grown) hB_v4); replace hR_u3 := RN.later hR_u3 (below_after (by go_grown) hB_v4); have hs_v4 := hB_v4.size; (try simp only [World.size_alloc, World.size_setCell, World.size_drew] at hs_v4); replace hBW : Below w.heap.size w v4 := below_after (w := w) (by go_grown) hB_v4; clear hB_v4)
      go_wp2_with fail
      go_returns
      exact ⟨⟨_, rfl, hR_u4⟩, by go_grown⟩
theorem floorR_len (Q : Nat) (n : Int) (h : dl Q ≤ 50000) (h2 : -1000000 ≤ n) : dl (floorR Q n) ≤ 100000 := by
  unfold floorR
  split
  · have : Q * 2 ^ (-n).toNat < 2 ^ (32 * dl Q + (-n).toNat) := by rw [Nat.pow_add]; exact Nat.mul_lt_mul_of_pos_right (dl_lt Q) (Nat.two_pow_pos _)
    exact dl_of _ _ this (by omega)
  · exact Nat.le_trans (dl_mono (Nat.div_le_self _ _)) (by omega)
theorem ref_Cut (Q : Nat) (n m : Int) (neg : Bool) (v : Value) (w : World) [hLay : Laid w] (hR_v : RN w v Q) (lq : dl Q ≤ 30000) (n1 : n ≤ 4000000000000000) (n2 : -1000000 ≤ n) (m0 : 0 ≤ m) (m1 : m ≤ 4) :
    Calls Tryd.prog 69 #[v, .int .i64 n, .bool false, .int .u8 m, .bool neg] w fun en w' => GivesNI (cutR m neg Q n) (restR Q n) en w' ∧ Below w.heap.size w w' := by
  have e : cutR m neg Q n = floorR Q n + if nextS m neg ((floorR Q n).testBit 0) (restR Q n) = true then 1 else 0 := by
    unfold cutR
    have : (floorR Q n % 2 == 1) = (floorR Q n).testBit 0 := by rw [Nat.testBit_zero]; rfl
    rw [this]
  rw [e]
  refine cut_walk Q (floorR Q n) n (restR Q n) m neg _ _ v w hR_v lq (floorR_len Q n (by omega) n2) n1 n2 m0 m1 rfl (restR_bd Q n).1 (restR_bd Q n).2 rfl rfl ?_
  unfold floorR
  by_cases h0 : n ≤ 0
  · exact Or.inl ⟨h0, by rw [if_pos h0]⟩
  · by_cases h1 : n ≤ (blen Q : Nat)
    · exact Or.inr (Or.inl ⟨h0, h1, by rw [if_neg h0]⟩)
    · exact Or.inr (Or.inr ⟨h0, h1, by rw [if_neg h0]; exact Nat.div_eq_of_lt (lt_of_blen _ _ (by omega))⟩)
end Go.Proofs.YtgpedgppdggjmaaDoor
