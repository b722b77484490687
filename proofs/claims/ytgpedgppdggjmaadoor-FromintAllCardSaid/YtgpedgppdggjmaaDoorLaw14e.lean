/- The walk of OverEnds: for every input. Condition: the listed table is laid. -/
import Derived.Test.YtgpedgppdggjmaaDoorNum7
import Derived.Test.YtgpedgppdggjmaaDoorLaw14a
set_option linter.unusedSimpArgs false
set_option linter.unusedVariables false
namespace Go.Proofs.YtgpedgppdggjmaaDoor
open Go.RowKit Go.Hb
set_option maxRecDepth 100000 in
set_option maxHeartbeats 1000000 in
theorem ref_Over (f m : Int) (neg : Bool) [hU : U8 f] [hM : U8 m] (w : World) [hLay : Laid w] :
    Calls Tryd.prog 12 #[.int .u8 f, .int .u8 m, .bool neg] w fun en w' => en = .returned (.agg #[.int .u64 (hi (overO f m neg)), .int .u64 (lo (overO f m neg)), .int .u8 (overFl f m)]) ∧ Below w.heap.size w w' := by
  by_cases hk : f < 4 ∧ m ≤ 4
  · have h1 : overO f m neg = overB f m neg := by unfold overO; rw [if_pos hk]
    have h2 : overFl f m = 20 := by unfold overFl; rw [if_pos hk]
    rw [h1, h2]
    exact ref_Over_in f m neg w hk.1 hM.ge hk.2
  · have h1 : overO f m neg = 0 := by unfold overO; rw [if_neg hk]
    have h2 : overFl f m = 0 := by unfold overFl; rw [if_neg hk]
    have h3 : hi 0 = 0 := rfl
    have h4 : lo 0 = 0 := rfl
    rw [h1, h2, h3, h4]
    by_cases hf : f < 4
    · have q1 : decide (f > 3) = false := decide_eq_false (by omega)
      have q2 : decide (m > 4) = true := decide_eq_true (by omega)
      go_enter Tryd.func12, Tryd.ntmps12
      go_wp2_with fail
      refine bodyPost_ret (by simp [results, Tryd.results12, go_sem]; try rfl) rfl ?_
      exact ⟨rfl, by go_grown⟩
    · have q1 : decide (f > 3) = true := decide_eq_true (by omega)
      go_enter Tryd.func12, Tryd.ntmps12
      go_wp2_with fail
      refine bodyPost_ret (by simp [results, Tryd.results12, go_sem]; try rfl) rfl ?_
      exact ⟨rfl, by go_grown⟩
theorem makeF_none (f e : Int) (neg : Bool) (x : Nat) (h : 4 ≤ f) : makeF f neg e x = 0 := by unfold makeF; rw [if_pos h]
set_option maxRecDepth 100000 in
set_option maxHeartbeats 1000000 in
theorem ref_Least (f : Int) (neg : Bool) [hU : U8 f] (w : World) [hLay : Laid w] :
    Calls Tryd.prog 14 #[.int .u8 f, .bool neg] w fun en w' => en = .returned (.agg #[.int .u64 (hi (makeF f neg 0 1)), .int .u64 (lo (makeF f neg 0 1))]) ∧ Below w.heap.size w w' := by
  have l1 : dl 1 ≤ 100000 := Nat.le_trans dl_one (by omega)
  by_cases hf : f < 4
  · go_enter Tryd.func14, Tryd.ntmps14
    skip
    (go_wp2_with fail; refine (num_Of 1 _).mono ?_; rintro en v1 ⟨⟨u1, rfl, hR_u1⟩, hB_v1⟩; have lay_v1 := laid_after hB_v1; obtain ⟨cc1, fcc1⟩ := pf hB_v1 (show World.cell? _ ⟨w.heap.size, 0, none⟩ = some (.int .u64 0) by go_simp) (by go_simp); obtain ⟨cc2, fcc2⟩ := pf hB_v1 (show World.cell? _ ⟨w.heap.size, 1, none⟩ = some (.int .u64 0) by go_simp) (by go_simp); have hs_v1 := hB_v1.size; (try simp only [World.size_alloc, World.size_setCell, World.size_drew] at hs_v1); have hBW : Below w.heap.size w v1 := below_after (w := w) (by go_grown) hB_v1; have hn_v1 := nl cc1; clear hB_v1)
    (go_wp2_with fail; refine (ref_Make f 0 neg _ 1 _ hf (by omega) hR_u1 l1).mono ?_; rintro en v2 ⟨rfl, hB_v2⟩; have lay_v2 := laid_after hB_v2; replace hR_u1 := RN.later hR_u1 (below_after (by go_grown) hB_v2); have hG := cell_grown cc1 (by go_grown) hB_v2; replace fcc1 := fl hG fcc1 cc1; replace cc1 := cl hG cc1; replace fcc2 := fl hG fcc2 cc2; replace cc2 := cl hG cc2; have hs_v2 := hG.size; clear hG; replace hBW : Below w.heap.size w v2 := below_after (w := w) (by go_grown) hB_v2; have hn_v2 := nl cc1; clear hB_v2)
    go_wp2_with fail
    refine bodyPost_ret (by simp [results, Tryd.results14, go_sem, cc1, cc2]; try rfl) rfl ?_
    exact ⟨rfl, by go_grown⟩
  · rw [makeF_none f 0 neg 1 (by omega)]
    go_enter Tryd.func14, Tryd.ntmps14
    skip
    (go_wp2_with fail; refine (num_Of 1 _).mono ?_; rintro en v1 ⟨⟨u1, rfl, hR_u1⟩, hB_v1⟩; have lay_v1 := laid_after hB_v1; obtain ⟨cc1, fcc1⟩ := pf hB_v1 (show World.cell? _ ⟨w.heap.size, 0, none⟩ = some (.int .u64 0) by go_simp) (by go_simp); obtain ⟨cc2, fcc2⟩ := pf hB_v1 (show World.cell? _ ⟨w.heap.size, 1, none⟩ = some (.int .u64 0) by go_simp) (by go_simp); have hs_v1 := hB_v1.size; (try simp only [World.size_alloc, World.size_setCell, World.size_drew] at hs_v1); have hBW : Below w.heap.size w v1 := below_after (w := w) (by go_grown) hB_v1; have hn_v1 := nl cc1; clear hB_v1)
    (go_wp2_with fail; refine (ref_Make_none f 0 neg _ _ (by omega)).mono ?_; rintro en v2 ⟨rfl, hB_v2⟩; have lay_v2 := laid_after hB_v2; replace hR_u1 := RN.later hR_u1 (below_after (by go_grown) hB_v2); have hG := cell_grown cc1 (by go_grown) hB_v2; replace fcc1 := fl hG fcc1 cc1; replace cc1 := cl hG cc1; replace fcc2 := fl hG fcc2 cc2; replace cc2 := cl hG cc2; have hs_v2 := hG.size; clear hG; replace hBW : Below w.heap.size w v2 := below_after (w := w) (by go_grown) hB_v2; have hn_v2 := nl cc1; clear hB_v2)
    go_wp2_with fail
    refine bodyPost_ret (by simp [results, Tryd.results14, go_sem, cc1, cc2]; try rfl) rfl ?_
    exact ⟨rfl, by go_grown⟩
set_option maxRecDepth 100000 in
set_option maxHeartbeats 1000000 in
theorem ref_Normal (f : Int) (neg : Bool) [hU : U8 f] (w : World) [hLay : Laid w] :
    Calls Tryd.prog 16 #[.int .u8 f, .bool neg] w fun en w' => en = .returned (.agg #[.int .u64 (hi (makeF f neg 1 0)), .int .u64 (lo (makeF f neg 1 0))]) ∧ Below w.heap.size w w' := by
  have l0 := dl_nought
  by_cases hf : f < 4
  · go_enter Tryd.func16, Tryd.ntmps16
    skip
    (go_wp2_with fail; refine (ref_Make f 1 neg _ 0 _ hf (by omega) (RN.nil _) l0).mono ?_; rintro en v2 ⟨rfl, hB_v2⟩; have lay_v2 := laid_after hB_v2; obtain ⟨cc1, fcc1⟩ := pf hB_v2 (show World.cell? _ ⟨w.heap.size, 0, none⟩ = some (.int .u64 0) by go_simp) (by go_simp); obtain ⟨cc2, fcc2⟩ := pf hB_v2 (show World.cell? _ ⟨w.heap.size, 1, none⟩ = some (.int .u64 0) by go_simp) (by go_simp); have hs_v2 := hB_v2.size; (try simp only [World.size_alloc, World.size_setCell, World.size_drew] at hs_v2); have hBW : Below w.heap.size w v2 := below_after (w := w) (by go_grown) hB_v2; have hn_v2 := nl cc1; clear hB_v2)
    go_wp2_with fail
    refine bodyPost_ret (by simp [results, Tryd.results16, go_sem, cc1, cc2]; try rfl) rfl ?_
    exact ⟨rfl, by go_grown⟩
  · rw [makeF_none f 1 neg 0 (by omega)]
    go_enter Tryd.func16, Tryd.ntmps16
    skip
    (go_wp2_with fail; refine (ref_Make_none f 1 neg _ _ (by omega)).mono ?_; rintro en v2 ⟨rfl, hB_v2⟩; have lay_v2 := laid_after hB_v2; obtain ⟨cc1, fcc1⟩ := pf hB_v2 (show World.cell? _ ⟨w.heap.size, 0, none⟩ = some (.int .u64 0) by go_simp) (by go_simp); obtain ⟨cc2, fcc2⟩ := pf hB_v2 (show World.cell? _ ⟨w.heap.size, 1, none⟩ = some (.int .u64 0) by go_simp) (by go_simp); have hs_v2 := hB_v2.size; (try simp only [World.size_alloc, World.size_setCell, World.size_drew] at hs_v2); have hBW : Below w.heap.size w v2 := below_after (w := w) (by go_grown) hB_v2; have hn_v2 := nl cc1; clear hB_v2)
    go_wp2_with fail
    refine bodyPost_ret (by simp [results, Tryd.results16, go_sem, cc1, cc2]; try rfl) rfl ?_
    exact ⟨rfl, by go_grown⟩
set_option maxRecDepth 100000 in
set_option maxHeartbeats 4000000 in
theorem ends_walk (f m e x0 x1 xf y0 y1 z0 z1 : Int) (neg bb bt : Bool) [hU : U8 f] [hM : U8 m] (w : World) [hLay : Laid w]
    (hx0 : Hid (hi (overO f m neg) = x0)) (hx1 : Hid (lo (overO f m neg) = x1)) (hxf : Hid (overFl f m = xf)) (hy0 : Hid (hi (makeF f neg 0 1) = y0)) (hy1 : Hid (lo (makeF f neg 0 1) = y1)) (hz0 : Hid (hi (makeF f neg 1 0) = z0)) (hz1 : Hid (lo (makeF f neg 1 0) = z1))
    (hbb : Hid (beyondS f e = bb)) (hbt : Hid (tinyO f e = bt)) (hq : (decide (f < 4) = true ∧ bb = decide (emaxS f < e) ∧ bt = decide (e < 1 - emaxS f)) ∨ (decide (f < 4) = false ∧ bb = false ∧ bt = false)) :
    Calls Tryd.prog 3 #[.int .u8 f, .int .u8 m, .bool neg, .int .i64 e] w fun en w' => en = .returned (.bool true) ∧ Below w.heap.size w w' := by
  obtain ⟨m0, m1⟩ := emaxS_bd f
  have hp1 : IntKind.i64.wrap (1 - emaxS f) = 1 - emaxS f := IntWalk.i64_in _ (by omega)
  have he1 := fun W => eql_res_same W x0 x1 xf
  have he2 := fun W => eql_bits_same W y0 y1
  have he3 := fun W => eql_bits_same W z0 z1
  have c01 := cat_01
  rcases hq with ⟨q1, rfl, rfl⟩ | ⟨q1, rfl, rfl⟩
  all_goals (
    go_enter Tryd.func3, Tryd.ntmps3
    (go_wp2_with fail; refine (ref_Emax f _).mono ?_; rintro en _ ⟨rfl, rfl⟩)
    skip
    (go_wp2_with fail; refine (over_all _ _ _ _).mono ?_; rw [hx0.out, hx1.out, hxf.out]; rintro en v1 ⟨rfl, hB_v1⟩; have lay_v1 := laid_after hB_v1; have hs_v1 := hB_v1.size; (try simp only [World.size_alloc, World.size_setCell, World.size_drew] at hs_v1); have hBW : Below w.heap.size w v1 := below_after (w := w) (by go_grown) hB_v1; clear hB_v1)
    (go_wp2_with fail; refine (ref_Over _ _ _ _).mono ?_; rw [hx0.out, hx1.out, hxf.out]; rintro en v2 ⟨rfl, hB_v2⟩; have lay_v2 := laid_after hB_v2; have hs_v2 := hB_v2.size; (try simp only [World.size_alloc, World.size_setCell, World.size_drew] at hs_v2); replace hBW : Below w.heap.size w v2 := below_after (w := w) (by go_grown) hB_v2; clear hB_v2)
    (go_wp2_with fail; refine (over_Least _ _ _).mono ?_; rw [c01, hy0.out, hy1.out]; rintro en v3 ⟨rfl, hB_v3⟩; have lay_v3 := laid_after hB_v3; have hs_v3 := hB_v3.size; (try simp only [World.size_alloc, World.size_setCell, World.size_drew] at hs_v3); replace hBW : Below w.heap.size w v3 := below_after (w := w) (by go_grown) hB_v3; clear hB_v3)
    (go_wp2_with fail; refine (ref_Least _ _ _).mono ?_; rw [hy0.out, hy1.out]; rintro en v4 ⟨rfl, hB_v4⟩; have lay_v4 := laid_after hB_v4; have hs_v4 := hB_v4.size; (try simp only [World.size_alloc, World.size_setCell, World.size_drew] at hs_v4); replace hBW : Below w.heap.size w v4 := below_after (w := w) (by go_grown) hB_v4; clear hB_v4)
    (go_wp2_with fail; refine (over_Normal _ _ _).mono ?_; rw [hz0.out, hz1.out]; rintro en v5 ⟨rfl, hB_v5⟩; have lay_v5 := laid_after hB_v5; have hs_v5 := hB_v5.size; (try simp only [World.size_alloc, World.size_setCell, World.size_drew] at hs_v5); replace hBW : Below w.heap.size w v5 := below_after (w := w) (by go_grown) hB_v5; clear hB_v5)
    (go_wp2_with fail; refine (ref_Normal _ _ _).mono ?_; rw [hz0.out, hz1.out]; rintro en v6 ⟨rfl, hB_v6⟩; have lay_v6 := laid_after hB_v6; have hs_v6 := hB_v6.size; (try simp only [World.size_alloc, World.size_setCell, World.size_drew] at hs_v6); replace hBW : Below w.heap.size w v6 := below_after (w := w) (by go_grown) hB_v6; clear hB_v6)
    (go_wp2_with fail; refine (over_Beyond_all _ _ _).mono ?_; rw [hbb.out]; rintro en v7 ⟨rfl, hB_v7⟩; have lay_v7 := laid_after hB_v7; have hs_v7 := hB_v7.size; (try simp only [World.size_alloc, World.size_setCell, World.size_drew] at hs_v7); replace hBW : Below w.heap.size w v7 := below_after (w := w) (by go_grown) hB_v7; clear hB_v7)
    (go_wp2_with fail; refine (over_Tiny_all _ _ _).mono ?_; rw [hbt.out]; rintro en v8 ⟨rfl, hB_v8⟩; have lay_v8 := laid_after hB_v8; have hs_v8 := hB_v8.size; (try simp only [World.size_alloc, World.size_setCell, World.size_drew] at hs_v8); replace hBW : Below w.heap.size w v8 := below_after (w := w) (by go_grown) hB_v8; clear hB_v8)
    (go_wp2_with fail; refine (law14_goes _).mono ?_; rintro en v9 ⟨rfl, hB_v9⟩; have lay_v9 := laid_after hB_v9; have hs_v9 := hB_v9.size; (try simp only [World.size_alloc, World.size_setCell, World.size_drew] at hs_v9); replace hBW : Below w.heap.size w v9 := below_after (w := w) (by go_grown) hB_v9; clear hB_v9)
    go_wp2_with fail
    go_returns
    exact ⟨rfl, by go_grown⟩)
theorem walk_OverEnds (f m : Int) (neg : Bool) (e : Int) [hU : U8 f] [hM : U8 m] (w : World) [hLay : Laid w] :
    Calls Tryd.prog 3 #[.int .u8 f, .int .u8 m, .bool neg, .int .i64 e] w fun en w' => en = .returned (.bool true) ∧ Below w.heap.size w w' := by
  refine ends_walk f m e _ _ _ _ _ _ _ neg _ _ w rfl rfl rfl rfl rfl rfl rfl rfl rfl ?_
  unfold beyondS tinyO
  by_cases hf : f < 4
  · exact Or.inl ⟨decide_eq_true hf, by rw [decide_eq_true hf]; rfl, by rw [decide_eq_true hf]; rfl⟩
  · exact Or.inr ⟨decide_eq_false hf, by rw [decide_eq_false hf]; rfl, by rw [decide_eq_false hf]; rfl⟩
end Go.Proofs.YtgpedgppdggjmaaDoor
