/- The contract of the reference's Round where the number is 0, is beyond the format's end, or the format or the mode is none. Condition: the listed table is laid. -/
import Derived.Test.YtgpedgppdggjmaaDoorNum9
set_option linter.unusedSimpArgs false
set_option linter.unusedVariables false
namespace Go.Proofs.YtgpedgppdggjmaaDoor
open Go.RowKit Go.Hb
set_option maxRecDepth 100000 in
set_option maxHeartbeats 4000000 in
theorem round_none (f m E : Int) (aft neg : Bool) (v : Value) [hU8 : U8 f] (w : World) (hk : ¬ (f < 4 ∧ m ≤ 4)) :
    Calls Tryd.prog 21 #[.int .u8 f, .agg #[.int .u8 m, .bool aft], .agg #[.bool neg, v, .int .i64 E, .bool false]] w fun en w' => en = .returned (.agg #[.int .u64 0, .int .u64 0, .int .u8 0]) ∧ Below w.heap.size w w' := by
  by_cases hf : f < 4
  · have q1 : decide (f > 3) = false := decide_eq_false (by omega)
    have q2 : decide (m > 4) = true := decide_eq_true (by omega)
    clear hk
    go_enter Tryd.func21, Tryd.ntmps21
    go_wp2_with fail
    refine bodyPost_ret (by simp [results, Tryd.results21, go_sem]; try rfl) rfl ?_
    exact ⟨rfl, by go_grown⟩
  · have q1 : decide (f > 3) = true := decide_eq_true (by omega)
    clear hk
    go_enter Tryd.func21, Tryd.ntmps21
    go_wp2_with fail
    refine bodyPost_ret (by simp [results, Tryd.results21, go_sem]; try rfl) rfl ?_
    exact ⟨rfl, by go_grown⟩
set_option maxRecDepth 100000 in
set_option maxHeartbeats 4000000 in
theorem round_zero (f m E b0 b1 : Int) (aft neg : Bool) (v : Value) [hU8 : U8 f] (w : World) [hLay : Laid w] (hf : f < 4) (m0 : 0 ≤ m) (m1 : m ≤ 4) (hR_v : RN w v 0) (h2 : Hid (hi (makeF f neg 0 0) = b0)) (h3 : Hid (lo (makeF f neg 0 0) = b1)) :
    Calls Tryd.prog 21 #[.int .u8 f, .agg #[.int .u8 m, .bool aft], .agg #[.bool neg, v, .int .i64 E, .bool false]] w fun en w' => en = .returned (.agg #[.int .u64 b0, .int .u64 b1, .int .u8 0]) ∧ Below w.heap.size w w' := by
  obtain ⟨q, cap, rfl, _, _⟩ := hR_v
  rw [dl_zero]
  have q1 : decide (f > 3) = false := decide_eq_false (by omega)
  have q2 : decide (m > 4) = false := decide_eq_false (by omega)
  have l0 := dl_nought
  go_enter Tryd.func21, Tryd.ntmps21
  skip
  (go_wp2_with fail; refine (ref_Make_at f 0 _ neg _ 0 _ rfl hf (by omega) (by omega) (RN.nil _) l0).mono ?_; rw [h2.out, h3.out]; rintro en v1 ⟨rfl, hB_v1⟩; have lay_v1 := laid_after hB_v1; have cc1 := cl hB_v1 (show World.cell? _ ⟨w.heap.size, 0, none⟩ = some (.int .u8 m) by go_simp); have cc2 := cl hB_v1 (show World.cell? _ ⟨w.heap.size, 1, none⟩ = some (.bool aft) by go_simp); have cc3 := cl hB_v1 (show World.cell? _ ⟨w.heap.size + 1, 0, none⟩ = some (.bool neg) by go_simp); have cc4 := cl hB_v1 (show World.cell? _ ⟨w.heap.size + 1, 1, none⟩ = some (.slice q 0 cap) by go_simp); have cc5 := cl hB_v1 (show World.cell? _ ⟨w.heap.size + 1, 2, none⟩ = some (.int .i64 E) by go_simp); have cc6 := cl hB_v1 (show World.cell? _ ⟨w.heap.size + 1, 3, none⟩ = some (.bool false) by go_simp); obtain ⟨cc7, fcc7⟩ := pf hB_v1 (show World.cell? _ ⟨w.heap.size + 1 + 1, 0, none⟩ = some (.int .u64 0) by go_simp) (by go_simp); obtain ⟨cc8, fcc8⟩ := pf hB_v1 (show World.cell? _ ⟨w.heap.size + 1 + 1, 1, none⟩ = some (.int .u64 0) by go_simp) (by go_simp); obtain ⟨cc9, fcc9⟩ := pf hB_v1 (show World.cell? _ ⟨w.heap.size + 1 + 1, 2, none⟩ = some (.int .u8 0) by go_simp) (by go_simp); have hs_v1 := hB_v1.size; (try simp only [World.size_alloc, World.size_setCell, World.size_drew] at hs_v1); have hBW : Below w.heap.size w v1 := below_after (w := w) (by go_grown) hB_v1; have hn_v1 := an (nl cc1) (an (nl cc3) (nl cc7)); clear hB_v1)
  go_wp2_with fail
  refine bodyPost_ret (by simp [results, Tryd.results21, go_sem, cc7, cc8, cc9]; try rfl) rfl ?_
  exact ⟨rfl, by go_grown⟩
set_option maxRecDepth 100000 in
set_option maxHeartbeats 4000000 in
theorem round_over (f m E eN own b0 b1 : Int) (aft neg : Bool) (Q F : Nat) (v : Value) [hU8 : U8 f] [hM8 : U8 m] (w : World) [hLay : Laid w] (hf : f < 4) (m0 : 0 ≤ m) (m1 : m ≤ 4) (hR_v : RN w v Q) (lq : dl Q ≤ 30000) (hQ : Q ≠ 0) (e0 : -4000000000000 ≤ E) (e1 : E ≤ 4000000000000)
    (lF : dl F ≤ 30000) (hF : Hid (cutR m neg Q (blen Q - precS f) = F))
    (hE : IntKind.i64.wrap (IntKind.i64.wrap ((blen Q : Int) - 1) + E) = eN) (hEq : Hid (eN = (blen Q : Int) - 1 + E)) (x0 : -4000000000001 ≤ eN) (x1 : eN ≤ 4000001000000)
    (hO : (blen F : Int) - 1 + eN - (precS f - 1) = own) (o0 : -4000010000000 ≤ own) (o1 : own ≤ 4000010000000) (hov : emaxS f < own)
    (h2 : Hid (hi (overO f m neg) = b0)) (h3 : Hid (lo (overO f m neg) = b1)) (h4 : Hid (overFl f m = 20)) :
    Calls Tryd.prog 21 #[.int .u8 f, .agg #[.int .u8 m, .bool aft], .agg #[.bool neg, v, .int .i64 E, .bool false]] w fun en w' => en = .returned (.agg #[.int .u64 b0, .int .u64 b1, .int .u8 20]) ∧ Below w.heap.size w w' := by
  have hR_v' := hR_v
  obtain ⟨q, cap, rfl, _, _⟩ := hR_v'
  obtain ⟨mm0, mm1⟩ := emaxS_bd f
  obtain ⟨f1, f2, f3, f4, f5, f6⟩ := fmt_bd f U8.ge hf
  have hdl := dl_ne Q hQ
  have q1 : decide (f > 3) = false := decide_eq_false (by omega)
  have q2 : decide (m > 4) = false := decide_eq_false (by omega)
  have bQ : (blen Q : Int) ≤ 960000 := by unfold dl at lq; omega
  have bF : (blen F : Int) ≤ 960000 := by unfold dl at lF; omega
  go_enter Tryd.func21, Tryd.ntmps21
  skip
  skip
  (go_wp2_with fail; refine (ref_Prec f _).mono ?_; rintro en _ ⟨rfl, rfl⟩)
  (go_wp2_with fail; refine (ref_Emax f _).mono ?_; rintro en _ ⟨rfl, rfl⟩)
  go_upto_region 7 with fail
  ((first | refine wp_rename ?_ | refine goal_rename ?_); intro W7 hw_W7; replace hR_v := RN.later hR_v (w' := W7) (by rw [hw_W7]; first | with_reducible exact drewN_below (Below.refl _ _) _ | go_grown); have cc1 : W7.cell? ⟨w.heap.size, 0, none⟩ = some (.int .u8 m) := (by rw [hw_W7]; go_simp); have cc2 : W7.cell? ⟨w.heap.size, 1, none⟩ = some (.bool aft) := (by rw [hw_W7]; go_simp); have cc3 : W7.cell? ⟨w.heap.size + 1, 0, none⟩ = some (.bool neg) := (by rw [hw_W7]; go_simp); have cc4 : W7.cell? ⟨w.heap.size + 1, 1, none⟩ = some (.slice q (dl Q) cap) := (by rw [hw_W7]; go_simp); have cc5 : W7.cell? ⟨w.heap.size + 1, 2, none⟩ = some (.int .i64 E) := (by rw [hw_W7]; go_simp); have cc6 : W7.cell? ⟨w.heap.size + 1, 3, none⟩ = some (.bool false) := (by rw [hw_W7]; go_simp); have cc7 : W7.cell? ⟨w.heap.size + 1 + 1, 0, none⟩ = some (.int .u64 0) := (by rw [hw_W7]; go_simp); have fcc7 : W7.frozen? ⟨w.heap.size + 1 + 1, 0, none⟩ = false := (by rw [hw_W7]; go_simp); have cc8 : W7.cell? ⟨w.heap.size + 1 + 1, 1, none⟩ = some (.int .u64 0) := (by rw [hw_W7]; go_simp); have fcc8 : W7.frozen? ⟨w.heap.size + 1 + 1, 1, none⟩ = false := (by rw [hw_W7]; go_simp); have cc9 : W7.cell? ⟨w.heap.size + 1 + 1, 2, none⟩ = some (.int .u8 0) := (by rw [hw_W7]; go_simp); have fcc9 : W7.frozen? ⟨w.heap.size + 1 + 1, 2, none⟩ = false := (by rw [hw_W7]; go_simp); have hBW : Below w.heap.size w W7 := (by rw [hw_W7]; (first | with_reducible exact drewN_below (by assumption) _ | go_grown)); have hn_W7 := an (nl cc1) (an (nl cc3) (nl cc7)); have lay_W7 : Laid W7 := Laid.below (w := w) (by assumption) hBW; clear hw_W7)
  refine Lin.wp_region_lin (by kernel_rfl) (by intro _ _ d _ _ h; cases d <;> exact h) (by kernel_rfl) (fun w' => Below W7.heap.size W7 w' ∧ w'.cell? ⟨w.heap.size, 0, none⟩ = some (.int .u8 m) ∧ w'.cell? ⟨w.heap.size, 1, none⟩ = some (.bool aft) ∧ w'.cell? ⟨w.heap.size + 1, 0, none⟩ = some (.bool neg) ∧ w'.cell? ⟨w.heap.size + 1, 1, none⟩ = some (.slice q (dl Q) cap) ∧ w'.cell? ⟨w.heap.size + 1, 2, none⟩ = some (.int .i64 E) ∧ w'.cell? ⟨w.heap.size + 1, 3, none⟩ = some (.bool false) ∧ w'.cell? ⟨w.heap.size + 1 + 1, 0, none⟩ = some (.int .u64 0) ∧ w'.cell? ⟨w.heap.size + 1 + 1, 1, none⟩ = some (.int .u64 0) ∧ w'.cell? ⟨w.heap.size + 1 + 1, 2, none⟩ = some (.int .u8 0)) ⟨(Below.refl _ _).drew, by go_simp, by go_simp, by go_simp, by go_simp, by go_simp, by go_simp, by go_simp, by go_simp, by go_simp⟩ ?_
  simp only [List.length_cons, List.length_nil, Nat.reduceAdd]
  refine Lin.Blk.out ?_
  iterate 2 (refine Lin.bl_val rfl rfl rfl ?_; apply Exists.intro; refine ⟨fun w' hw' => ?_, ?_⟩; (focus (have hBw := hw'.1; have hSw := hw'.2; clear hw'; (try dsimp only at hBw hSw); go_simp; first | with_reducible exact Lin.lin_value | with_reducible exact Lin.lin_skip)); (try simp only [Act.put, List.setIfInBounds_toArray, List.set_cons_zero, List.set_cons_succ]))
  (refine Lin.bl_val rfl rfl rfl ?_; apply Exists.intro; refine ⟨fun w' hw' => ?_, ?_⟩; (focus (have hBw := hw'.1; have hSw := hw'.2; clear hw'; (try dsimp only at hBw hSw); have lay' : Laid w' := Laid.below lay_W7 hBw; go_simp; first | exact Lin.lin_ret (num_Len_b Q _ _ (RN.later hR_v hBw) (by omega)) rfl)); (try simp only [Act.put, List.setIfInBounds_toArray, List.set_cons_zero, List.set_cons_succ]))
  iterate 4 (refine Lin.bl_val rfl rfl rfl ?_; apply Exists.intro; refine ⟨fun w' hw' => ?_, ?_⟩; (focus (have hBw := hw'.1; have hSw := hw'.2; clear hw'; (try dsimp only at hBw hSw); go_simp; first | with_reducible exact Lin.lin_value | with_reducible exact Lin.lin_skip)); (try simp only [Act.put, List.setIfInBounds_toArray, List.set_cons_zero, List.set_cons_succ]))
  refine Lin.bl_rest rfl ?_
  refine Lin.bl_end ?_
  refine Lin.fin0 (fun wa wb hc hb => ⟨hc.1.trans (hb.mono hc.1.size), cell_later hb hc.2.1, cell_later hb hc.2.2.1, cell_later hb hc.2.2.2.1, cell_later hb hc.2.2.2.2.1, cell_later hb hc.2.2.2.2.2.1, cell_later hb hc.2.2.2.2.2.2.1, cell_later hb hc.2.2.2.2.2.2.2.1, cell_later hb hc.2.2.2.2.2.2.2.2.1, cell_later hb hc.2.2.2.2.2.2.2.2.2⟩) (by kernel_rfl) ?_
  intro X hw_X
  have hb_X := hw_X.1; clear hw_X
  have lay_X : Laid X := Laid.below lay_W7 hb_X
  (replace cc1 := cl hb_X cc1; replace cc2 := cl hb_X cc2; replace cc3 := cl hb_X cc3; replace cc4 := cl hb_X cc4; replace cc5 := cl hb_X cc5; replace cc6 := cl hb_X cc6; replace fcc7 := fl hb_X fcc7 cc7; replace cc7 := cl hb_X cc7; replace fcc8 := fl hb_X fcc8 cc8; replace cc8 := cl hb_X cc8; replace fcc9 := fl hb_X fcc9 cc9; replace cc9 := cl hb_X cc9; replace hR_v := RN.later hR_v hb_X; replace hBW := below_after hBW hb_X; have hsb_X := hb_X.size; have hn_X := an (nl cc1) (an (nl cc3) (nl cc7)))
  (refine wpAny_ready (rs := [7]) (by kernel_rfl) (by simp) ?_; refine AllReady.cons rfl (fun K hK => ?_) AllReady.nil; go_simp; refine hK _ _ ?_; clear hK K)
  refine wpAny_done (by kernel_rfl) ?_ _
  apply_assumption
  (first | refine wp_rename ?_ | refine goal_rename ?_); intro X_ hw_X; subst hw_X
  clear hE
  (go_wp2_with fail; refine (ref_Cut_at Q ((blen Q : Nat) - precS f) _ m neg _ _ (by have := hEq.out; omega) hR_v (by omega) (by omega) (by omega) m0 m1).mono ?_; rw [hF.out]; rintro en v1 ⟨⟨u1, rfl, hR_u1⟩, hB_v1⟩; have lay_v1 := laid_after hB_v1; replace hR_v := RN.later hR_v (below_after (by go_grown) hB_v1); have hG := cell_grown cc1 (by go_grown) hB_v1; replace cc1 := cl hG cc1; replace cc2 := cl hG cc2; replace cc3 := cl hG cc3; replace cc4 := cl hG cc4; replace cc5 := cl hG cc5; replace cc6 := cl hG cc6; replace fcc7 := fl hG fcc7 cc7; replace cc7 := cl hG cc7; replace fcc8 := fl hG fcc8 cc8; replace cc8 := cl hG cc8; replace fcc9 := fl hG fcc9 cc9; replace cc9 := cl hG cc9; have hs_v1 := hG.size; clear hG; replace hBW : Below w.heap.size w v1 := below_after (w := w) (by go_grown) hB_v1; have hn_v1 := an (nl cc1) (an (nl cc3) (nl cc7)); clear hB_v1)
  (go_wp2_with fail; refine (num_Len F u1 _ hR_u1 (by omega)).mono ?_; rintro en _ ⟨rfl, rfl⟩)
  (go_wp2_with fail; refine (ref_Emax f _).mono ?_; rintro en _ ⟨rfl, rfl⟩)
  clear hR_v hR_u1
  (go_wp2_with fail; refine (ref_Over f m neg _).mono ?_; rw [h2.out, h3.out, h4.out]; rintro en v2 ⟨rfl, hB_v2⟩; have lay_v2 := laid_after hB_v2; have hG := cell_grown cc1 (by go_grown) hB_v2; replace cc1 := cl hG cc1; replace cc2 := cl hG cc2; replace cc3 := cl hG cc3; replace cc4 := cl hG cc4; replace cc5 := cl hG cc5; replace cc6 := cl hG cc6; replace fcc7 := fl hG fcc7 cc7; replace cc7 := cl hG cc7; replace fcc8 := fl hG fcc8 cc8; replace cc8 := cl hG cc8; replace fcc9 := fl hG fcc9 cc9; replace cc9 := cl hG cc9; have hs_v2 := hG.size; clear hG; replace hBW : Below w.heap.size w v2 := below_after (w := w) (by go_grown) hB_v2; have hn_v2 := an (nl cc1) (an (nl cc3) (nl cc7)); clear hB_v2)
  go_wp2_with fail
  refine bodyPost_ret (by simp [results, Tryd.results21, go_sem, cc7, cc8, cc9]; try rfl) rfl ?_
  exact ⟨rfl, by go_grown⟩
end Go.Proofs.YtgpedgppdggjmaaDoor
