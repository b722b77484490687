/- The contract of the reference's Round where the rounded number has few digits: for every number that is not too long. Condition: the listed table is laid. (Printed by round.py.) -/
import Derived.Test.YtkpjeceofcfnkaaGreatDoorNumB
set_option maxRecDepth 100000
set_option maxHeartbeats 40000000
set_option linter.unusedSimpArgs false
set_option linter.unusedVariables false
namespace Go.Proofs.YtkpjeceofcfnkaaGreatDoor
open Go.RowKit Go.Hb
theorem round_few (f m E eN own U r fg b0 b1 : Int) (aft neg : Bool) (Q F N : Nat) (v : Value) [hU8 : U8 f] (w : World) [hLay : Laid w] (hf : f < 4) (m0 : 0 ≤ m) (m1 : m ≤ 4) (hR_v : RN w v Q) (lq : dl Q ≤ 30000) (hQ : Q ≠ 0) (e0 : -4000000000000 ≤ E) (e1 : E ≤ 4000000000000)
    (lF : dl F ≤ 30000) (lN : dl N ≤ 30000) (hF : Hid (cutR m neg Q (blen Q - precS f) = F)) (hN : Hid (cutR m neg Q (U - E) = N)) (hr : Hid (restR Q (U - E) = r))
    (hE : IntKind.i64.wrap (IntKind.i64.wrap ((blen Q : Int) - 1) + E) = eN) (hEq : Hid (eN = (blen Q : Int) - 1 + E)) (x0 : -4000000000001 ≤ eN) (x1 : eN ≤ 4000001000000)
    (hO : (blen F : Int) - 1 + eN - (precS f - 1) = own) (hU : max eN (1 - emaxS f) - (precS f - 1) = U) (o0 : -4000010000000 ≤ own) (o1 : own ≤ 4000010000000) (g0 : -4000010000000 ≤ U) (g1 : U ≤ 4000010000000) (hov : ¬ emaxS f < own) (u0' : -1000000 ≤ U - E) (u1' : U - E ≤ 4000000000000000)
    (h1 : (blen N : Int) < precS f) (h2 : Hid (hi (makeF f neg 0 N) = b0)) (h3 : Hid (lo (makeF f neg 0 N) = b1))
    (hfg0 : Hid ((r = 0 ∧ fg = 0) ∨ ((r == 0) = false ∧ aft = false ∧ (eN < 1 - emaxS f ∧ fg = 24 ∨ ¬ eN < 1 - emaxS f ∧ fg = 16)) ∨ ((r == 0) = false ∧ aft = true ∧ (own < 1 - emaxS f ∧ fg = 24 ∨ ¬ own < 1 - emaxS f ∧ fg = 16)))) :
    Calls Tryz.prog 38 #[.int .u8 f, .agg #[.int .u8 m, .bool aft], .agg #[.bool neg, v, .int .i64 E, .bool false]] w fun en w' => en = .returned (.agg #[.int .u64 b0, .int .u64 b1, .int .u8 fg]) ∧ Below w.heap.size w w' := by
  have hR_v' := hR_v
  obtain ⟨q, cap, rfl, _, _⟩ := hR_v'
  obtain ⟨mm0, mm1⟩ := emaxS_bd f
  obtain ⟨f1, f2, f3, f4, f5, f6⟩ := fmt_bd f U8.ge hf
  have hdl := dl_ne Q hQ
  have q1 : decide (f > 3) = false := decide_eq_false (by omega)
  have q2 : decide (m > 4) = false := decide_eq_false (by omega)
  have bQ : (blen Q : Int) ≤ 960000 := by unfold dl at lq; omega
  have bF : (blen F : Int) ≤ 960000 := by unfold dl at lF; omega
  have bN : (blen N : Int) ≤ 960000 := by unfold dl at lN; omega
  go_enter Tryz.func38, Tryz.ntmps38
  skip
  skip
  (go_wp2_with fail; refine (ref_Prec f _).mono ?_; rintro en _ ⟨rfl, rfl⟩)
  (go_wp2_with fail; refine (ref_Emax f _).mono ?_; rintro en _ ⟨rfl, rfl⟩)
  go_upto_region 7 with fail
  ((first | refine wp_rename ?_ | refine goal_rename ?_); intro W7 hw_W7; replace hR_v := RN.later hR_v (w' := W7) (by rw [hw_W7]; first | with_reducible exact drewN_below (Below.refl _ _) _ | go_grown); have cc1 : W7.cell? ⟨w.heap.size, 0, none⟩ = some (.int .u8 m) := (by rw [hw_W7]; go_simp); have cc2 : W7.cell? ⟨w.heap.size, 1, none⟩ = some (.bool aft) := (by rw [hw_W7]; go_simp); have cc3 : W7.cell? ⟨w.heap.size + 1, 0, none⟩ = some (.bool neg) := (by rw [hw_W7]; go_simp); have cc4 : W7.cell? ⟨w.heap.size + 1, 1, none⟩ = some (.slice q (dl Q) cap) := (by rw [hw_W7]; go_simp); have cc5 : W7.cell? ⟨w.heap.size + 1, 2, none⟩ = some (.int .i64 E) := (by rw [hw_W7]; go_simp); have cc6 : W7.cell? ⟨w.heap.size + 1, 3, none⟩ = some (.bool false) := (by rw [hw_W7]; go_simp); have cc7 : W7.cell? ⟨w.heap.size + 1 + 1, 0, none⟩ = some (.int .u64 0) := (by rw [hw_W7]; go_simp); have fcc7 : W7.frozen? ⟨w.heap.size + 1 + 1, 0, none⟩ = false := (by rw [hw_W7]; go_simp); have cc8 : W7.cell? ⟨w.heap.size + 1 + 1, 1, none⟩ = some (.int .u64 0) := (by rw [hw_W7]; go_simp); have fcc8 : W7.frozen? ⟨w.heap.size + 1 + 1, 1, none⟩ = false := (by rw [hw_W7]; go_simp); have cc9 : W7.cell? ⟨w.heap.size + 1 + 1, 2, none⟩ = some (.int .u8 0) := (by rw [hw_W7]; go_simp); have fcc9 : W7.frozen? ⟨w.heap.size + 1 + 1, 2, none⟩ = false := (by rw [hw_W7]; go_simp); have hBW : Below w.heap.size w W7 := (by rw [hw_W7]; (first | with_reducible exact drewN_below (by assumption) _ | go_grown)); have hn_W7 := an (nl cc1) (an (nl cc3) (nl cc7)); have lay_W7 : Laid W7 := Laid.below (w := w) (by assumption) hBW; clear hw_W7)
  refine Lin.wp_region_lin (by kernel_rfl) (by intro _ _ d _ _ h; cases d <;> exact h) (by kernel_rfl) (fun w' => Below W7.heap.size W7 w' ∧ w'.cell? ⟨w.heap.size, 0, none⟩ = some (.int .u8 m) ∧ w'.cell? ⟨w.heap.size, 1, none⟩ = some (.bool aft) ∧ w'.cell? ⟨w.heap.size + 1, 0, none⟩ = some (.bool neg) ∧ w'.cell? ⟨w.heap.size + 1, 1, none⟩ = some (.slice q (dl Q) cap) ∧ w'.cell? ⟨w.heap.size + 1, 2, none⟩ = some (.int .i64 E) ∧ w'.cell? ⟨w.heap.size + 1, 3, none⟩ = some (.bool false) ∧ w'.cell? ⟨w.heap.size + 1 + 1, 0, none⟩ = some (.int .u64 0) ∧ w'.cell? ⟨w.heap.size + 1 + 1, 1, none⟩ = some (.int .u64 0) ∧ w'.cell? ⟨w.heap.size + 1 + 1, 2, none⟩ = some (.int .u8 0)) ⟨(Below.refl _ _).drew, by go_simp, by go_simp, by go_simp, by go_simp, by go_simp, by go_simp, by go_simp, by go_simp, by go_simp⟩ ?_
  simp only [List.length_cons, List.length_nil, Nat.reduceAdd]
  refine Lin.Blk.out ?_
  iterate 8 (first | refine Lin.bl_rest rfl ?_ | (refine Lin.bl_val rfl rfl (by first | rfl | kernel_rfl) ?_; apply Exists.intro; refine ⟨fun w' hw' => ?_, ?_⟩; (focus (have hBw := hw'.1; have hSw := hw'.2; clear hw'; (try dsimp only at hBw hSw); have lay' : Laid w' := Laid.below lay_W7 hBw; go_simp; first | with_reducible exact Lin.lin_value | with_reducible exact Lin.lin_skip | exact Lin.lin_ret (num_Len_b Q _ _ (RN.later hR_v hBw) (by omega)) rfl)); (try simp only [Act.put, List.setIfInBounds_toArray, List.set_cons_zero, List.set_cons_succ])))
  refine Lin.bl_end ?_
  refine Lin.fin0 (fun wa wb hc hb => ⟨hc.1.trans (hb.mono hc.1.size), cell_later hb hc.2.1, cell_later hb hc.2.2.1, cell_later hb hc.2.2.2.1, cell_later hb hc.2.2.2.2.1, cell_later hb hc.2.2.2.2.2.1, cell_later hb hc.2.2.2.2.2.2.1, cell_later hb hc.2.2.2.2.2.2.2.1, cell_later hb hc.2.2.2.2.2.2.2.2.1, cell_later hb hc.2.2.2.2.2.2.2.2.2⟩) (by kernel_rfl) ?_
  intro X hw_X
  have hb_X := hw_X.1; clear hw_X
  have lay_X : Laid X := Laid.below lay_W7 hb_X
  (replace cc1 := cl hb_X cc1; replace cc2 := cl hb_X cc2; replace cc3 := cl hb_X cc3; replace cc4 := cl hb_X cc4; replace cc5 := cl hb_X cc5; replace cc6 := cl hb_X cc6; replace fcc7 := fl hb_X fcc7 cc7; replace cc7 := cl hb_X cc7; replace fcc8 := fl hb_X fcc8 cc8; replace cc8 := cl hb_X cc8; replace fcc9 := fl hb_X fcc9 cc9; replace cc9 := cl hb_X cc9; replace hR_v := RN.later hR_v hb_X; replace hBW := below_after hBW hb_X; have hsb_X := hb_X.size; have hn_X := an (nl cc1) (an (nl cc3) (nl cc7)))
  (refine wpAny_ready (rs := [7]) (by kernel_rfl) (by simp) ?_; refine AllReady.cons rfl (fun K hK => ?_) AllReady.nil; go_simp; refine hK _ _ ?_; clear hK K)
  refine wpAny_done (by kernel_rfl) ?_ _
  apply_assumption
  (first | refine wp_rename ?_ | refine goal_rename ?_); intro X_ hw_X; subst hw_X
  clear hE
  (go_wp2_with fail; refine (ref_Cut_at Q ((blen Q : Nat) - precS f) _ m neg _ _ (by have := hEq.out; omega) hR_v (by omega) (by omega) (by omega) m0 m1).mono ?_; rw [hF.out]; rintro en v1 ⟨⟨u1, rfl, hR_u1⟩, hB_v1⟩; have lay_v1 := laid_after hB_v1; replace hR_v := RN.later hR_v (below_after (by go_grown) hB_v1); have hG := cell_grown cc1 (by go_grown) hB_v1; replace cc1 := cl hG cc1; replace cc2 := cl hG cc2; replace cc3 := cl hG cc3; replace cc4 := cl hG cc4; replace cc5 := cl hG cc5; replace cc6 := cl hG cc6; replace fcc7 := fl hG fcc7 cc7; replace cc7 := cl hG cc7; replace fcc8 := fl hG fcc8 cc8; replace cc8 := cl hG cc8; replace fcc9 := fl hG fcc9 cc9; replace cc9 := cl hG cc9; replace hBW := below_after hBW hG; have hs_v1 := hG.size; clear hG; have hn_v1 := an (nl cc1) (an (nl cc3) (nl cc7)); clear hB_v1)
  (go_wp2_with fail; refine (num_Len F u1 _ hR_u1 (by omega)).mono ?_; rintro en _ ⟨rfl, rfl⟩)
  (go_wp2_with fail; refine (ref_Emax f _).mono ?_; rintro en _ ⟨rfl, rfl⟩)
  (go_wp2_with fail; refine (ref_Cut_at Q (U - E) _ m neg _ _ (by omega) hR_v (by omega) u1' u0' m0 m1).mono ?_; rw [hN.out, hr.out]; rintro en v2 ⟨⟨u2, rfl, hR_u2⟩, hB_v2⟩; have lay_v2 := laid_after hB_v2; replace hR_v := RN.later hR_v (below_after (by go_grown) hB_v2); replace hR_u1 := RN.later hR_u1 (below_after (by go_grown) hB_v2); have hG := cell_grown cc1 (by go_grown) hB_v2; replace cc1 := cl hG cc1; replace cc2 := cl hG cc2; replace cc3 := cl hG cc3; replace cc4 := cl hG cc4; replace cc5 := cl hG cc5; replace cc6 := cl hG cc6; replace fcc7 := fl hG fcc7 cc7; replace cc7 := cl hG cc7; replace fcc8 := fl hG fcc8 cc8; replace cc8 := cl hG cc8; replace fcc9 := fl hG fcc9 cc9; replace cc9 := cl hG cc9; replace hBW := below_after hBW hG; have hs_v2 := hG.size; clear hG; have hn_v2 := an (nl cc1) (an (nl cc3) (nl cc7)); clear hB_v2)
  go_upto_region 15 with fail
  ((first | refine wp_rename ?_ | refine goal_rename ?_); intro W15 hw_W15; have hG := named cc1 W15 (by rw [hw_W15]; first | with_reducible exact drewN_below (Below.refl _ _) _ | go_grown); replace cc1 := cl hG cc1; replace cc2 := cl hG cc2; replace cc3 := cl hG cc3; replace cc4 := cl hG cc4; replace cc5 := cl hG cc5; replace cc6 := cl hG cc6; replace fcc7 := fl hG fcc7 cc7; replace cc7 := cl hG cc7; replace fcc8 := fl hG fcc8 cc8; replace cc8 := cl hG cc8; replace fcc9 := fl hG fcc9 cc9; replace cc9 := cl hG cc9; replace hR_v := RN.later hR_v (w' := W15) (by rw [hw_W15]; first | with_reducible exact drewN_below (Below.refl _ _) _ | go_grown); replace hR_u1 := RN.later hR_u1 (w' := W15) (by rw [hw_W15]; first | with_reducible exact drewN_below (Below.refl _ _) _ | go_grown); replace hR_u2 := RN.later hR_u2 (w' := W15) (by rw [hw_W15]; first | with_reducible exact drewN_below (Below.refl _ _) _ | go_grown); have cc10 : W15.cell? ⟨v2.heap.size, 0, none⟩ = some (.int .u64 0) := (by rw [hw_W15]; go_simp); have fcc10 : W15.frozen? ⟨v2.heap.size, 0, none⟩ = false := (by rw [hw_W15]; go_simp); have cc11 : W15.cell? ⟨v2.heap.size, 1, none⟩ = some (.int .u64 0) := (by rw [hw_W15]; go_simp); have fcc11 : W15.frozen? ⟨v2.heap.size, 1, none⟩ = false := (by rw [hw_W15]; go_simp); have cc12 : W15.cell? ⟨v2.heap.size, 2, none⟩ = some (.int .u8 0) := (by rw [hw_W15]; go_simp); have fcc12 : W15.frozen? ⟨v2.heap.size, 2, none⟩ = false := (by rw [hw_W15]; go_simp); replace hBW := below_after hBW hG; have hs_W15 := hG.size; clear hG; have hn_W15 := an (nl cc1) (an (nl cc3) (an (nl cc7) (nl cc10))); have lay_W15 : Laid W15 := Laid.below (w := w) (by assumption) hBW; clear hw_W15)
  have hz : w.heap.size < v2.heap.size ∧ w.heap.size ≠ v2.heap.size ∧ v2.heap.size ≠ w.heap.size ∧ w.heap.size + 1 ≠ v2.heap.size ∧ v2.heap.size ≠ w.heap.size + 1 ∧ w.heap.size + 1 + 1 ≠ v2.heap.size ∧ v2.heap.size ≠ w.heap.size + 1 + 1 ∧ w.heap.size ≤ v2.heap.size := by omega
  clear hF hN hr hO hU hEq x0 x1 e0 e1 u0' u1' lF lq hQ hdl q1 q2 bQ bF m0 m1 hn_W7 hn_X hn_v1 hn_v2 hs_v1 hs_v2 hsb_X lay_W7 lay_X lay_v1 lay_v2 hb_X f1 f2 f5 f6 o0 o1
  (go_wp2_with fail; refine (num_Len N u2 _ hR_u2 (by omega)).mono ?_; rintro en _ ⟨rfl, rfl⟩)
  (go_wp2_with fail; refine (ref_Make_at f 0 _ neg u2 N _ rfl hf (by omega) (by omega) hR_u2 (by omega)).mono ?_; rw [h2.out, h3.out]; rintro en v3 ⟨rfl, hB_v3⟩; have lay_v3 := laid_after hB_v3; replace hR_v := RN.later hR_v (below_after (by go_grown) hB_v3); replace hR_u1 := RN.later hR_u1 (below_after (by go_grown) hB_v3); replace hR_u2 := RN.later hR_u2 (below_after (by go_grown) hB_v3); have hG := cell_grown cc1 (by go_grown) hB_v3; replace cc1 := cl hG cc1; replace cc2 := cl hG cc2; replace cc3 := cl hG cc3; replace cc4 := cl hG cc4; replace cc5 := cl hG cc5; replace cc6 := cl hG cc6; replace fcc7 := fl hG fcc7 cc7; replace cc7 := cl hG cc7; replace fcc8 := fl hG fcc8 cc8; replace cc8 := cl hG cc8; replace fcc9 := fl hG fcc9 cc9; replace cc9 := cl hG cc9; replace fcc10 := fl hG fcc10 cc10; replace cc10 := cl hG cc10; replace fcc11 := fl hG fcc11 cc11; replace cc11 := cl hG cc11; replace fcc12 := fl hG fcc12 cc12; replace cc12 := cl hG cc12; replace hBW := below_after hBW hG; have hs_v3 := hG.size; clear hG; have hn_v3 := an (nl cc1) (an (nl cc3) (an (nl cc7) (nl cc10))); clear hB_v3)
  clear hR_v hR_u1 hR_u2
  skip
  skip
  go_upto_region 20 with fail
  ((first | refine wp_rename ?_ | refine goal_rename ?_); intro W20 hw_W20; replace cc1 := rn hw_W20 cc1 (by go_simp); replace cc2 := rn hw_W20 cc2 (by go_simp); replace cc3 := rn hw_W20 cc3 (by go_simp); replace cc4 := rn hw_W20 cc4 (by go_simp); replace cc5 := rn hw_W20 cc5 (by go_simp); replace cc6 := rn hw_W20 cc6 (by go_simp); replace cc7 := rn hw_W20 cc7 (by go_simp); replace fcc7 := rf hw_W20 fcc7 (by go_simp); replace cc8 := rn hw_W20 cc8 (by go_simp); replace fcc8 := rf hw_W20 fcc8 (by go_simp); replace cc9 := rn hw_W20 cc9 (by go_simp); replace fcc9 := rf hw_W20 fcc9 (by go_simp); replace cc10 : W20.cell? ⟨v2.heap.size, 0, none⟩ = some (.int .u64 b0) := (by rw [hw_W20]; go_simp); replace fcc10 := rf hw_W20 fcc10 (by go_simp); replace cc11 : W20.cell? ⟨v2.heap.size, 1, none⟩ = some (.int .u64 b1) := (by rw [hw_W20]; go_simp); replace fcc11 := rf hw_W20 fcc11 (by go_simp); replace cc12 := rn hw_W20 cc12 (by go_simp); replace fcc12 := rf hw_W20 fcc12 (by go_simp); replace hBW : Below w.heap.size w W20 := (by rw [hw_W20]; (first | with_reducible exact drewN_below (by assumption) _ | go_grown)); have hn_W20 := an (nl cc1) (an (nl cc3) (an (nl cc7) (nl cc10))); have lay_W20 : Laid W20 := Laid.below (w := w) (by assumption) hBW; clear hw_W20)
  clear h1 h2 h3 lN bN hn_W15 hn_v3 f3 f4 g0 g1 hov mm0 hf lay_v3 lay_W15
  rcases hfg0.out with ⟨rfl, rfl⟩ | ⟨hr0, rfl, ⟨ht, rfl⟩ | ⟨ht, rfl⟩⟩ | ⟨hr0, rfl, ⟨ht, rfl⟩ | ⟨ht, rfl⟩⟩
  all_goals (
    clear hfg0
    go_wp2_with fail
    refine bodyPost_ret (by simp [results, Tryz.results38, go_sem, cc7, cc8, cc9, cc10, cc11, cc12]; try rfl) rfl ?_
    exact ⟨rfl, by go_grown⟩)
end Go.Proofs.YtkpjeceofcfnkaaGreatDoor
