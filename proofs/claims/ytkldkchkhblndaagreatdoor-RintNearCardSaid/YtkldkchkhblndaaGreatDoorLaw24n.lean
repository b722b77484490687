/- RintNear: what is made whole lies near; the walks by ways, joined. Condition: the listed table is laid. -/
import Derived.Test.YtkldkchkhblndaaGreatDoorLaw24f
set_option linter.unusedSimpArgs false
set_option linter.unusedVariables false
namespace Go.Proofs.YtkldkchkhblndaaGreatDoor
open Go.RowKit Go.Hb
set_option maxRecDepth 100000 in
set_option maxHeartbeats 8000000 in
theorem rn_nf (f m h l : Int) [hU : U8 f] [hM : U8 m] [U8 (m % 5)] [U64 h] [U64 l] (w : World) [hLay : Laid w] (hf : ¬ f < 4) :
    Calls Tryz.prog 11 #[.int .u8 f, .int .u8 m, .agg #[.int .u64 (h), .int .u64 (l)]] w fun en w' => en = .returned (.bool true) ∧ Below w.heap.size w w' := by
  have hfd : decide (f < 4) = false := decide_eq_false hf
  have hm0 := hM.ge
  clear hf
  go_enter Tryz.func11, Tryz.ntmps11
  skip
  (go_wp2_with fail; refine (format_Known_b _ _).mono ?_; rintro en v1 ⟨rfl, hB_v1⟩; have lay_v1 := laid_after hB_v1; have cc1 := cl hB_v1 (show World.cell? _ ⟨w.heap.size, 0, none⟩ = some (.int .u64 h) by go_simp); have cc2 := cl hB_v1 (show World.cell? _ ⟨w.heap.size, 1, none⟩ = some (.int .u64 l) by go_simp); have hs_v1 := hB_v1.size; (try simp only [World.size_alloc, World.size_setCell, World.size_drew] at hs_v1); have hBW : Below w.heap.size w v1 := below_after (w := w) (by go_grown) hB_v1; have hn_v1 := nl cc1; clear hB_v1)
  (go_wp2_with fail; refine (law24_goes _).mono ?_; rintro en v4 ⟨rfl, hB_v4⟩; have lay_v4 := laid_after hB_v4; have hG := cell_grown cc1 (by go_grown) hB_v4; replace cc1 := cl hG cc1; replace cc2 := cl hG cc2; have hs_v4 := hG.size; clear hG; replace hBW : Below w.heap.size w v4 := below_after (w := w) (by go_grown) hB_v4; have hn_v4 := nl cc1; clear hB_v4)
  go_wp2_with fail
  go_returns
  exact ⟨rfl, by go_grown⟩
set_option maxRecDepth 100000 in
set_option maxHeartbeats 8000000 in
theorem rn_x (f m h l : Int) [hU : U8 f] [hM : U8 m] [U8 (m % 5)] [U64 h] [U64 l] (w : World) [hLay : Laid w] (hf : f < 4) (f1 : Hid (finC f (cat h l) = false)) :
    Calls Tryz.prog 11 #[.int .u8 f, .int .u8 m, .agg #[.int .u64 (h), .int .u64 (l)]] w fun en w' => en = .returned (.bool true) ∧ Below w.heap.size w w' := by
  have hfd : decide (f < 4) = true := decide_eq_true hf
  have hm0 := hM.ge
  clear hf
  go_enter Tryz.func11, Tryz.ntmps11
  skip
  (go_wp2_with fail; refine (format_Known_b _ _).mono ?_; rintro en v1 ⟨rfl, hB_v1⟩; have lay_v1 := laid_after hB_v1; have cc1 := cl hB_v1 (show World.cell? _ ⟨w.heap.size, 0, none⟩ = some (.int .u64 h) by go_simp); have cc2 := cl hB_v1 (show World.cell? _ ⟨w.heap.size, 1, none⟩ = some (.int .u64 l) by go_simp); have hs_v1 := hB_v1.size; (try simp only [World.size_alloc, World.size_setCell, World.size_drew] at hs_v1); have hBW : Below w.heap.size w v1 := below_after (w := w) (by go_grown) hB_v1; have hn_v1 := nl cc1; clear hB_v1)
  (go_wp2_with fail; refine (class_Finite _ _ _ _).mono ?_; rw [f1.out]; rintro en x1 ⟨rfl, hB_x1⟩; have lay_x1 := laid_after hB_x1; have hG := cell_grown cc1 (by go_grown) hB_x1; replace cc1 := cl hG cc1; replace cc2 := cl hG cc2; have hs_x1 := hG.size; clear hG; replace hBW : Below w.heap.size w x1 := below_after (w := w) (by go_grown) hB_x1; have hn_x1 := nl cc1; clear hB_x1)
  (go_wp2_with fail; refine (law24_goes _).mono ?_; rintro en v4 ⟨rfl, hB_v4⟩; have lay_v4 := laid_after hB_v4; have hG := cell_grown cc1 (by go_grown) hB_v4; replace cc1 := cl hG cc1; replace cc2 := cl hG cc2; have hs_v4 := hG.size; clear hG; replace hBW : Below w.heap.size w v4 := below_after (w := w) (by go_grown) hB_v4; have hn_v4 := nl cc1; clear hB_v4)
  go_wp2_with fail
  go_returns
  exact ⟨rfl, by go_grown⟩
set_option maxRecDepth 100000 in
set_option maxHeartbeats 8000000 in
theorem rn_lo (f m h l p0 p1 pz ah al s0 s1 sf dh dl o0 o1 k i0 i1 : Int) (b : Bool) [hU : U8 f] [hM : U8 m] [U8 (m % 5)] [U64 h] [U64 l] [U64 p0] [U64 p1] [U64 ah] [U64 al] [U64 s0] [U64 s1] [U64 dh] [U64 dl] [U64 o0] [U64 o1] [U64 i0] [U64 i1] (w : World) [hLay : Laid w] (hf : f < 4) (f1 : Hid (finC f (cat h l) = true))
    (a0 : Hid (hi (rintB f (m % 5) (cat h l)) = p0)) (a1 : Hid (lo (rintB f (m % 5) (cat h l)) = p1)) (a2 : Hid (rintFl f (m % 5) true (cat h l) = pz)) (a3 : Hid (rintFl f (m % 5) false (cat h l) = 0))
    (w0 : Hid (wholeB f (cat p0 p1) = true)) (w1 : Hid (wholeB f (cat h l) = b)) (qf : (pz == 0) = b) (g16 : bits BinOp.andNot IntKind.u8 pz 16 = 0)
    (k0 : Hid (hi (lowN (cat h l) (widthS f)) = ah)) (k1 : Hid (lo (lowN (cat h l) (widthS f)) = al)) (he : decide (p0 = ah ∧ p1 = al) = b)
    (b0 : Hid (hi (addB f 4 (cat p0 p1) (subN f (cat h l))) = s0)) (b1 : Hid (lo (addB f 4 (cat p0 p1) (subN f (cat h l))) = s1)) (b2 : Hid (addFl f 4 false (cat p0 p1) (subN f (cat h l)) = sf))
    (z0 : Hid (hi (sizeF f (cat s0 s1)) = dh)) (z1 : Hid (lo (sizeF f (cat s0 s1)) = dl)) (y0 : Hid (hi (makeF f false (emaxS f) 0) = o0)) (y1 : Hid (lo (makeF f false (emaxS f) 0) = o1))
    (x0 : Hid (hi (makeF f false (emaxS f - 1) 0) = i0)) (x1 : Hid (lo (makeF f false (emaxS f - 1) 0) = i1)) (hw : IntKind.i64.wrap (emaxS f - 1) = emaxS f - 1)
    (hm1 : decide (m % 5 ≤ 1) = true) (c0 : Hid (cmpN (cat dh dl) (cat i0 i1) = k)) (hk : decide (k ≤ 0) = true) :
    Calls Tryz.prog 11 #[.int .u8 f, .int .u8 m, .agg #[.int .u64 (h), .int .u64 (l)]] w fun en w' => en = .returned (.bool true) ∧ Below w.heap.size w w' := by
  have hfd : decide (f < 4) = true := decide_eq_true hf
  have hm0 := hM.ge
  have q := fun W a b c => neq_res_same W a b c
  have heq := fun W => run_eql_bits W p0 p1 ah al
  rw [he] at heq
  have hbb : (b != b) = false := by cases b <;> rfl
  have c00 : cat 0 0 = 0 := rfl
  clear hf he
  go_enter Tryz.func11, Tryz.ntmps11
  skip
  (go_wp2_with fail; refine (format_Known_b _ _).mono ?_; rintro en v1 ⟨rfl, hB_v1⟩; have lay_v1 := laid_after hB_v1; have cc1 := cl hB_v1 (show World.cell? _ ⟨w.heap.size, 0, none⟩ = some (.int .u64 h) by go_simp); have cc2 := cl hB_v1 (show World.cell? _ ⟨w.heap.size, 1, none⟩ = some (.int .u64 l) by go_simp); have hs_v1 := hB_v1.size; (try simp only [World.size_alloc, World.size_setCell, World.size_drew] at hs_v1); have hBW : Below w.heap.size w v1 := below_after (w := w) (by go_grown) hB_v1; have hn_v1 := nl cc1; clear hB_v1)
  (go_wp2_with fail; refine (class_Finite _ _ _ _).mono ?_; rw [f1.out]; rintro en x1' ⟨rfl, hB_x1'⟩; have lay_x1' := laid_after hB_x1'; have hG := cell_grown cc1 (by go_grown) hB_x1'; replace cc1 := cl hG cc1; replace cc2 := cl hG cc2; have hs_x1' := hG.size; clear hG; replace hBW : Below w.heap.size w x1' := below_after (w := w) (by go_grown) hB_x1'; have hn_x1' := nl cc1; clear hB_x1')
  (go_wp2_with fail; refine (rint_Rint _ _ _ _ _ _).mono ?_; rw [a0.out, a1.out, a2.out]; rintro en v2 ⟨rfl, hB_v2⟩; have lay_v2 := laid_after hB_v2; have hG := cell_grown cc1 (by go_grown) hB_v2; replace cc1 := cl hG cc1; replace cc2 := cl hG cc2; have hs_v2 := hG.size; clear hG; replace hBW : Below w.heap.size w v2 := below_after (w := w) (by go_grown) hB_v2; have hn_v2 := nl cc1; clear hB_v2)
  (go_wp2_with fail; refine (rint_Rint _ _ _ _ _ _).mono ?_; rw [a0.out, a1.out, a3.out]; rintro en v3 ⟨rfl, hB_v3⟩; have lay_v3 := laid_after hB_v3; have hG := cell_grown cc1 (by go_grown) hB_v3; replace cc1 := cl hG cc1; replace cc2 := cl hG cc2; have cc3 := cl hB_v3 (show World.cell? _ ⟨v2.heap.size, 0, none⟩ = some (.int .u64 p0) by go_simp); have cc4 := cl hB_v3 (show World.cell? _ ⟨v2.heap.size, 1, none⟩ = some (.int .u64 p1) by go_simp); have cc5 := cl hB_v3 (show World.cell? _ ⟨v2.heap.size, 2, none⟩ = some (.int .u8 pz) by go_simp); have hs_v3 := hG.size; clear hG; replace hBW : Below w.heap.size w v3 := below_after (w := w) (by go_grown) hB_v3; have hn_v3 := an (nl cc1) (nl cc3); clear hB_v3)
  go_upto_region 6 with fail
  ((first | refine wp_rename ?_ | refine goal_rename ?_); intro W6 hw_W6; have hG := named cc1 W6 (by rw [hw_W6]; go_grown); replace cc1 := cl hG cc1; replace cc2 := cl hG cc2; replace cc3 := cl hG cc3; replace cc4 := cl hG cc4; replace cc5 := cl hG cc5; have cc6 : W6.cell? ⟨v3.heap.size, 0, none⟩ = some (.int .u64 p0) := (by rw [hw_W6]; go_simp); have cc7 : W6.cell? ⟨v3.heap.size, 1, none⟩ = some (.int .u64 p1) := (by rw [hw_W6]; go_simp); have cc8 : W6.cell? ⟨v3.heap.size, 2, none⟩ = some (.int .u8 0) := (by rw [hw_W6]; go_simp); replace hBW := below_after hBW hG; have hs_W6 := hG.size; clear hG; have hn_W6 := an (nl cc1) (an (nl cc3) (nl cc6)); have lay_W6 : Laid W6 := Laid.below (w := w) (by assumption) hBW; clear hw_W6)
  refine Lin.wp_region_lin (by kernel_rfl) (by intro _ _ d _ _ h; cases d <;> exact h) (by kernel_rfl) (fun w' => Below W6.heap.size W6 w' ∧ w'.cell? ⟨w.heap.size, 0, none⟩ = some (.int .u64 h) ∧ w'.cell? ⟨w.heap.size, 1, none⟩ = some (.int .u64 l) ∧ w'.cell? ⟨v2.heap.size, 0, none⟩ = some (.int .u64 p0) ∧ w'.cell? ⟨v2.heap.size, 1, none⟩ = some (.int .u64 p1) ∧ w'.cell? ⟨v2.heap.size, 2, none⟩ = some (.int .u8 pz) ∧ w'.cell? ⟨v3.heap.size, 0, none⟩ = some (.int .u64 p0) ∧ w'.cell? ⟨v3.heap.size, 1, none⟩ = some (.int .u64 p1) ∧ w'.cell? ⟨v3.heap.size, 2, none⟩ = some (.int .u8 0)) ⟨(Below.refl _ _).drew, by go_simp, by go_simp, by go_simp, by go_simp, by go_simp, by go_simp, by go_simp, by go_simp⟩ ?_
  simp only [List.length_cons, List.length_nil, Nat.reduceAdd]
  refine Lin.Blk.out ?_
  iterate 3 (refine Lin.bl_val rfl rfl rfl ?_; apply Exists.intro; refine ⟨fun w' hw' => ?_, ?_⟩; (focus (have hBw := hw'.1; have hSw := hw'.2; clear hw'; (try dsimp only at hBw hSw); go_simp; first | with_reducible exact Lin.lin_value | with_reducible exact Lin.lin_skip)); (try simp only [Act.put, List.setIfInBounds_toArray, List.set_cons_zero, List.set_cons_succ]))
  (refine Lin.bl_val rfl rfl rfl ?_; apply Exists.intro; refine ⟨fun w' hw' => ?_, ?_⟩; (focus (have hBw := hw'.1; have hSw := hw'.2; clear hw'; (try dsimp only at hBw hSw); have lay' : Laid w' := Laid.below lay_W6 hBw; go_simp; first | exact Lin.lin_ret (rint_Whole _ _ _ _) (by rw [w0.out]) | exact Lin.lin_ret (format_Cut _ _ _ _) (by rw [k0.out, k1.out]) | exact Lin.lin_ret (rint_Whole _ _ _ _) (by rw [w1.out]))); (try simp only [Act.put, List.setIfInBounds_toArray, List.set_cons_zero, List.set_cons_succ]))
  iterate 2 (refine Lin.bl_val rfl rfl rfl ?_; apply Exists.intro; refine ⟨fun w' hw' => ?_, ?_⟩; (focus (have hBw := hw'.1; have hSw := hw'.2; clear hw'; (try dsimp only at hBw hSw); go_simp; first | with_reducible exact Lin.lin_value | with_reducible exact Lin.lin_skip)); (try simp only [Act.put, List.setIfInBounds_toArray, List.set_cons_zero, List.set_cons_succ]))
  iterate 5 (refine Lin.bl_val rfl rfl (by kernel_rfl) ?_; apply Exists.intro; refine ⟨fun w' hw' => ?_, ?_⟩; (focus (have hBw := hw'.1; have hSw := hw'.2; clear hw'; (try dsimp only at hBw hSw); go_simp; first | with_reducible exact Lin.lin_value | with_reducible exact Lin.lin_skip)); (try simp only [Act.put, List.setIfInBounds_toArray, List.set_cons_zero, List.set_cons_succ]))
  iterate 2 (refine Lin.bl_val rfl rfl rfl ?_; apply Exists.intro; refine ⟨fun w' hw' => ?_, ?_⟩; (focus (have hBw := hw'.1; have hSw := hw'.2; clear hw'; (try dsimp only at hBw hSw); go_simp; first | with_reducible exact Lin.lin_value | with_reducible exact Lin.lin_skip)); (try simp only [Act.put, List.setIfInBounds_toArray, List.set_cons_zero, List.set_cons_succ]))
  iterate 7 (refine Lin.bl_val rfl rfl (by kernel_rfl) ?_; apply Exists.intro; refine ⟨fun w' hw' => ?_, ?_⟩; (focus (have hBw := hw'.1; have hSw := hw'.2; clear hw'; (try dsimp only at hBw hSw); go_simp; first | with_reducible exact Lin.lin_value | with_reducible exact Lin.lin_skip)); (try simp only [Act.put, List.setIfInBounds_toArray, List.set_cons_zero, List.set_cons_succ]))
  (refine Lin.bl_val rfl rfl (by kernel_rfl) ?_; apply Exists.intro; refine ⟨fun w' hw' => ?_, ?_⟩; (focus (have hBw := hw'.1; have hSw := hw'.2; clear hw'; (try dsimp only at hBw hSw); have lay' : Laid w' := Laid.below lay_W6 hBw; go_simp; first | exact Lin.lin_ret (rint_Whole _ _ _ _) (by rw [w0.out]) | exact Lin.lin_ret (format_Cut _ _ _ _) (by rw [k0.out, k1.out]) | exact Lin.lin_ret (rint_Whole _ _ _ _) (by rw [w1.out]))); (try simp only [Act.put, List.setIfInBounds_toArray, List.set_cons_zero, List.set_cons_succ]))
  iterate 2 (refine Lin.bl_val rfl rfl (by kernel_rfl) ?_; apply Exists.intro; refine ⟨fun w' hw' => ?_, ?_⟩; (focus (have hBw := hw'.1; have hSw := hw'.2; clear hw'; (try dsimp only at hBw hSw); go_simp; first | with_reducible exact Lin.lin_value | with_reducible exact Lin.lin_skip)); (try simp only [Act.put, List.setIfInBounds_toArray, List.set_cons_zero, List.set_cons_succ]))
  iterate 2 (refine Lin.bl_val rfl rfl rfl ?_; apply Exists.intro; refine ⟨fun w' hw' => ?_, ?_⟩; (focus (have hBw := hw'.1; have hSw := hw'.2; clear hw'; (try dsimp only at hBw hSw); go_simp; first | with_reducible exact Lin.lin_value | with_reducible exact Lin.lin_skip)); (try simp only [Act.put, List.setIfInBounds_toArray, List.set_cons_zero, List.set_cons_succ]))
  iterate 5 (refine Lin.bl_val rfl rfl (by kernel_rfl) ?_; apply Exists.intro; refine ⟨fun w' hw' => ?_, ?_⟩; (focus (have hBw := hw'.1; have hSw := hw'.2; clear hw'; (try dsimp only at hBw hSw); go_simp; first | with_reducible exact Lin.lin_value | with_reducible exact Lin.lin_skip)); (try simp only [Act.put, List.setIfInBounds_toArray, List.set_cons_zero, List.set_cons_succ]))
  (refine Lin.bl_val rfl rfl (by kernel_rfl) ?_; apply Exists.intro; refine ⟨fun w' hw' => ?_, ?_⟩; (focus (have hBw := hw'.1; have hSw := hw'.2; clear hw'; (try dsimp only at hBw hSw); have lay' : Laid w' := Laid.below lay_W6 hBw; go_simp; first | exact Lin.lin_ret (rint_Whole _ _ _ _) (by rw [w0.out]) | exact Lin.lin_ret (format_Cut _ _ _ _) (by rw [k0.out, k1.out]) | exact Lin.lin_ret (rint_Whole _ _ _ _) (by rw [w1.out]))); (try simp only [Act.put, List.setIfInBounds_toArray, List.set_cons_zero, List.set_cons_succ]))
  (refine Lin.bl_val rfl rfl (by kernel_rfl) ?_; apply Exists.intro; refine ⟨fun w' hw' => ?_, ?_⟩; (focus (have hBw := hw'.1; have hSw := hw'.2; clear hw'; (try dsimp only at hBw hSw); go_simp; first | with_reducible exact Lin.lin_value | with_reducible exact Lin.lin_skip)); (try simp only [Act.put, List.setIfInBounds_toArray, List.set_cons_zero, List.set_cons_succ]))
  iterate 2 (refine Lin.bl_val rfl rfl rfl ?_; apply Exists.intro; refine ⟨fun w' hw' => ?_, ?_⟩; (focus (have hBw := hw'.1; have hSw := hw'.2; clear hw'; (try dsimp only at hBw hSw); go_simp; first | with_reducible exact Lin.lin_value | with_reducible exact Lin.lin_skip)); (try simp only [Act.put, List.setIfInBounds_toArray, List.set_cons_zero, List.set_cons_succ]))
  iterate 4 (refine Lin.bl_val rfl rfl (by kernel_rfl) ?_; apply Exists.intro; refine ⟨fun w' hw' => ?_, ?_⟩; (focus (have hBw := hw'.1; have hSw := hw'.2; clear hw'; (try dsimp only at hBw hSw); go_simp; first | with_reducible exact Lin.lin_value | with_reducible exact Lin.lin_skip)); (try simp only [Act.put, List.setIfInBounds_toArray, List.set_cons_zero, List.set_cons_succ]))
  (refine Lin.bl_val rfl rfl rfl ?_; apply Exists.intro; refine ⟨fun w' hw' => ?_, ?_⟩; (focus (have hBw := hw'.1; have hSw := hw'.2; clear hw'; (try dsimp only at hBw hSw); go_simp; first | with_reducible exact Lin.lin_value | with_reducible exact Lin.lin_skip)); (try simp only [Act.put, List.setIfInBounds_toArray, List.set_cons_zero, List.set_cons_succ]))
  refine Lin.bl_end ?_
  refine Lin.fin0 (fun wa wb hc hb => ⟨hc.1.trans (hb.mono hc.1.size), cell_later hb hc.2.1, cell_later hb hc.2.2.1, cell_later hb hc.2.2.2.1, cell_later hb hc.2.2.2.2.1, cell_later hb hc.2.2.2.2.2.1, cell_later hb hc.2.2.2.2.2.2.1, cell_later hb hc.2.2.2.2.2.2.2.1, cell_later hb hc.2.2.2.2.2.2.2.2⟩) (by kernel_rfl) ?_
  intro X hw_X
  have hb_X := hw_X.1; clear hw_X
  have lay_X : Laid X := Laid.below lay_W6 hb_X
  (replace cc1 := cl hb_X cc1; replace cc2 := cl hb_X cc2; replace cc3 := cl hb_X cc3; replace cc4 := cl hb_X cc4; replace cc5 := cl hb_X cc5; replace cc6 := cl hb_X cc6; replace cc7 := cl hb_X cc7; replace cc8 := cl hb_X cc8; replace hBW := below_after hBW hb_X; have hsb_X := hb_X.size; have hn_X := an (nl cc1) (an (nl cc3) (nl cc6)))
  refine wpAny_done (by kernel_rfl) ?_ _
  apply_assumption
  (first | refine wp_rename ?_ | refine goal_rename ?_); intro X_ hw_X; subst hw_X
  (go_wp2_with fail; refine (addsub_Sub _ _ _ _ _ _ _ _).mono ?_; rw [b0.out, b1.out, b2.out]; rintro en v4 ⟨rfl, hB_v4⟩; have lay_v4 := laid_after hB_v4; have hG := cell_grown cc1 (by go_grown) hB_v4; replace cc1 := cl hG cc1; replace cc2 := cl hG cc2; replace cc3 := cl hG cc3; replace cc4 := cl hG cc4; replace cc5 := cl hG cc5; replace cc6 := cl hG cc6; replace cc7 := cl hG cc7; replace cc8 := cl hG cc8; have hs_v4 := hG.size; clear hG; replace hBW : Below w.heap.size w v4 := below_after (w := w) (by go_grown) hB_v4; have hn_v4 := an (nl cc1) (an (nl cc3) (nl cc6)); clear hB_v4)
  (go_wp2_with fail; refine (law24_size _ _ _ _).mono ?_; rw [z0.out, z1.out]; rintro en v5 ⟨rfl, hB_v5⟩; have lay_v5 := laid_after hB_v5; have hG := cell_grown cc1 (by go_grown) hB_v5; replace cc1 := cl hG cc1; replace cc2 := cl hG cc2; replace cc3 := cl hG cc3; replace cc4 := cl hG cc4; replace cc5 := cl hG cc5; replace cc6 := cl hG cc6; replace cc7 := cl hG cc7; replace cc8 := cl hG cc8; have hs_v5 := hG.size; clear hG; replace hBW : Below w.heap.size w v5 := below_after (w := w) (by go_grown) hB_v5; have hn_v5 := an (nl cc1) (an (nl cc3) (nl cc6)); clear hB_v5)
  (go_wp2_with fail; refine (format_Emax _ _).mono ?_; rintro en v6 ⟨rfl, hB_v6⟩; have lay_v6 := laid_after hB_v6; have hG := cell_grown cc1 (by go_grown) hB_v6; replace cc1 := cl hG cc1; replace cc2 := cl hG cc2; replace cc3 := cl hG cc3; replace cc4 := cl hG cc4; replace cc5 := cl hG cc5; replace cc6 := cl hG cc6; replace cc7 := cl hG cc7; replace cc8 := cl hG cc8; have cc9 := cl hB_v6 (show World.cell? _ ⟨v5.heap.size, 0, none⟩ = some (.int .u64 dh) by go_simp); have cc10 := cl hB_v6 (show World.cell? _ ⟨v5.heap.size, 1, none⟩ = some (.int .u64 dl) by go_simp); have hs_v6 := hG.size; clear hG; replace hBW : Below w.heap.size w v6 := below_after (w := w) (by go_grown) hB_v6; have hn_v6 := an (nl cc1) (an (nl cc3) (an (nl cc6) (nl cc9))); clear hB_v6)
  (go_wp2_with fail; refine (format_Make _ _ _ _ _ _).mono ?_; rw [c00, y0.out, y1.out]; rintro en v7 ⟨rfl, hB_v7⟩; have lay_v7 := laid_after hB_v7; have hG := cell_grown cc1 (by go_grown) hB_v7; replace cc1 := cl hG cc1; replace cc2 := cl hG cc2; replace cc3 := cl hG cc3; replace cc4 := cl hG cc4; replace cc5 := cl hG cc5; replace cc6 := cl hG cc6; replace cc7 := cl hG cc7; replace cc8 := cl hG cc8; replace cc9 := cl hG cc9; replace cc10 := cl hG cc10; have hs_v7 := hG.size; clear hG; replace hBW : Below w.heap.size w v7 := below_after (w := w) (by go_grown) hB_v7; have hn_v7 := an (nl cc1) (an (nl cc3) (an (nl cc6) (nl cc9))); clear hB_v7)
  (go_wp2_with fail; refine (format_Emax _ _).mono ?_; rintro en v8 ⟨rfl, hB_v8⟩; have lay_v8 := laid_after hB_v8; have hG := cell_grown cc1 (by go_grown) hB_v8; replace cc1 := cl hG cc1; replace cc2 := cl hG cc2; replace cc3 := cl hG cc3; replace cc4 := cl hG cc4; replace cc5 := cl hG cc5; replace cc6 := cl hG cc6; replace cc7 := cl hG cc7; replace cc8 := cl hG cc8; replace cc9 := cl hG cc9; replace cc10 := cl hG cc10; obtain ⟨cc11, fcc11⟩ := pf hB_v8 (show World.cell? _ ⟨v7.heap.size, 0, none⟩ = some (.int .u64 o0) by go_simp) (by go_simp); obtain ⟨cc12, fcc12⟩ := pf hB_v8 (show World.cell? _ ⟨v7.heap.size, 1, none⟩ = some (.int .u64 o1) by go_simp) (by go_simp); have hs_v8 := hG.size; clear hG; replace hBW : Below w.heap.size w v8 := below_after (w := w) (by go_grown) hB_v8; have hn_v8 := an (nl cc1) (an (nl cc3) (an (nl cc6) (an (nl cc9) (nl cc11)))); clear hB_v8)
  (go_wp2_with fail; refine (format_Make _ _ _ _ _ _).mono ?_; rw [c00, x0.out, x1.out]; rintro en v9 ⟨rfl, hB_v9⟩; have lay_v9 := laid_after hB_v9; have hG := cell_grown cc1 (by go_grown) hB_v9; replace cc1 := cl hG cc1; replace cc2 := cl hG cc2; replace cc3 := cl hG cc3; replace cc4 := cl hG cc4; replace cc5 := cl hG cc5; replace cc6 := cl hG cc6; replace cc7 := cl hG cc7; replace cc8 := cl hG cc8; replace cc9 := cl hG cc9; replace cc10 := cl hG cc10; replace fcc11 := fl hG fcc11 cc11; replace cc11 := cl hG cc11; replace fcc12 := fl hG fcc12 cc12; replace cc12 := cl hG cc12; have hs_v9 := hG.size; clear hG; replace hBW : Below w.heap.size w v9 := below_after (w := w) (by go_grown) hB_v9; have hn_v9 := an (nl cc1) (an (nl cc3) (an (nl cc6) (an (nl cc9) (nl cc11)))); clear hB_v9)
  skip
  skip
  go_upto_region 12 with fail
  ((first | refine wp_rename ?_ | refine goal_rename ?_); intro W12 hw_W12; replace cc1 := rn hw_W12 cc1 (by go_simp); replace cc2 := rn hw_W12 cc2 (by go_simp); replace cc3 := rn hw_W12 cc3 (by go_simp); replace cc4 := rn hw_W12 cc4 (by go_simp); replace cc5 := rn hw_W12 cc5 (by go_simp); replace cc6 := rn hw_W12 cc6 (by go_simp); replace cc7 := rn hw_W12 cc7 (by go_simp); replace cc8 := rn hw_W12 cc8 (by go_simp); replace cc9 := rn hw_W12 cc9 (by go_simp); replace cc10 := rn hw_W12 cc10 (by go_simp); replace cc11 : W12.cell? ⟨v7.heap.size, 0, none⟩ = some (.int .u64 i0) := (by rw [hw_W12]; go_simp); replace fcc11 := rf hw_W12 fcc11 (by go_simp); replace cc12 : W12.cell? ⟨v7.heap.size, 1, none⟩ = some (.int .u64 i1) := (by rw [hw_W12]; go_simp); replace fcc12 := rf hw_W12 fcc12 (by go_simp); replace hBW : Below w.heap.size w W12 := (by rw [hw_W12]; (first | with_reducible exact drewN_below (by assumption) _ | go_grown)); have hn_W12 := an (nl cc1) (an (nl cc3) (an (nl cc6) (an (nl cc9) (nl cc11)))); have lay_W12 : Laid W12 := Laid.below (w := w) (by assumption) hBW; clear hw_W12)
  (go_wp2_with fail; refine (word_Cmp _ _ _ _ _).mono ?_; rw [c0.out]; rintro en v10 ⟨rfl, hB_v10⟩; have lay_v10 := laid_after hB_v10; have hG := cell_grown cc1 (by go_grown) hB_v10; replace cc1 := cl hG cc1; replace cc2 := cl hG cc2; replace cc3 := cl hG cc3; replace cc4 := cl hG cc4; replace cc5 := cl hG cc5; replace cc6 := cl hG cc6; replace cc7 := cl hG cc7; replace cc8 := cl hG cc8; replace cc9 := cl hG cc9; replace cc10 := cl hG cc10; replace fcc11 := fl hG fcc11 cc11; replace cc11 := cl hG cc11; replace fcc12 := fl hG fcc12 cc12; replace cc12 := cl hG cc12; have hs_v10 := hG.size; clear hG; replace hBW : Below w.heap.size w v10 := below_after (w := w) (by go_grown) hB_v10; have hn_v10 := an (nl cc1) (an (nl cc3) (an (nl cc6) (an (nl cc9) (nl cc11)))); clear hB_v10)
  (go_wp2_with fail; refine (law24_goes _).mono ?_; rintro en v11 ⟨rfl, hB_v11⟩; have lay_v11 := laid_after hB_v11; have hG := cell_grown cc1 (by go_grown) hB_v11; replace cc1 := cl hG cc1; replace cc2 := cl hG cc2; replace cc3 := cl hG cc3; replace cc4 := cl hG cc4; replace cc5 := cl hG cc5; replace cc6 := cl hG cc6; replace cc7 := cl hG cc7; replace cc8 := cl hG cc8; replace cc9 := cl hG cc9; replace cc10 := cl hG cc10; replace fcc11 := fl hG fcc11 cc11; replace cc11 := cl hG cc11; replace fcc12 := fl hG fcc12 cc12; replace cc12 := cl hG cc12; have hs_v11 := hG.size; clear hG; replace hBW : Below w.heap.size w v11 := below_after (w := w) (by go_grown) hB_v11; have hn_v11 := an (nl cc1) (an (nl cc3) (an (nl cc6) (an (nl cc9) (nl cc11)))); clear hB_v11)
  go_wp2_with fail
  go_returns
  exact ⟨rfl, by go_grown⟩
set_option maxRecDepth 100000 in
set_option maxHeartbeats 8000000 in
theorem rn_hi (f m h l p0 p1 pz ah al s0 s1 sf dh dl o0 o1 k : Int) (b : Bool) [hU : U8 f] [hM : U8 m] [U8 (m % 5)] [U64 h] [U64 l] [U64 p0] [U64 p1] [U64 ah] [U64 al] [U64 s0] [U64 s1] [U64 dh] [U64 dl] [U64 o0] [U64 o1] (w : World) [hLay : Laid w] (hf : f < 4) (f1 : Hid (finC f (cat h l) = true))
    (a0 : Hid (hi (rintB f (m % 5) (cat h l)) = p0)) (a1 : Hid (lo (rintB f (m % 5) (cat h l)) = p1)) (a2 : Hid (rintFl f (m % 5) true (cat h l) = pz)) (a3 : Hid (rintFl f (m % 5) false (cat h l) = 0))
    (w0 : Hid (wholeB f (cat p0 p1) = true)) (w1 : Hid (wholeB f (cat h l) = b)) (qf : (pz == 0) = b) (g16 : bits BinOp.andNot IntKind.u8 pz 16 = 0)
    (k0 : Hid (hi (lowN (cat h l) (widthS f)) = ah)) (k1 : Hid (lo (lowN (cat h l) (widthS f)) = al)) (he : decide (p0 = ah ∧ p1 = al) = b)
    (b0 : Hid (hi (addB f 4 (cat p0 p1) (subN f (cat h l))) = s0)) (b1 : Hid (lo (addB f 4 (cat p0 p1) (subN f (cat h l))) = s1)) (b2 : Hid (addFl f 4 false (cat p0 p1) (subN f (cat h l)) = sf))
    (z0 : Hid (hi (sizeF f (cat s0 s1)) = dh)) (z1 : Hid (lo (sizeF f (cat s0 s1)) = dl)) (y0 : Hid (hi (makeF f false (emaxS f) 0) = o0)) (y1 : Hid (lo (makeF f false (emaxS f) 0) = o1))
    (hm1 : decide (m % 5 ≤ 1) = false) (c0 : Hid (cmpN (cat dh dl) (cat o0 o1) = k)) (hk : decide (k ≤ 0) = true) :
    Calls Tryz.prog 11 #[.int .u8 f, .int .u8 m, .agg #[.int .u64 (h), .int .u64 (l)]] w fun en w' => en = .returned (.bool true) ∧ Below w.heap.size w w' := by
  have hfd : decide (f < 4) = true := decide_eq_true hf
  have hm0 := hM.ge
  have q := fun W a b c => neq_res_same W a b c
  have heq := fun W => run_eql_bits W p0 p1 ah al
  rw [he] at heq
  have hbb : (b != b) = false := by cases b <;> rfl
  have c00 : cat 0 0 = 0 := rfl
  clear hf he
  go_enter Tryz.func11, Tryz.ntmps11
  skip
  (go_wp2_with fail; refine (format_Known_b _ _).mono ?_; rintro en v1 ⟨rfl, hB_v1⟩; have lay_v1 := laid_after hB_v1; have cc1 := cl hB_v1 (show World.cell? _ ⟨w.heap.size, 0, none⟩ = some (.int .u64 h) by go_simp); have cc2 := cl hB_v1 (show World.cell? _ ⟨w.heap.size, 1, none⟩ = some (.int .u64 l) by go_simp); have hs_v1 := hB_v1.size; (try simp only [World.size_alloc, World.size_setCell, World.size_drew] at hs_v1); have hBW : Below w.heap.size w v1 := below_after (w := w) (by go_grown) hB_v1; have hn_v1 := nl cc1; clear hB_v1)
  (go_wp2_with fail; refine (class_Finite _ _ _ _).mono ?_; rw [f1.out]; rintro en x1' ⟨rfl, hB_x1'⟩; have lay_x1' := laid_after hB_x1'; have hG := cell_grown cc1 (by go_grown) hB_x1'; replace cc1 := cl hG cc1; replace cc2 := cl hG cc2; have hs_x1' := hG.size; clear hG; replace hBW : Below w.heap.size w x1' := below_after (w := w) (by go_grown) hB_x1'; have hn_x1' := nl cc1; clear hB_x1')
  (go_wp2_with fail; refine (rint_Rint _ _ _ _ _ _).mono ?_; rw [a0.out, a1.out, a2.out]; rintro en v2 ⟨rfl, hB_v2⟩; have lay_v2 := laid_after hB_v2; have hG := cell_grown cc1 (by go_grown) hB_v2; replace cc1 := cl hG cc1; replace cc2 := cl hG cc2; have hs_v2 := hG.size; clear hG; replace hBW : Below w.heap.size w v2 := below_after (w := w) (by go_grown) hB_v2; have hn_v2 := nl cc1; clear hB_v2)
  (go_wp2_with fail; refine (rint_Rint _ _ _ _ _ _).mono ?_; rw [a0.out, a1.out, a3.out]; rintro en v3 ⟨rfl, hB_v3⟩; have lay_v3 := laid_after hB_v3; have hG := cell_grown cc1 (by go_grown) hB_v3; replace cc1 := cl hG cc1; replace cc2 := cl hG cc2; have cc3 := cl hB_v3 (show World.cell? _ ⟨v2.heap.size, 0, none⟩ = some (.int .u64 p0) by go_simp); have cc4 := cl hB_v3 (show World.cell? _ ⟨v2.heap.size, 1, none⟩ = some (.int .u64 p1) by go_simp); have cc5 := cl hB_v3 (show World.cell? _ ⟨v2.heap.size, 2, none⟩ = some (.int .u8 pz) by go_simp); have hs_v3 := hG.size; clear hG; replace hBW : Below w.heap.size w v3 := below_after (w := w) (by go_grown) hB_v3; have hn_v3 := an (nl cc1) (nl cc3); clear hB_v3)
  go_upto_region 6 with fail
  ((first | refine wp_rename ?_ | refine goal_rename ?_); intro W6 hw_W6; have hG := named cc1 W6 (by rw [hw_W6]; go_grown); replace cc1 := cl hG cc1; replace cc2 := cl hG cc2; replace cc3 := cl hG cc3; replace cc4 := cl hG cc4; replace cc5 := cl hG cc5; have cc6 : W6.cell? ⟨v3.heap.size, 0, none⟩ = some (.int .u64 p0) := (by rw [hw_W6]; go_simp); have cc7 : W6.cell? ⟨v3.heap.size, 1, none⟩ = some (.int .u64 p1) := (by rw [hw_W6]; go_simp); have cc8 : W6.cell? ⟨v3.heap.size, 2, none⟩ = some (.int .u8 0) := (by rw [hw_W6]; go_simp); replace hBW := below_after hBW hG; have hs_W6 := hG.size; clear hG; have hn_W6 := an (nl cc1) (an (nl cc3) (nl cc6)); have lay_W6 : Laid W6 := Laid.below (w := w) (by assumption) hBW; clear hw_W6)
  refine Lin.wp_region_lin (by kernel_rfl) (by intro _ _ d _ _ h; cases d <;> exact h) (by kernel_rfl) (fun w' => Below W6.heap.size W6 w' ∧ w'.cell? ⟨w.heap.size, 0, none⟩ = some (.int .u64 h) ∧ w'.cell? ⟨w.heap.size, 1, none⟩ = some (.int .u64 l) ∧ w'.cell? ⟨v2.heap.size, 0, none⟩ = some (.int .u64 p0) ∧ w'.cell? ⟨v2.heap.size, 1, none⟩ = some (.int .u64 p1) ∧ w'.cell? ⟨v2.heap.size, 2, none⟩ = some (.int .u8 pz) ∧ w'.cell? ⟨v3.heap.size, 0, none⟩ = some (.int .u64 p0) ∧ w'.cell? ⟨v3.heap.size, 1, none⟩ = some (.int .u64 p1) ∧ w'.cell? ⟨v3.heap.size, 2, none⟩ = some (.int .u8 0)) ⟨(Below.refl _ _).drew, by go_simp, by go_simp, by go_simp, by go_simp, by go_simp, by go_simp, by go_simp, by go_simp⟩ ?_
  simp only [List.length_cons, List.length_nil, Nat.reduceAdd]
  refine Lin.Blk.out ?_
  iterate 3 (refine Lin.bl_val rfl rfl rfl ?_; apply Exists.intro; refine ⟨fun w' hw' => ?_, ?_⟩; (focus (have hBw := hw'.1; have hSw := hw'.2; clear hw'; (try dsimp only at hBw hSw); go_simp; first | with_reducible exact Lin.lin_value | with_reducible exact Lin.lin_skip)); (try simp only [Act.put, List.setIfInBounds_toArray, List.set_cons_zero, List.set_cons_succ]))
  (refine Lin.bl_val rfl rfl rfl ?_; apply Exists.intro; refine ⟨fun w' hw' => ?_, ?_⟩; (focus (have hBw := hw'.1; have hSw := hw'.2; clear hw'; (try dsimp only at hBw hSw); have lay' : Laid w' := Laid.below lay_W6 hBw; go_simp; first | exact Lin.lin_ret (rint_Whole _ _ _ _) (by rw [w0.out]) | exact Lin.lin_ret (format_Cut _ _ _ _) (by rw [k0.out, k1.out]) | exact Lin.lin_ret (rint_Whole _ _ _ _) (by rw [w1.out]))); (try simp only [Act.put, List.setIfInBounds_toArray, List.set_cons_zero, List.set_cons_succ]))
  iterate 2 (refine Lin.bl_val rfl rfl rfl ?_; apply Exists.intro; refine ⟨fun w' hw' => ?_, ?_⟩; (focus (have hBw := hw'.1; have hSw := hw'.2; clear hw'; (try dsimp only at hBw hSw); go_simp; first | with_reducible exact Lin.lin_value | with_reducible exact Lin.lin_skip)); (try simp only [Act.put, List.setIfInBounds_toArray, List.set_cons_zero, List.set_cons_succ]))
  iterate 5 (refine Lin.bl_val rfl rfl (by kernel_rfl) ?_; apply Exists.intro; refine ⟨fun w' hw' => ?_, ?_⟩; (focus (have hBw := hw'.1; have hSw := hw'.2; clear hw'; (try dsimp only at hBw hSw); go_simp; first | with_reducible exact Lin.lin_value | with_reducible exact Lin.lin_skip)); (try simp only [Act.put, List.setIfInBounds_toArray, List.set_cons_zero, List.set_cons_succ]))
  iterate 2 (refine Lin.bl_val rfl rfl rfl ?_; apply Exists.intro; refine ⟨fun w' hw' => ?_, ?_⟩; (focus (have hBw := hw'.1; have hSw := hw'.2; clear hw'; (try dsimp only at hBw hSw); go_simp; first | with_reducible exact Lin.lin_value | with_reducible exact Lin.lin_skip)); (try simp only [Act.put, List.setIfInBounds_toArray, List.set_cons_zero, List.set_cons_succ]))
  iterate 7 (refine Lin.bl_val rfl rfl (by kernel_rfl) ?_; apply Exists.intro; refine ⟨fun w' hw' => ?_, ?_⟩; (focus (have hBw := hw'.1; have hSw := hw'.2; clear hw'; (try dsimp only at hBw hSw); go_simp; first | with_reducible exact Lin.lin_value | with_reducible exact Lin.lin_skip)); (try simp only [Act.put, List.setIfInBounds_toArray, List.set_cons_zero, List.set_cons_succ]))
  (refine Lin.bl_val rfl rfl (by kernel_rfl) ?_; apply Exists.intro; refine ⟨fun w' hw' => ?_, ?_⟩; (focus (have hBw := hw'.1; have hSw := hw'.2; clear hw'; (try dsimp only at hBw hSw); have lay' : Laid w' := Laid.below lay_W6 hBw; go_simp; first | exact Lin.lin_ret (rint_Whole _ _ _ _) (by rw [w0.out]) | exact Lin.lin_ret (format_Cut _ _ _ _) (by rw [k0.out, k1.out]) | exact Lin.lin_ret (rint_Whole _ _ _ _) (by rw [w1.out]))); (try simp only [Act.put, List.setIfInBounds_toArray, List.set_cons_zero, List.set_cons_succ]))
  iterate 2 (refine Lin.bl_val rfl rfl (by kernel_rfl) ?_; apply Exists.intro; refine ⟨fun w' hw' => ?_, ?_⟩; (focus (have hBw := hw'.1; have hSw := hw'.2; clear hw'; (try dsimp only at hBw hSw); go_simp; first | with_reducible exact Lin.lin_value | with_reducible exact Lin.lin_skip)); (try simp only [Act.put, List.setIfInBounds_toArray, List.set_cons_zero, List.set_cons_succ]))
  iterate 2 (refine Lin.bl_val rfl rfl rfl ?_; apply Exists.intro; refine ⟨fun w' hw' => ?_, ?_⟩; (focus (have hBw := hw'.1; have hSw := hw'.2; clear hw'; (try dsimp only at hBw hSw); go_simp; first | with_reducible exact Lin.lin_value | with_reducible exact Lin.lin_skip)); (try simp only [Act.put, List.setIfInBounds_toArray, List.set_cons_zero, List.set_cons_succ]))
  iterate 5 (refine Lin.bl_val rfl rfl (by kernel_rfl) ?_; apply Exists.intro; refine ⟨fun w' hw' => ?_, ?_⟩; (focus (have hBw := hw'.1; have hSw := hw'.2; clear hw'; (try dsimp only at hBw hSw); go_simp; first | with_reducible exact Lin.lin_value | with_reducible exact Lin.lin_skip)); (try simp only [Act.put, List.setIfInBounds_toArray, List.set_cons_zero, List.set_cons_succ]))
  (refine Lin.bl_val rfl rfl (by kernel_rfl) ?_; apply Exists.intro; refine ⟨fun w' hw' => ?_, ?_⟩; (focus (have hBw := hw'.1; have hSw := hw'.2; clear hw'; (try dsimp only at hBw hSw); have lay' : Laid w' := Laid.below lay_W6 hBw; go_simp; first | exact Lin.lin_ret (rint_Whole _ _ _ _) (by rw [w0.out]) | exact Lin.lin_ret (format_Cut _ _ _ _) (by rw [k0.out, k1.out]) | exact Lin.lin_ret (rint_Whole _ _ _ _) (by rw [w1.out]))); (try simp only [Act.put, List.setIfInBounds_toArray, List.set_cons_zero, List.set_cons_succ]))
  (refine Lin.bl_val rfl rfl (by kernel_rfl) ?_; apply Exists.intro; refine ⟨fun w' hw' => ?_, ?_⟩; (focus (have hBw := hw'.1; have hSw := hw'.2; clear hw'; (try dsimp only at hBw hSw); go_simp; first | with_reducible exact Lin.lin_value | with_reducible exact Lin.lin_skip)); (try simp only [Act.put, List.setIfInBounds_toArray, List.set_cons_zero, List.set_cons_succ]))
  iterate 2 (refine Lin.bl_val rfl rfl rfl ?_; apply Exists.intro; refine ⟨fun w' hw' => ?_, ?_⟩; (focus (have hBw := hw'.1; have hSw := hw'.2; clear hw'; (try dsimp only at hBw hSw); go_simp; first | with_reducible exact Lin.lin_value | with_reducible exact Lin.lin_skip)); (try simp only [Act.put, List.setIfInBounds_toArray, List.set_cons_zero, List.set_cons_succ]))
  iterate 4 (refine Lin.bl_val rfl rfl (by kernel_rfl) ?_; apply Exists.intro; refine ⟨fun w' hw' => ?_, ?_⟩; (focus (have hBw := hw'.1; have hSw := hw'.2; clear hw'; (try dsimp only at hBw hSw); go_simp; first | with_reducible exact Lin.lin_value | with_reducible exact Lin.lin_skip)); (try simp only [Act.put, List.setIfInBounds_toArray, List.set_cons_zero, List.set_cons_succ]))
  (refine Lin.bl_val rfl rfl rfl ?_; apply Exists.intro; refine ⟨fun w' hw' => ?_, ?_⟩; (focus (have hBw := hw'.1; have hSw := hw'.2; clear hw'; (try dsimp only at hBw hSw); go_simp; first | with_reducible exact Lin.lin_value | with_reducible exact Lin.lin_skip)); (try simp only [Act.put, List.setIfInBounds_toArray, List.set_cons_zero, List.set_cons_succ]))
  refine Lin.bl_end ?_
  refine Lin.fin0 (fun wa wb hc hb => ⟨hc.1.trans (hb.mono hc.1.size), cell_later hb hc.2.1, cell_later hb hc.2.2.1, cell_later hb hc.2.2.2.1, cell_later hb hc.2.2.2.2.1, cell_later hb hc.2.2.2.2.2.1, cell_later hb hc.2.2.2.2.2.2.1, cell_later hb hc.2.2.2.2.2.2.2.1, cell_later hb hc.2.2.2.2.2.2.2.2⟩) (by kernel_rfl) ?_
  intro X hw_X
  have hb_X := hw_X.1; clear hw_X
  have lay_X : Laid X := Laid.below lay_W6 hb_X
  (replace cc1 := cl hb_X cc1; replace cc2 := cl hb_X cc2; replace cc3 := cl hb_X cc3; replace cc4 := cl hb_X cc4; replace cc5 := cl hb_X cc5; replace cc6 := cl hb_X cc6; replace cc7 := cl hb_X cc7; replace cc8 := cl hb_X cc8; replace hBW := below_after hBW hb_X; have hsb_X := hb_X.size; have hn_X := an (nl cc1) (an (nl cc3) (nl cc6)))
  refine wpAny_done (by kernel_rfl) ?_ _
  apply_assumption
  (first | refine wp_rename ?_ | refine goal_rename ?_); intro X_ hw_X; subst hw_X
  (go_wp2_with fail; refine (addsub_Sub _ _ _ _ _ _ _ _).mono ?_; rw [b0.out, b1.out, b2.out]; rintro en v4 ⟨rfl, hB_v4⟩; have lay_v4 := laid_after hB_v4; have hG := cell_grown cc1 (by go_grown) hB_v4; replace cc1 := cl hG cc1; replace cc2 := cl hG cc2; replace cc3 := cl hG cc3; replace cc4 := cl hG cc4; replace cc5 := cl hG cc5; replace cc6 := cl hG cc6; replace cc7 := cl hG cc7; replace cc8 := cl hG cc8; have hs_v4 := hG.size; clear hG; replace hBW : Below w.heap.size w v4 := below_after (w := w) (by go_grown) hB_v4; have hn_v4 := an (nl cc1) (an (nl cc3) (nl cc6)); clear hB_v4)
  (go_wp2_with fail; refine (law24_size _ _ _ _).mono ?_; rw [z0.out, z1.out]; rintro en v5 ⟨rfl, hB_v5⟩; have lay_v5 := laid_after hB_v5; have hG := cell_grown cc1 (by go_grown) hB_v5; replace cc1 := cl hG cc1; replace cc2 := cl hG cc2; replace cc3 := cl hG cc3; replace cc4 := cl hG cc4; replace cc5 := cl hG cc5; replace cc6 := cl hG cc6; replace cc7 := cl hG cc7; replace cc8 := cl hG cc8; have hs_v5 := hG.size; clear hG; replace hBW : Below w.heap.size w v5 := below_after (w := w) (by go_grown) hB_v5; have hn_v5 := an (nl cc1) (an (nl cc3) (nl cc6)); clear hB_v5)
  (go_wp2_with fail; refine (format_Emax _ _).mono ?_; rintro en v6 ⟨rfl, hB_v6⟩; have lay_v6 := laid_after hB_v6; have hG := cell_grown cc1 (by go_grown) hB_v6; replace cc1 := cl hG cc1; replace cc2 := cl hG cc2; replace cc3 := cl hG cc3; replace cc4 := cl hG cc4; replace cc5 := cl hG cc5; replace cc6 := cl hG cc6; replace cc7 := cl hG cc7; replace cc8 := cl hG cc8; have cc9 := cl hB_v6 (show World.cell? _ ⟨v5.heap.size, 0, none⟩ = some (.int .u64 dh) by go_simp); have cc10 := cl hB_v6 (show World.cell? _ ⟨v5.heap.size, 1, none⟩ = some (.int .u64 dl) by go_simp); have hs_v6 := hG.size; clear hG; replace hBW : Below w.heap.size w v6 := below_after (w := w) (by go_grown) hB_v6; have hn_v6 := an (nl cc1) (an (nl cc3) (an (nl cc6) (nl cc9))); clear hB_v6)
  (go_wp2_with fail; refine (format_Make _ _ _ _ _ _).mono ?_; rw [c00, y0.out, y1.out]; rintro en v7 ⟨rfl, hB_v7⟩; have lay_v7 := laid_after hB_v7; have hG := cell_grown cc1 (by go_grown) hB_v7; replace cc1 := cl hG cc1; replace cc2 := cl hG cc2; replace cc3 := cl hG cc3; replace cc4 := cl hG cc4; replace cc5 := cl hG cc5; replace cc6 := cl hG cc6; replace cc7 := cl hG cc7; replace cc8 := cl hG cc8; replace cc9 := cl hG cc9; replace cc10 := cl hG cc10; have hs_v7 := hG.size; clear hG; replace hBW : Below w.heap.size w v7 := below_after (w := w) (by go_grown) hB_v7; have hn_v7 := an (nl cc1) (an (nl cc3) (an (nl cc6) (nl cc9))); clear hB_v7)
  (go_wp2_with fail; refine (word_Cmp _ _ _ _ _).mono ?_; rw [c0.out]; rintro en v10 ⟨rfl, hB_v10⟩; have lay_v10 := laid_after hB_v10; have hG := cell_grown cc1 (by go_grown) hB_v10; replace cc1 := cl hG cc1; replace cc2 := cl hG cc2; replace cc3 := cl hG cc3; replace cc4 := cl hG cc4; replace cc5 := cl hG cc5; replace cc6 := cl hG cc6; replace cc7 := cl hG cc7; replace cc8 := cl hG cc8; replace cc9 := cl hG cc9; replace cc10 := cl hG cc10; obtain ⟨cc11, fcc11⟩ := pf hB_v10 (show World.cell? _ ⟨v7.heap.size, 0, none⟩ = some (.int .u64 o0) by go_simp) (by go_simp); obtain ⟨cc12, fcc12⟩ := pf hB_v10 (show World.cell? _ ⟨v7.heap.size, 1, none⟩ = some (.int .u64 o1) by go_simp) (by go_simp); have hs_v10 := hG.size; clear hG; replace hBW : Below w.heap.size w v10 := below_after (w := w) (by go_grown) hB_v10; have hn_v10 := an (nl cc1) (an (nl cc3) (an (nl cc6) (an (nl cc9) (nl cc11)))); clear hB_v10)
  (go_wp2_with fail; refine (law24_goes _).mono ?_; rintro en v11 ⟨rfl, hB_v11⟩; have lay_v11 := laid_after hB_v11; have hG := cell_grown cc1 (by go_grown) hB_v11; replace cc1 := cl hG cc1; replace cc2 := cl hG cc2; replace cc3 := cl hG cc3; replace cc4 := cl hG cc4; replace cc5 := cl hG cc5; replace cc6 := cl hG cc6; replace cc7 := cl hG cc7; replace cc8 := cl hG cc8; replace cc9 := cl hG cc9; replace cc10 := cl hG cc10; replace fcc11 := fl hG fcc11 cc11; replace cc11 := cl hG cc11; replace fcc12 := fl hG fcc12 cc12; replace cc12 := cl hG cc12; have hs_v11 := hG.size; clear hG; replace hBW : Below w.heap.size w v11 := below_after (w := w) (by go_grown) hB_v11; have hn_v11 := an (nl cc1) (an (nl cc3) (an (nl cc6) (an (nl cc9) (nl cc11)))); clear hB_v11)
  go_wp2_with fail
  go_returns
  exact ⟨rfl, by go_grown⟩
theorem walk_RintNear (f m : Int) (h l : Int) [hU : U8 f] [hM : U8 m] [U64 h] [U64 l] (w : World) [hLay : Laid w] :
    Calls Tryz.prog 11 #[.int .u8 f, .int .u8 m, .agg #[.int .u64 (h), .int .u64 (l)]] w fun en w' => en = .returned (.bool true) ∧ Below w.heap.size w w' := by
  have f0 := hU.ge
  have m0 := hM.ge
  haveI : U8 (m % 5) := ⟨by omega, by omega⟩
  have hm : m % 5 ≤ 4 := by omega
  by_cases hf : f < 4
  case neg => exact rn_nf f m h l w hf
  cases hx : finC f (cat h l)
  case false => exact rn_x f m h l w hf (Lib.hid hx)
  have fx := (fin_dec hf).1 hx
  have hem := emax_lo f f0 hf
  have hem2 := emaxS_bd f
  obtain ⟨r1, r2, r3, r4⟩ := rint_rnd f (m % 5) (cat h l) f0 hf hm fx
  have hfl := rint_fl f (m % 5) true (cat h l) f0 hf hm fx
  have hfl0 := rint_fl f (m % 5) false (cat h l) f0 hf hm fx
  rw [if_neg (fun x => absurd x.2 (by decide))] at hfl0
  have hfl4 := rint_fl f 4 true (cat h l) f0 hf (by decide) fx
  have hfr := rint_fl f 4 true (rintB f (m % 5) (cat h l)) f0 hf (by decide) r1
  rw [r4, rest_mul, if_neg (fun x => x.1 rfl)] at hfr
  have hex := up_exact f (cat h l) f0 hf fx (m % 5) hm
  clear r4
  generalize restN (valC (precS f).toNat (unitB f KK) (codeF f (cat h l))) (255 + KK).toNat = R at hfl hfl4 hex
  have cr : cat (hi (rintB f (m % 5) (cat h l))) (lo (rintB f (m % 5) (cat h l))) = rintB f (m % 5) (cat h l) := cat_small _ (rint_lt f _ _ f0 hf)
  have cs := cat_small _ (addB_small f 4 (rintB f (m % 5) (cat h l)) (subN f (cat h l)) f0)
  have cz := sizeF_cat f (addB f 4 (rintB f (m % 5) (cat h l)) (subN f (cat h l))) f0
  have co : ∀ e, cat (hi (makeF f false e 0)) (lo (makeF f false e 0)) = makeF f false e 0 := fun e => cat_small _ (makeF_lt _ _ _ _ f0)
  have hsz := sizeF_c f (addB f 4 (rintB f (m % 5) (cat h l)) (subN f (cat h l))) f0 hf
  obtain ⟨n1, n2⟩ := near_sub f (m % 5) (cat h l) f0 hf hm fx
  have w0 : wholeB f (rintB f (m % 5) (cat h l)) = true := by unfold wholeB; rw [decide_eq_true hf, decide_eq_true r1, hfr]; rfl
  have wq : (rintFl f (m % 5) true (cat h l) == 0) = wholeB f (cat h l) := by
    unfold wholeB
    rw [decide_eq_true hf, decide_eq_true fx, hfl, hfl4, Bool.true_and, Bool.true_and]
  have g16 : bits BinOp.andNot IntKind.u8 (rintFl f (m % 5) true (cat h l)) 16 = 0 := by
    rw [hfl]
    split <;> decide +kernel
  have ka : lowN (cat h l) (widthS f) < 2 ^ 128 := Nat.lt_of_le_of_lt (Nat.mod_le _ _) (cat_lt h l)
  have hiff := hl_iff (rintB f (m % 5) (cat h l)) (lowN (cat h l) (widthS f)) (rint_lt f _ _ f0 hf) ka
  have he : decide (hi (rintB f (m % 5) (cat h l)) = hi (lowN (cat h l) (widthS f)) ∧ lo (rintB f (m % 5) (cat h l)) = lo (lowN (cat h l) (widthS f))) = wholeB f (cat h l) := by
    rw [← wq, hfl, Bool.eq_iff_iff, decide_eq_true_eq, beq_iff_eq, hiff, ← hex]
    constructor
    · intro h1; rw [if_neg (fun x => x.1 h1)]
    · intro h1
      rcases Classical.em (R = 0) with h2 | h2
      · exact h2
      · rw [if_pos ⟨h2, rfl⟩] at h1; exact absurd h1 (by decide)
  by_cases h1 : m % 5 ≤ 1
  · have hw : IntKind.i64.wrap (emaxS f - 1) = emaxS f - 1 := IntWalk.i64_in _ (by omega)
    exact rn_lo f m h l _ _ _ _ _ _ _ _ _ _ _ _ _ _ _ _ w hf (Lib.hid hx) (Lib.hid rfl) (Lib.hid rfl) (Lib.hid rfl) (Lib.hid hfl0) (Lib.hid (by rw [cr]; exact w0)) (Lib.hid rfl) wq g16 (Lib.hid rfl) (Lib.hid rfl) he (Lib.hid rfl) (Lib.hid rfl) (Lib.hid rfl) (Lib.hid rfl) (Lib.hid rfl) (Lib.hid rfl) (Lib.hid rfl) (Lib.hid rfl) (Lib.hid rfl) hw (decide_eq_true h1) (Lib.hid rfl) (by
      rw [cr, cs, cz, co]
      refine (cmp_le ?_).2
      rw [hsz, (pow_code f (emaxS f - 1) f0 hf (by omega) (by omega)).1]
      exact n2 h1 (by omega))
  · exact rn_hi f m h l _ _ _ _ _ _ _ _ _ _ _ _ _ _ w hf (Lib.hid hx) (Lib.hid rfl) (Lib.hid rfl) (Lib.hid rfl) (Lib.hid hfl0) (Lib.hid (by rw [cr]; exact w0)) (Lib.hid rfl) wq g16 (Lib.hid rfl) (Lib.hid rfl) he (Lib.hid rfl) (Lib.hid rfl) (Lib.hid rfl) (Lib.hid rfl) (Lib.hid rfl) (Lib.hid rfl) (Lib.hid rfl) (decide_eq_false h1) (Lib.hid rfl) (by
      rw [cr, cs, cz, co]
      refine (cmp_le ?_).2
      rw [hsz, (pow_code f (emaxS f) f0 hf (by omega) (by omega)).1]
      exact n1)
end Go.Proofs.YtkldkchkhblndaaGreatDoor
