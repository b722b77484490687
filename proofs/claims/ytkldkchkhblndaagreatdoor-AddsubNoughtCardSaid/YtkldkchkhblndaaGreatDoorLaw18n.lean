/- AddsubNought: a nought added; the walks by ways, joined. Condition: the listed table is laid. -/
import Derived.Test.YtkldkchkhblndaaGreatDoorLaw18a
import Derived.Test.YtkldkchkhblndaaGreatDoorSumQ
set_option linter.unusedSimpArgs false
set_option linter.unusedVariables false
namespace Go.Proofs.YtkldkchkhblndaaGreatDoor
open Go.RowKit Go.Hb
set_option maxRecDepth 100000 in
set_option maxHeartbeats 8000000 in
theorem no_nf (f m h l : Int) (aft neg : Bool) [hU : U8 f] [hM : U8 m] [U64 h] [U64 l] (w : World) [hLay : Laid w] (hf : ¬ f < 4) :
    Calls Tryz.prog 3 #[.int .u8 f, .agg #[.int .u8 m, .bool aft], .agg #[.int .u64 (h), .int .u64 (l)], .bool neg] w fun en w' => en = .returned (.bool true) ∧ Below w.heap.size w w' := by
  have hfd : decide (f < 4) = false := decide_eq_false hf
  clear hf
  go_enter Tryz.func3, Tryz.ntmps3
  skip
  (go_wp2_with fail; refine (format_Known_b _ _).mono ?_; rintro en v1 ⟨rfl, hB_v1⟩; have lay_v1 := laid_after hB_v1; have cc1 := cl hB_v1 (show World.cell? _ ⟨w.heap.size, 0, none⟩ = some (.int .u8 m) by go_simp); have cc2 := cl hB_v1 (show World.cell? _ ⟨w.heap.size, 1, none⟩ = some (.bool aft) by go_simp); have cc3 := cl hB_v1 (show World.cell? _ ⟨w.heap.size + 1, 0, none⟩ = some (.int .u64 h) by go_simp); have cc4 := cl hB_v1 (show World.cell? _ ⟨w.heap.size + 1, 1, none⟩ = some (.int .u64 l) by go_simp); have hs_v1 := hB_v1.size; (try simp only [World.size_alloc, World.size_setCell, World.size_drew] at hs_v1); have hBW : Below w.heap.size w v1 := below_after (w := w) (by go_grown) hB_v1; have hn_v1 := an (nl cc1) (nl cc3); clear hB_v1)
  (go_wp2_with fail; refine (law18_goes _).mono ?_; rintro en v9 ⟨rfl, hB_v9⟩; have lay_v9 := laid_after hB_v9; have hG := cell_grown cc1 (by go_grown) hB_v9; replace cc1 := cl hG cc1; replace cc2 := cl hG cc2; replace cc3 := cl hG cc3; replace cc4 := cl hG cc4; have hs_v9 := hG.size; clear hG; replace hBW : Below w.heap.size w v9 := below_after (w := w) (by go_grown) hB_v9; have hn_v9 := an (nl cc1) (nl cc3); clear hB_v9)
  go_wp2_with fail
  go_returns
  exact ⟨rfl, by go_grown⟩
set_option maxRecDepth 100000 in
set_option maxHeartbeats 8000000 in
theorem no_nm (f m h l : Int) (aft neg : Bool) [hU : U8 f] [hM : U8 m] [U64 h] [U64 l] (w : World) [hLay : Laid w] (hf : f < 4) (hm : ¬ m ≤ 4) :
    Calls Tryz.prog 3 #[.int .u8 f, .agg #[.int .u8 m, .bool aft], .agg #[.int .u64 (h), .int .u64 (l)], .bool neg] w fun en w' => en = .returned (.bool true) ∧ Below w.heap.size w w' := by
  have hfd : decide (f < 4) = true := decide_eq_true hf
  have hmd : decide (m ≤ 4) = false := decide_eq_false hm
  clear hf hm
  go_enter Tryz.func3, Tryz.ntmps3
  skip
  (go_wp2_with fail; refine (format_Known_b _ _).mono ?_; rintro en v1 ⟨rfl, hB_v1⟩; have lay_v1 := laid_after hB_v1; have cc1 := cl hB_v1 (show World.cell? _ ⟨w.heap.size, 0, none⟩ = some (.int .u8 m) by go_simp); have cc2 := cl hB_v1 (show World.cell? _ ⟨w.heap.size, 1, none⟩ = some (.bool aft) by go_simp); have cc3 := cl hB_v1 (show World.cell? _ ⟨w.heap.size + 1, 0, none⟩ = some (.int .u64 h) by go_simp); have cc4 := cl hB_v1 (show World.cell? _ ⟨w.heap.size + 1, 1, none⟩ = some (.int .u64 l) by go_simp); have hs_v1 := hB_v1.size; (try simp only [World.size_alloc, World.size_setCell, World.size_drew] at hs_v1); have hBW : Below w.heap.size w v1 := below_after (w := w) (by go_grown) hB_v1; have hn_v1 := an (nl cc1) (nl cc3); clear hB_v1)
  (go_wp2_with fail; refine (mode_Known_b _ _).mono ?_; rintro en v2 ⟨rfl, hB_v2⟩; have lay_v2 := laid_after hB_v2; have hG := cell_grown cc1 (by go_grown) hB_v2; replace cc1 := cl hG cc1; replace cc2 := cl hG cc2; replace cc3 := cl hG cc3; replace cc4 := cl hG cc4; have hs_v2 := hG.size; clear hG; replace hBW : Below w.heap.size w v2 := below_after (w := w) (by go_grown) hB_v2; have hn_v2 := an (nl cc1) (nl cc3); clear hB_v2)
  (go_wp2_with fail; refine (law18_goes _).mono ?_; rintro en v9 ⟨rfl, hB_v9⟩; have lay_v9 := laid_after hB_v9; have hG := cell_grown cc1 (by go_grown) hB_v9; replace cc1 := cl hG cc1; replace cc2 := cl hG cc2; replace cc3 := cl hG cc3; replace cc4 := cl hG cc4; have hs_v9 := hG.size; clear hG; replace hBW : Below w.heap.size w v9 := below_after (w := w) (by go_grown) hB_v9; have hn_v9 := an (nl cc1) (nl cc3); clear hB_v9)
  go_wp2_with fail
  go_returns
  exact ⟨rfl, by go_grown⟩
set_option maxRecDepth 100000 in
set_option maxHeartbeats 8000000 in
theorem no_nan (f m h l : Int) (aft neg : Bool) [hU : U8 f] [hM : U8 m] [U64 h] [U64 l] (w : World) [hLay : Laid w] (hf : f < 4) (hm : m ≤ 4) (n0 : Hid (nanB f (cat h l) = true)) :
    Calls Tryz.prog 3 #[.int .u8 f, .agg #[.int .u8 m, .bool aft], .agg #[.int .u64 (h), .int .u64 (l)], .bool neg] w fun en w' => en = .returned (.bool true) ∧ Below w.heap.size w w' := by
  have hfd : decide (f < 4) = true := decide_eq_true hf
  have hmd : decide (m ≤ 4) = true := decide_eq_true hm
  clear hf hm
  go_enter Tryz.func3, Tryz.ntmps3
  skip
  (go_wp2_with fail; refine (format_Known_b _ _).mono ?_; rintro en v1 ⟨rfl, hB_v1⟩; have lay_v1 := laid_after hB_v1; have cc1 := cl hB_v1 (show World.cell? _ ⟨w.heap.size, 0, none⟩ = some (.int .u8 m) by go_simp); have cc2 := cl hB_v1 (show World.cell? _ ⟨w.heap.size, 1, none⟩ = some (.bool aft) by go_simp); have cc3 := cl hB_v1 (show World.cell? _ ⟨w.heap.size + 1, 0, none⟩ = some (.int .u64 h) by go_simp); have cc4 := cl hB_v1 (show World.cell? _ ⟨w.heap.size + 1, 1, none⟩ = some (.int .u64 l) by go_simp); have hs_v1 := hB_v1.size; (try simp only [World.size_alloc, World.size_setCell, World.size_drew] at hs_v1); have hBW : Below w.heap.size w v1 := below_after (w := w) (by go_grown) hB_v1; have hn_v1 := an (nl cc1) (nl cc3); clear hB_v1)
  (go_wp2_with fail; refine (mode_Known_b _ _).mono ?_; rintro en v2 ⟨rfl, hB_v2⟩; have lay_v2 := laid_after hB_v2; have hG := cell_grown cc1 (by go_grown) hB_v2; replace cc1 := cl hG cc1; replace cc2 := cl hG cc2; replace cc3 := cl hG cc3; replace cc4 := cl hG cc4; have hs_v2 := hG.size; clear hG; replace hBW : Below w.heap.size w v2 := below_after (w := w) (by go_grown) hB_v2; have hn_v2 := an (nl cc1) (nl cc3); clear hB_v2)
  (go_wp2_with fail; refine (class_NaN _ _ _ _).mono ?_; rw [n0.out]; rintro en v3 ⟨rfl, hB_v3⟩; have lay_v3 := laid_after hB_v3; have hG := cell_grown cc1 (by go_grown) hB_v3; replace cc1 := cl hG cc1; replace cc2 := cl hG cc2; replace cc3 := cl hG cc3; replace cc4 := cl hG cc4; have hs_v3 := hG.size; clear hG; replace hBW : Below w.heap.size w v3 := below_after (w := w) (by go_grown) hB_v3; have hn_v3 := an (nl cc1) (nl cc3); clear hB_v3)
  (go_wp2_with fail; refine (law18_goes _).mono ?_; rintro en v9 ⟨rfl, hB_v9⟩; have lay_v9 := laid_after hB_v9; have hG := cell_grown cc1 (by go_grown) hB_v9; replace cc1 := cl hG cc1; replace cc2 := cl hG cc2; replace cc3 := cl hG cc3; replace cc4 := cl hG cc4; have hs_v9 := hG.size; clear hG; replace hBW : Below w.heap.size w v9 := below_after (w := w) (by go_grown) hB_v9; have hn_v9 := an (nl cc1) (nl cc3); clear hB_v9)
  go_wp2_with fail
  go_returns
  exact ⟨rfl, by go_grown⟩
set_option maxRecDepth 100000 in
set_option maxHeartbeats 8000000 in
theorem no_z (f m h l z0 z1 p0 p1 c r0 r1 : Int) (aft neg sg sd : Bool) [hU : U8 f] [hM : U8 m] [U64 h] [U64 l] [U64 z0] [U64 z1] [U64 p0] [U64 p1] [U64 r0] [U64 r1] (w : World) [hLay : Laid w] (hf : f < 4) (hm : m ≤ 4) (n0 : Hid (nanB f (cat h l) = false))
    (c0 : Hid (classF f (cat h l) = c)) (c1 : Hid (sgnF f (cat h l) = sg)) (y0 : Hid (hi (makeF f neg 0 0) = z0)) (y1 : Hid (lo (makeF f neg 0 0) = z1))
    (a0 : Hid (hi (addB f m (cat h l) (cat z0 z1)) = p0)) (a1 : Hid (lo (addB f m (cat h l) (cat z0 z1)) = p1)) (a2 : Hid (addFl f m aft (cat h l) (cat z0 z1) = 0))
    (b0 : Hid (hi (addB f m (cat h l) (subN f (cat z0 z1))) = r0)) (b1 : Hid (lo (addB f m (cat h l) (subN f (cat z0 z1))) = r1)) (b2 : Hid (addFl f m aft (cat h l) (subN f (cat z0 z1)) = 0)) (d0 : Hid (classF f (cat p0 p1) = 0)) (d1 : Hid (sgnF f (cat p0 p1) = sd)) (q1 : (c == 0) = true) :
    Calls Tryz.prog 3 #[.int .u8 f, .agg #[.int .u8 m, .bool aft], .agg #[.int .u64 (h), .int .u64 (l)], .bool neg] w fun en w' => en = .returned (.bool true) ∧ Below w.heap.size w w' := by
  have hfd : decide (f < 4) = true := decide_eq_true hf
  have hmd : decide (m ≤ 4) = true := decide_eq_true hm
  have q := fun W a b c => eql_res_same W a b c
  clear hf hm
  go_enter Tryz.func3, Tryz.ntmps3
  skip
  (go_wp2_with fail; refine (format_Known_b _ _).mono ?_; rintro en v1 ⟨rfl, hB_v1⟩; have lay_v1 := laid_after hB_v1; have cc1 := cl hB_v1 (show World.cell? _ ⟨w.heap.size, 0, none⟩ = some (.int .u8 m) by go_simp); have cc2 := cl hB_v1 (show World.cell? _ ⟨w.heap.size, 1, none⟩ = some (.bool aft) by go_simp); have cc3 := cl hB_v1 (show World.cell? _ ⟨w.heap.size + 1, 0, none⟩ = some (.int .u64 h) by go_simp); have cc4 := cl hB_v1 (show World.cell? _ ⟨w.heap.size + 1, 1, none⟩ = some (.int .u64 l) by go_simp); have hs_v1 := hB_v1.size; (try simp only [World.size_alloc, World.size_setCell, World.size_drew] at hs_v1); have hBW : Below w.heap.size w v1 := below_after (w := w) (by go_grown) hB_v1; have hn_v1 := an (nl cc1) (nl cc3); clear hB_v1)
  (go_wp2_with fail; refine (mode_Known_b _ _).mono ?_; rintro en v2 ⟨rfl, hB_v2⟩; have lay_v2 := laid_after hB_v2; have hG := cell_grown cc1 (by go_grown) hB_v2; replace cc1 := cl hG cc1; replace cc2 := cl hG cc2; replace cc3 := cl hG cc3; replace cc4 := cl hG cc4; have hs_v2 := hG.size; clear hG; replace hBW : Below w.heap.size w v2 := below_after (w := w) (by go_grown) hB_v2; have hn_v2 := an (nl cc1) (nl cc3); clear hB_v2)
  (go_wp2_with fail; refine (class_NaN _ _ _ _).mono ?_; rw [n0.out]; rintro en v3 ⟨rfl, hB_v3⟩; have lay_v3 := laid_after hB_v3; have hG := cell_grown cc1 (by go_grown) hB_v3; replace cc1 := cl hG cc1; replace cc2 := cl hG cc2; replace cc3 := cl hG cc3; replace cc4 := cl hG cc4; have hs_v3 := hG.size; clear hG; replace hBW : Below w.heap.size w v3 := below_after (w := w) (by go_grown) hB_v3; have hn_v3 := an (nl cc1) (nl cc3); clear hB_v3)
  (go_wp2_with fail; refine (class_Of _ _ _ _).mono ?_; rw [c0.out, c1.out]; rintro en v4 ⟨rfl, hB_v4⟩; have lay_v4 := laid_after hB_v4; have hG := cell_grown cc1 (by go_grown) hB_v4; replace cc1 := cl hG cc1; replace cc2 := cl hG cc2; replace cc3 := cl hG cc3; replace cc4 := cl hG cc4; have hs_v4 := hG.size; clear hG; replace hBW : Below w.heap.size w v4 := below_after (w := w) (by go_grown) hB_v4; have hn_v4 := an (nl cc1) (nl cc3); clear hB_v4)
  go_upto_region 4 with fail
  ((first | refine wp_rename ?_ | refine goal_rename ?_); intro W4 hw_W4; have hG := named cc1 W4 (by rw [hw_W4]; go_grown); replace cc1 := cl hG cc1; replace cc2 := cl hG cc2; replace cc3 := cl hG cc3; replace cc4 := cl hG cc4; replace hBW := below_after hBW hG; have hs_W4 := hG.size; clear hG; have hn_W4 := an (nl cc1) (nl cc3); have lay_W4 : Laid W4 := Laid.below (w := w) (by assumption) hBW; clear hw_W4)
  refine Lin.wp_region_lin (by kernel_rfl) (by intro _ _ d _ _ h; cases d <;> exact h) (by kernel_rfl) (fun w' => Below W4.heap.size W4 w' ∧ w'.cell? ⟨w.heap.size, 0, none⟩ = some (.int .u8 m) ∧ w'.cell? ⟨w.heap.size, 1, none⟩ = some (.bool aft) ∧ w'.cell? ⟨w.heap.size + 1, 0, none⟩ = some (.int .u64 h) ∧ w'.cell? ⟨w.heap.size + 1, 1, none⟩ = some (.int .u64 l)) ⟨(Below.refl _ _).drew, by go_simp, by go_simp, by go_simp, by go_simp⟩ ?_
  simp only [List.length_cons, List.length_nil, Nat.reduceAdd]
  refine Lin.Blk.out ?_
  iterate 5 (refine Lin.bl_val rfl rfl rfl ?_; apply Exists.intro; refine ⟨fun w' hw' => ?_, ?_⟩; (focus (have hBw := hw'.1; have hSw := hw'.2; clear hw'; (try dsimp only at hBw hSw); go_simp; first | with_reducible exact Lin.lin_value | with_reducible exact Lin.lin_skip)); (try simp only [Act.put, List.setIfInBounds_toArray, List.set_cons_zero, List.set_cons_succ]))
  iterate 2 (refine Lin.bl_val rfl rfl rfl ?_; apply Exists.intro; refine ⟨fun w' hw' => ?_, ?_⟩; (focus (have hBw := hw'.1; have hSw := hw'.2; clear hw'; (try dsimp only at hBw hSw); have lay' : Laid w' := Laid.below lay_W4 hBw; go_simp; first | exact Lin.lin_ret (format_Nought _ _ _) (by rw [y0.out, y1.out]) | exact Lin.lin_ret (addsub_Add _ _ _ _ _ _ _ _) (by rw [a0.out, a1.out, a2.out]))); (try simp only [Act.put, List.setIfInBounds_toArray, List.set_cons_zero, List.set_cons_succ]))
  refine Lin.bl_rest rfl ?_
  refine Lin.bl_rest rfl ?_
  refine Lin.bl_end ?_
  refine Lin.new1 W4.heap.size (fun wa wb hc hb => ⟨hc.1.trans (hb.mono hc.1.size), cell_later hb hc.2.1, cell_later hb hc.2.2.1, cell_later hb hc.2.2.2.1, cell_later hb hc.2.2.2.2⟩) (fun wa hc => hc.1.size) 7 _ rfl rfl (by kernel_rfl) (by kernel_rfl) rfl (.agg #[.int .u64 0, .int .u64 0, .int .u8 0]) (by intro t ht; cases ht <;> (intro w; kernel_rfl)) ?_
  intro g X hw_X lo_g ho_g
  have hb_X := hw_X.1; clear hw_X
  have lay_X : Laid X := Laid.below lay_W4 hb_X
  (replace cc1 := cl hb_X cc1; replace cc2 := cl hb_X cc2; replace cc3 := cl hb_X cc3; replace cc4 := cl hb_X cc4; replace hBW := below_after hBW hb_X; have hsb_X := hb_X.size; have hn_X := an (nl cc1) (nl cc3))
  have hi_g := Lin.heap_lt ho_g
  have cc5 : X.cell? ⟨g, 0, none⟩ = some (.int .u64 0) := Lin.heap_cell ho_g rfl; have fcc5 : X.frozen? ⟨g, 0, none⟩ = false := Lin.heap_free ho_g
  have cc6 : X.cell? ⟨g, 1, none⟩ = some (.int .u64 0) := Lin.heap_cell ho_g rfl; have fcc6 : X.frozen? ⟨g, 1, none⟩ = false := Lin.heap_free ho_g
  have cc7 : X.cell? ⟨g, 2, none⟩ = some (.int .u8 0) := Lin.heap_cell ho_g rfl; have fcc7 : X.frozen? ⟨g, 2, none⟩ = false := Lin.heap_free ho_g
  clear ho_g
  have hN_X : g ≠ X.heap.size ∧ X.heap.size ≠ g ∧ w.heap.size ≤ g := (by omega)
  unfold Lin.ptrOf
  (try simp only [Act.put, List.setIfInBounds_toArray, List.set_cons_zero, List.set_cons_succ])
  have hM_X : w.heap.size ≠ g ∧ g ≠ w.heap.size ∧ w.heap.size + 1 ≠ g ∧ g ≠ w.heap.size + 1 := (by omega)
  (refine wpAny_ready (rs := [8]) (by kernel_rfl) (by simp) ?_; refine AllReady.cons rfl (fun K hK => ?_) AllReady.nil; go_simp; refine hK _ _ ?_; clear hK K)
  refine wpAny_done (by kernel_rfl) ?_ _
  apply_assumption
  ((first | refine wp_rename ?_ | refine goal_rename ?_); intro Xs hw_Xs; replace cc1 := rn hw_Xs cc1 (by go_simp); replace cc2 := rn hw_Xs cc2 (by go_simp); replace cc3 := rn hw_Xs cc3 (by go_simp); replace cc4 := rn hw_Xs cc4 (by go_simp); replace cc5 : Xs.cell? ⟨g, 0, none⟩ = some (.int .u64 p0) := (by rw [hw_Xs]; go_simp); replace fcc5 := rf hw_Xs fcc5 (by go_simp); replace cc6 : Xs.cell? ⟨g, 1, none⟩ = some (.int .u64 p1) := (by rw [hw_Xs]; go_simp); replace fcc6 := rf hw_Xs fcc6 (by go_simp); replace cc7 : Xs.cell? ⟨g, 2, none⟩ = some (.int .u8 0) := (by rw [hw_Xs]; go_simp); replace fcc7 := rf hw_Xs fcc7 (by go_simp); replace hBW : Below w.heap.size w Xs := (by rw [hw_Xs]; (first | with_reducible exact drewN_below (by assumption) _ | go_grown)); have hn_Xs := an (nl cc1) (an (nl cc3) (nl cc5)); have lay_Xs : Laid Xs := Laid.below (w := w) (by assumption) hBW; clear hw_Xs)
  go_upto_region 5 with fail
  ((first | refine wp_rename ?_ | refine goal_rename ?_); intro W5 hw_W5; have hG := named cc1 W5 (by rw [hw_W5]; go_grown); replace cc1 := cl hG cc1; replace cc2 := cl hG cc2; replace cc3 := cl hG cc3; replace cc4 := cl hG cc4; replace fcc5 := fl hG fcc5 cc5; replace cc5 := cl hG cc5; replace fcc6 := fl hG fcc6 cc6; replace cc6 := cl hG cc6; replace fcc7 := fl hG fcc7 cc7; replace cc7 := cl hG cc7; replace hBW := below_after hBW hG; have hs_W5 := hG.size; clear hG; have hn_W5 := an (nl cc1) (an (nl cc3) (nl cc5)); have lay_W5 : Laid W5 := Laid.below (w := w) (by assumption) hBW; clear hw_W5)
  refine Lin.wp_region_lin (by kernel_rfl) (by intro _ _ d _ _ h; cases d <;> exact h) (by kernel_rfl) (fun w' => Below W5.heap.size W5 w' ∧ w'.cell? ⟨w.heap.size, 0, none⟩ = some (.int .u8 m) ∧ w'.cell? ⟨w.heap.size, 1, none⟩ = some (.bool aft) ∧ w'.cell? ⟨w.heap.size + 1, 0, none⟩ = some (.int .u64 h) ∧ w'.cell? ⟨w.heap.size + 1, 1, none⟩ = some (.int .u64 l) ∧ w'.cell? ⟨g, 0, none⟩ = some (.int .u64 p0) ∧ w'.cell? ⟨g, 1, none⟩ = some (.int .u64 p1) ∧ w'.cell? ⟨g, 2, none⟩ = some (.int .u8 0)) ⟨(Below.refl _ _).drew, by go_simp, by go_simp, by go_simp, by go_simp, by go_simp, by go_simp, by go_simp⟩ ?_
  simp only [List.length_cons, List.length_nil, Nat.reduceAdd]
  refine Lin.Blk.out ?_
  iterate 5 (refine Lin.bl_val rfl rfl rfl ?_; apply Exists.intro; refine ⟨fun w' hw' => ?_, ?_⟩; (focus (have hBw := hw'.1; have hSw := hw'.2; clear hw'; (try dsimp only at hBw hSw); go_simp; first | with_reducible exact Lin.lin_value | with_reducible exact Lin.lin_skip)); (try simp only [Act.put, List.setIfInBounds_toArray, List.set_cons_zero, List.set_cons_succ]))
  iterate 2 (refine Lin.bl_val rfl rfl rfl ?_; apply Exists.intro; refine ⟨fun w' hw' => ?_, ?_⟩; (focus (have hBw := hw'.1; have hSw := hw'.2; clear hw'; (try dsimp only at hBw hSw); have lay' : Laid w' := Laid.below lay_W5 hBw; go_simp; first | exact Lin.lin_ret (format_Nought _ _ _) (by rw [y0.out, y1.out]) | exact Lin.lin_ret (addsub_Sub _ _ _ _ _ _ _ _) (by rw [b0.out, b1.out, b2.out]))); (try simp only [Act.put, List.setIfInBounds_toArray, List.set_cons_zero, List.set_cons_succ]))
  refine Lin.bl_rest rfl ?_
  refine Lin.bl_rest rfl ?_
  refine Lin.bl_end ?_
  refine Lin.new1 W5.heap.size (fun wa wb hc hb => ⟨hc.1.trans (hb.mono hc.1.size), cell_later hb hc.2.1, cell_later hb hc.2.2.1, cell_later hb hc.2.2.2.1, cell_later hb hc.2.2.2.2.1, cell_later hb hc.2.2.2.2.2.1, cell_later hb hc.2.2.2.2.2.2.1, cell_later hb hc.2.2.2.2.2.2.2⟩) (fun wa hc => hc.1.size) 7 _ rfl rfl (by kernel_rfl) (by kernel_rfl) rfl (.agg #[.int .u64 0, .int .u64 0, .int .u8 0]) (by intro t ht; cases ht <;> (intro w; kernel_rfl)) ?_
  intro k Y hw_Y lo_k ho_k
  have hb_Y := hw_Y.1; clear hw_Y
  have lay_Y : Laid Y := Laid.below lay_W5 hb_Y
  (replace cc1 := cl hb_Y cc1; replace cc2 := cl hb_Y cc2; replace cc3 := cl hb_Y cc3; replace cc4 := cl hb_Y cc4; replace fcc5 := fl hb_Y fcc5 cc5; replace cc5 := cl hb_Y cc5; replace fcc6 := fl hb_Y fcc6 cc6; replace cc6 := cl hb_Y cc6; replace fcc7 := fl hb_Y fcc7 cc7; replace cc7 := cl hb_Y cc7; replace hBW := below_after hBW hb_Y; have hsb_Y := hb_Y.size; have hn_Y := an (nl cc1) (an (nl cc3) (nl cc5)))
  have hi_k := Lin.heap_lt ho_k
  have cc8 : Y.cell? ⟨k, 0, none⟩ = some (.int .u64 0) := Lin.heap_cell ho_k rfl; have fcc8 : Y.frozen? ⟨k, 0, none⟩ = false := Lin.heap_free ho_k
  have cc9 : Y.cell? ⟨k, 1, none⟩ = some (.int .u64 0) := Lin.heap_cell ho_k rfl; have fcc9 : Y.frozen? ⟨k, 1, none⟩ = false := Lin.heap_free ho_k
  have cc10 : Y.cell? ⟨k, 2, none⟩ = some (.int .u8 0) := Lin.heap_cell ho_k rfl; have fcc10 : Y.frozen? ⟨k, 2, none⟩ = false := Lin.heap_free ho_k
  clear ho_k
  have hN_Y : k ≠ Y.heap.size ∧ Y.heap.size ≠ k ∧ w.heap.size ≤ k := (by omega)
  unfold Lin.ptrOf
  (try simp only [Act.put, List.setIfInBounds_toArray, List.set_cons_zero, List.set_cons_succ])
  have hM_Y : w.heap.size ≠ k ∧ k ≠ w.heap.size ∧ w.heap.size + 1 ≠ k ∧ k ≠ w.heap.size + 1 ∧ g ≠ k ∧ k ≠ g := (by omega)
  (refine wpAny_ready (rs := [8]) (by kernel_rfl) (by simp) ?_; refine AllReady.cons rfl (fun K hK => ?_) AllReady.nil; go_simp; refine hK _ _ ?_; clear hK K)
  refine wpAny_done (by kernel_rfl) ?_ _
  apply_assumption
  ((first | refine wp_rename ?_ | refine goal_rename ?_); intro Ys hw_Ys; replace cc1 := rn hw_Ys cc1 (by go_simp); replace cc2 := rn hw_Ys cc2 (by go_simp); replace cc3 := rn hw_Ys cc3 (by go_simp); replace cc4 := rn hw_Ys cc4 (by go_simp); replace cc5 := rn hw_Ys cc5 (by go_simp); replace fcc5 := rf hw_Ys fcc5 (by go_simp); replace cc6 := rn hw_Ys cc6 (by go_simp); replace fcc6 := rf hw_Ys fcc6 (by go_simp); replace cc7 := rn hw_Ys cc7 (by go_simp); replace fcc7 := rf hw_Ys fcc7 (by go_simp); replace cc8 : Ys.cell? ⟨k, 0, none⟩ = some (.int .u64 r0) := (by rw [hw_Ys]; go_simp); replace fcc8 := rf hw_Ys fcc8 (by go_simp); replace cc9 : Ys.cell? ⟨k, 1, none⟩ = some (.int .u64 r1) := (by rw [hw_Ys]; go_simp); replace fcc9 := rf hw_Ys fcc9 (by go_simp); replace cc10 : Ys.cell? ⟨k, 2, none⟩ = some (.int .u8 0) := (by rw [hw_Ys]; go_simp); replace fcc10 := rf hw_Ys fcc10 (by go_simp); replace hBW : Below w.heap.size w Ys := (by rw [hw_Ys]; (first | with_reducible exact drewN_below (by assumption) _ | go_grown)); have hn_Ys := an (nl cc1) (an (nl cc3) (an (nl cc5) (nl cc8))); have lay_Ys : Laid Ys := Laid.below (w := w) (by assumption) hBW; clear hw_Ys)
  (go_wp2_with fail; refine (class_Of _ _ _ _).mono ?_; rw [d0.out, d1.out]; rintro en v7 ⟨rfl, hB_v7⟩; have lay_v7 := laid_after hB_v7; have hG := cell_grown cc1 (by go_grown) hB_v7; replace cc1 := cl hG cc1; replace cc2 := cl hG cc2; replace cc3 := cl hG cc3; replace cc4 := cl hG cc4; replace fcc5 := fl hG fcc5 cc5; replace cc5 := cl hG cc5; replace fcc6 := fl hG fcc6 cc6; replace cc6 := cl hG cc6; replace fcc7 := fl hG fcc7 cc7; replace cc7 := cl hG cc7; replace fcc8 := fl hG fcc8 cc8; replace cc8 := cl hG cc8; replace fcc9 := fl hG fcc9 cc9; replace cc9 := cl hG cc9; replace fcc10 := fl hG fcc10 cc10; replace cc10 := cl hG cc10; have hs_v7 := hG.size; clear hG; replace hBW : Below w.heap.size w v7 := below_after (w := w) (by go_grown) hB_v7; have hn_v7 := an (nl cc1) (an (nl cc3) (an (nl cc5) (nl cc8))); clear hB_v7)
  (go_wp2_with fail; refine (law18_goes _).mono ?_; rintro en v8 ⟨rfl, hB_v8⟩; have lay_v8 := laid_after hB_v8; have hG := cell_grown cc1 (by go_grown) hB_v8; replace cc1 := cl hG cc1; replace cc2 := cl hG cc2; replace cc3 := cl hG cc3; replace cc4 := cl hG cc4; replace fcc5 := fl hG fcc5 cc5; replace cc5 := cl hG cc5; replace fcc6 := fl hG fcc6 cc6; replace cc6 := cl hG cc6; replace fcc7 := fl hG fcc7 cc7; replace cc7 := cl hG cc7; replace fcc8 := fl hG fcc8 cc8; replace cc8 := cl hG cc8; replace fcc9 := fl hG fcc9 cc9; replace cc9 := cl hG cc9; replace fcc10 := fl hG fcc10 cc10; replace cc10 := cl hG cc10; have hs_v8 := hG.size; clear hG; replace hBW : Below w.heap.size w v8 := below_after (w := w) (by go_grown) hB_v8; have hn_v8 := an (nl cc1) (an (nl cc3) (an (nl cc5) (nl cc8))); clear hB_v8)
  go_wp2_with fail
  go_returns
  exact ⟨rfl, by go_grown⟩
set_option maxRecDepth 100000 in
set_option maxHeartbeats 8000000 in
theorem no_p (f m h l z0 z1 p0 p1 c : Int) (aft neg sg : Bool) [hU : U8 f] [hM : U8 m] [U64 h] [U64 l] [U64 z0] [U64 z1] [U64 p0] [U64 p1]  (w : World) [hLay : Laid w] (hf : f < 4) (hm : m ≤ 4) (n0 : Hid (nanB f (cat h l) = false))
    (c0 : Hid (classF f (cat h l) = c)) (c1 : Hid (sgnF f (cat h l) = sg)) (y0 : Hid (hi (makeF f neg 0 0) = z0)) (y1 : Hid (lo (makeF f neg 0 0) = z1))
    (a0 : Hid (hi (addB f m (cat h l) (cat z0 z1)) = p0)) (a1 : Hid (lo (addB f m (cat h l) (cat z0 z1)) = p1)) (a2 : Hid (addFl f m aft (cat h l) (cat z0 z1) = 0))
    (b0 : Hid (hi (addB f m (cat h l) (subN f (cat z0 z1))) = p0)) (b1 : Hid (lo (addB f m (cat h l) (subN f (cat z0 z1))) = p1)) (b2 : Hid (addFl f m aft (cat h l) (subN f (cat z0 z1)) = 0)) (k0 : Hid (hi (lowN (cat h l) (widthS f)) = p0)) (k1 : Hid (lo (lowN (cat h l) (widthS f)) = p1)) (q1 : (c == 0) = false) :
    Calls Tryz.prog 3 #[.int .u8 f, .agg #[.int .u8 m, .bool aft], .agg #[.int .u64 (h), .int .u64 (l)], .bool neg] w fun en w' => en = .returned (.bool true) ∧ Below w.heap.size w w' := by
  have hfd : decide (f < 4) = true := decide_eq_true hf
  have hmd : decide (m ≤ 4) = true := decide_eq_true hm
  have q := fun W a b c => eql_res_same W a b c
  clear hf hm
  go_enter Tryz.func3, Tryz.ntmps3
  skip
  (go_wp2_with fail; refine (format_Known_b _ _).mono ?_; rintro en v1 ⟨rfl, hB_v1⟩; have lay_v1 := laid_after hB_v1; have cc1 := cl hB_v1 (show World.cell? _ ⟨w.heap.size, 0, none⟩ = some (.int .u8 m) by go_simp); have cc2 := cl hB_v1 (show World.cell? _ ⟨w.heap.size, 1, none⟩ = some (.bool aft) by go_simp); have cc3 := cl hB_v1 (show World.cell? _ ⟨w.heap.size + 1, 0, none⟩ = some (.int .u64 h) by go_simp); have cc4 := cl hB_v1 (show World.cell? _ ⟨w.heap.size + 1, 1, none⟩ = some (.int .u64 l) by go_simp); have hs_v1 := hB_v1.size; (try simp only [World.size_alloc, World.size_setCell, World.size_drew] at hs_v1); have hBW : Below w.heap.size w v1 := below_after (w := w) (by go_grown) hB_v1; have hn_v1 := an (nl cc1) (nl cc3); clear hB_v1)
  (go_wp2_with fail; refine (mode_Known_b _ _).mono ?_; rintro en v2 ⟨rfl, hB_v2⟩; have lay_v2 := laid_after hB_v2; have hG := cell_grown cc1 (by go_grown) hB_v2; replace cc1 := cl hG cc1; replace cc2 := cl hG cc2; replace cc3 := cl hG cc3; replace cc4 := cl hG cc4; have hs_v2 := hG.size; clear hG; replace hBW : Below w.heap.size w v2 := below_after (w := w) (by go_grown) hB_v2; have hn_v2 := an (nl cc1) (nl cc3); clear hB_v2)
  (go_wp2_with fail; refine (class_NaN _ _ _ _).mono ?_; rw [n0.out]; rintro en v3 ⟨rfl, hB_v3⟩; have lay_v3 := laid_after hB_v3; have hG := cell_grown cc1 (by go_grown) hB_v3; replace cc1 := cl hG cc1; replace cc2 := cl hG cc2; replace cc3 := cl hG cc3; replace cc4 := cl hG cc4; have hs_v3 := hG.size; clear hG; replace hBW : Below w.heap.size w v3 := below_after (w := w) (by go_grown) hB_v3; have hn_v3 := an (nl cc1) (nl cc3); clear hB_v3)
  (go_wp2_with fail; refine (class_Of _ _ _ _).mono ?_; rw [c0.out, c1.out]; rintro en v4 ⟨rfl, hB_v4⟩; have lay_v4 := laid_after hB_v4; have hG := cell_grown cc1 (by go_grown) hB_v4; replace cc1 := cl hG cc1; replace cc2 := cl hG cc2; replace cc3 := cl hG cc3; replace cc4 := cl hG cc4; have hs_v4 := hG.size; clear hG; replace hBW : Below w.heap.size w v4 := below_after (w := w) (by go_grown) hB_v4; have hn_v4 := an (nl cc1) (nl cc3); clear hB_v4)
  go_upto_region 4 with fail
  ((first | refine wp_rename ?_ | refine goal_rename ?_); intro W4 hw_W4; have hG := named cc1 W4 (by rw [hw_W4]; go_grown); replace cc1 := cl hG cc1; replace cc2 := cl hG cc2; replace cc3 := cl hG cc3; replace cc4 := cl hG cc4; replace hBW := below_after hBW hG; have hs_W4 := hG.size; clear hG; have hn_W4 := an (nl cc1) (nl cc3); have lay_W4 : Laid W4 := Laid.below (w := w) (by assumption) hBW; clear hw_W4)
  refine Lin.wp_region_lin (by kernel_rfl) (by intro _ _ d _ _ h; cases d <;> exact h) (by kernel_rfl) (fun w' => Below W4.heap.size W4 w' ∧ w'.cell? ⟨w.heap.size, 0, none⟩ = some (.int .u8 m) ∧ w'.cell? ⟨w.heap.size, 1, none⟩ = some (.bool aft) ∧ w'.cell? ⟨w.heap.size + 1, 0, none⟩ = some (.int .u64 h) ∧ w'.cell? ⟨w.heap.size + 1, 1, none⟩ = some (.int .u64 l)) ⟨(Below.refl _ _).drew, by go_simp, by go_simp, by go_simp, by go_simp⟩ ?_
  simp only [List.length_cons, List.length_nil, Nat.reduceAdd]
  refine Lin.Blk.out ?_
  iterate 5 (refine Lin.bl_val rfl rfl rfl ?_; apply Exists.intro; refine ⟨fun w' hw' => ?_, ?_⟩; (focus (have hBw := hw'.1; have hSw := hw'.2; clear hw'; (try dsimp only at hBw hSw); go_simp; first | with_reducible exact Lin.lin_value | with_reducible exact Lin.lin_skip)); (try simp only [Act.put, List.setIfInBounds_toArray, List.set_cons_zero, List.set_cons_succ]))
  iterate 2 (refine Lin.bl_val rfl rfl rfl ?_; apply Exists.intro; refine ⟨fun w' hw' => ?_, ?_⟩; (focus (have hBw := hw'.1; have hSw := hw'.2; clear hw'; (try dsimp only at hBw hSw); have lay' : Laid w' := Laid.below lay_W4 hBw; go_simp; first | exact Lin.lin_ret (format_Nought _ _ _) (by rw [y0.out, y1.out]) | exact Lin.lin_ret (addsub_Add _ _ _ _ _ _ _ _) (by rw [a0.out, a1.out, a2.out]))); (try simp only [Act.put, List.setIfInBounds_toArray, List.set_cons_zero, List.set_cons_succ]))
  refine Lin.bl_rest rfl ?_
  refine Lin.bl_rest rfl ?_
  refine Lin.bl_end ?_
  refine Lin.new1 W4.heap.size (fun wa wb hc hb => ⟨hc.1.trans (hb.mono hc.1.size), cell_later hb hc.2.1, cell_later hb hc.2.2.1, cell_later hb hc.2.2.2.1, cell_later hb hc.2.2.2.2⟩) (fun wa hc => hc.1.size) 7 _ rfl rfl (by kernel_rfl) (by kernel_rfl) rfl (.agg #[.int .u64 0, .int .u64 0, .int .u8 0]) (by intro t ht; cases ht <;> (intro w; kernel_rfl)) ?_
  intro g X hw_X lo_g ho_g
  have hb_X := hw_X.1; clear hw_X
  have lay_X : Laid X := Laid.below lay_W4 hb_X
  (replace cc1 := cl hb_X cc1; replace cc2 := cl hb_X cc2; replace cc3 := cl hb_X cc3; replace cc4 := cl hb_X cc4; replace hBW := below_after hBW hb_X; have hsb_X := hb_X.size; have hn_X := an (nl cc1) (nl cc3))
  have hi_g := Lin.heap_lt ho_g
  have cc5 : X.cell? ⟨g, 0, none⟩ = some (.int .u64 0) := Lin.heap_cell ho_g rfl; have fcc5 : X.frozen? ⟨g, 0, none⟩ = false := Lin.heap_free ho_g
  have cc6 : X.cell? ⟨g, 1, none⟩ = some (.int .u64 0) := Lin.heap_cell ho_g rfl; have fcc6 : X.frozen? ⟨g, 1, none⟩ = false := Lin.heap_free ho_g
  have cc7 : X.cell? ⟨g, 2, none⟩ = some (.int .u8 0) := Lin.heap_cell ho_g rfl; have fcc7 : X.frozen? ⟨g, 2, none⟩ = false := Lin.heap_free ho_g
  clear ho_g
  have hN_X : g ≠ X.heap.size ∧ X.heap.size ≠ g ∧ w.heap.size ≤ g := (by omega)
  unfold Lin.ptrOf
  (try simp only [Act.put, List.setIfInBounds_toArray, List.set_cons_zero, List.set_cons_succ])
  have hM_X : w.heap.size ≠ g ∧ g ≠ w.heap.size ∧ w.heap.size + 1 ≠ g ∧ g ≠ w.heap.size + 1 := (by omega)
  (refine wpAny_ready (rs := [8]) (by kernel_rfl) (by simp) ?_; refine AllReady.cons rfl (fun K hK => ?_) AllReady.nil; go_simp; refine hK _ _ ?_; clear hK K)
  refine wpAny_done (by kernel_rfl) ?_ _
  apply_assumption
  ((first | refine wp_rename ?_ | refine goal_rename ?_); intro Xs hw_Xs; replace cc1 := rn hw_Xs cc1 (by go_simp); replace cc2 := rn hw_Xs cc2 (by go_simp); replace cc3 := rn hw_Xs cc3 (by go_simp); replace cc4 := rn hw_Xs cc4 (by go_simp); replace cc5 : Xs.cell? ⟨g, 0, none⟩ = some (.int .u64 p0) := (by rw [hw_Xs]; go_simp); replace fcc5 := rf hw_Xs fcc5 (by go_simp); replace cc6 : Xs.cell? ⟨g, 1, none⟩ = some (.int .u64 p1) := (by rw [hw_Xs]; go_simp); replace fcc6 := rf hw_Xs fcc6 (by go_simp); replace cc7 : Xs.cell? ⟨g, 2, none⟩ = some (.int .u8 0) := (by rw [hw_Xs]; go_simp); replace fcc7 := rf hw_Xs fcc7 (by go_simp); replace hBW : Below w.heap.size w Xs := (by rw [hw_Xs]; (first | with_reducible exact drewN_below (by assumption) _ | go_grown)); have hn_Xs := an (nl cc1) (an (nl cc3) (nl cc5)); have lay_Xs : Laid Xs := Laid.below (w := w) (by assumption) hBW; clear hw_Xs)
  go_upto_region 5 with fail
  ((first | refine wp_rename ?_ | refine goal_rename ?_); intro W5 hw_W5; have hG := named cc1 W5 (by rw [hw_W5]; go_grown); replace cc1 := cl hG cc1; replace cc2 := cl hG cc2; replace cc3 := cl hG cc3; replace cc4 := cl hG cc4; replace fcc5 := fl hG fcc5 cc5; replace cc5 := cl hG cc5; replace fcc6 := fl hG fcc6 cc6; replace cc6 := cl hG cc6; replace fcc7 := fl hG fcc7 cc7; replace cc7 := cl hG cc7; replace hBW := below_after hBW hG; have hs_W5 := hG.size; clear hG; have hn_W5 := an (nl cc1) (an (nl cc3) (nl cc5)); have lay_W5 : Laid W5 := Laid.below (w := w) (by assumption) hBW; clear hw_W5)
  refine Lin.wp_region_lin (by kernel_rfl) (by intro _ _ d _ _ h; cases d <;> exact h) (by kernel_rfl) (fun w' => Below W5.heap.size W5 w' ∧ w'.cell? ⟨w.heap.size, 0, none⟩ = some (.int .u8 m) ∧ w'.cell? ⟨w.heap.size, 1, none⟩ = some (.bool aft) ∧ w'.cell? ⟨w.heap.size + 1, 0, none⟩ = some (.int .u64 h) ∧ w'.cell? ⟨w.heap.size + 1, 1, none⟩ = some (.int .u64 l) ∧ w'.cell? ⟨g, 0, none⟩ = some (.int .u64 p0) ∧ w'.cell? ⟨g, 1, none⟩ = some (.int .u64 p1) ∧ w'.cell? ⟨g, 2, none⟩ = some (.int .u8 0)) ⟨(Below.refl _ _).drew, by go_simp, by go_simp, by go_simp, by go_simp, by go_simp, by go_simp, by go_simp⟩ ?_
  simp only [List.length_cons, List.length_nil, Nat.reduceAdd]
  refine Lin.Blk.out ?_
  iterate 5 (refine Lin.bl_val rfl rfl rfl ?_; apply Exists.intro; refine ⟨fun w' hw' => ?_, ?_⟩; (focus (have hBw := hw'.1; have hSw := hw'.2; clear hw'; (try dsimp only at hBw hSw); go_simp; first | with_reducible exact Lin.lin_value | with_reducible exact Lin.lin_skip)); (try simp only [Act.put, List.setIfInBounds_toArray, List.set_cons_zero, List.set_cons_succ]))
  iterate 2 (refine Lin.bl_val rfl rfl rfl ?_; apply Exists.intro; refine ⟨fun w' hw' => ?_, ?_⟩; (focus (have hBw := hw'.1; have hSw := hw'.2; clear hw'; (try dsimp only at hBw hSw); have lay' : Laid w' := Laid.below lay_W5 hBw; go_simp; first | exact Lin.lin_ret (format_Nought _ _ _) (by rw [y0.out, y1.out]) | exact Lin.lin_ret (addsub_Sub _ _ _ _ _ _ _ _) (by rw [b0.out, b1.out, b2.out]))); (try simp only [Act.put, List.setIfInBounds_toArray, List.set_cons_zero, List.set_cons_succ]))
  refine Lin.bl_rest rfl ?_
  refine Lin.bl_rest rfl ?_
  refine Lin.bl_end ?_
  refine Lin.new1 W5.heap.size (fun wa wb hc hb => ⟨hc.1.trans (hb.mono hc.1.size), cell_later hb hc.2.1, cell_later hb hc.2.2.1, cell_later hb hc.2.2.2.1, cell_later hb hc.2.2.2.2.1, cell_later hb hc.2.2.2.2.2.1, cell_later hb hc.2.2.2.2.2.2.1, cell_later hb hc.2.2.2.2.2.2.2⟩) (fun wa hc => hc.1.size) 7 _ rfl rfl (by kernel_rfl) (by kernel_rfl) rfl (.agg #[.int .u64 0, .int .u64 0, .int .u8 0]) (by intro t ht; cases ht <;> (intro w; kernel_rfl)) ?_
  intro k Y hw_Y lo_k ho_k
  have hb_Y := hw_Y.1; clear hw_Y
  have lay_Y : Laid Y := Laid.below lay_W5 hb_Y
  (replace cc1 := cl hb_Y cc1; replace cc2 := cl hb_Y cc2; replace cc3 := cl hb_Y cc3; replace cc4 := cl hb_Y cc4; replace fcc5 := fl hb_Y fcc5 cc5; replace cc5 := cl hb_Y cc5; replace fcc6 := fl hb_Y fcc6 cc6; replace cc6 := cl hb_Y cc6; replace fcc7 := fl hb_Y fcc7 cc7; replace cc7 := cl hb_Y cc7; replace hBW := below_after hBW hb_Y; have hsb_Y := hb_Y.size; have hn_Y := an (nl cc1) (an (nl cc3) (nl cc5)))
  have hi_k := Lin.heap_lt ho_k
  have cc8 : Y.cell? ⟨k, 0, none⟩ = some (.int .u64 0) := Lin.heap_cell ho_k rfl; have fcc8 : Y.frozen? ⟨k, 0, none⟩ = false := Lin.heap_free ho_k
  have cc9 : Y.cell? ⟨k, 1, none⟩ = some (.int .u64 0) := Lin.heap_cell ho_k rfl; have fcc9 : Y.frozen? ⟨k, 1, none⟩ = false := Lin.heap_free ho_k
  have cc10 : Y.cell? ⟨k, 2, none⟩ = some (.int .u8 0) := Lin.heap_cell ho_k rfl; have fcc10 : Y.frozen? ⟨k, 2, none⟩ = false := Lin.heap_free ho_k
  clear ho_k
  have hN_Y : k ≠ Y.heap.size ∧ Y.heap.size ≠ k ∧ w.heap.size ≤ k := (by omega)
  unfold Lin.ptrOf
  (try simp only [Act.put, List.setIfInBounds_toArray, List.set_cons_zero, List.set_cons_succ])
  have hM_Y : w.heap.size ≠ k ∧ k ≠ w.heap.size ∧ w.heap.size + 1 ≠ k ∧ k ≠ w.heap.size + 1 ∧ g ≠ k ∧ k ≠ g := (by omega)
  (refine wpAny_ready (rs := [8]) (by kernel_rfl) (by simp) ?_; refine AllReady.cons rfl (fun K hK => ?_) AllReady.nil; go_simp; refine hK _ _ ?_; clear hK K)
  refine wpAny_done (by kernel_rfl) ?_ _
  apply_assumption
  ((first | refine wp_rename ?_ | refine goal_rename ?_); intro Ys hw_Ys; replace cc1 := rn hw_Ys cc1 (by go_simp); replace cc2 := rn hw_Ys cc2 (by go_simp); replace cc3 := rn hw_Ys cc3 (by go_simp); replace cc4 := rn hw_Ys cc4 (by go_simp); replace cc5 := rn hw_Ys cc5 (by go_simp); replace fcc5 := rf hw_Ys fcc5 (by go_simp); replace cc6 := rn hw_Ys cc6 (by go_simp); replace fcc6 := rf hw_Ys fcc6 (by go_simp); replace cc7 := rn hw_Ys cc7 (by go_simp); replace fcc7 := rf hw_Ys fcc7 (by go_simp); replace cc8 : Ys.cell? ⟨k, 0, none⟩ = some (.int .u64 p0) := (by rw [hw_Ys]; go_simp); replace fcc8 := rf hw_Ys fcc8 (by go_simp); replace cc9 : Ys.cell? ⟨k, 1, none⟩ = some (.int .u64 p1) := (by rw [hw_Ys]; go_simp); replace fcc9 := rf hw_Ys fcc9 (by go_simp); replace cc10 : Ys.cell? ⟨k, 2, none⟩ = some (.int .u8 0) := (by rw [hw_Ys]; go_simp); replace fcc10 := rf hw_Ys fcc10 (by go_simp); replace hBW : Below w.heap.size w Ys := (by rw [hw_Ys]; (first | with_reducible exact drewN_below (by assumption) _ | go_grown)); have hn_Ys := an (nl cc1) (an (nl cc3) (an (nl cc5) (nl cc8))); have lay_Ys : Laid Ys := Laid.below (w := w) (by assumption) hBW; clear hw_Ys)
  go_upto_region 9 with fail
  ((first | refine wp_rename ?_ | refine goal_rename ?_); intro W9 hw_W9; have hG := named cc1 W9 (by rw [hw_W9]; go_grown); replace cc1 := cl hG cc1; replace cc2 := cl hG cc2; replace cc3 := cl hG cc3; replace cc4 := cl hG cc4; replace fcc5 := fl hG fcc5 cc5; replace cc5 := cl hG cc5; replace fcc6 := fl hG fcc6 cc6; replace cc6 := cl hG cc6; replace fcc7 := fl hG fcc7 cc7; replace cc7 := cl hG cc7; replace fcc8 := fl hG fcc8 cc8; replace cc8 := cl hG cc8; replace fcc9 := fl hG fcc9 cc9; replace cc9 := cl hG cc9; replace fcc10 := fl hG fcc10 cc10; replace cc10 := cl hG cc10; replace hBW := below_after hBW hG; have hs_W9 := hG.size; clear hG; have hn_W9 := an (nl cc1) (an (nl cc3) (an (nl cc5) (nl cc8))); have lay_W9 : Laid W9 := Laid.below (w := w) (by assumption) hBW; clear hw_W9)
  refine Lin.wp_region_lin (by kernel_rfl) (by intro _ _ d _ _ h; cases d <;> exact h) (by kernel_rfl) (fun w' => Below W9.heap.size W9 w' ∧ w'.cell? ⟨w.heap.size, 0, none⟩ = some (.int .u8 m) ∧ w'.cell? ⟨w.heap.size, 1, none⟩ = some (.bool aft) ∧ w'.cell? ⟨w.heap.size + 1, 0, none⟩ = some (.int .u64 h) ∧ w'.cell? ⟨w.heap.size + 1, 1, none⟩ = some (.int .u64 l) ∧ w'.cell? ⟨g, 0, none⟩ = some (.int .u64 p0) ∧ w'.cell? ⟨g, 1, none⟩ = some (.int .u64 p1) ∧ w'.cell? ⟨g, 2, none⟩ = some (.int .u8 0) ∧ w'.cell? ⟨k, 0, none⟩ = some (.int .u64 p0) ∧ w'.cell? ⟨k, 1, none⟩ = some (.int .u64 p1) ∧ w'.cell? ⟨k, 2, none⟩ = some (.int .u8 0)) ⟨(Below.refl _ _).drew, by go_simp, by go_simp, by go_simp, by go_simp, by go_simp, by go_simp, by go_simp, by go_simp, by go_simp, by go_simp⟩ ?_
  simp only [List.length_cons, List.length_nil, Nat.reduceAdd]
  refine Lin.Blk.out ?_
  iterate 3 (refine Lin.bl_val rfl rfl rfl ?_; apply Exists.intro; refine ⟨fun w' hw' => ?_, ?_⟩; (focus (have hBw := hw'.1; have hSw := hw'.2; clear hw'; (try dsimp only at hBw hSw); go_simp; first | with_reducible exact Lin.lin_value | with_reducible exact Lin.lin_skip)); (try simp only [Act.put, List.setIfInBounds_toArray, List.set_cons_zero, List.set_cons_succ]))
  (refine Lin.bl_val rfl rfl rfl ?_; apply Exists.intro; refine ⟨fun w' hw' => ?_, ?_⟩; (focus (have hBw := hw'.1; have hSw := hw'.2; clear hw'; (try dsimp only at hBw hSw); have lay' : Laid w' := Laid.below lay_W9 hBw; go_simp; first | exact Lin.lin_ret (format_Cut _ _ _ _) (by rw [k0.out, k1.out]) | exact Lin.lin_ret (law18_goes _) rfl)); (try simp only [Act.put, List.setIfInBounds_toArray, List.set_cons_zero, List.set_cons_succ]))
  iterate 3 (refine Lin.bl_val rfl rfl rfl ?_; apply Exists.intro; refine ⟨fun w' hw' => ?_, ?_⟩; (focus (have hBw := hw'.1; have hSw := hw'.2; clear hw'; (try dsimp only at hBw hSw); go_simp; first | with_reducible exact Lin.lin_value | with_reducible exact Lin.lin_skip)); (try simp only [Act.put, List.setIfInBounds_toArray, List.set_cons_zero, List.set_cons_succ]))
  iterate 3 (refine Lin.bl_val rfl rfl (by kernel_rfl) ?_; apply Exists.intro; refine ⟨fun w' hw' => ?_, ?_⟩; (focus (have hBw := hw'.1; have hSw := hw'.2; clear hw'; (try dsimp only at hBw hSw); go_simp; first | with_reducible exact Lin.lin_value | with_reducible exact Lin.lin_skip)); (try simp only [Act.put, List.setIfInBounds_toArray, List.set_cons_zero, List.set_cons_succ]))
  iterate 2 (refine Lin.bl_val rfl rfl rfl ?_; apply Exists.intro; refine ⟨fun w' hw' => ?_, ?_⟩; (focus (have hBw := hw'.1; have hSw := hw'.2; clear hw'; (try dsimp only at hBw hSw); go_simp; first | with_reducible exact Lin.lin_value | with_reducible exact Lin.lin_skip)); (try simp only [Act.put, List.setIfInBounds_toArray, List.set_cons_zero, List.set_cons_succ]))
  (refine Lin.bl_val rfl rfl (by kernel_rfl) ?_; apply Exists.intro; refine ⟨fun w' hw' => ?_, ?_⟩; (focus (have hBw := hw'.1; have hSw := hw'.2; clear hw'; (try dsimp only at hBw hSw); have lay' : Laid w' := Laid.below lay_W9 hBw; go_simp; first | exact Lin.lin_ret (format_Cut _ _ _ _) (by rw [k0.out, k1.out]) | exact Lin.lin_ret (law18_goes _) rfl)); (try simp only [Act.put, List.setIfInBounds_toArray, List.set_cons_zero, List.set_cons_succ]))
  (refine Lin.bl_val rfl rfl rfl ?_; apply Exists.intro; refine ⟨fun w' hw' => ?_, ?_⟩; (focus (have hBw := hw'.1; have hSw := hw'.2; clear hw'; (try dsimp only at hBw hSw); go_simp; first | with_reducible exact Lin.lin_value | with_reducible exact Lin.lin_skip)); (try simp only [Act.put, List.setIfInBounds_toArray, List.set_cons_zero, List.set_cons_succ]))
  refine Lin.bl_rest rfl ?_
  refine Lin.bl_end ?_
  refine Lin.fin0 (fun wa wb hc hb => ⟨hc.1.trans (hb.mono hc.1.size), cell_later hb hc.2.1, cell_later hb hc.2.2.1, cell_later hb hc.2.2.2.1, cell_later hb hc.2.2.2.2.1, cell_later hb hc.2.2.2.2.2.1, cell_later hb hc.2.2.2.2.2.2.1, cell_later hb hc.2.2.2.2.2.2.2.1, cell_later hb hc.2.2.2.2.2.2.2.2.1, cell_later hb hc.2.2.2.2.2.2.2.2.2.1, cell_later hb hc.2.2.2.2.2.2.2.2.2.2⟩) (by kernel_rfl) ?_
  intro Z hw_Z
  have hb_Z := hw_Z.1; clear hw_Z
  have lay_Z : Laid Z := Laid.below lay_W9 hb_Z
  (replace cc1 := cl hb_Z cc1; replace cc2 := cl hb_Z cc2; replace cc3 := cl hb_Z cc3; replace cc4 := cl hb_Z cc4; replace fcc5 := fl hb_Z fcc5 cc5; replace cc5 := cl hb_Z cc5; replace fcc6 := fl hb_Z fcc6 cc6; replace cc6 := cl hb_Z cc6; replace fcc7 := fl hb_Z fcc7 cc7; replace cc7 := cl hb_Z cc7; replace fcc8 := fl hb_Z fcc8 cc8; replace cc8 := cl hb_Z cc8; replace fcc9 := fl hb_Z fcc9 cc9; replace cc9 := cl hb_Z cc9; replace fcc10 := fl hb_Z fcc10 cc10; replace cc10 := cl hb_Z cc10; replace hBW := below_after hBW hb_Z; have hsb_Z := hb_Z.size; have hn_Z := an (nl cc1) (an (nl cc3) (an (nl cc5) (nl cc8))))
  (refine wpAny_ready (rs := [14]) (by kernel_rfl) (by simp) ?_; refine AllReady.cons rfl (fun K hK => ?_) AllReady.nil; go_simp; refine hK _ _ ?_; clear hK K)
  refine wpAny_done (by kernel_rfl) ?_ _
  apply_assumption
  (first | refine wp_rename ?_ | refine goal_rename ?_); intro Z_ hw_Z; subst hw_Z
  go_wp2_with fail
  go_returns
  exact ⟨rfl, by go_grown⟩
theorem addB_lt (f m : Int) (a b : Nat) (h0 : 0 ≤ f) (hf : f < 4) (hm : m ≤ 4) (ha : classF f a < 3) (hb : classF f b < 3) : addB f m a b < 2 ^ 128 := by
  rw [(add_code f m false a b h0 hf hm ha hb).1]
  have h1 := endC_lt f m (sumG f m a b) (codeX (precS f).toNat (unitB f KK) m (sumG f m a b) (sumX f a b)) h0 hf
  have hw : 2 ^ (widthS f - 1).toNat ≤ 2 ^ 127 := Nat.pow_le_pow_right (by decide) (by unfold widthS; repeat' split <;> omega)
  have h128 : (2 : Nat) ^ 128 = 2 ^ 127 + 2 ^ 127 := rfl
  have hs : signN f (sumG f m a b) ≤ 2 ^ (widthS f - 1).toNat := by unfold signN; split <;> omega
  omega
theorem walk_AddsubNought (f m : Int) (aft : Bool) (h l : Int) (neg : Bool) [hU : U8 f] [hM : U8 m] [U64 h] [U64 l] (w : World) [hLay : Laid w] :
    Calls Tryz.prog 3 #[.int .u8 f, .agg #[.int .u8 m, .bool aft], .agg #[.int .u64 (h), .int .u64 (l)], .bool neg] w fun en w' => en = .returned (.bool true) ∧ Below w.heap.size w w' := by
  have f0 := hU.ge
  by_cases hf : f < 4
  case neg => exact no_nf f m h l aft neg w hf
  by_cases hm : m ≤ 4
  case neg => exact no_nm f m h l aft neg w hf hm
  by_cases hn : 4 ≤ classF f (cat h l)
  case pos => exact no_nan f m h l aft neg w hf hm (Lib.hid (decide_eq_true hn))
  have ez : cat (hi (makeF f neg 0 0)) (lo (makeF f neg 0 0)) = signN f neg := by rw [cat_small _ (makeF_lt _ _ _ _ f0), makeF_zero f neg hf]
  have z3 := (nought_parts f neg f0 hf).2.2
  have es : subN f (signN f neg) = signN f (!neg) := by
    rw [sub_fin f _ (by omega)]
    have ht := turnF_of f 0 neg f0 hf (Nat.two_pow_pos _)
    rwa [Nat.zero_add, Nat.zero_add] at ht
  obtain ⟨a1, a2, a3⟩ := add_nought f m aft (cat h l) neg f0 hf hm hn
  obtain ⟨b1, b2, b3⟩ := add_nought f m aft (cat h l) (!neg) f0 hf hm hn
  have n0 : nanB f (cat h l) = false := decide_eq_false hn
  by_cases hz : classF f (cat h l) = 0
  · have hl := addB_lt f m (cat h l) (signN f neg) f0 hf hm (by omega) (by omega)
    exact no_z f m h l _ _ _ _ _ _ _ aft neg _ _ w hf hm (Lib.hid n0) (Lib.hid rfl) (Lib.hid rfl) (Lib.hid rfl) (Lib.hid rfl) (Lib.hid (by rw [ez])) (Lib.hid (by rw [ez])) (Lib.hid (by rw [ez]; exact a1)) (Lib.hid (by rw [ez, es])) (Lib.hid (by rw [ez, es])) (Lib.hid (by rw [ez, es]; exact b1)) (Lib.hid (by rw [cat_small _ hl]; exact a2 hz)) (Lib.hid rfl) (beq_iff_eq.2 hz)
  · exact no_p f m h l _ _ _ _ _ aft neg _ w hf hm (Lib.hid n0) (Lib.hid rfl) (Lib.hid rfl) (Lib.hid rfl) (Lib.hid rfl) (Lib.hid (by rw [ez, a3 hz])) (Lib.hid (by rw [ez, a3 hz])) (Lib.hid (by rw [ez]; exact a1)) (Lib.hid (by rw [ez, es, b3 hz])) (Lib.hid (by rw [ez, es, b3 hz])) (Lib.hid (by rw [ez, es]; exact b1)) (Lib.hid rfl) (Lib.hid rfl) (beq_eq_false_iff_ne.2 hz)
end Go.Proofs.YtkldkchkhblndaaGreatDoor
