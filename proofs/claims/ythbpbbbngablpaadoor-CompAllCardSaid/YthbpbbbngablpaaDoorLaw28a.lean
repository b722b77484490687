/- The walks of chapter 28: goes, CompNan. -/
import Derived.Test.YthbpbbbngablpaaDoorComp5
import Derived.Test.YthbpbbbngablpaaDoorLeast
set_option linter.unusedSimpArgs false
set_option linter.unusedVariables false
namespace Go.Proofs.YthbpbbbngablpaaDoor
open Go.RowKit Go.Hb
theorem law28_half (v : Int) (w : World) :
    Calls Tryd.prog 29 #[.int .u64 v] w fun en w' => en = .returned (.agg #[.int .u64 (0), .int .u64 (v)]) ∧ Below w.heap.size w w' := by
  go_enter Tryd.func29, Tryd.ntmps29
  skip
  go_wp2_with fail
  refine bodyPost_ret (by simp [results, Tryd.results29, go_sem]; try rfl) rfl ?_
  exact ⟨rfl, by go_grown⟩
instance u64_L28_0 : U64 15360 := ⟨by omega, by omega⟩
instance u64_L28_1 : U64 16384 := ⟨by omega, by omega⟩
instance u64_L28_2 : U64 32256 := ⟨by omega, by omega⟩
instance u64_L28_3 : U64 32768 := ⟨by omega, by omega⟩
instance u64_L28_4 : U64 48128 := ⟨by omega, by omega⟩
instance u64_L28_5 : U64 31745 := ⟨by omega, by omega⟩
set_option maxRecDepth 100000 in
set_option maxHeartbeats 8000000 in
theorem law28_goes (w : World) [hLay : Laid w] :
    Calls Tryd.prog 10 #[] w fun en w' => en = .returned (.bool true) ∧ Below w.heap.size w w' := by
  have a0 : qV 0 (cat 0 15360) (cat 0 16384) = 0 := by decide +kernel
  have b0 : qF 0 (cat 0 15360) (cat 0 16384) = 0 := by decide +kernel
  have a1 : qV 0 (cat 0 0) (cat 0 32768) = 1 := by decide +kernel
  have b1 : qF 0 (cat 0 0) (cat 0 32768) = 0 := by decide +kernel
  have a2 : qV 0 (cat 0 32256) (cat 0 15360) = 3 := by decide +kernel
  have b2 : qF 0 (cat 0 32256) (cat 0 15360) = 0 := by decide +kernel
  have b3 : sF 0 (cat 0 32256) (cat 0 15360) = 1 := by decide +kernel
  have o1 : ordF 0 (cat 0 48128) (cat 0 15360) = -1 := by decide +kernel
  have k0 : hi (lowN (cat 0 48128) (widthS 0)) = 0 := by decide +kernel
  have k1 : lo (lowN (cat 0 48128) (widthS 0)) = 48128 := by decide +kernel
  have o2 : ordF 0 (cat 0 32768) (cat 0 0) = -1 := by decide +kernel
  have heb := fun W => eql_bits_same W 0 48128
  go_enter Tryd.func10, Tryd.ntmps10
  skip
  (go_wp2_with fail; refine (law28_half _ _).mono ?_; rintro en h1 ⟨rfl, hB_h1⟩; have lay_h1 := laid_after hB_h1; have hs_h1 := hB_h1.size; (try simp only [World.size_alloc, World.size_setCell, World.size_drew] at hs_h1); have hBW : Below w.heap.size w h1 := below_after (w := w) (by go_grown) hB_h1; clear hB_h1)
  (go_wp2_with fail; refine (law28_half _ _).mono ?_; rintro en h2 ⟨rfl, hB_h2⟩; have lay_h2 := laid_after hB_h2; have hs_h2 := hB_h2.size; (try simp only [World.size_alloc, World.size_setCell, World.size_drew] at hs_h2); replace hBW : Below w.heap.size w h2 := below_after (w := w) (by go_grown) hB_h2; clear hB_h2)
  (go_wp2_with fail; refine (comp_Quiet _ _ _ _ _ _).mono ?_; rw [a0, b0]; rintro en v1 ⟨rfl, hB_v1⟩; have lay_v1 := laid_after hB_v1; have hs_v1 := hB_v1.size; (try simp only [World.size_alloc, World.size_setCell, World.size_drew] at hs_v1); replace hBW : Below w.heap.size w v1 := below_after (w := w) (by go_grown) hB_v1; clear hB_v1)
  (go_wp2_with fail; refine (law28_half _ _).mono ?_; rintro en h3 ⟨rfl, hB_h3⟩; have lay_h3 := laid_after hB_h3; have hs_h3 := hB_h3.size; (try simp only [World.size_alloc, World.size_setCell, World.size_drew] at hs_h3); replace hBW : Below w.heap.size w h3 := below_after (w := w) (by go_grown) hB_h3; clear hB_h3)
  (go_wp2_with fail; refine (law28_half _ _).mono ?_; rintro en h4 ⟨rfl, hB_h4⟩; have lay_h4 := laid_after hB_h4; have hs_h4 := hB_h4.size; (try simp only [World.size_alloc, World.size_setCell, World.size_drew] at hs_h4); replace hBW : Below w.heap.size w h4 := below_after (w := w) (by go_grown) hB_h4; clear hB_h4)
  (go_wp2_with fail; refine (comp_Quiet _ _ _ _ _ _).mono ?_; rw [a1, b1]; rintro en v2 ⟨rfl, hB_v2⟩; have lay_v2 := laid_after hB_v2; have hs_v2 := hB_v2.size; (try simp only [World.size_alloc, World.size_setCell, World.size_drew] at hs_v2); replace hBW : Below w.heap.size w v2 := below_after (w := w) (by go_grown) hB_v2; clear hB_v2)
  (go_wp2_with fail; refine (law28_half _ _).mono ?_; rintro en h5 ⟨rfl, hB_h5⟩; have lay_h5 := laid_after hB_h5; have hs_h5 := hB_h5.size; (try simp only [World.size_alloc, World.size_setCell, World.size_drew] at hs_h5); replace hBW : Below w.heap.size w h5 := below_after (w := w) (by go_grown) hB_h5; clear hB_h5)
  (go_wp2_with fail; refine (law28_half _ _).mono ?_; rintro en h6 ⟨rfl, hB_h6⟩; have lay_h6 := laid_after hB_h6; have hs_h6 := hB_h6.size; (try simp only [World.size_alloc, World.size_setCell, World.size_drew] at hs_h6); replace hBW : Below w.heap.size w h6 := below_after (w := w) (by go_grown) hB_h6; clear hB_h6)
  (go_wp2_with fail; refine (comp_Quiet _ _ _ _ _ _).mono ?_; rw [a2, b2]; rintro en v3 ⟨rfl, hB_v3⟩; have lay_v3 := laid_after hB_v3; have hs_v3 := hB_v3.size; (try simp only [World.size_alloc, World.size_setCell, World.size_drew] at hs_v3); replace hBW : Below w.heap.size w v3 := below_after (w := w) (by go_grown) hB_v3; clear hB_v3)
  (go_wp2_with fail; refine (law28_half _ _).mono ?_; rintro en h7 ⟨rfl, hB_h7⟩; have lay_h7 := laid_after hB_h7; have hs_h7 := hB_h7.size; (try simp only [World.size_alloc, World.size_setCell, World.size_drew] at hs_h7); replace hBW : Below w.heap.size w h7 := below_after (w := w) (by go_grown) hB_h7; clear hB_h7)
  (go_wp2_with fail; refine (law28_half _ _).mono ?_; rintro en h8 ⟨rfl, hB_h8⟩; have lay_h8 := laid_after hB_h8; have hs_h8 := hB_h8.size; (try simp only [World.size_alloc, World.size_setCell, World.size_drew] at hs_h8); replace hBW : Below w.heap.size w h8 := below_after (w := w) (by go_grown) hB_h8; clear hB_h8)
  (go_wp2_with fail; refine (comp_Signaling _ _ _ _ _ _).mono ?_; rw [a2, b3]; rintro en v4 ⟨rfl, hB_v4⟩; have lay_v4 := laid_after hB_v4; have hs_v4 := hB_v4.size; (try simp only [World.size_alloc, World.size_setCell, World.size_drew] at hs_v4); replace hBW : Below w.heap.size w v4 := below_after (w := w) (by go_grown) hB_v4; clear hB_v4)
  (go_wp2_with fail; refine (law28_half _ _).mono ?_; rintro en h9 ⟨rfl, hB_h9⟩; have lay_h9 := laid_after hB_h9; have hs_h9 := hB_h9.size; (try simp only [World.size_alloc, World.size_setCell, World.size_drew] at hs_h9); replace hBW : Below w.heap.size w h9 := below_after (w := w) (by go_grown) hB_h9; clear hB_h9)
  (go_wp2_with fail; refine (law28_half _ _).mono ?_; rintro en h10 ⟨rfl, hB_h10⟩; have lay_h10 := laid_after hB_h10; have hs_h10 := hB_h10.size; (try simp only [World.size_alloc, World.size_setCell, World.size_drew] at hs_h10); replace hBW : Below w.heap.size w h10 := below_after (w := w) (by go_grown) hB_h10; clear hB_h10)
  (go_wp2_with fail; refine (least_two 0 0 15360 0 48128 (-1) 0 48128 _ _ (by go_simp) (by go_simp) (by go_simp) (by go_simp) (by decide) (Lib.hid o1) rfl (Lib.hid k0) (Lib.hid k1)).mono ?_; rintro en v5 ⟨rfl, hB_v5⟩; have lay_v5 := laid_after hB_v5; have hs_v5 := hB_v5.size; (try simp only [World.size_alloc, World.size_setCell, World.size_drew] at hs_v5); replace hBW : Below w.heap.size w v5 := below_after (w := w) (by go_grown) hB_v5; clear hB_v5)
  go_upto_region 6 with fail
  ((first | refine wp_rename ?_ | refine goal_rename ?_); intro W6 hw_W6; have cc1 : W6.cell? ⟨v5.heap.size, 0, none⟩ = some (.int .u64 0) := (by rw [hw_W6]; go_simp); have cc2 : W6.cell? ⟨v5.heap.size, 1, none⟩ = some (.int .u64 48128) := (by rw [hw_W6]; go_simp); replace hBW : Below w.heap.size w W6 := (by rw [hw_W6]; (first | with_reducible exact drewN_below (by assumption) _ | go_grown)); have hn_W6 := nl cc1; have lay_W6 : Laid W6 := Laid.below (w := w) (by assumption) hBW; clear hw_W6)
  refine Lin.wp_region_lin (by kernel_rfl) (by intro _ _ d _ _ h; cases d <;> exact h) (by kernel_rfl) (fun w' => Below W6.heap.size W6 w' ∧ w'.cell? ⟨v5.heap.size, 0, none⟩ = some (.int .u64 0) ∧ w'.cell? ⟨v5.heap.size, 1, none⟩ = some (.int .u64 48128)) ⟨(Below.refl _ _).drew, by go_simp, by go_simp⟩ ?_
  simp only [List.length_cons, List.length_nil, Nat.reduceAdd]
  iterate 3 (refine Lin.lex_val rfl rfl rfl ?_; apply Exists.intro; refine ⟨fun w' hw' => ?_, ?_⟩; (focus (have hBw := hw'.1; have hSw := hw'.2; clear hw'; (try dsimp only at hBw hSw); go_simp; first | with_reducible exact Lin.lin_value | with_reducible exact Lin.lin_skip)); (try simp only [Act.put, List.setIfInBounds_toArray, List.set_cons_zero, List.set_cons_succ]))
  iterate 2 (refine Lin.lex_val rfl rfl (by kernel_rfl) ?_; apply Exists.intro; refine ⟨fun w' hw' => ?_, ?_⟩; (focus (have hBw := hw'.1; have hSw := hw'.2; clear hw'; (try dsimp only at hBw hSw); go_simp; first | with_reducible exact Lin.lin_value | with_reducible exact Lin.lin_skip)); (try simp only [Act.put, List.setIfInBounds_toArray, List.set_cons_zero, List.set_cons_succ]))
  iterate 2 (refine Lin.lex_val rfl rfl rfl ?_; apply Exists.intro; refine ⟨fun w' hw' => ?_, ?_⟩; (focus (have hBw := hw'.1; have hSw := hw'.2; clear hw'; (try dsimp only at hBw hSw); go_simp; first | with_reducible exact Lin.lin_value | with_reducible exact Lin.lin_skip)); (try simp only [Act.put, List.setIfInBounds_toArray, List.set_cons_zero, List.set_cons_succ]))
  iterate 2 (refine Lin.lex_val rfl rfl (by kernel_rfl) ?_; apply Exists.intro; refine ⟨fun w' hw' => ?_, ?_⟩; (focus (have hBw := hw'.1; have hSw := hw'.2; clear hw'; (try dsimp only at hBw hSw); go_simp; first | with_reducible exact Lin.lin_value | with_reducible exact Lin.lin_skip)); (try simp only [Act.put, List.setIfInBounds_toArray, List.set_cons_zero, List.set_cons_succ]))
  iterate 2 (refine Lin.lex_val rfl rfl rfl ?_; apply Exists.intro; refine ⟨fun w' hw' => ?_, ?_⟩; (focus (have hBw := hw'.1; have hSw := hw'.2; clear hw'; (try dsimp only at hBw hSw); go_simp; first | with_reducible exact Lin.lin_value | with_reducible exact Lin.lin_skip)); (try simp only [Act.put, List.setIfInBounds_toArray, List.set_cons_zero, List.set_cons_succ]))
  iterate 2 (refine Lin.lex_val rfl rfl (by kernel_rfl) ?_; apply Exists.intro; refine ⟨fun w' hw' => ?_, ?_⟩; (focus (have hBw := hw'.1; have hSw := hw'.2; clear hw'; (try dsimp only at hBw hSw); go_simp; first | with_reducible exact Lin.lin_value | with_reducible exact Lin.lin_skip)); (try simp only [Act.put, List.setIfInBounds_toArray, List.set_cons_zero, List.set_cons_succ]))
  iterate 2 (refine Lin.lex_val rfl rfl rfl ?_; apply Exists.intro; refine ⟨fun w' hw' => ?_, ?_⟩; (focus (have hBw := hw'.1; have hSw := hw'.2; clear hw'; (try dsimp only at hBw hSw); go_simp; first | with_reducible exact Lin.lin_value | with_reducible exact Lin.lin_skip)); (try simp only [Act.put, List.setIfInBounds_toArray, List.set_cons_zero, List.set_cons_succ]))
  iterate 2 (refine Lin.lex_val rfl rfl (by kernel_rfl) ?_; apply Exists.intro; refine ⟨fun w' hw' => ?_, ?_⟩; (focus (have hBw := hw'.1; have hSw := hw'.2; clear hw'; (try dsimp only at hBw hSw); go_simp; first | with_reducible exact Lin.lin_value | with_reducible exact Lin.lin_skip)); (try simp only [Act.put, List.setIfInBounds_toArray, List.set_cons_zero, List.set_cons_succ]))
  iterate 2 (refine Lin.lex_val rfl rfl rfl ?_; apply Exists.intro; refine ⟨fun w' hw' => ?_, ?_⟩; (focus (have hBw := hw'.1; have hSw := hw'.2; clear hw'; (try dsimp only at hBw hSw); go_simp; first | with_reducible exact Lin.lin_value | with_reducible exact Lin.lin_skip)); (try simp only [Act.put, List.setIfInBounds_toArray, List.set_cons_zero, List.set_cons_succ]))
  iterate 2 (refine Lin.lex_val rfl rfl (by kernel_rfl) ?_; apply Exists.intro; refine ⟨fun w' hw' => ?_, ?_⟩; (focus (have hBw := hw'.1; have hSw := hw'.2; clear hw'; (try dsimp only at hBw hSw); go_simp; first | with_reducible exact Lin.lin_value | with_reducible exact Lin.lin_skip)); (try simp only [Act.put, List.setIfInBounds_toArray, List.set_cons_zero, List.set_cons_succ]))
  iterate 2 (refine Lin.lex_val rfl rfl rfl ?_; apply Exists.intro; refine ⟨fun w' hw' => ?_, ?_⟩; (focus (have hBw := hw'.1; have hSw := hw'.2; clear hw'; (try dsimp only at hBw hSw); go_simp; first | with_reducible exact Lin.lin_value | with_reducible exact Lin.lin_skip)); (try simp only [Act.put, List.setIfInBounds_toArray, List.set_cons_zero, List.set_cons_succ]))
  iterate 2 (refine Lin.lex_val rfl rfl (by kernel_rfl) ?_; apply Exists.intro; refine ⟨fun w' hw' => ?_, ?_⟩; (focus (have hBw := hw'.1; have hSw := hw'.2; clear hw'; (try dsimp only at hBw hSw); go_simp; first | with_reducible exact Lin.lin_value | with_reducible exact Lin.lin_skip)); (try simp only [Act.put, List.setIfInBounds_toArray, List.set_cons_zero, List.set_cons_succ]))
  iterate 2 (refine Lin.lex_val rfl rfl rfl ?_; apply Exists.intro; refine ⟨fun w' hw' => ?_, ?_⟩; (focus (have hBw := hw'.1; have hSw := hw'.2; clear hw'; (try dsimp only at hBw hSw); go_simp; first | with_reducible exact Lin.lin_value | with_reducible exact Lin.lin_skip)); (try simp only [Act.put, List.setIfInBounds_toArray, List.set_cons_zero, List.set_cons_succ]))
  iterate 2 (refine Lin.lex_val rfl rfl (by kernel_rfl) ?_; apply Exists.intro; refine ⟨fun w' hw' => ?_, ?_⟩; (focus (have hBw := hw'.1; have hSw := hw'.2; clear hw'; (try dsimp only at hBw hSw); go_simp; first | with_reducible exact Lin.lin_value | with_reducible exact Lin.lin_skip)); (try simp only [Act.put, List.setIfInBounds_toArray, List.set_cons_zero, List.set_cons_succ]))
  iterate 2 (refine Lin.lex_val rfl rfl rfl ?_; apply Exists.intro; refine ⟨fun w' hw' => ?_, ?_⟩; (focus (have hBw := hw'.1; have hSw := hw'.2; clear hw'; (try dsimp only at hBw hSw); go_simp; first | with_reducible exact Lin.lin_value | with_reducible exact Lin.lin_skip)); (try simp only [Act.put, List.setIfInBounds_toArray, List.set_cons_zero, List.set_cons_succ]))
  iterate 3 (refine Lin.lex_val rfl rfl (by kernel_rfl) ?_; apply Exists.intro; refine ⟨fun w' hw' => ?_, ?_⟩; (focus (have hBw := hw'.1; have hSw := hw'.2; clear hw'; (try dsimp only at hBw hSw); have lay' : Laid w' := Laid.below lay_W6 hBw; go_simp; first | exact Lin.lin_ret (law28_half _ _) rfl | exact Lin.lin_ret (comp_Order _ _ _ _ _ _) (by rw [o2]))); (try simp only [Act.put, List.setIfInBounds_toArray, List.set_cons_zero, List.set_cons_succ]))
  (refine Lin.lex_val rfl rfl (by kernel_rfl) ?_; apply Exists.intro; refine ⟨fun w' hw' => ?_, ?_⟩; (focus (have hBw := hw'.1; have hSw := hw'.2; clear hw'; (try dsimp only at hBw hSw); go_simp; first | with_reducible exact Lin.lin_value | with_reducible exact Lin.lin_skip)); (try simp only [Act.put, List.setIfInBounds_toArray, List.set_cons_zero, List.set_cons_succ]))
  iterate 2 (refine Lin.lex_val rfl rfl rfl ?_; apply Exists.intro; refine ⟨fun w' hw' => ?_, ?_⟩; (focus (have hBw := hw'.1; have hSw := hw'.2; clear hw'; (try dsimp only at hBw hSw); go_simp; first | with_reducible exact Lin.lin_value | with_reducible exact Lin.lin_skip)); (try simp only [Act.put, List.setIfInBounds_toArray, List.set_cons_zero, List.set_cons_succ]))
  (refine Lin.lex_val rfl rfl (by kernel_rfl) ?_; apply Exists.intro; refine ⟨fun w' hw' => ?_, ?_⟩; (focus (have hBw := hw'.1; have hSw := hw'.2; clear hw'; (try dsimp only at hBw hSw); go_simp; first | with_reducible exact Lin.lin_value | with_reducible exact Lin.lin_skip)); (try simp only [Act.put, List.setIfInBounds_toArray, List.set_cons_zero, List.set_cons_succ]))
  (refine Lin.lex_val rfl rfl (by kernel_rfl) ?_; apply Exists.intro; refine ⟨fun w' hw' => ?_, ?_⟩; (focus (have hBw := hw'.1; have hSw := hw'.2; clear hw'; (try dsimp only at hBw hSw); have lay' : Laid w' := Laid.below lay_W6 hBw; go_simp; first | exact Lin.lin_ret (law28_half _ _) rfl | exact Lin.lin_ret (comp_Order _ _ _ _ _ _) (by rw [o2]))); (try simp only [Act.put, List.setIfInBounds_toArray, List.set_cons_zero, List.set_cons_succ]))
  (refine Lin.lex_val rfl rfl (by kernel_rfl) ?_; apply Exists.intro; refine ⟨fun w' hw' => ?_, ?_⟩; (focus (have hBw := hw'.1; have hSw := hw'.2; clear hw'; (try dsimp only at hBw hSw); go_simp; first | with_reducible exact Lin.lin_value | with_reducible exact Lin.lin_skip)); (try simp only [Act.put, List.setIfInBounds_toArray, List.set_cons_zero, List.set_cons_succ]))
  iterate 2 (refine Lin.lex_val rfl rfl rfl ?_; apply Exists.intro; refine ⟨fun w' hw' => ?_, ?_⟩; (focus (have hBw := hw'.1; have hSw := hw'.2; clear hw'; (try dsimp only at hBw hSw); go_simp; first | with_reducible exact Lin.lin_value | with_reducible exact Lin.lin_skip)); (try simp only [Act.put, List.setIfInBounds_toArray, List.set_cons_zero, List.set_cons_succ]))
  (refine Lin.lex_val rfl rfl (by kernel_rfl) ?_; apply Exists.intro; refine ⟨fun w' hw' => ?_, ?_⟩; (focus (have hBw := hw'.1; have hSw := hw'.2; clear hw'; (try dsimp only at hBw hSw); go_simp; first | with_reducible exact Lin.lin_value | with_reducible exact Lin.lin_skip)); (try simp only [Act.put, List.setIfInBounds_toArray, List.set_cons_zero, List.set_cons_succ]))
  (refine Lin.lex_val rfl rfl rfl ?_; apply Exists.intro; refine ⟨fun w' hw' => ?_, ?_⟩; (focus (have hBw := hw'.1; have hSw := hw'.2; clear hw'; (try dsimp only at hBw hSw); go_simp; first | with_reducible exact Lin.lin_value | with_reducible exact Lin.lin_skip)); (try simp only [Act.put, List.setIfInBounds_toArray, List.set_cons_zero, List.set_cons_succ]))
  refine Lin.lex_rest rfl ?_
  refine Lin.lex_end ?_
  refine Lin.fin0 (fun wa wb hc hb => ⟨hc.1.trans (hb.mono hc.1.size), cell_later hb hc.2.1, cell_later hb hc.2.2⟩) (by kernel_rfl) ?_
  intro X hw_X
  have hb_X := hw_X.1; clear hw_X
  have lay_X : Laid X := Laid.below lay_W6 hb_X
  (replace cc1 := cl hb_X cc1; replace cc2 := cl hb_X cc2; replace hBW := below_after hBW hb_X; have hsb_X := hb_X.size; have hn_X := nl cc1)
  (refine wpAny_ready (rs := [44]) (by kernel_rfl) (by simp) ?_; refine AllReady.cons rfl (fun K hK => ?_) AllReady.nil; go_simp; refine hK _ _ ?_; clear hK K)
  refine wpAny_done (by kernel_rfl) ?_ _
  apply_assumption
  (first | refine wp_rename ?_ | refine goal_rename ?_); intro X_ hw_X; subst hw_X
  go_wp2_with fail
  go_returns
  exact ⟨rfl, by go_grown⟩
end Go.Proofs.YthbpbbbngablpaaDoor
