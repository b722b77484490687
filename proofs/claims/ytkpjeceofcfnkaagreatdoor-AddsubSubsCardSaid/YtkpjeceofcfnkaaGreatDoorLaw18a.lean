/- The walks of chapter 18: half, goes. -/
import Derived.Test.YtkpjeceofcfnkaaGreatDoorAdd2
set_option maxRecDepth 100000
set_option maxHeartbeats 8000000
set_option linter.unusedSimpArgs false
set_option linter.unusedVariables false
namespace Go.Proofs.YtkpjeceofcfnkaaGreatDoor
open Go.RowKit Go.Hb
theorem law18_half (v : Int) (w : World) :
    Calls Tryz.prog 43 #[.int .u64 v] w fun en w' => en = .returned (.agg #[.int .u64 (0), .int .u64 (v)]) ∧ Below w.heap.size w w' := by
  go_enter Tryz.func43, Tryz.ntmps43
  skip
  go_wp2_with fail
  refine bodyPost_ret (by simp [results, Tryz.results43, go_sem]; try rfl) rfl ?_
  exact ⟨rfl, by go_grown⟩
instance u64_L18_0 : U64 15360 := ⟨by omega, by omega⟩
instance u64_L18_1 : U64 15361 := ⟨by omega, by omega⟩
instance u64_L18_2 : U64 16384 := ⟨by omega, by omega⟩
instance u64_L18_3 : U64 26624 := ⟨by omega, by omega⟩
instance u64_L18_4 : U64 26625 := ⟨by omega, by omega⟩
instance u64_L18_5 : U64 26626 := ⟨by omega, by omega⟩
instance u64_L18_6 : U64 31743 := ⟨by omega, by omega⟩
instance u64_L18_7 : U64 31744 := ⟨by omega, by omega⟩
instance u64_L18_8 : U64 31745 := ⟨by omega, by omega⟩
instance u64_L18_9 : U64 32256 := ⟨by omega, by omega⟩
instance u64_L18_10 : U64 32257 := ⟨by omega, by omega⟩
instance u64_L18_11 : U64 32261 := ⟨by omega, by omega⟩
instance u64_L18_12 : U64 32768 := ⟨by omega, by omega⟩
instance u64_L18_13 : U64 33791 := ⟨by omega, by omega⟩
instance u64_L18_14 : U64 33792 := ⟨by omega, by omega⟩
instance u64_L18_15 : U64 64512 := ⟨by omega, by omega⟩
instance u64_L18_16 : U64 65029 := ⟨by omega, by omega⟩
theorem law18_goes (w : World) [hLay : Laid w] :
    Calls Tryz.prog 14 #[] w fun en w' => en = .returned (.bool true) ∧ Below w.heap.size w w' := by
  have g0a : hi (addB 0 0 (cat 0 15360) (cat 0 15360)) = 0 := by decide +kernel
  have g0b : lo (addB 0 0 (cat 0 15360) (cat 0 15360)) = 16384 := by decide +kernel
  have g0c : addFl 0 0 false (cat 0 15360) (cat 0 15360) = 0 := by decide +kernel
  have g1a : hi (addB 0 3 (cat 0 15360) (subN 0 (cat 0 15360))) = 0 := by decide +kernel
  have g1b : lo (addB 0 3 (cat 0 15360) (subN 0 (cat 0 15360))) = 32768 := by decide +kernel
  have g1c : addFl 0 3 false (cat 0 15360) (subN 0 (cat 0 15360)) = 0 := by decide +kernel
  have g2a : hi (addB 0 0 (cat 0 31744) (cat 0 64512)) = 0 := by decide +kernel
  have g2b : lo (addB 0 0 (cat 0 31744) (cat 0 64512)) = 32256 := by decide +kernel
  have g2c : addFl 0 0 false (cat 0 31744) (cat 0 64512) = 1 := by decide +kernel
  have g3a : hi (addB 0 0 (cat 0 31743) (cat 0 31743)) = 0 := by decide +kernel
  have g3b : lo (addB 0 0 (cat 0 31743) (cat 0 31743)) = 31744 := by decide +kernel
  have g3c : addFl 0 0 false (cat 0 31743) (cat 0 31743) = 20 := by decide +kernel
  have g4a : hi (addB 0 0 (cat 0 15360) (cat 0 1)) = 0 := by decide +kernel
  have g4b : lo (addB 0 0 (cat 0 15360) (cat 0 1)) = 15360 := by decide +kernel
  have g4c : addFl 0 0 false (cat 0 15360) (cat 0 1) = 16 := by decide +kernel
  have q := fun W a b c => eql_res_same W a b c
  go_enter Tryz.func14, Tryz.ntmps14
  skip
  go_upto_region 2 with fail
  ((first | refine wp_rename ?_ | refine goal_rename ?_); intro W2 hw_W2; have cc1 : W2.cell? ⟨w.heap.size, 0, none⟩ = some (.int .u8 0) := (by rw [hw_W2]; go_simp); have cc2 : W2.cell? ⟨w.heap.size, 1, none⟩ = some (.bool false) := (by rw [hw_W2]; go_simp); have hBW : Below w.heap.size w W2 := (by rw [hw_W2]; (first | with_reducible exact drewN_below (by assumption) _ | go_grown)); have hn_W2 := nl cc1; have lay_W2 : Laid W2 := Laid.below (w := w) (by assumption) hBW; clear hw_W2)
  refine Lin.wp_region_lin (by kernel_rfl) (by intro _ _ d _ _ h; cases d <;> exact h) (by kernel_rfl) (fun w' => Below W2.heap.size W2 w' ∧ w'.cell? ⟨w.heap.size, 0, none⟩ = some (.int .u8 0) ∧ w'.cell? ⟨w.heap.size, 1, none⟩ = some (.bool false)) ⟨(Below.refl _ _).drew, by go_simp, by go_simp⟩ ?_
  simp only [List.length_cons, List.length_nil, Nat.reduceAdd]
  refine Lin.Blk.out ?_
  iterate 44 (first | refine Lin.bl_rest rfl ?_ | (refine Lin.bl_val rfl rfl (by first | rfl | kernel_rfl) ?_; apply Exists.intro; refine ⟨fun w' hw' => ?_, ?_⟩; (focus (have hBw := hw'.1; have hSw := hw'.2; clear hw'; (try dsimp only at hBw hSw); have lay' : Laid w' := Laid.below lay_W2 hBw; go_simp; first | with_reducible exact Lin.lin_value | with_reducible exact Lin.lin_skip | exact Lin.lin_ret (law18_half _ _) rfl | exact Lin.lin_ret (addsub_Add _ _ _ _ _ _ _ _) (by rw [g0a, g0b, g0c]) | exact Lin.lin_ret (addsub_Sub _ _ _ _ _ _ _ _) (by rw [g1a, g1b, g1c]) | exact Lin.lin_ret (addsub_Add _ _ _ _ _ _ _ _) (by rw [g2a, g2b, g2c]) | exact Lin.lin_ret (addsub_Add _ _ _ _ _ _ _ _) (by rw [g3a, g3b, g3c]) | exact Lin.lin_ret (addsub_Add _ _ _ _ _ _ _ _) (by rw [g4a, g4b, g4c]))); (try simp only [Act.put, List.setIfInBounds_toArray, List.set_cons_zero, List.set_cons_succ])))
  refine Lin.bl_end ?_
  refine Lin.fin0 (fun wa wb hc hb => ⟨hc.1.trans (hb.mono hc.1.size), cell_later hb hc.2.1, cell_later hb hc.2.2⟩) (by kernel_rfl) ?_
  intro X hw_X
  have hb_X := hw_X.1; clear hw_X
  have lay_X : Laid X := Laid.below lay_W2 hb_X
  (replace cc1 := cl hb_X cc1; replace cc2 := cl hb_X cc2; replace hBW := below_after hBW hb_X; have hsb_X := hb_X.size; have hn_X := nl cc1)
  (refine wpAny_ready (rs := [43]) (by kernel_rfl) (by simp) ?_; refine AllReady.cons rfl (fun K hK => ?_) AllReady.nil; go_simp; refine hK _ _ ?_; clear hK K)
  refine wpAny_done (by kernel_rfl) ?_ _
  apply_assumption
  (first | refine wp_rename ?_ | refine goal_rename ?_); intro X_ hw_X; subst hw_X
  go_wp2_with fail
  go_returns
  exact ⟨rfl, by go_grown⟩
end Go.Proofs.YtkpjeceofcfnkaaGreatDoor
