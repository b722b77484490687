/- AddsubKnown: the walk. -/
import Derived.Test.YtkldkchkhblndaaGreatDoorLaw18a
set_option linter.unusedSimpArgs false
set_option linter.unusedVariables false
namespace Go.Proofs.YtkldkchkhblndaaGreatDoor
open Go.RowKit Go.Hb
set_option maxRecDepth 100000 in
set_option maxHeartbeats 32000000 in
theorem walk_AddsubKnown (w : World) [hLay : Laid w] :
    Calls Tryz.prog 4 #[] w fun en w' => en = .returned (.bool true) ∧ Below w.heap.size w w' := by
  have k0a : hi (addB 0 0 (cat 0 15360) (subN 0 (cat 0 15360))) = 0 := by decide +kernel
  have k0b : lo (addB 0 0 (cat 0 15360) (subN 0 (cat 0 15360))) = 0 := by decide +kernel
  have k0c : addFl 0 0 false (cat 0 15360) (subN 0 (cat 0 15360)) = 0 := by decide +kernel
  have k1a : hi (addB 0 2 (cat 0 15360) (cat 0 1)) = 0 := by decide +kernel
  have k1b : lo (addB 0 2 (cat 0 15360) (cat 0 1)) = 15361 := by decide +kernel
  have k1c : addFl 0 2 false (cat 0 15360) (cat 0 1) = 16 := by decide +kernel
  have k2a : hi (addB 0 0 (cat 0 32768) (cat 0 32768)) = 0 := by decide +kernel
  have k2b : lo (addB 0 0 (cat 0 32768) (cat 0 32768)) = 32768 := by decide +kernel
  have k2c : addFl 0 0 false (cat 0 32768) (cat 0 32768) = 0 := by decide +kernel
  have k3a : hi (addB 0 0 (cat 0 32768) (cat 0 0)) = 0 := by decide +kernel
  have k3b : lo (addB 0 0 (cat 0 32768) (cat 0 0)) = 0 := by decide +kernel
  have k3c : addFl 0 0 false (cat 0 32768) (cat 0 0) = 0 := by decide +kernel
  have k4a : hi (addB 0 0 (cat 0 32768) (subN 0 (cat 0 0))) = 0 := by decide +kernel
  have k4b : lo (addB 0 0 (cat 0 32768) (subN 0 (cat 0 0))) = 32768 := by decide +kernel
  have k4c : addFl 0 0 false (cat 0 32768) (subN 0 (cat 0 0)) = 0 := by decide +kernel
  have k5a : hi (addB 0 0 (cat 0 31744) (cat 0 15360)) = 0 := by decide +kernel
  have k5b : lo (addB 0 0 (cat 0 31744) (cat 0 15360)) = 31744 := by decide +kernel
  have k5c : addFl 0 0 false (cat 0 31744) (cat 0 15360) = 0 := by decide +kernel
  have k6a : hi (addB 0 0 (cat 0 15360) (subN 0 (cat 0 31744))) = 0 := by decide +kernel
  have k6b : lo (addB 0 0 (cat 0 15360) (subN 0 (cat 0 31744))) = 64512 := by decide +kernel
  have k6c : addFl 0 0 false (cat 0 15360) (subN 0 (cat 0 31744)) = 0 := by decide +kernel
  have k7a : hi (addB 0 0 (cat 0 31744) (subN 0 (cat 0 31744))) = 0 := by decide +kernel
  have k7b : lo (addB 0 0 (cat 0 31744) (subN 0 (cat 0 31744))) = 32256 := by decide +kernel
  have k7c : addFl 0 0 false (cat 0 31744) (subN 0 (cat 0 31744)) = 1 := by decide +kernel
  have k8a : hi (addB 0 0 (cat 0 15360) (subN 0 (cat 0 31745))) = 0 := by decide +kernel
  have k8b : lo (addB 0 0 (cat 0 15360) (subN 0 (cat 0 31745))) = 32257 := by decide +kernel
  have k8c : addFl 0 0 false (cat 0 15360) (subN 0 (cat 0 31745)) = 1 := by decide +kernel
  have k9a : hi (addB 0 0 (cat 0 65029) (subN 0 (cat 0 32257))) = 0 := by decide +kernel
  have k9b : lo (addB 0 0 (cat 0 65029) (subN 0 (cat 0 32257))) = 65029 := by decide +kernel
  have k9c : addFl 0 0 false (cat 0 65029) (subN 0 (cat 0 32257)) = 0 := by decide +kernel
  have k10a : hi (addB 0 0 (cat 0 1) (cat 0 33792)) = 0 := by decide +kernel
  have k10b : lo (addB 0 0 (cat 0 1) (cat 0 33792)) = 33791 := by decide +kernel
  have k10c : addFl 0 0 false (cat 0 1) (cat 0 33792) = 0 := by decide +kernel
  have k11a : hi (addB 0 5 (cat 0 15360) (cat 0 15360)) = 0 := by decide +kernel
  have k11b : lo (addB 0 5 (cat 0 15360) (cat 0 15360)) = 0 := by decide +kernel
  have k11c : addFl 0 5 false (cat 0 15360) (cat 0 15360) = 0 := by decide +kernel
  have k12a : hi (addB 4 0 (cat 0 15360) (cat 0 15360)) = 0 := by decide +kernel
  have k12b : lo (addB 4 0 (cat 0 15360) (cat 0 15360)) = 0 := by decide +kernel
  have k12c : addFl 4 0 false (cat 0 15360) (cat 0 15360) = 0 := by decide +kernel
  have k13a : hi (addB 0 0 (cat 0 26624) (cat 0 15360)) = 0 := by decide +kernel
  have k13b : lo (addB 0 0 (cat 0 26624) (cat 0 15360)) = 26624 := by decide +kernel
  have k13c : addFl 0 0 false (cat 0 26624) (cat 0 15360) = 16 := by decide +kernel
  have k14a : hi (addB 0 0 (cat 0 26625) (cat 0 15360)) = 0 := by decide +kernel
  have k14b : lo (addB 0 0 (cat 0 26625) (cat 0 15360)) = 26626 := by decide +kernel
  have k14c : addFl 0 0 false (cat 0 26625) (cat 0 15360) = 16 := by decide +kernel
  have t0 : hi (turnF 0 (cat 0 32261)) = 0 := by decide +kernel
  have t1 : lo (turnF 0 (cat 0 32261)) = 65029 := by decide +kernel
  have t2 : hi (turnF 4 (cat 0 1)) = 0 := by decide +kernel
  have t3 : lo (turnF 4 (cat 0 1)) = 0 := by decide +kernel
  have n0 : nouB 0 true true = true := by decide +kernel
  have n1 : nouB 0 true false = false := by decide +kernel
  have q := fun W a b c => neq_res_same W a b c
  have q2 := fun W a b => eql_bits_same W a b
  go_enter Tryz.func4, Tryz.ntmps4
  skip
  go_upto_region 3 with fail
  ((first | refine wp_rename ?_ | refine goal_rename ?_); intro W3 hw_W3; have cc1 : W3.cell? ⟨w.heap.size, 0, none⟩ = some (.int .u8 0) := (by rw [hw_W3]; go_simp); have cc2 : W3.cell? ⟨w.heap.size, 1, none⟩ = some (.bool false) := (by rw [hw_W3]; go_simp); have cc3 : W3.cell? ⟨w.heap.size + 1, 0, none⟩ = some (.int .u8 2) := (by rw [hw_W3]; go_simp); have cc4 : W3.cell? ⟨w.heap.size + 1, 1, none⟩ = some (.bool false) := (by rw [hw_W3]; go_simp); have hBW : Below w.heap.size w W3 := (by rw [hw_W3]; (first | with_reducible exact drewN_below (by assumption) _ | go_grown)); have hn_W3 := an (nl cc1) (nl cc3); have lay_W3 : Laid W3 := Laid.below (w := w) (by assumption) hBW; clear hw_W3)
  refine Lin.wp_region_lin (by kernel_rfl) (by intro _ _ d _ _ h; cases d <;> exact h) (by kernel_rfl) (fun w' => Below W3.heap.size W3 w' ∧ w'.cell? ⟨w.heap.size, 0, none⟩ = some (.int .u8 0) ∧ w'.cell? ⟨w.heap.size, 1, none⟩ = some (.bool false) ∧ w'.cell? ⟨w.heap.size + 1, 0, none⟩ = some (.int .u8 2) ∧ w'.cell? ⟨w.heap.size + 1, 1, none⟩ = some (.bool false)) ⟨(Below.refl _ _).drew, by go_simp, by go_simp, by go_simp, by go_simp⟩ ?_
  simp only [List.append_eq, List.cons_append, List.nil_append, List.length_cons, List.length_nil, Nat.reduceAdd]
  refine Lin.Blk.out ?_
  (refine Lin.bl_val rfl rfl rfl ?_; apply Exists.intro; refine ⟨fun w' hw' => ?_, ?_⟩; (focus (have hBw := hw'.1; have hSw := hw'.2; clear hw'; (try dsimp only at hBw hSw); go_simp; first | with_reducible exact Lin.lin_value | with_reducible exact Lin.lin_skip)); (try simp only [Act.put, List.setIfInBounds_toArray, List.set_cons_zero, List.set_cons_succ]))
  iterate 3 (refine Lin.bl_val rfl rfl rfl ?_; apply Exists.intro; refine ⟨fun w' hw' => ?_, ?_⟩; (focus (have hBw := hw'.1; have hSw := hw'.2; clear hw'; (try dsimp only at hBw hSw); have lay' : Laid w' := Laid.below lay_W3 hBw; go_simp; first | exact Lin.lin_ret (law18_half _ _) rfl | exact Lin.lin_ret (addsub_Sub _ _ _ _ _ _ _ _) (by rw [k0a, k0b, k0c]) | exact Lin.lin_ret (addsub_Add _ _ _ _ _ _ _ _) (by rw [k1a, k1b, k1c]) | exact Lin.lin_ret (addsub_Add _ _ _ _ _ _ _ _) (by rw [k2a, k2b, k2c]) | exact Lin.lin_ret (addsub_Add _ _ _ _ _ _ _ _) (by rw [k3a, k3b, k3c]) | exact Lin.lin_ret (addsub_Sub _ _ _ _ _ _ _ _) (by rw [k4a, k4b, k4c]) | exact Lin.lin_ret (addsub_Add _ _ _ _ _ _ _ _) (by rw [k5a, k5b, k5c]) | exact Lin.lin_ret (addsub_Sub _ _ _ _ _ _ _ _) (by rw [k6a, k6b, k6c]) | exact Lin.lin_ret (addsub_Sub _ _ _ _ _ _ _ _) (by rw [k7a, k7b, k7c]) | exact Lin.lin_ret (addsub_Sub _ _ _ _ _ _ _ _) (by rw [k8a, k8b, k8c]) | exact Lin.lin_ret (addsub_Sub _ _ _ _ _ _ _ _) (by rw [k9a, k9b, k9c]) | exact Lin.lin_ret (addsub_Add _ _ _ _ _ _ _ _) (by rw [k10a, k10b, k10c]) | exact Lin.lin_ret (addsub_Add _ _ _ _ _ _ _ _) (by rw [k11a, k11b, k11c]) | exact Lin.lin_ret (addsub_Add _ _ _ _ _ _ _ _) (by rw [k12a, k12b, k12c]) | exact Lin.lin_ret (addsub_Add _ _ _ _ _ _ _ _) (by rw [k13a, k13b, k13c]) | exact Lin.lin_ret (addsub_Add _ _ _ _ _ _ _ _) (by rw [k14a, k14b, k14c]))); (try simp only [Act.put, List.setIfInBounds_toArray, List.set_cons_zero, List.set_cons_succ]))
  iterate 2 (refine Lin.bl_val rfl rfl rfl ?_; apply Exists.intro; refine ⟨fun w' hw' => ?_, ?_⟩; (focus (have hBw := hw'.1; have hSw := hw'.2; clear hw'; (try dsimp only at hBw hSw); go_simp; first | with_reducible exact Lin.lin_value | with_reducible exact Lin.lin_skip)); (try simp only [Act.put, List.setIfInBounds_toArray, List.set_cons_zero, List.set_cons_succ]))
  iterate 3 (refine Lin.bl_val rfl rfl rfl ?_; apply Exists.intro; refine ⟨fun w' hw' => ?_, ?_⟩; (focus (have hBw := hw'.1; have hSw := hw'.2; clear hw'; (try dsimp only at hBw hSw); have lay' : Laid w' := Laid.below lay_W3 hBw; go_simp; first | exact Lin.lin_ret (law18_half _ _) rfl | exact Lin.lin_ret (addsub_Sub _ _ _ _ _ _ _ _) (by rw [k0a, k0b, k0c]) | exact Lin.lin_ret (addsub_Add _ _ _ _ _ _ _ _) (by rw [k1a, k1b, k1c]) | exact Lin.lin_ret (addsub_Add _ _ _ _ _ _ _ _) (by rw [k2a, k2b, k2c]) | exact Lin.lin_ret (addsub_Add _ _ _ _ _ _ _ _) (by rw [k3a, k3b, k3c]) | exact Lin.lin_ret (addsub_Sub _ _ _ _ _ _ _ _) (by rw [k4a, k4b, k4c]) | exact Lin.lin_ret (addsub_Add _ _ _ _ _ _ _ _) (by rw [k5a, k5b, k5c]) | exact Lin.lin_ret (addsub_Sub _ _ _ _ _ _ _ _) (by rw [k6a, k6b, k6c]) | exact Lin.lin_ret (addsub_Sub _ _ _ _ _ _ _ _) (by rw [k7a, k7b, k7c]) | exact Lin.lin_ret (addsub_Sub _ _ _ _ _ _ _ _) (by rw [k8a, k8b, k8c]) | exact Lin.lin_ret (addsub_Sub _ _ _ _ _ _ _ _) (by rw [k9a, k9b, k9c]) | exact Lin.lin_ret (addsub_Add _ _ _ _ _ _ _ _) (by rw [k10a, k10b, k10c]) | exact Lin.lin_ret (addsub_Add _ _ _ _ _ _ _ _) (by rw [k11a, k11b, k11c]) | exact Lin.lin_ret (addsub_Add _ _ _ _ _ _ _ _) (by rw [k12a, k12b, k12c]) | exact Lin.lin_ret (addsub_Add _ _ _ _ _ _ _ _) (by rw [k13a, k13b, k13c]) | exact Lin.lin_ret (addsub_Add _ _ _ _ _ _ _ _) (by rw [k14a, k14b, k14c]))); (try simp only [Act.put, List.setIfInBounds_toArray, List.set_cons_zero, List.set_cons_succ]))
  iterate 2 (refine Lin.bl_val rfl rfl rfl ?_; apply Exists.intro; refine ⟨fun w' hw' => ?_, ?_⟩; (focus (have hBw := hw'.1; have hSw := hw'.2; clear hw'; (try dsimp only at hBw hSw); go_simp; first | with_reducible exact Lin.lin_value | with_reducible exact Lin.lin_skip)); (try simp only [Act.put, List.setIfInBounds_toArray, List.set_cons_zero, List.set_cons_succ]))
  iterate 3 (refine Lin.bl_val rfl rfl rfl ?_; apply Exists.intro; refine ⟨fun w' hw' => ?_, ?_⟩; (focus (have hBw := hw'.1; have hSw := hw'.2; clear hw'; (try dsimp only at hBw hSw); have lay' : Laid w' := Laid.below lay_W3 hBw; go_simp; first | exact Lin.lin_ret (law18_half _ _) rfl | exact Lin.lin_ret (addsub_Sub _ _ _ _ _ _ _ _) (by rw [k0a, k0b, k0c]) | exact Lin.lin_ret (addsub_Add _ _ _ _ _ _ _ _) (by rw [k1a, k1b, k1c]) | exact Lin.lin_ret (addsub_Add _ _ _ _ _ _ _ _) (by rw [k2a, k2b, k2c]) | exact Lin.lin_ret (addsub_Add _ _ _ _ _ _ _ _) (by rw [k3a, k3b, k3c]) | exact Lin.lin_ret (addsub_Sub _ _ _ _ _ _ _ _) (by rw [k4a, k4b, k4c]) | exact Lin.lin_ret (addsub_Add _ _ _ _ _ _ _ _) (by rw [k5a, k5b, k5c]) | exact Lin.lin_ret (addsub_Sub _ _ _ _ _ _ _ _) (by rw [k6a, k6b, k6c]) | exact Lin.lin_ret (addsub_Sub _ _ _ _ _ _ _ _) (by rw [k7a, k7b, k7c]) | exact Lin.lin_ret (addsub_Sub _ _ _ _ _ _ _ _) (by rw [k8a, k8b, k8c]) | exact Lin.lin_ret (addsub_Sub _ _ _ _ _ _ _ _) (by rw [k9a, k9b, k9c]) | exact Lin.lin_ret (addsub_Add _ _ _ _ _ _ _ _) (by rw [k10a, k10b, k10c]) | exact Lin.lin_ret (addsub_Add _ _ _ _ _ _ _ _) (by rw [k11a, k11b, k11c]) | exact Lin.lin_ret (addsub_Add _ _ _ _ _ _ _ _) (by rw [k12a, k12b, k12c]) | exact Lin.lin_ret (addsub_Add _ _ _ _ _ _ _ _) (by rw [k13a, k13b, k13c]) | exact Lin.lin_ret (addsub_Add _ _ _ _ _ _ _ _) (by rw [k14a, k14b, k14c]))); (try simp only [Act.put, List.setIfInBounds_toArray, List.set_cons_zero, List.set_cons_succ]))
  iterate 2 (refine Lin.bl_val rfl rfl rfl ?_; apply Exists.intro; refine ⟨fun w' hw' => ?_, ?_⟩; (focus (have hBw := hw'.1; have hSw := hw'.2; clear hw'; (try dsimp only at hBw hSw); go_simp; first | with_reducible exact Lin.lin_value | with_reducible exact Lin.lin_skip)); (try simp only [Act.put, List.setIfInBounds_toArray, List.set_cons_zero, List.set_cons_succ]))
  iterate 3 (refine Lin.bl_val rfl rfl rfl ?_; apply Exists.intro; refine ⟨fun w' hw' => ?_, ?_⟩; (focus (have hBw := hw'.1; have hSw := hw'.2; clear hw'; (try dsimp only at hBw hSw); have lay' : Laid w' := Laid.below lay_W3 hBw; go_simp; first | exact Lin.lin_ret (law18_half _ _) rfl | exact Lin.lin_ret (addsub_Sub _ _ _ _ _ _ _ _) (by rw [k0a, k0b, k0c]) | exact Lin.lin_ret (addsub_Add _ _ _ _ _ _ _ _) (by rw [k1a, k1b, k1c]) | exact Lin.lin_ret (addsub_Add _ _ _ _ _ _ _ _) (by rw [k2a, k2b, k2c]) | exact Lin.lin_ret (addsub_Add _ _ _ _ _ _ _ _) (by rw [k3a, k3b, k3c]) | exact Lin.lin_ret (addsub_Sub _ _ _ _ _ _ _ _) (by rw [k4a, k4b, k4c]) | exact Lin.lin_ret (addsub_Add _ _ _ _ _ _ _ _) (by rw [k5a, k5b, k5c]) | exact Lin.lin_ret (addsub_Sub _ _ _ _ _ _ _ _) (by rw [k6a, k6b, k6c]) | exact Lin.lin_ret (addsub_Sub _ _ _ _ _ _ _ _) (by rw [k7a, k7b, k7c]) | exact Lin.lin_ret (addsub_Sub _ _ _ _ _ _ _ _) (by rw [k8a, k8b, k8c]) | exact Lin.lin_ret (addsub_Sub _ _ _ _ _ _ _ _) (by rw [k9a, k9b, k9c]) | exact Lin.lin_ret (addsub_Add _ _ _ _ _ _ _ _) (by rw [k10a, k10b, k10c]) | exact Lin.lin_ret (addsub_Add _ _ _ _ _ _ _ _) (by rw [k11a, k11b, k11c]) | exact Lin.lin_ret (addsub_Add _ _ _ _ _ _ _ _) (by rw [k12a, k12b, k12c]) | exact Lin.lin_ret (addsub_Add _ _ _ _ _ _ _ _) (by rw [k13a, k13b, k13c]) | exact Lin.lin_ret (addsub_Add _ _ _ _ _ _ _ _) (by rw [k14a, k14b, k14c]))); (try simp only [Act.put, List.setIfInBounds_toArray, List.set_cons_zero, List.set_cons_succ]))
  iterate 2 (refine Lin.bl_val rfl rfl rfl ?_; apply Exists.intro; refine ⟨fun w' hw' => ?_, ?_⟩; (focus (have hBw := hw'.1; have hSw := hw'.2; clear hw'; (try dsimp only at hBw hSw); go_simp; first | with_reducible exact Lin.lin_value | with_reducible exact Lin.lin_skip)); (try simp only [Act.put, List.setIfInBounds_toArray, List.set_cons_zero, List.set_cons_succ]))
  iterate 3 (refine Lin.bl_val rfl rfl rfl ?_; apply Exists.intro; refine ⟨fun w' hw' => ?_, ?_⟩; (focus (have hBw := hw'.1; have hSw := hw'.2; clear hw'; (try dsimp only at hBw hSw); have lay' : Laid w' := Laid.below lay_W3 hBw; go_simp; first | exact Lin.lin_ret (law18_half _ _) rfl | exact Lin.lin_ret (addsub_Sub _ _ _ _ _ _ _ _) (by rw [k0a, k0b, k0c]) | exact Lin.lin_ret (addsub_Add _ _ _ _ _ _ _ _) (by rw [k1a, k1b, k1c]) | exact Lin.lin_ret (addsub_Add _ _ _ _ _ _ _ _) (by rw [k2a, k2b, k2c]) | exact Lin.lin_ret (addsub_Add _ _ _ _ _ _ _ _) (by rw [k3a, k3b, k3c]) | exact Lin.lin_ret (addsub_Sub _ _ _ _ _ _ _ _) (by rw [k4a, k4b, k4c]) | exact Lin.lin_ret (addsub_Add _ _ _ _ _ _ _ _) (by rw [k5a, k5b, k5c]) | exact Lin.lin_ret (addsub_Sub _ _ _ _ _ _ _ _) (by rw [k6a, k6b, k6c]) | exact Lin.lin_ret (addsub_Sub _ _ _ _ _ _ _ _) (by rw [k7a, k7b, k7c]) | exact Lin.lin_ret (addsub_Sub _ _ _ _ _ _ _ _) (by rw [k8a, k8b, k8c]) | exact Lin.lin_ret (addsub_Sub _ _ _ _ _ _ _ _) (by rw [k9a, k9b, k9c]) | exact Lin.lin_ret (addsub_Add _ _ _ _ _ _ _ _) (by rw [k10a, k10b, k10c]) | exact Lin.lin_ret (addsub_Add _ _ _ _ _ _ _ _) (by rw [k11a, k11b, k11c]) | exact Lin.lin_ret (addsub_Add _ _ _ _ _ _ _ _) (by rw [k12a, k12b, k12c]) | exact Lin.lin_ret (addsub_Add _ _ _ _ _ _ _ _) (by rw [k13a, k13b, k13c]) | exact Lin.lin_ret (addsub_Add _ _ _ _ _ _ _ _) (by rw [k14a, k14b, k14c]))); (try simp only [Act.put, List.setIfInBounds_toArray, List.set_cons_zero, List.set_cons_succ]))
  iterate 2 (refine Lin.bl_val rfl rfl rfl ?_; apply Exists.intro; refine ⟨fun w' hw' => ?_, ?_⟩; (focus (have hBw := hw'.1; have hSw := hw'.2; clear hw'; (try dsimp only at hBw hSw); go_simp; first | with_reducible exact Lin.lin_value | with_reducible exact Lin.lin_skip)); (try simp only [Act.put, List.setIfInBounds_toArray, List.set_cons_zero, List.set_cons_succ]))
  iterate 3 (refine Lin.bl_val rfl rfl rfl ?_; apply Exists.intro; refine ⟨fun w' hw' => ?_, ?_⟩; (focus (have hBw := hw'.1; have hSw := hw'.2; clear hw'; (try dsimp only at hBw hSw); have lay' : Laid w' := Laid.below lay_W3 hBw; go_simp; first | exact Lin.lin_ret (law18_half _ _) rfl | exact Lin.lin_ret (addsub_Sub _ _ _ _ _ _ _ _) (by rw [k0a, k0b, k0c]) | exact Lin.lin_ret (addsub_Add _ _ _ _ _ _ _ _) (by rw [k1a, k1b, k1c]) | exact Lin.lin_ret (addsub_Add _ _ _ _ _ _ _ _) (by rw [k2a, k2b, k2c]) | exact Lin.lin_ret (addsub_Add _ _ _ _ _ _ _ _) (by rw [k3a, k3b, k3c]) | exact Lin.lin_ret (addsub_Sub _ _ _ _ _ _ _ _) (by rw [k4a, k4b, k4c]) | exact Lin.lin_ret (addsub_Add _ _ _ _ _ _ _ _) (by rw [k5a, k5b, k5c]) | exact Lin.lin_ret (addsub_Sub _ _ _ _ _ _ _ _) (by rw [k6a, k6b, k6c]) | exact Lin.lin_ret (addsub_Sub _ _ _ _ _ _ _ _) (by rw [k7a, k7b, k7c]) | exact Lin.lin_ret (addsub_Sub _ _ _ _ _ _ _ _) (by rw [k8a, k8b, k8c]) | exact Lin.lin_ret (addsub_Sub _ _ _ _ _ _ _ _) (by rw [k9a, k9b, k9c]) | exact Lin.lin_ret (addsub_Add _ _ _ _ _ _ _ _) (by rw [k10a, k10b, k10c]) | exact Lin.lin_ret (addsub_Add _ _ _ _ _ _ _ _) (by rw [k11a, k11b, k11c]) | exact Lin.lin_ret (addsub_Add _ _ _ _ _ _ _ _) (by rw [k12a, k12b, k12c]) | exact Lin.lin_ret (addsub_Add _ _ _ _ _ _ _ _) (by rw [k13a, k13b, k13c]) | exact Lin.lin_ret (addsub_Add _ _ _ _ _ _ _ _) (by rw [k14a, k14b, k14c]))); (try simp only [Act.put, List.setIfInBounds_toArray, List.set_cons_zero, List.set_cons_succ]))
  iterate 2 (refine Lin.bl_val rfl rfl rfl ?_; apply Exists.intro; refine ⟨fun w' hw' => ?_, ?_⟩; (focus (have hBw := hw'.1; have hSw := hw'.2; clear hw'; (try dsimp only at hBw hSw); go_simp; first | with_reducible exact Lin.lin_value | with_reducible exact Lin.lin_skip)); (try simp only [Act.put, List.setIfInBounds_toArray, List.set_cons_zero, List.set_cons_succ]))
  iterate 3 (refine Lin.bl_val rfl rfl rfl ?_; apply Exists.intro; refine ⟨fun w' hw' => ?_, ?_⟩; (focus (have hBw := hw'.1; have hSw := hw'.2; clear hw'; (try dsimp only at hBw hSw); have lay' : Laid w' := Laid.below lay_W3 hBw; go_simp; first | exact Lin.lin_ret (law18_half _ _) rfl | exact Lin.lin_ret (addsub_Sub _ _ _ _ _ _ _ _) (by rw [k0a, k0b, k0c]) | exact Lin.lin_ret (addsub_Add _ _ _ _ _ _ _ _) (by rw [k1a, k1b, k1c]) | exact Lin.lin_ret (addsub_Add _ _ _ _ _ _ _ _) (by rw [k2a, k2b, k2c]) | exact Lin.lin_ret (addsub_Add _ _ _ _ _ _ _ _) (by rw [k3a, k3b, k3c]) | exact Lin.lin_ret (addsub_Sub _ _ _ _ _ _ _ _) (by rw [k4a, k4b, k4c]) | exact Lin.lin_ret (addsub_Add _ _ _ _ _ _ _ _) (by rw [k5a, k5b, k5c]) | exact Lin.lin_ret (addsub_Sub _ _ _ _ _ _ _ _) (by rw [k6a, k6b, k6c]) | exact Lin.lin_ret (addsub_Sub _ _ _ _ _ _ _ _) (by rw [k7a, k7b, k7c]) | exact Lin.lin_ret (addsub_Sub _ _ _ _ _ _ _ _) (by rw [k8a, k8b, k8c]) | exact Lin.lin_ret (addsub_Sub _ _ _ _ _ _ _ _) (by rw [k9a, k9b, k9c]) | exact Lin.lin_ret (addsub_Add _ _ _ _ _ _ _ _) (by rw [k10a, k10b, k10c]) | exact Lin.lin_ret (addsub_Add _ _ _ _ _ _ _ _) (by rw [k11a, k11b, k11c]) | exact Lin.lin_ret (addsub_Add _ _ _ _ _ _ _ _) (by rw [k12a, k12b, k12c]) | exact Lin.lin_ret (addsub_Add _ _ _ _ _ _ _ _) (by rw [k13a, k13b, k13c]) | exact Lin.lin_ret (addsub_Add _ _ _ _ _ _ _ _) (by rw [k14a, k14b, k14c]))); (try simp only [Act.put, List.setIfInBounds_toArray, List.set_cons_zero, List.set_cons_succ]))
  iterate 2 (refine Lin.bl_val rfl rfl rfl ?_; apply Exists.intro; refine ⟨fun w' hw' => ?_, ?_⟩; (focus (have hBw := hw'.1; have hSw := hw'.2; clear hw'; (try dsimp only at hBw hSw); go_simp; first | with_reducible exact Lin.lin_value | with_reducible exact Lin.lin_skip)); (try simp only [Act.put, List.setIfInBounds_toArray, List.set_cons_zero, List.set_cons_succ]))
  iterate 3 (refine Lin.bl_val rfl rfl rfl ?_; apply Exists.intro; refine ⟨fun w' hw' => ?_, ?_⟩; (focus (have hBw := hw'.1; have hSw := hw'.2; clear hw'; (try dsimp only at hBw hSw); have lay' : Laid w' := Laid.below lay_W3 hBw; go_simp; first | exact Lin.lin_ret (law18_half _ _) rfl | exact Lin.lin_ret (addsub_Sub _ _ _ _ _ _ _ _) (by rw [k0a, k0b, k0c]) | exact Lin.lin_ret (addsub_Add _ _ _ _ _ _ _ _) (by rw [k1a, k1b, k1c]) | exact Lin.lin_ret (addsub_Add _ _ _ _ _ _ _ _) (by rw [k2a, k2b, k2c]) | exact Lin.lin_ret (addsub_Add _ _ _ _ _ _ _ _) (by rw [k3a, k3b, k3c]) | exact Lin.lin_ret (addsub_Sub _ _ _ _ _ _ _ _) (by rw [k4a, k4b, k4c]) | exact Lin.lin_ret (addsub_Add _ _ _ _ _ _ _ _) (by rw [k5a, k5b, k5c]) | exact Lin.lin_ret (addsub_Sub _ _ _ _ _ _ _ _) (by rw [k6a, k6b, k6c]) | exact Lin.lin_ret (addsub_Sub _ _ _ _ _ _ _ _) (by rw [k7a, k7b, k7c]) | exact Lin.lin_ret (addsub_Sub _ _ _ _ _ _ _ _) (by rw [k8a, k8b, k8c]) | exact Lin.lin_ret (addsub_Sub _ _ _ _ _ _ _ _) (by rw [k9a, k9b, k9c]) | exact Lin.lin_ret (addsub_Add _ _ _ _ _ _ _ _) (by rw [k10a, k10b, k10c]) | exact Lin.lin_ret (addsub_Add _ _ _ _ _ _ _ _) (by rw [k11a, k11b, k11c]) | exact Lin.lin_ret (addsub_Add _ _ _ _ _ _ _ _) (by rw [k12a, k12b, k12c]) | exact Lin.lin_ret (addsub_Add _ _ _ _ _ _ _ _) (by rw [k13a, k13b, k13c]) | exact Lin.lin_ret (addsub_Add _ _ _ _ _ _ _ _) (by rw [k14a, k14b, k14c]))); (try simp only [Act.put, List.setIfInBounds_toArray, List.set_cons_zero, List.set_cons_succ]))
  iterate 2 (refine Lin.bl_val rfl rfl rfl ?_; apply Exists.intro; refine ⟨fun w' hw' => ?_, ?_⟩; (focus (have hBw := hw'.1; have hSw := hw'.2; clear hw'; (try dsimp only at hBw hSw); go_simp; first | with_reducible exact Lin.lin_value | with_reducible exact Lin.lin_skip)); (try simp only [Act.put, List.setIfInBounds_toArray, List.set_cons_zero, List.set_cons_succ]))
  iterate 3 (refine Lin.bl_val rfl rfl rfl ?_; apply Exists.intro; refine ⟨fun w' hw' => ?_, ?_⟩; (focus (have hBw := hw'.1; have hSw := hw'.2; clear hw'; (try dsimp only at hBw hSw); have lay' : Laid w' := Laid.below lay_W3 hBw; go_simp; first | exact Lin.lin_ret (law18_half _ _) rfl | exact Lin.lin_ret (addsub_Sub _ _ _ _ _ _ _ _) (by rw [k0a, k0b, k0c]) | exact Lin.lin_ret (addsub_Add _ _ _ _ _ _ _ _) (by rw [k1a, k1b, k1c]) | exact Lin.lin_ret (addsub_Add _ _ _ _ _ _ _ _) (by rw [k2a, k2b, k2c]) | exact Lin.lin_ret (addsub_Add _ _ _ _ _ _ _ _) (by rw [k3a, k3b, k3c]) | exact Lin.lin_ret (addsub_Sub _ _ _ _ _ _ _ _) (by rw [k4a, k4b, k4c]) | exact Lin.lin_ret (addsub_Add _ _ _ _ _ _ _ _) (by rw [k5a, k5b, k5c]) | exact Lin.lin_ret (addsub_Sub _ _ _ _ _ _ _ _) (by rw [k6a, k6b, k6c]) | exact Lin.lin_ret (addsub_Sub _ _ _ _ _ _ _ _) (by rw [k7a, k7b, k7c]) | exact Lin.lin_ret (addsub_Sub _ _ _ _ _ _ _ _) (by rw [k8a, k8b, k8c]) | exact Lin.lin_ret (addsub_Sub _ _ _ _ _ _ _ _) (by rw [k9a, k9b, k9c]) | exact Lin.lin_ret (addsub_Add _ _ _ _ _ _ _ _) (by rw [k10a, k10b, k10c]) | exact Lin.lin_ret (addsub_Add _ _ _ _ _ _ _ _) (by rw [k11a, k11b, k11c]) | exact Lin.lin_ret (addsub_Add _ _ _ _ _ _ _ _) (by rw [k12a, k12b, k12c]) | exact Lin.lin_ret (addsub_Add _ _ _ _ _ _ _ _) (by rw [k13a, k13b, k13c]) | exact Lin.lin_ret (addsub_Add _ _ _ _ _ _ _ _) (by rw [k14a, k14b, k14c]))); (try simp only [Act.put, List.setIfInBounds_toArray, List.set_cons_zero, List.set_cons_succ]))
  iterate 2 (refine Lin.bl_val rfl rfl rfl ?_; apply Exists.intro; refine ⟨fun w' hw' => ?_, ?_⟩; (focus (have hBw := hw'.1; have hSw := hw'.2; clear hw'; (try dsimp only at hBw hSw); go_simp; first | with_reducible exact Lin.lin_value | with_reducible exact Lin.lin_skip)); (try simp only [Act.put, List.setIfInBounds_toArray, List.set_cons_zero, List.set_cons_succ]))
  iterate 3 (refine Lin.bl_val rfl rfl rfl ?_; apply Exists.intro; refine ⟨fun w' hw' => ?_, ?_⟩; (focus (have hBw := hw'.1; have hSw := hw'.2; clear hw'; (try dsimp only at hBw hSw); have lay' : Laid w' := Laid.below lay_W3 hBw; go_simp; first | exact Lin.lin_ret (law18_half _ _) rfl | exact Lin.lin_ret (addsub_Sub _ _ _ _ _ _ _ _) (by rw [k0a, k0b, k0c]) | exact Lin.lin_ret (addsub_Add _ _ _ _ _ _ _ _) (by rw [k1a, k1b, k1c]) | exact Lin.lin_ret (addsub_Add _ _ _ _ _ _ _ _) (by rw [k2a, k2b, k2c]) | exact Lin.lin_ret (addsub_Add _ _ _ _ _ _ _ _) (by rw [k3a, k3b, k3c]) | exact Lin.lin_ret (addsub_Sub _ _ _ _ _ _ _ _) (by rw [k4a, k4b, k4c]) | exact Lin.lin_ret (addsub_Add _ _ _ _ _ _ _ _) (by rw [k5a, k5b, k5c]) | exact Lin.lin_ret (addsub_Sub _ _ _ _ _ _ _ _) (by rw [k6a, k6b, k6c]) | exact Lin.lin_ret (addsub_Sub _ _ _ _ _ _ _ _) (by rw [k7a, k7b, k7c]) | exact Lin.lin_ret (addsub_Sub _ _ _ _ _ _ _ _) (by rw [k8a, k8b, k8c]) | exact Lin.lin_ret (addsub_Sub _ _ _ _ _ _ _ _) (by rw [k9a, k9b, k9c]) | exact Lin.lin_ret (addsub_Add _ _ _ _ _ _ _ _) (by rw [k10a, k10b, k10c]) | exact Lin.lin_ret (addsub_Add _ _ _ _ _ _ _ _) (by rw [k11a, k11b, k11c]) | exact Lin.lin_ret (addsub_Add _ _ _ _ _ _ _ _) (by rw [k12a, k12b, k12c]) | exact Lin.lin_ret (addsub_Add _ _ _ _ _ _ _ _) (by rw [k13a, k13b, k13c]) | exact Lin.lin_ret (addsub_Add _ _ _ _ _ _ _ _) (by rw [k14a, k14b, k14c]))); (try simp only [Act.put, List.setIfInBounds_toArray, List.set_cons_zero, List.set_cons_succ]))
  iterate 2 (refine Lin.bl_val rfl rfl rfl ?_; apply Exists.intro; refine ⟨fun w' hw' => ?_, ?_⟩; (focus (have hBw := hw'.1; have hSw := hw'.2; clear hw'; (try dsimp only at hBw hSw); go_simp; first | with_reducible exact Lin.lin_value | with_reducible exact Lin.lin_skip)); (try simp only [Act.put, List.setIfInBounds_toArray, List.set_cons_zero, List.set_cons_succ]))
  iterate 3 (refine Lin.bl_val rfl rfl rfl ?_; apply Exists.intro; refine ⟨fun w' hw' => ?_, ?_⟩; (focus (have hBw := hw'.1; have hSw := hw'.2; clear hw'; (try dsimp only at hBw hSw); have lay' : Laid w' := Laid.below lay_W3 hBw; go_simp; first | exact Lin.lin_ret (law18_half _ _) rfl | exact Lin.lin_ret (addsub_Sub _ _ _ _ _ _ _ _) (by rw [k0a, k0b, k0c]) | exact Lin.lin_ret (addsub_Add _ _ _ _ _ _ _ _) (by rw [k1a, k1b, k1c]) | exact Lin.lin_ret (addsub_Add _ _ _ _ _ _ _ _) (by rw [k2a, k2b, k2c]) | exact Lin.lin_ret (addsub_Add _ _ _ _ _ _ _ _) (by rw [k3a, k3b, k3c]) | exact Lin.lin_ret (addsub_Sub _ _ _ _ _ _ _ _) (by rw [k4a, k4b, k4c]) | exact Lin.lin_ret (addsub_Add _ _ _ _ _ _ _ _) (by rw [k5a, k5b, k5c]) | exact Lin.lin_ret (addsub_Sub _ _ _ _ _ _ _ _) (by rw [k6a, k6b, k6c]) | exact Lin.lin_ret (addsub_Sub _ _ _ _ _ _ _ _) (by rw [k7a, k7b, k7c]) | exact Lin.lin_ret (addsub_Sub _ _ _ _ _ _ _ _) (by rw [k8a, k8b, k8c]) | exact Lin.lin_ret (addsub_Sub _ _ _ _ _ _ _ _) (by rw [k9a, k9b, k9c]) | exact Lin.lin_ret (addsub_Add _ _ _ _ _ _ _ _) (by rw [k10a, k10b, k10c]) | exact Lin.lin_ret (addsub_Add _ _ _ _ _ _ _ _) (by rw [k11a, k11b, k11c]) | exact Lin.lin_ret (addsub_Add _ _ _ _ _ _ _ _) (by rw [k12a, k12b, k12c]) | exact Lin.lin_ret (addsub_Add _ _ _ _ _ _ _ _) (by rw [k13a, k13b, k13c]) | exact Lin.lin_ret (addsub_Add _ _ _ _ _ _ _ _) (by rw [k14a, k14b, k14c]))); (try simp only [Act.put, List.setIfInBounds_toArray, List.set_cons_zero, List.set_cons_succ]))
  iterate 2 (refine Lin.bl_val rfl rfl rfl ?_; apply Exists.intro; refine ⟨fun w' hw' => ?_, ?_⟩; (focus (have hBw := hw'.1; have hSw := hw'.2; clear hw'; (try dsimp only at hBw hSw); go_simp; first | with_reducible exact Lin.lin_value | with_reducible exact Lin.lin_skip)); (try simp only [Act.put, List.setIfInBounds_toArray, List.set_cons_zero, List.set_cons_succ]))
  iterate 3 (refine Lin.bl_val rfl rfl rfl ?_; apply Exists.intro; refine ⟨fun w' hw' => ?_, ?_⟩; (focus (have hBw := hw'.1; have hSw := hw'.2; clear hw'; (try dsimp only at hBw hSw); have lay' : Laid w' := Laid.below lay_W3 hBw; go_simp; first | exact Lin.lin_ret (law18_half _ _) rfl | exact Lin.lin_ret (addsub_Sub _ _ _ _ _ _ _ _) (by rw [k0a, k0b, k0c]) | exact Lin.lin_ret (addsub_Add _ _ _ _ _ _ _ _) (by rw [k1a, k1b, k1c]) | exact Lin.lin_ret (addsub_Add _ _ _ _ _ _ _ _) (by rw [k2a, k2b, k2c]) | exact Lin.lin_ret (addsub_Add _ _ _ _ _ _ _ _) (by rw [k3a, k3b, k3c]) | exact Lin.lin_ret (addsub_Sub _ _ _ _ _ _ _ _) (by rw [k4a, k4b, k4c]) | exact Lin.lin_ret (addsub_Add _ _ _ _ _ _ _ _) (by rw [k5a, k5b, k5c]) | exact Lin.lin_ret (addsub_Sub _ _ _ _ _ _ _ _) (by rw [k6a, k6b, k6c]) | exact Lin.lin_ret (addsub_Sub _ _ _ _ _ _ _ _) (by rw [k7a, k7b, k7c]) | exact Lin.lin_ret (addsub_Sub _ _ _ _ _ _ _ _) (by rw [k8a, k8b, k8c]) | exact Lin.lin_ret (addsub_Sub _ _ _ _ _ _ _ _) (by rw [k9a, k9b, k9c]) | exact Lin.lin_ret (addsub_Add _ _ _ _ _ _ _ _) (by rw [k10a, k10b, k10c]) | exact Lin.lin_ret (addsub_Add _ _ _ _ _ _ _ _) (by rw [k11a, k11b, k11c]) | exact Lin.lin_ret (addsub_Add _ _ _ _ _ _ _ _) (by rw [k12a, k12b, k12c]) | exact Lin.lin_ret (addsub_Add _ _ _ _ _ _ _ _) (by rw [k13a, k13b, k13c]) | exact Lin.lin_ret (addsub_Add _ _ _ _ _ _ _ _) (by rw [k14a, k14b, k14c]))); (try simp only [Act.put, List.setIfInBounds_toArray, List.set_cons_zero, List.set_cons_succ]))
  iterate 2 (refine Lin.bl_val rfl rfl rfl ?_; apply Exists.intro; refine ⟨fun w' hw' => ?_, ?_⟩; (focus (have hBw := hw'.1; have hSw := hw'.2; clear hw'; (try dsimp only at hBw hSw); go_simp; first | with_reducible exact Lin.lin_value | with_reducible exact Lin.lin_skip)); (try simp only [Act.put, List.setIfInBounds_toArray, List.set_cons_zero, List.set_cons_succ]))
  iterate 3 (refine Lin.bl_val rfl rfl rfl ?_; apply Exists.intro; refine ⟨fun w' hw' => ?_, ?_⟩; (focus (have hBw := hw'.1; have hSw := hw'.2; clear hw'; (try dsimp only at hBw hSw); have lay' : Laid w' := Laid.below lay_W3 hBw; go_simp; first | exact Lin.lin_ret (law18_half _ _) rfl | exact Lin.lin_ret (addsub_Sub _ _ _ _ _ _ _ _) (by rw [k0a, k0b, k0c]) | exact Lin.lin_ret (addsub_Add _ _ _ _ _ _ _ _) (by rw [k1a, k1b, k1c]) | exact Lin.lin_ret (addsub_Add _ _ _ _ _ _ _ _) (by rw [k2a, k2b, k2c]) | exact Lin.lin_ret (addsub_Add _ _ _ _ _ _ _ _) (by rw [k3a, k3b, k3c]) | exact Lin.lin_ret (addsub_Sub _ _ _ _ _ _ _ _) (by rw [k4a, k4b, k4c]) | exact Lin.lin_ret (addsub_Add _ _ _ _ _ _ _ _) (by rw [k5a, k5b, k5c]) | exact Lin.lin_ret (addsub_Sub _ _ _ _ _ _ _ _) (by rw [k6a, k6b, k6c]) | exact Lin.lin_ret (addsub_Sub _ _ _ _ _ _ _ _) (by rw [k7a, k7b, k7c]) | exact Lin.lin_ret (addsub_Sub _ _ _ _ _ _ _ _) (by rw [k8a, k8b, k8c]) | exact Lin.lin_ret (addsub_Sub _ _ _ _ _ _ _ _) (by rw [k9a, k9b, k9c]) | exact Lin.lin_ret (addsub_Add _ _ _ _ _ _ _ _) (by rw [k10a, k10b, k10c]) | exact Lin.lin_ret (addsub_Add _ _ _ _ _ _ _ _) (by rw [k11a, k11b, k11c]) | exact Lin.lin_ret (addsub_Add _ _ _ _ _ _ _ _) (by rw [k12a, k12b, k12c]) | exact Lin.lin_ret (addsub_Add _ _ _ _ _ _ _ _) (by rw [k13a, k13b, k13c]) | exact Lin.lin_ret (addsub_Add _ _ _ _ _ _ _ _) (by rw [k14a, k14b, k14c]))); (try simp only [Act.put, List.setIfInBounds_toArray, List.set_cons_zero, List.set_cons_succ]))
  iterate 2 (refine Lin.bl_val rfl rfl rfl ?_; apply Exists.intro; refine ⟨fun w' hw' => ?_, ?_⟩; (focus (have hBw := hw'.1; have hSw := hw'.2; clear hw'; (try dsimp only at hBw hSw); go_simp; first | with_reducible exact Lin.lin_value | with_reducible exact Lin.lin_skip)); (try simp only [Act.put, List.setIfInBounds_toArray, List.set_cons_zero, List.set_cons_succ]))
  iterate 3 (refine Lin.bl_val rfl rfl rfl ?_; apply Exists.intro; refine ⟨fun w' hw' => ?_, ?_⟩; (focus (have hBw := hw'.1; have hSw := hw'.2; clear hw'; (try dsimp only at hBw hSw); have lay' : Laid w' := Laid.below lay_W3 hBw; go_simp; first | exact Lin.lin_ret (law18_half _ _) rfl | exact Lin.lin_ret (addsub_Sub _ _ _ _ _ _ _ _) (by rw [k0a, k0b, k0c]) | exact Lin.lin_ret (addsub_Add _ _ _ _ _ _ _ _) (by rw [k1a, k1b, k1c]) | exact Lin.lin_ret (addsub_Add _ _ _ _ _ _ _ _) (by rw [k2a, k2b, k2c]) | exact Lin.lin_ret (addsub_Add _ _ _ _ _ _ _ _) (by rw [k3a, k3b, k3c]) | exact Lin.lin_ret (addsub_Sub _ _ _ _ _ _ _ _) (by rw [k4a, k4b, k4c]) | exact Lin.lin_ret (addsub_Add _ _ _ _ _ _ _ _) (by rw [k5a, k5b, k5c]) | exact Lin.lin_ret (addsub_Sub _ _ _ _ _ _ _ _) (by rw [k6a, k6b, k6c]) | exact Lin.lin_ret (addsub_Sub _ _ _ _ _ _ _ _) (by rw [k7a, k7b, k7c]) | exact Lin.lin_ret (addsub_Sub _ _ _ _ _ _ _ _) (by rw [k8a, k8b, k8c]) | exact Lin.lin_ret (addsub_Sub _ _ _ _ _ _ _ _) (by rw [k9a, k9b, k9c]) | exact Lin.lin_ret (addsub_Add _ _ _ _ _ _ _ _) (by rw [k10a, k10b, k10c]) | exact Lin.lin_ret (addsub_Add _ _ _ _ _ _ _ _) (by rw [k11a, k11b, k11c]) | exact Lin.lin_ret (addsub_Add _ _ _ _ _ _ _ _) (by rw [k12a, k12b, k12c]) | exact Lin.lin_ret (addsub_Add _ _ _ _ _ _ _ _) (by rw [k13a, k13b, k13c]) | exact Lin.lin_ret (addsub_Add _ _ _ _ _ _ _ _) (by rw [k14a, k14b, k14c]))); (try simp only [Act.put, List.setIfInBounds_toArray, List.set_cons_zero, List.set_cons_succ]))
  iterate 2 (refine Lin.bl_val rfl rfl rfl ?_; apply Exists.intro; refine ⟨fun w' hw' => ?_, ?_⟩; (focus (have hBw := hw'.1; have hSw := hw'.2; clear hw'; (try dsimp only at hBw hSw); go_simp; first | with_reducible exact Lin.lin_value | with_reducible exact Lin.lin_skip)); (try simp only [Act.put, List.setIfInBounds_toArray, List.set_cons_zero, List.set_cons_succ]))
  iterate 3 (refine Lin.bl_val rfl rfl rfl ?_; apply Exists.intro; refine ⟨fun w' hw' => ?_, ?_⟩; (focus (have hBw := hw'.1; have hSw := hw'.2; clear hw'; (try dsimp only at hBw hSw); have lay' : Laid w' := Laid.below lay_W3 hBw; go_simp; first | exact Lin.lin_ret (law18_half _ _) rfl | exact Lin.lin_ret (addsub_Sub _ _ _ _ _ _ _ _) (by rw [k0a, k0b, k0c]) | exact Lin.lin_ret (addsub_Add _ _ _ _ _ _ _ _) (by rw [k1a, k1b, k1c]) | exact Lin.lin_ret (addsub_Add _ _ _ _ _ _ _ _) (by rw [k2a, k2b, k2c]) | exact Lin.lin_ret (addsub_Add _ _ _ _ _ _ _ _) (by rw [k3a, k3b, k3c]) | exact Lin.lin_ret (addsub_Sub _ _ _ _ _ _ _ _) (by rw [k4a, k4b, k4c]) | exact Lin.lin_ret (addsub_Add _ _ _ _ _ _ _ _) (by rw [k5a, k5b, k5c]) | exact Lin.lin_ret (addsub_Sub _ _ _ _ _ _ _ _) (by rw [k6a, k6b, k6c]) | exact Lin.lin_ret (addsub_Sub _ _ _ _ _ _ _ _) (by rw [k7a, k7b, k7c]) | exact Lin.lin_ret (addsub_Sub _ _ _ _ _ _ _ _) (by rw [k8a, k8b, k8c]) | exact Lin.lin_ret (addsub_Sub _ _ _ _ _ _ _ _) (by rw [k9a, k9b, k9c]) | exact Lin.lin_ret (addsub_Add _ _ _ _ _ _ _ _) (by rw [k10a, k10b, k10c]) | exact Lin.lin_ret (addsub_Add _ _ _ _ _ _ _ _) (by rw [k11a, k11b, k11c]) | exact Lin.lin_ret (addsub_Add _ _ _ _ _ _ _ _) (by rw [k12a, k12b, k12c]) | exact Lin.lin_ret (addsub_Add _ _ _ _ _ _ _ _) (by rw [k13a, k13b, k13c]) | exact Lin.lin_ret (addsub_Add _ _ _ _ _ _ _ _) (by rw [k14a, k14b, k14c]))); (try simp only [Act.put, List.setIfInBounds_toArray, List.set_cons_zero, List.set_cons_succ]))
  (refine Lin.bl_val rfl rfl rfl ?_; apply Exists.intro; refine ⟨fun w' hw' => ?_, ?_⟩; (focus (have hBw := hw'.1; have hSw := hw'.2; clear hw'; (try dsimp only at hBw hSw); go_simp; first | with_reducible exact Lin.lin_value | with_reducible exact Lin.lin_skip)); (try simp only [Act.put, List.setIfInBounds_toArray, List.set_cons_zero, List.set_cons_succ]))
  refine Lin.bl_rest rfl ?_
  refine Lin.bl_rest rfl ?_
  refine Lin.bl_end ?_
  refine Lin.fin1 W3.heap.size (fun wa wb hc hb => ⟨hc.1.trans (hb.mono hc.1.size), cell_later hb hc.2.1, cell_later hb hc.2.2.1, cell_later hb hc.2.2.2.1, cell_later hb hc.2.2.2.2⟩) (fun wa hc => hc.1.size) 75 _ rfl rfl (by kernel_rfl) (by kernel_rfl) (fun n => .slice (some ⟨n, 0, none⟩) 15 15) (.cells #[.int .u64 0, .int .u64 0, .int .u8 0, .int .u64 0, .int .u8 0, .int .u64 0, .int .u64 15361, .int .u8 16, .int .u64 15361, .int .u8 16, .int .u64 0, .int .u64 32768, .int .u8 0, .int .u64 32768, .int .u8 0, .int .u64 0, .int .u64 0, .int .u8 0, .int .u64 0, .int .u8 0, .int .u64 0, .int .u64 32768, .int .u8 0, .int .u64 32768, .int .u8 0, .int .u64 0, .int .u64 31744, .int .u8 0, .int .u64 31744, .int .u8 0, .int .u64 0, .int .u64 64512, .int .u8 0, .int .u64 64512, .int .u8 0, .int .u64 0, .int .u64 32256, .int .u8 1, .int .u64 32256, .int .u8 1, .int .u64 0, .int .u64 32257, .int .u8 1, .int .u64 32257, .int .u8 1, .int .u64 0, .int .u64 65029, .int .u8 0, .int .u64 65029, .int .u8 0, .int .u64 0, .int .u64 33791, .int .u8 0, .int .u64 33791, .int .u8 0, .int .u64 0, .int .u64 0, .int .u8 0, .int .u64 0, .int .u8 0, .int .u64 0, .int .u64 0, .int .u8 0, .int .u64 0, .int .u8 0, .int .u64 0, .int .u64 26624, .int .u8 16, .int .u64 26624, .int .u8 16, .int .u64 0, .int .u64 26626, .int .u8 16, .int .u64 26626, .int .u8 16] 45) (fun w _ => by kernel_rfl) ?_
  intro g X hw_X lo_g ho_g
  have hb_X := hw_X.1; clear hw_X
  have lay_X : Laid X := Laid.below lay_W3 hb_X
  (replace cc1 := cl hb_X cc1; replace cc2 := cl hb_X cc2; replace cc3 := cl hb_X cc3; replace cc4 := cl hb_X cc4; replace hBW := below_after hBW hb_X; have hsb_X := hb_X.size; have hn_X := an (nl cc1) (nl cc3))
  have hi_g := Lin.heap_lt ho_g
  have cc5 : X.cell? ⟨g, 0, none⟩ = some (.int .u64 0) := Lin.heap_cell ho_g rfl; have fcc5 : X.frozen? ⟨g, 0, none⟩ = false := Lin.heap_free ho_g
  have cc6 : X.cell? ⟨g, 1, none⟩ = some (.int .u64 0) := Lin.heap_cell ho_g rfl; have fcc6 : X.frozen? ⟨g, 1, none⟩ = false := Lin.heap_free ho_g
  have cc7 : X.cell? ⟨g, 2, none⟩ = some (.int .u8 0) := Lin.heap_cell ho_g rfl; have fcc7 : X.frozen? ⟨g, 2, none⟩ = false := Lin.heap_free ho_g
  have cc8 : X.cell? ⟨g, 3, none⟩ = some (.int .u64 0) := Lin.heap_cell ho_g rfl; have fcc8 : X.frozen? ⟨g, 3, none⟩ = false := Lin.heap_free ho_g
  have cc9 : X.cell? ⟨g, 4, none⟩ = some (.int .u8 0) := Lin.heap_cell ho_g rfl; have fcc9 : X.frozen? ⟨g, 4, none⟩ = false := Lin.heap_free ho_g
  have cc10 : X.cell? ⟨g, 5, none⟩ = some (.int .u64 0) := Lin.heap_cell ho_g rfl; have fcc10 : X.frozen? ⟨g, 5, none⟩ = false := Lin.heap_free ho_g
  have cc11 : X.cell? ⟨g, 6, none⟩ = some (.int .u64 15361) := Lin.heap_cell ho_g rfl; have fcc11 : X.frozen? ⟨g, 6, none⟩ = false := Lin.heap_free ho_g
  have cc12 : X.cell? ⟨g, 7, none⟩ = some (.int .u8 16) := Lin.heap_cell ho_g rfl; have fcc12 : X.frozen? ⟨g, 7, none⟩ = false := Lin.heap_free ho_g
  have cc13 : X.cell? ⟨g, 8, none⟩ = some (.int .u64 15361) := Lin.heap_cell ho_g rfl; have fcc13 : X.frozen? ⟨g, 8, none⟩ = false := Lin.heap_free ho_g
  have cc14 : X.cell? ⟨g, 9, none⟩ = some (.int .u8 16) := Lin.heap_cell ho_g rfl; have fcc14 : X.frozen? ⟨g, 9, none⟩ = false := Lin.heap_free ho_g
  have cc15 : X.cell? ⟨g, 10, none⟩ = some (.int .u64 0) := Lin.heap_cell ho_g rfl; have fcc15 : X.frozen? ⟨g, 10, none⟩ = false := Lin.heap_free ho_g
  have cc16 : X.cell? ⟨g, 11, none⟩ = some (.int .u64 32768) := Lin.heap_cell ho_g rfl; have fcc16 : X.frozen? ⟨g, 11, none⟩ = false := Lin.heap_free ho_g
  have cc17 : X.cell? ⟨g, 12, none⟩ = some (.int .u8 0) := Lin.heap_cell ho_g rfl; have fcc17 : X.frozen? ⟨g, 12, none⟩ = false := Lin.heap_free ho_g
  have cc18 : X.cell? ⟨g, 13, none⟩ = some (.int .u64 32768) := Lin.heap_cell ho_g rfl; have fcc18 : X.frozen? ⟨g, 13, none⟩ = false := Lin.heap_free ho_g
  have cc19 : X.cell? ⟨g, 14, none⟩ = some (.int .u8 0) := Lin.heap_cell ho_g rfl; have fcc19 : X.frozen? ⟨g, 14, none⟩ = false := Lin.heap_free ho_g
  have cc20 : X.cell? ⟨g, 15, none⟩ = some (.int .u64 0) := Lin.heap_cell ho_g rfl; have fcc20 : X.frozen? ⟨g, 15, none⟩ = false := Lin.heap_free ho_g
  have cc21 : X.cell? ⟨g, 16, none⟩ = some (.int .u64 0) := Lin.heap_cell ho_g rfl; have fcc21 : X.frozen? ⟨g, 16, none⟩ = false := Lin.heap_free ho_g
  have cc22 : X.cell? ⟨g, 17, none⟩ = some (.int .u8 0) := Lin.heap_cell ho_g rfl; have fcc22 : X.frozen? ⟨g, 17, none⟩ = false := Lin.heap_free ho_g
  have cc23 : X.cell? ⟨g, 18, none⟩ = some (.int .u64 0) := Lin.heap_cell ho_g rfl; have fcc23 : X.frozen? ⟨g, 18, none⟩ = false := Lin.heap_free ho_g
  have cc24 : X.cell? ⟨g, 19, none⟩ = some (.int .u8 0) := Lin.heap_cell ho_g rfl; have fcc24 : X.frozen? ⟨g, 19, none⟩ = false := Lin.heap_free ho_g
  have cc25 : X.cell? ⟨g, 20, none⟩ = some (.int .u64 0) := Lin.heap_cell ho_g rfl; have fcc25 : X.frozen? ⟨g, 20, none⟩ = false := Lin.heap_free ho_g
  have cc26 : X.cell? ⟨g, 21, none⟩ = some (.int .u64 32768) := Lin.heap_cell ho_g rfl; have fcc26 : X.frozen? ⟨g, 21, none⟩ = false := Lin.heap_free ho_g
  have cc27 : X.cell? ⟨g, 22, none⟩ = some (.int .u8 0) := Lin.heap_cell ho_g rfl; have fcc27 : X.frozen? ⟨g, 22, none⟩ = false := Lin.heap_free ho_g
  have cc28 : X.cell? ⟨g, 23, none⟩ = some (.int .u64 32768) := Lin.heap_cell ho_g rfl; have fcc28 : X.frozen? ⟨g, 23, none⟩ = false := Lin.heap_free ho_g
  have cc29 : X.cell? ⟨g, 24, none⟩ = some (.int .u8 0) := Lin.heap_cell ho_g rfl; have fcc29 : X.frozen? ⟨g, 24, none⟩ = false := Lin.heap_free ho_g
  have cc30 : X.cell? ⟨g, 25, none⟩ = some (.int .u64 0) := Lin.heap_cell ho_g rfl; have fcc30 : X.frozen? ⟨g, 25, none⟩ = false := Lin.heap_free ho_g
  have cc31 : X.cell? ⟨g, 26, none⟩ = some (.int .u64 31744) := Lin.heap_cell ho_g rfl; have fcc31 : X.frozen? ⟨g, 26, none⟩ = false := Lin.heap_free ho_g
  have cc32 : X.cell? ⟨g, 27, none⟩ = some (.int .u8 0) := Lin.heap_cell ho_g rfl; have fcc32 : X.frozen? ⟨g, 27, none⟩ = false := Lin.heap_free ho_g
  have cc33 : X.cell? ⟨g, 28, none⟩ = some (.int .u64 31744) := Lin.heap_cell ho_g rfl; have fcc33 : X.frozen? ⟨g, 28, none⟩ = false := Lin.heap_free ho_g
  have cc34 : X.cell? ⟨g, 29, none⟩ = some (.int .u8 0) := Lin.heap_cell ho_g rfl; have fcc34 : X.frozen? ⟨g, 29, none⟩ = false := Lin.heap_free ho_g
  have cc35 : X.cell? ⟨g, 30, none⟩ = some (.int .u64 0) := Lin.heap_cell ho_g rfl; have fcc35 : X.frozen? ⟨g, 30, none⟩ = false := Lin.heap_free ho_g
  have cc36 : X.cell? ⟨g, 31, none⟩ = some (.int .u64 64512) := Lin.heap_cell ho_g rfl; have fcc36 : X.frozen? ⟨g, 31, none⟩ = false := Lin.heap_free ho_g
  have cc37 : X.cell? ⟨g, 32, none⟩ = some (.int .u8 0) := Lin.heap_cell ho_g rfl; have fcc37 : X.frozen? ⟨g, 32, none⟩ = false := Lin.heap_free ho_g
  have cc38 : X.cell? ⟨g, 33, none⟩ = some (.int .u64 64512) := Lin.heap_cell ho_g rfl; have fcc38 : X.frozen? ⟨g, 33, none⟩ = false := Lin.heap_free ho_g
  have cc39 : X.cell? ⟨g, 34, none⟩ = some (.int .u8 0) := Lin.heap_cell ho_g rfl; have fcc39 : X.frozen? ⟨g, 34, none⟩ = false := Lin.heap_free ho_g
  have cc40 : X.cell? ⟨g, 35, none⟩ = some (.int .u64 0) := Lin.heap_cell ho_g rfl; have fcc40 : X.frozen? ⟨g, 35, none⟩ = false := Lin.heap_free ho_g
  have cc41 : X.cell? ⟨g, 36, none⟩ = some (.int .u64 32256) := Lin.heap_cell ho_g rfl; have fcc41 : X.frozen? ⟨g, 36, none⟩ = false := Lin.heap_free ho_g
  have cc42 : X.cell? ⟨g, 37, none⟩ = some (.int .u8 1) := Lin.heap_cell ho_g rfl; have fcc42 : X.frozen? ⟨g, 37, none⟩ = false := Lin.heap_free ho_g
  have cc43 : X.cell? ⟨g, 38, none⟩ = some (.int .u64 32256) := Lin.heap_cell ho_g rfl; have fcc43 : X.frozen? ⟨g, 38, none⟩ = false := Lin.heap_free ho_g
  have cc44 : X.cell? ⟨g, 39, none⟩ = some (.int .u8 1) := Lin.heap_cell ho_g rfl; have fcc44 : X.frozen? ⟨g, 39, none⟩ = false := Lin.heap_free ho_g
  have cc45 : X.cell? ⟨g, 40, none⟩ = some (.int .u64 0) := Lin.heap_cell ho_g rfl; have fcc45 : X.frozen? ⟨g, 40, none⟩ = false := Lin.heap_free ho_g
  have cc46 : X.cell? ⟨g, 41, none⟩ = some (.int .u64 32257) := Lin.heap_cell ho_g rfl; have fcc46 : X.frozen? ⟨g, 41, none⟩ = false := Lin.heap_free ho_g
  have cc47 : X.cell? ⟨g, 42, none⟩ = some (.int .u8 1) := Lin.heap_cell ho_g rfl; have fcc47 : X.frozen? ⟨g, 42, none⟩ = false := Lin.heap_free ho_g
  have cc48 : X.cell? ⟨g, 43, none⟩ = some (.int .u64 32257) := Lin.heap_cell ho_g rfl; have fcc48 : X.frozen? ⟨g, 43, none⟩ = false := Lin.heap_free ho_g
  have cc49 : X.cell? ⟨g, 44, none⟩ = some (.int .u8 1) := Lin.heap_cell ho_g rfl; have fcc49 : X.frozen? ⟨g, 44, none⟩ = false := Lin.heap_free ho_g
  have cc50 : X.cell? ⟨g, 45, none⟩ = some (.int .u64 0) := Lin.heap_cell ho_g rfl; have fcc50 : X.frozen? ⟨g, 45, none⟩ = false := Lin.heap_free ho_g
  have cc51 : X.cell? ⟨g, 46, none⟩ = some (.int .u64 65029) := Lin.heap_cell ho_g rfl; have fcc51 : X.frozen? ⟨g, 46, none⟩ = false := Lin.heap_free ho_g
  have cc52 : X.cell? ⟨g, 47, none⟩ = some (.int .u8 0) := Lin.heap_cell ho_g rfl; have fcc52 : X.frozen? ⟨g, 47, none⟩ = false := Lin.heap_free ho_g
  have cc53 : X.cell? ⟨g, 48, none⟩ = some (.int .u64 65029) := Lin.heap_cell ho_g rfl; have fcc53 : X.frozen? ⟨g, 48, none⟩ = false := Lin.heap_free ho_g
  have cc54 : X.cell? ⟨g, 49, none⟩ = some (.int .u8 0) := Lin.heap_cell ho_g rfl; have fcc54 : X.frozen? ⟨g, 49, none⟩ = false := Lin.heap_free ho_g
  have cc55 : X.cell? ⟨g, 50, none⟩ = some (.int .u64 0) := Lin.heap_cell ho_g rfl; have fcc55 : X.frozen? ⟨g, 50, none⟩ = false := Lin.heap_free ho_g
  have cc56 : X.cell? ⟨g, 51, none⟩ = some (.int .u64 33791) := Lin.heap_cell ho_g rfl; have fcc56 : X.frozen? ⟨g, 51, none⟩ = false := Lin.heap_free ho_g
  have cc57 : X.cell? ⟨g, 52, none⟩ = some (.int .u8 0) := Lin.heap_cell ho_g rfl; have fcc57 : X.frozen? ⟨g, 52, none⟩ = false := Lin.heap_free ho_g
  have cc58 : X.cell? ⟨g, 53, none⟩ = some (.int .u64 33791) := Lin.heap_cell ho_g rfl; have fcc58 : X.frozen? ⟨g, 53, none⟩ = false := Lin.heap_free ho_g
  have cc59 : X.cell? ⟨g, 54, none⟩ = some (.int .u8 0) := Lin.heap_cell ho_g rfl; have fcc59 : X.frozen? ⟨g, 54, none⟩ = false := Lin.heap_free ho_g
  have cc60 : X.cell? ⟨g, 55, none⟩ = some (.int .u64 0) := Lin.heap_cell ho_g rfl; have fcc60 : X.frozen? ⟨g, 55, none⟩ = false := Lin.heap_free ho_g
  have cc61 : X.cell? ⟨g, 56, none⟩ = some (.int .u64 0) := Lin.heap_cell ho_g rfl; have fcc61 : X.frozen? ⟨g, 56, none⟩ = false := Lin.heap_free ho_g
  have cc62 : X.cell? ⟨g, 57, none⟩ = some (.int .u8 0) := Lin.heap_cell ho_g rfl; have fcc62 : X.frozen? ⟨g, 57, none⟩ = false := Lin.heap_free ho_g
  have cc63 : X.cell? ⟨g, 58, none⟩ = some (.int .u64 0) := Lin.heap_cell ho_g rfl; have fcc63 : X.frozen? ⟨g, 58, none⟩ = false := Lin.heap_free ho_g
  have cc64 : X.cell? ⟨g, 59, none⟩ = some (.int .u8 0) := Lin.heap_cell ho_g rfl; have fcc64 : X.frozen? ⟨g, 59, none⟩ = false := Lin.heap_free ho_g
  have cc65 : X.cell? ⟨g, 60, none⟩ = some (.int .u64 0) := Lin.heap_cell ho_g rfl; have fcc65 : X.frozen? ⟨g, 60, none⟩ = false := Lin.heap_free ho_g
  have cc66 : X.cell? ⟨g, 61, none⟩ = some (.int .u64 0) := Lin.heap_cell ho_g rfl; have fcc66 : X.frozen? ⟨g, 61, none⟩ = false := Lin.heap_free ho_g
  have cc67 : X.cell? ⟨g, 62, none⟩ = some (.int .u8 0) := Lin.heap_cell ho_g rfl; have fcc67 : X.frozen? ⟨g, 62, none⟩ = false := Lin.heap_free ho_g
  have cc68 : X.cell? ⟨g, 63, none⟩ = some (.int .u64 0) := Lin.heap_cell ho_g rfl; have fcc68 : X.frozen? ⟨g, 63, none⟩ = false := Lin.heap_free ho_g
  have cc69 : X.cell? ⟨g, 64, none⟩ = some (.int .u8 0) := Lin.heap_cell ho_g rfl; have fcc69 : X.frozen? ⟨g, 64, none⟩ = false := Lin.heap_free ho_g
  have cc70 : X.cell? ⟨g, 65, none⟩ = some (.int .u64 0) := Lin.heap_cell ho_g rfl; have fcc70 : X.frozen? ⟨g, 65, none⟩ = false := Lin.heap_free ho_g
  have cc71 : X.cell? ⟨g, 66, none⟩ = some (.int .u64 26624) := Lin.heap_cell ho_g rfl; have fcc71 : X.frozen? ⟨g, 66, none⟩ = false := Lin.heap_free ho_g
  have cc72 : X.cell? ⟨g, 67, none⟩ = some (.int .u8 16) := Lin.heap_cell ho_g rfl; have fcc72 : X.frozen? ⟨g, 67, none⟩ = false := Lin.heap_free ho_g
  have cc73 : X.cell? ⟨g, 68, none⟩ = some (.int .u64 26624) := Lin.heap_cell ho_g rfl; have fcc73 : X.frozen? ⟨g, 68, none⟩ = false := Lin.heap_free ho_g
  have cc74 : X.cell? ⟨g, 69, none⟩ = some (.int .u8 16) := Lin.heap_cell ho_g rfl; have fcc74 : X.frozen? ⟨g, 69, none⟩ = false := Lin.heap_free ho_g
  have cc75 : X.cell? ⟨g, 70, none⟩ = some (.int .u64 0) := Lin.heap_cell ho_g rfl; have fcc75 : X.frozen? ⟨g, 70, none⟩ = false := Lin.heap_free ho_g
  have cc76 : X.cell? ⟨g, 71, none⟩ = some (.int .u64 26626) := Lin.heap_cell ho_g rfl; have fcc76 : X.frozen? ⟨g, 71, none⟩ = false := Lin.heap_free ho_g
  have cc77 : X.cell? ⟨g, 72, none⟩ = some (.int .u8 16) := Lin.heap_cell ho_g rfl; have fcc77 : X.frozen? ⟨g, 72, none⟩ = false := Lin.heap_free ho_g
  have cc78 : X.cell? ⟨g, 73, none⟩ = some (.int .u64 26626) := Lin.heap_cell ho_g rfl; have fcc78 : X.frozen? ⟨g, 73, none⟩ = false := Lin.heap_free ho_g
  have cc79 : X.cell? ⟨g, 74, none⟩ = some (.int .u8 16) := Lin.heap_cell ho_g rfl; have fcc79 : X.frozen? ⟨g, 74, none⟩ = false := Lin.heap_free ho_g
  clear ho_g
  have hN_X : g ≠ X.heap.size ∧ X.heap.size ≠ g ∧ w.heap.size ≤ g := (by omega)
  skip
  (try simp only [Act.put, List.setIfInBounds_toArray, List.set_cons_zero, List.set_cons_succ])
  have hM_X : w.heap.size ≠ g ∧ g ≠ w.heap.size ∧ w.heap.size + 1 ≠ g ∧ g ≠ w.heap.size + 1 := (by omega)
  (refine wpAny_ready (rs := [76]) (by kernel_rfl) (by simp) ?_; refine AllReady.cons rfl (fun K hK => ?_) AllReady.nil; go_simp; refine hK _ _ ?_; clear hK K)
  refine wpAny_done (by kernel_rfl) ?_ _
  apply_assumption
  (first | refine wp_rename ?_ | refine goal_rename ?_); intro X_ hw_X; subst hw_X
  have gB_X_ : Below X_.heap.size X_ X_ := Below.refl _ _
  go_wp2_with fail
  refine wp_loop_rounds 16 ?_
  rw [rounds_succ]
  go_upto_region 7 with fail
  ((first | refine wp_rename ?_ | refine goal_rename ?_); intro W70 hw_W70; have hG := named cc1 W70 (by rw [hw_W70]; go_grown); replace cc1 := cl hG cc1; replace cc2 := cl hG cc2; replace cc3 := cl hG cc3; replace cc4 := cl hG cc4; replace gB_X_ := below_after gB_X_ hG; replace hBW := below_after hBW hG; have hs_W70 := hG.size; clear hG; have hn_W70 := an (nl cc1) (nl cc3); have lay_W70 : Laid W70 := Laid.below (w := w) (by assumption) hBW; clear hw_W70)
  refine Lin.wp_region_lin (by kernel_rfl) (by intro _ _ d _ _ h; cases d <;> exact h) (by kernel_rfl) (fun w' => Below W70.heap.size W70 w' ∧ w'.cell? ⟨g, 0, none⟩ = some (.int .u64 0) ∧ w'.cell? ⟨g, 1, none⟩ = some (.int .u64 0) ∧ w'.cell? ⟨g, 2, none⟩ = some (.int .u8 0) ∧ w'.cell? ⟨g, 3, none⟩ = some (.int .u64 0) ∧ w'.cell? ⟨g, 4, none⟩ = some (.int .u8 0)) ⟨(Below.refl _ _).drew, cl gB_X_.drew cc5, cl gB_X_.drew cc6, cl gB_X_.drew cc7, cl gB_X_.drew cc8, cl gB_X_.drew cc9⟩ ?_
  simp only [List.length_cons, List.length_nil, Nat.reduceAdd]
  refine Lin.Blk.out ?_
  iterate 10 (refine Lin.bl_val rfl rfl rfl ?_; apply Exists.intro; refine ⟨fun w' hw' => ?_, ?_⟩; (focus (have hBw := hw'.1; have hSw := hw'.2; clear hw'; (try dsimp only at hBw hSw); go_simp; first | with_reducible exact Lin.lin_value | with_reducible exact Lin.lin_skip)); (try simp only [Act.put, List.setIfInBounds_toArray, List.set_cons_zero, List.set_cons_succ]))
  (refine Lin.bl_val rfl rfl rfl ?_; apply Exists.intro; refine ⟨fun w' hw' => ?_, ?_⟩; (focus (have hBw := hw'.1; have hSw := hw'.2; clear hw'; (try dsimp only at hBw hSw); have lay' : Laid w' := Laid.below lay_W70 hBw; go_simp; first | exact Lin.lin_ret (law18_half _ _) rfl)); (try simp only [Act.put, List.setIfInBounds_toArray, List.set_cons_zero, List.set_cons_succ]))
  iterate 7 (refine Lin.bl_val rfl rfl rfl ?_; apply Exists.intro; refine ⟨fun w' hw' => ?_, ?_⟩; (focus (have hBw := hw'.1; have hSw := hw'.2; clear hw'; (try dsimp only at hBw hSw); go_simp; first | with_reducible exact Lin.lin_value | with_reducible exact Lin.lin_skip)); (try simp only [Act.put, List.setIfInBounds_toArray, List.set_cons_zero, List.set_cons_succ]))
  refine Lin.bl_end ?_
  refine Lin.fin0 (fun wa wb hc hb => ⟨hc.1.trans (hb.mono hc.1.size), cell_later hb hc.2.1, cell_later hb hc.2.2.1, cell_later hb hc.2.2.2.1, cell_later hb hc.2.2.2.2.1, cell_later hb hc.2.2.2.2.2⟩) (by kernel_rfl) ?_
  intro X0 hw_X0
  have hb_X0 := hw_X0.1; clear hw_X0
  have lay_X0 : Laid X0 := Laid.below lay_W70 hb_X0
  (replace cc1 := cl hb_X0 cc1; replace cc2 := cl hb_X0 cc2; replace cc3 := cl hb_X0 cc3; replace cc4 := cl hb_X0 cc4; replace gB_X_ := below_after gB_X_ hb_X0; replace hBW := below_after hBW hb_X0; have hsb_X0 := hb_X0.size; have hn_X0 := an (nl cc1) (nl cc3))
  refine wpAny_done (by kernel_rfl) ?_ _
  apply_assumption
  (first | refine wp_rename ?_ | refine goal_rename ?_); intro X0_ hw_X0; subst hw_X0
  go_wp2_with fail
  rw [rounds_succ]
  go_upto_region 7 with fail
  ((first | refine wp_rename ?_ | refine goal_rename ?_); intro W71 hw_W71; have hG := named cc1 W71 (by rw [hw_W71]; go_grown); replace cc1 := cl hG cc1; replace cc2 := cl hG cc2; replace cc3 := cl hG cc3; replace cc4 := cl hG cc4; replace gB_X_ := below_after gB_X_ hG; replace hBW := below_after hBW hG; have hs_W71 := hG.size; clear hG; have hn_W71 := an (nl cc1) (nl cc3); have lay_W71 : Laid W71 := Laid.below (w := w) (by assumption) hBW; clear hw_W71)
  refine Lin.wp_region_lin (by kernel_rfl) (by intro _ _ d _ _ h; cases d <;> exact h) (by kernel_rfl) (fun w' => Below W71.heap.size W71 w' ∧ w'.cell? ⟨g, 5, none⟩ = some (.int .u64 0) ∧ w'.cell? ⟨g, 6, none⟩ = some (.int .u64 15361) ∧ w'.cell? ⟨g, 7, none⟩ = some (.int .u8 16) ∧ w'.cell? ⟨g, 8, none⟩ = some (.int .u64 15361) ∧ w'.cell? ⟨g, 9, none⟩ = some (.int .u8 16)) ⟨(Below.refl _ _).drew, cl gB_X_.drew cc10, cl gB_X_.drew cc11, cl gB_X_.drew cc12, cl gB_X_.drew cc13, cl gB_X_.drew cc14⟩ ?_
  simp only [List.length_cons, List.length_nil, Nat.reduceAdd]
  refine Lin.Blk.out ?_
  iterate 10 (refine Lin.bl_val rfl rfl rfl ?_; apply Exists.intro; refine ⟨fun w' hw' => ?_, ?_⟩; (focus (have hBw := hw'.1; have hSw := hw'.2; clear hw'; (try dsimp only at hBw hSw); go_simp; first | with_reducible exact Lin.lin_value | with_reducible exact Lin.lin_skip)); (try simp only [Act.put, List.setIfInBounds_toArray, List.set_cons_zero, List.set_cons_succ]))
  (refine Lin.bl_val rfl rfl rfl ?_; apply Exists.intro; refine ⟨fun w' hw' => ?_, ?_⟩; (focus (have hBw := hw'.1; have hSw := hw'.2; clear hw'; (try dsimp only at hBw hSw); have lay' : Laid w' := Laid.below lay_W71 hBw; go_simp; first | exact Lin.lin_ret (law18_half _ _) rfl)); (try simp only [Act.put, List.setIfInBounds_toArray, List.set_cons_zero, List.set_cons_succ]))
  iterate 7 (refine Lin.bl_val rfl rfl rfl ?_; apply Exists.intro; refine ⟨fun w' hw' => ?_, ?_⟩; (focus (have hBw := hw'.1; have hSw := hw'.2; clear hw'; (try dsimp only at hBw hSw); go_simp; first | with_reducible exact Lin.lin_value | with_reducible exact Lin.lin_skip)); (try simp only [Act.put, List.setIfInBounds_toArray, List.set_cons_zero, List.set_cons_succ]))
  refine Lin.bl_end ?_
  refine Lin.fin0 (fun wa wb hc hb => ⟨hc.1.trans (hb.mono hc.1.size), cell_later hb hc.2.1, cell_later hb hc.2.2.1, cell_later hb hc.2.2.2.1, cell_later hb hc.2.2.2.2.1, cell_later hb hc.2.2.2.2.2⟩) (by kernel_rfl) ?_
  intro X1 hw_X1
  have hb_X1 := hw_X1.1; clear hw_X1
  have lay_X1 : Laid X1 := Laid.below lay_W71 hb_X1
  (replace cc1 := cl hb_X1 cc1; replace cc2 := cl hb_X1 cc2; replace cc3 := cl hb_X1 cc3; replace cc4 := cl hb_X1 cc4; replace gB_X_ := below_after gB_X_ hb_X1; replace hBW := below_after hBW hb_X1; have hsb_X1 := hb_X1.size; have hn_X1 := an (nl cc1) (nl cc3))
  refine wpAny_done (by kernel_rfl) ?_ _
  apply_assumption
  (first | refine wp_rename ?_ | refine goal_rename ?_); intro X1_ hw_X1; subst hw_X1
  go_wp2_with fail
  rw [rounds_succ]
  go_upto_region 7 with fail
  ((first | refine wp_rename ?_ | refine goal_rename ?_); intro W72 hw_W72; have hG := named cc1 W72 (by rw [hw_W72]; go_grown); replace cc1 := cl hG cc1; replace cc2 := cl hG cc2; replace cc3 := cl hG cc3; replace cc4 := cl hG cc4; replace gB_X_ := below_after gB_X_ hG; replace hBW := below_after hBW hG; have hs_W72 := hG.size; clear hG; have hn_W72 := an (nl cc1) (nl cc3); have lay_W72 : Laid W72 := Laid.below (w := w) (by assumption) hBW; clear hw_W72)
  refine Lin.wp_region_lin (by kernel_rfl) (by intro _ _ d _ _ h; cases d <;> exact h) (by kernel_rfl) (fun w' => Below W72.heap.size W72 w' ∧ w'.cell? ⟨g, 10, none⟩ = some (.int .u64 0) ∧ w'.cell? ⟨g, 11, none⟩ = some (.int .u64 32768) ∧ w'.cell? ⟨g, 12, none⟩ = some (.int .u8 0) ∧ w'.cell? ⟨g, 13, none⟩ = some (.int .u64 32768) ∧ w'.cell? ⟨g, 14, none⟩ = some (.int .u8 0)) ⟨(Below.refl _ _).drew, cl gB_X_.drew cc15, cl gB_X_.drew cc16, cl gB_X_.drew cc17, cl gB_X_.drew cc18, cl gB_X_.drew cc19⟩ ?_
  simp only [List.length_cons, List.length_nil, Nat.reduceAdd]
  refine Lin.Blk.out ?_
  iterate 10 (refine Lin.bl_val rfl rfl rfl ?_; apply Exists.intro; refine ⟨fun w' hw' => ?_, ?_⟩; (focus (have hBw := hw'.1; have hSw := hw'.2; clear hw'; (try dsimp only at hBw hSw); go_simp; first | with_reducible exact Lin.lin_value | with_reducible exact Lin.lin_skip)); (try simp only [Act.put, List.setIfInBounds_toArray, List.set_cons_zero, List.set_cons_succ]))
  (refine Lin.bl_val rfl rfl rfl ?_; apply Exists.intro; refine ⟨fun w' hw' => ?_, ?_⟩; (focus (have hBw := hw'.1; have hSw := hw'.2; clear hw'; (try dsimp only at hBw hSw); have lay' : Laid w' := Laid.below lay_W72 hBw; go_simp; first | exact Lin.lin_ret (law18_half _ _) rfl)); (try simp only [Act.put, List.setIfInBounds_toArray, List.set_cons_zero, List.set_cons_succ]))
  iterate 7 (refine Lin.bl_val rfl rfl rfl ?_; apply Exists.intro; refine ⟨fun w' hw' => ?_, ?_⟩; (focus (have hBw := hw'.1; have hSw := hw'.2; clear hw'; (try dsimp only at hBw hSw); go_simp; first | with_reducible exact Lin.lin_value | with_reducible exact Lin.lin_skip)); (try simp only [Act.put, List.setIfInBounds_toArray, List.set_cons_zero, List.set_cons_succ]))
  refine Lin.bl_end ?_
  refine Lin.fin0 (fun wa wb hc hb => ⟨hc.1.trans (hb.mono hc.1.size), cell_later hb hc.2.1, cell_later hb hc.2.2.1, cell_later hb hc.2.2.2.1, cell_later hb hc.2.2.2.2.1, cell_later hb hc.2.2.2.2.2⟩) (by kernel_rfl) ?_
  intro X2 hw_X2
  have hb_X2 := hw_X2.1; clear hw_X2
  have lay_X2 : Laid X2 := Laid.below lay_W72 hb_X2
  (replace cc1 := cl hb_X2 cc1; replace cc2 := cl hb_X2 cc2; replace cc3 := cl hb_X2 cc3; replace cc4 := cl hb_X2 cc4; replace gB_X_ := below_after gB_X_ hb_X2; replace hBW := below_after hBW hb_X2; have hsb_X2 := hb_X2.size; have hn_X2 := an (nl cc1) (nl cc3))
  refine wpAny_done (by kernel_rfl) ?_ _
  apply_assumption
  (first | refine wp_rename ?_ | refine goal_rename ?_); intro X2_ hw_X2; subst hw_X2
  go_wp2_with fail
  rw [rounds_succ]
  go_upto_region 7 with fail
  ((first | refine wp_rename ?_ | refine goal_rename ?_); intro W73 hw_W73; have hG := named cc1 W73 (by rw [hw_W73]; go_grown); replace cc1 := cl hG cc1; replace cc2 := cl hG cc2; replace cc3 := cl hG cc3; replace cc4 := cl hG cc4; replace gB_X_ := below_after gB_X_ hG; replace hBW := below_after hBW hG; have hs_W73 := hG.size; clear hG; have hn_W73 := an (nl cc1) (nl cc3); have lay_W73 : Laid W73 := Laid.below (w := w) (by assumption) hBW; clear hw_W73)
  refine Lin.wp_region_lin (by kernel_rfl) (by intro _ _ d _ _ h; cases d <;> exact h) (by kernel_rfl) (fun w' => Below W73.heap.size W73 w' ∧ w'.cell? ⟨g, 15, none⟩ = some (.int .u64 0) ∧ w'.cell? ⟨g, 16, none⟩ = some (.int .u64 0) ∧ w'.cell? ⟨g, 17, none⟩ = some (.int .u8 0) ∧ w'.cell? ⟨g, 18, none⟩ = some (.int .u64 0) ∧ w'.cell? ⟨g, 19, none⟩ = some (.int .u8 0)) ⟨(Below.refl _ _).drew, cl gB_X_.drew cc20, cl gB_X_.drew cc21, cl gB_X_.drew cc22, cl gB_X_.drew cc23, cl gB_X_.drew cc24⟩ ?_
  simp only [List.length_cons, List.length_nil, Nat.reduceAdd]
  refine Lin.Blk.out ?_
  iterate 10 (refine Lin.bl_val rfl rfl rfl ?_; apply Exists.intro; refine ⟨fun w' hw' => ?_, ?_⟩; (focus (have hBw := hw'.1; have hSw := hw'.2; clear hw'; (try dsimp only at hBw hSw); go_simp; first | with_reducible exact Lin.lin_value | with_reducible exact Lin.lin_skip)); (try simp only [Act.put, List.setIfInBounds_toArray, List.set_cons_zero, List.set_cons_succ]))
  (refine Lin.bl_val rfl rfl rfl ?_; apply Exists.intro; refine ⟨fun w' hw' => ?_, ?_⟩; (focus (have hBw := hw'.1; have hSw := hw'.2; clear hw'; (try dsimp only at hBw hSw); have lay' : Laid w' := Laid.below lay_W73 hBw; go_simp; first | exact Lin.lin_ret (law18_half _ _) rfl)); (try simp only [Act.put, List.setIfInBounds_toArray, List.set_cons_zero, List.set_cons_succ]))
  iterate 7 (refine Lin.bl_val rfl rfl rfl ?_; apply Exists.intro; refine ⟨fun w' hw' => ?_, ?_⟩; (focus (have hBw := hw'.1; have hSw := hw'.2; clear hw'; (try dsimp only at hBw hSw); go_simp; first | with_reducible exact Lin.lin_value | with_reducible exact Lin.lin_skip)); (try simp only [Act.put, List.setIfInBounds_toArray, List.set_cons_zero, List.set_cons_succ]))
  refine Lin.bl_end ?_
  refine Lin.fin0 (fun wa wb hc hb => ⟨hc.1.trans (hb.mono hc.1.size), cell_later hb hc.2.1, cell_later hb hc.2.2.1, cell_later hb hc.2.2.2.1, cell_later hb hc.2.2.2.2.1, cell_later hb hc.2.2.2.2.2⟩) (by kernel_rfl) ?_
  intro X3 hw_X3
  have hb_X3 := hw_X3.1; clear hw_X3
  have lay_X3 : Laid X3 := Laid.below lay_W73 hb_X3
  (replace cc1 := cl hb_X3 cc1; replace cc2 := cl hb_X3 cc2; replace cc3 := cl hb_X3 cc3; replace cc4 := cl hb_X3 cc4; replace gB_X_ := below_after gB_X_ hb_X3; replace hBW := below_after hBW hb_X3; have hsb_X3 := hb_X3.size; have hn_X3 := an (nl cc1) (nl cc3))
  refine wpAny_done (by kernel_rfl) ?_ _
  apply_assumption
  (first | refine wp_rename ?_ | refine goal_rename ?_); intro X3_ hw_X3; subst hw_X3
  go_wp2_with fail
  rw [rounds_succ]
  go_upto_region 7 with fail
  ((first | refine wp_rename ?_ | refine goal_rename ?_); intro W74 hw_W74; have hG := named cc1 W74 (by rw [hw_W74]; go_grown); replace cc1 := cl hG cc1; replace cc2 := cl hG cc2; replace cc3 := cl hG cc3; replace cc4 := cl hG cc4; replace gB_X_ := below_after gB_X_ hG; replace hBW := below_after hBW hG; have hs_W74 := hG.size; clear hG; have hn_W74 := an (nl cc1) (nl cc3); have lay_W74 : Laid W74 := Laid.below (w := w) (by assumption) hBW; clear hw_W74)
  refine Lin.wp_region_lin (by kernel_rfl) (by intro _ _ d _ _ h; cases d <;> exact h) (by kernel_rfl) (fun w' => Below W74.heap.size W74 w' ∧ w'.cell? ⟨g, 20, none⟩ = some (.int .u64 0) ∧ w'.cell? ⟨g, 21, none⟩ = some (.int .u64 32768) ∧ w'.cell? ⟨g, 22, none⟩ = some (.int .u8 0) ∧ w'.cell? ⟨g, 23, none⟩ = some (.int .u64 32768) ∧ w'.cell? ⟨g, 24, none⟩ = some (.int .u8 0)) ⟨(Below.refl _ _).drew, cl gB_X_.drew cc25, cl gB_X_.drew cc26, cl gB_X_.drew cc27, cl gB_X_.drew cc28, cl gB_X_.drew cc29⟩ ?_
  simp only [List.length_cons, List.length_nil, Nat.reduceAdd]
  refine Lin.Blk.out ?_
  iterate 10 (refine Lin.bl_val rfl rfl rfl ?_; apply Exists.intro; refine ⟨fun w' hw' => ?_, ?_⟩; (focus (have hBw := hw'.1; have hSw := hw'.2; clear hw'; (try dsimp only at hBw hSw); go_simp; first | with_reducible exact Lin.lin_value | with_reducible exact Lin.lin_skip)); (try simp only [Act.put, List.setIfInBounds_toArray, List.set_cons_zero, List.set_cons_succ]))
  (refine Lin.bl_val rfl rfl rfl ?_; apply Exists.intro; refine ⟨fun w' hw' => ?_, ?_⟩; (focus (have hBw := hw'.1; have hSw := hw'.2; clear hw'; (try dsimp only at hBw hSw); have lay' : Laid w' := Laid.below lay_W74 hBw; go_simp; first | exact Lin.lin_ret (law18_half _ _) rfl)); (try simp only [Act.put, List.setIfInBounds_toArray, List.set_cons_zero, List.set_cons_succ]))
  iterate 7 (refine Lin.bl_val rfl rfl rfl ?_; apply Exists.intro; refine ⟨fun w' hw' => ?_, ?_⟩; (focus (have hBw := hw'.1; have hSw := hw'.2; clear hw'; (try dsimp only at hBw hSw); go_simp; first | with_reducible exact Lin.lin_value | with_reducible exact Lin.lin_skip)); (try simp only [Act.put, List.setIfInBounds_toArray, List.set_cons_zero, List.set_cons_succ]))
  refine Lin.bl_end ?_
  refine Lin.fin0 (fun wa wb hc hb => ⟨hc.1.trans (hb.mono hc.1.size), cell_later hb hc.2.1, cell_later hb hc.2.2.1, cell_later hb hc.2.2.2.1, cell_later hb hc.2.2.2.2.1, cell_later hb hc.2.2.2.2.2⟩) (by kernel_rfl) ?_
  intro X4 hw_X4
  have hb_X4 := hw_X4.1; clear hw_X4
  have lay_X4 : Laid X4 := Laid.below lay_W74 hb_X4
  (replace cc1 := cl hb_X4 cc1; replace cc2 := cl hb_X4 cc2; replace cc3 := cl hb_X4 cc3; replace cc4 := cl hb_X4 cc4; replace gB_X_ := below_after gB_X_ hb_X4; replace hBW := below_after hBW hb_X4; have hsb_X4 := hb_X4.size; have hn_X4 := an (nl cc1) (nl cc3))
  refine wpAny_done (by kernel_rfl) ?_ _
  apply_assumption
  (first | refine wp_rename ?_ | refine goal_rename ?_); intro X4_ hw_X4; subst hw_X4
  go_wp2_with fail
  rw [rounds_succ]
  go_upto_region 7 with fail
  ((first | refine wp_rename ?_ | refine goal_rename ?_); intro W75 hw_W75; have hG := named cc1 W75 (by rw [hw_W75]; go_grown); replace cc1 := cl hG cc1; replace cc2 := cl hG cc2; replace cc3 := cl hG cc3; replace cc4 := cl hG cc4; replace gB_X_ := below_after gB_X_ hG; replace hBW := below_after hBW hG; have hs_W75 := hG.size; clear hG; have hn_W75 := an (nl cc1) (nl cc3); have lay_W75 : Laid W75 := Laid.below (w := w) (by assumption) hBW; clear hw_W75)
  refine Lin.wp_region_lin (by kernel_rfl) (by intro _ _ d _ _ h; cases d <;> exact h) (by kernel_rfl) (fun w' => Below W75.heap.size W75 w' ∧ w'.cell? ⟨g, 25, none⟩ = some (.int .u64 0) ∧ w'.cell? ⟨g, 26, none⟩ = some (.int .u64 31744) ∧ w'.cell? ⟨g, 27, none⟩ = some (.int .u8 0) ∧ w'.cell? ⟨g, 28, none⟩ = some (.int .u64 31744) ∧ w'.cell? ⟨g, 29, none⟩ = some (.int .u8 0)) ⟨(Below.refl _ _).drew, cl gB_X_.drew cc30, cl gB_X_.drew cc31, cl gB_X_.drew cc32, cl gB_X_.drew cc33, cl gB_X_.drew cc34⟩ ?_
  simp only [List.length_cons, List.length_nil, Nat.reduceAdd]
  refine Lin.Blk.out ?_
  iterate 10 (refine Lin.bl_val rfl rfl rfl ?_; apply Exists.intro; refine ⟨fun w' hw' => ?_, ?_⟩; (focus (have hBw := hw'.1; have hSw := hw'.2; clear hw'; (try dsimp only at hBw hSw); go_simp; first | with_reducible exact Lin.lin_value | with_reducible exact Lin.lin_skip)); (try simp only [Act.put, List.setIfInBounds_toArray, List.set_cons_zero, List.set_cons_succ]))
  (refine Lin.bl_val rfl rfl rfl ?_; apply Exists.intro; refine ⟨fun w' hw' => ?_, ?_⟩; (focus (have hBw := hw'.1; have hSw := hw'.2; clear hw'; (try dsimp only at hBw hSw); have lay' : Laid w' := Laid.below lay_W75 hBw; go_simp; first | exact Lin.lin_ret (law18_half _ _) rfl)); (try simp only [Act.put, List.setIfInBounds_toArray, List.set_cons_zero, List.set_cons_succ]))
  iterate 7 (refine Lin.bl_val rfl rfl rfl ?_; apply Exists.intro; refine ⟨fun w' hw' => ?_, ?_⟩; (focus (have hBw := hw'.1; have hSw := hw'.2; clear hw'; (try dsimp only at hBw hSw); go_simp; first | with_reducible exact Lin.lin_value | with_reducible exact Lin.lin_skip)); (try simp only [Act.put, List.setIfInBounds_toArray, List.set_cons_zero, List.set_cons_succ]))
  refine Lin.bl_end ?_
  refine Lin.fin0 (fun wa wb hc hb => ⟨hc.1.trans (hb.mono hc.1.size), cell_later hb hc.2.1, cell_later hb hc.2.2.1, cell_later hb hc.2.2.2.1, cell_later hb hc.2.2.2.2.1, cell_later hb hc.2.2.2.2.2⟩) (by kernel_rfl) ?_
  intro X5 hw_X5
  have hb_X5 := hw_X5.1; clear hw_X5
  have lay_X5 : Laid X5 := Laid.below lay_W75 hb_X5
  (replace cc1 := cl hb_X5 cc1; replace cc2 := cl hb_X5 cc2; replace cc3 := cl hb_X5 cc3; replace cc4 := cl hb_X5 cc4; replace gB_X_ := below_after gB_X_ hb_X5; replace hBW := below_after hBW hb_X5; have hsb_X5 := hb_X5.size; have hn_X5 := an (nl cc1) (nl cc3))
  refine wpAny_done (by kernel_rfl) ?_ _
  apply_assumption
  (first | refine wp_rename ?_ | refine goal_rename ?_); intro X5_ hw_X5; subst hw_X5
  go_wp2_with fail
  rw [rounds_succ]
  go_upto_region 7 with fail
  ((first | refine wp_rename ?_ | refine goal_rename ?_); intro W76 hw_W76; have hG := named cc1 W76 (by rw [hw_W76]; go_grown); replace cc1 := cl hG cc1; replace cc2 := cl hG cc2; replace cc3 := cl hG cc3; replace cc4 := cl hG cc4; replace gB_X_ := below_after gB_X_ hG; replace hBW := below_after hBW hG; have hs_W76 := hG.size; clear hG; have hn_W76 := an (nl cc1) (nl cc3); have lay_W76 : Laid W76 := Laid.below (w := w) (by assumption) hBW; clear hw_W76)
  refine Lin.wp_region_lin (by kernel_rfl) (by intro _ _ d _ _ h; cases d <;> exact h) (by kernel_rfl) (fun w' => Below W76.heap.size W76 w' ∧ w'.cell? ⟨g, 30, none⟩ = some (.int .u64 0) ∧ w'.cell? ⟨g, 31, none⟩ = some (.int .u64 64512) ∧ w'.cell? ⟨g, 32, none⟩ = some (.int .u8 0) ∧ w'.cell? ⟨g, 33, none⟩ = some (.int .u64 64512) ∧ w'.cell? ⟨g, 34, none⟩ = some (.int .u8 0)) ⟨(Below.refl _ _).drew, cl gB_X_.drew cc35, cl gB_X_.drew cc36, cl gB_X_.drew cc37, cl gB_X_.drew cc38, cl gB_X_.drew cc39⟩ ?_
  simp only [List.length_cons, List.length_nil, Nat.reduceAdd]
  refine Lin.Blk.out ?_
  iterate 10 (refine Lin.bl_val rfl rfl rfl ?_; apply Exists.intro; refine ⟨fun w' hw' => ?_, ?_⟩; (focus (have hBw := hw'.1; have hSw := hw'.2; clear hw'; (try dsimp only at hBw hSw); go_simp; first | with_reducible exact Lin.lin_value | with_reducible exact Lin.lin_skip)); (try simp only [Act.put, List.setIfInBounds_toArray, List.set_cons_zero, List.set_cons_succ]))
  (refine Lin.bl_val rfl rfl rfl ?_; apply Exists.intro; refine ⟨fun w' hw' => ?_, ?_⟩; (focus (have hBw := hw'.1; have hSw := hw'.2; clear hw'; (try dsimp only at hBw hSw); have lay' : Laid w' := Laid.below lay_W76 hBw; go_simp; first | exact Lin.lin_ret (law18_half _ _) rfl)); (try simp only [Act.put, List.setIfInBounds_toArray, List.set_cons_zero, List.set_cons_succ]))
  iterate 7 (refine Lin.bl_val rfl rfl rfl ?_; apply Exists.intro; refine ⟨fun w' hw' => ?_, ?_⟩; (focus (have hBw := hw'.1; have hSw := hw'.2; clear hw'; (try dsimp only at hBw hSw); go_simp; first | with_reducible exact Lin.lin_value | with_reducible exact Lin.lin_skip)); (try simp only [Act.put, List.setIfInBounds_toArray, List.set_cons_zero, List.set_cons_succ]))
  refine Lin.bl_end ?_
  refine Lin.fin0 (fun wa wb hc hb => ⟨hc.1.trans (hb.mono hc.1.size), cell_later hb hc.2.1, cell_later hb hc.2.2.1, cell_later hb hc.2.2.2.1, cell_later hb hc.2.2.2.2.1, cell_later hb hc.2.2.2.2.2⟩) (by kernel_rfl) ?_
  intro X6 hw_X6
  have hb_X6 := hw_X6.1; clear hw_X6
  have lay_X6 : Laid X6 := Laid.below lay_W76 hb_X6
  (replace cc1 := cl hb_X6 cc1; replace cc2 := cl hb_X6 cc2; replace cc3 := cl hb_X6 cc3; replace cc4 := cl hb_X6 cc4; replace gB_X_ := below_after gB_X_ hb_X6; replace hBW := below_after hBW hb_X6; have hsb_X6 := hb_X6.size; have hn_X6 := an (nl cc1) (nl cc3))
  refine wpAny_done (by kernel_rfl) ?_ _
  apply_assumption
  (first | refine wp_rename ?_ | refine goal_rename ?_); intro X6_ hw_X6; subst hw_X6
  go_wp2_with fail
  rw [rounds_succ]
  go_upto_region 7 with fail
  ((first | refine wp_rename ?_ | refine goal_rename ?_); intro W77 hw_W77; have hG := named cc1 W77 (by rw [hw_W77]; go_grown); replace cc1 := cl hG cc1; replace cc2 := cl hG cc2; replace cc3 := cl hG cc3; replace cc4 := cl hG cc4; replace gB_X_ := below_after gB_X_ hG; replace hBW := below_after hBW hG; have hs_W77 := hG.size; clear hG; have hn_W77 := an (nl cc1) (nl cc3); have lay_W77 : Laid W77 := Laid.below (w := w) (by assumption) hBW; clear hw_W77)
  refine Lin.wp_region_lin (by kernel_rfl) (by intro _ _ d _ _ h; cases d <;> exact h) (by kernel_rfl) (fun w' => Below W77.heap.size W77 w' ∧ w'.cell? ⟨g, 35, none⟩ = some (.int .u64 0) ∧ w'.cell? ⟨g, 36, none⟩ = some (.int .u64 32256) ∧ w'.cell? ⟨g, 37, none⟩ = some (.int .u8 1) ∧ w'.cell? ⟨g, 38, none⟩ = some (.int .u64 32256) ∧ w'.cell? ⟨g, 39, none⟩ = some (.int .u8 1)) ⟨(Below.refl _ _).drew, cl gB_X_.drew cc40, cl gB_X_.drew cc41, cl gB_X_.drew cc42, cl gB_X_.drew cc43, cl gB_X_.drew cc44⟩ ?_
  simp only [List.length_cons, List.length_nil, Nat.reduceAdd]
  refine Lin.Blk.out ?_
  iterate 10 (refine Lin.bl_val rfl rfl rfl ?_; apply Exists.intro; refine ⟨fun w' hw' => ?_, ?_⟩; (focus (have hBw := hw'.1; have hSw := hw'.2; clear hw'; (try dsimp only at hBw hSw); go_simp; first | with_reducible exact Lin.lin_value | with_reducible exact Lin.lin_skip)); (try simp only [Act.put, List.setIfInBounds_toArray, List.set_cons_zero, List.set_cons_succ]))
  (refine Lin.bl_val rfl rfl rfl ?_; apply Exists.intro; refine ⟨fun w' hw' => ?_, ?_⟩; (focus (have hBw := hw'.1; have hSw := hw'.2; clear hw'; (try dsimp only at hBw hSw); have lay' : Laid w' := Laid.below lay_W77 hBw; go_simp; first | exact Lin.lin_ret (law18_half _ _) rfl)); (try simp only [Act.put, List.setIfInBounds_toArray, List.set_cons_zero, List.set_cons_succ]))
  iterate 7 (refine Lin.bl_val rfl rfl rfl ?_; apply Exists.intro; refine ⟨fun w' hw' => ?_, ?_⟩; (focus (have hBw := hw'.1; have hSw := hw'.2; clear hw'; (try dsimp only at hBw hSw); go_simp; first | with_reducible exact Lin.lin_value | with_reducible exact Lin.lin_skip)); (try simp only [Act.put, List.setIfInBounds_toArray, List.set_cons_zero, List.set_cons_succ]))
  refine Lin.bl_end ?_
  refine Lin.fin0 (fun wa wb hc hb => ⟨hc.1.trans (hb.mono hc.1.size), cell_later hb hc.2.1, cell_later hb hc.2.2.1, cell_later hb hc.2.2.2.1, cell_later hb hc.2.2.2.2.1, cell_later hb hc.2.2.2.2.2⟩) (by kernel_rfl) ?_
  intro X7 hw_X7
  have hb_X7 := hw_X7.1; clear hw_X7
  have lay_X7 : Laid X7 := Laid.below lay_W77 hb_X7
  (replace cc1 := cl hb_X7 cc1; replace cc2 := cl hb_X7 cc2; replace cc3 := cl hb_X7 cc3; replace cc4 := cl hb_X7 cc4; replace gB_X_ := below_after gB_X_ hb_X7; replace hBW := below_after hBW hb_X7; have hsb_X7 := hb_X7.size; have hn_X7 := an (nl cc1) (nl cc3))
  refine wpAny_done (by kernel_rfl) ?_ _
  apply_assumption
  (first | refine wp_rename ?_ | refine goal_rename ?_); intro X7_ hw_X7; subst hw_X7
  go_wp2_with fail
  rw [rounds_succ]
  go_upto_region 7 with fail
  ((first | refine wp_rename ?_ | refine goal_rename ?_); intro W78 hw_W78; have hG := named cc1 W78 (by rw [hw_W78]; go_grown); replace cc1 := cl hG cc1; replace cc2 := cl hG cc2; replace cc3 := cl hG cc3; replace cc4 := cl hG cc4; replace gB_X_ := below_after gB_X_ hG; replace hBW := below_after hBW hG; have hs_W78 := hG.size; clear hG; have hn_W78 := an (nl cc1) (nl cc3); have lay_W78 : Laid W78 := Laid.below (w := w) (by assumption) hBW; clear hw_W78)
  refine Lin.wp_region_lin (by kernel_rfl) (by intro _ _ d _ _ h; cases d <;> exact h) (by kernel_rfl) (fun w' => Below W78.heap.size W78 w' ∧ w'.cell? ⟨g, 40, none⟩ = some (.int .u64 0) ∧ w'.cell? ⟨g, 41, none⟩ = some (.int .u64 32257) ∧ w'.cell? ⟨g, 42, none⟩ = some (.int .u8 1) ∧ w'.cell? ⟨g, 43, none⟩ = some (.int .u64 32257) ∧ w'.cell? ⟨g, 44, none⟩ = some (.int .u8 1)) ⟨(Below.refl _ _).drew, cl gB_X_.drew cc45, cl gB_X_.drew cc46, cl gB_X_.drew cc47, cl gB_X_.drew cc48, cl gB_X_.drew cc49⟩ ?_
  simp only [List.length_cons, List.length_nil, Nat.reduceAdd]
  refine Lin.Blk.out ?_
  iterate 10 (refine Lin.bl_val rfl rfl rfl ?_; apply Exists.intro; refine ⟨fun w' hw' => ?_, ?_⟩; (focus (have hBw := hw'.1; have hSw := hw'.2; clear hw'; (try dsimp only at hBw hSw); go_simp; first | with_reducible exact Lin.lin_value | with_reducible exact Lin.lin_skip)); (try simp only [Act.put, List.setIfInBounds_toArray, List.set_cons_zero, List.set_cons_succ]))
  (refine Lin.bl_val rfl rfl rfl ?_; apply Exists.intro; refine ⟨fun w' hw' => ?_, ?_⟩; (focus (have hBw := hw'.1; have hSw := hw'.2; clear hw'; (try dsimp only at hBw hSw); have lay' : Laid w' := Laid.below lay_W78 hBw; go_simp; first | exact Lin.lin_ret (law18_half _ _) rfl)); (try simp only [Act.put, List.setIfInBounds_toArray, List.set_cons_zero, List.set_cons_succ]))
  iterate 7 (refine Lin.bl_val rfl rfl rfl ?_; apply Exists.intro; refine ⟨fun w' hw' => ?_, ?_⟩; (focus (have hBw := hw'.1; have hSw := hw'.2; clear hw'; (try dsimp only at hBw hSw); go_simp; first | with_reducible exact Lin.lin_value | with_reducible exact Lin.lin_skip)); (try simp only [Act.put, List.setIfInBounds_toArray, List.set_cons_zero, List.set_cons_succ]))
  refine Lin.bl_end ?_
  refine Lin.fin0 (fun wa wb hc hb => ⟨hc.1.trans (hb.mono hc.1.size), cell_later hb hc.2.1, cell_later hb hc.2.2.1, cell_later hb hc.2.2.2.1, cell_later hb hc.2.2.2.2.1, cell_later hb hc.2.2.2.2.2⟩) (by kernel_rfl) ?_
  intro X8 hw_X8
  have hb_X8 := hw_X8.1; clear hw_X8
  have lay_X8 : Laid X8 := Laid.below lay_W78 hb_X8
  (replace cc1 := cl hb_X8 cc1; replace cc2 := cl hb_X8 cc2; replace cc3 := cl hb_X8 cc3; replace cc4 := cl hb_X8 cc4; replace gB_X_ := below_after gB_X_ hb_X8; replace hBW := below_after hBW hb_X8; have hsb_X8 := hb_X8.size; have hn_X8 := an (nl cc1) (nl cc3))
  refine wpAny_done (by kernel_rfl) ?_ _
  apply_assumption
  (first | refine wp_rename ?_ | refine goal_rename ?_); intro X8_ hw_X8; subst hw_X8
  go_wp2_with fail
  rw [rounds_succ]
  go_upto_region 7 with fail
  ((first | refine wp_rename ?_ | refine goal_rename ?_); intro W79 hw_W79; have hG := named cc1 W79 (by rw [hw_W79]; go_grown); replace cc1 := cl hG cc1; replace cc2 := cl hG cc2; replace cc3 := cl hG cc3; replace cc4 := cl hG cc4; replace gB_X_ := below_after gB_X_ hG; replace hBW := below_after hBW hG; have hs_W79 := hG.size; clear hG; have hn_W79 := an (nl cc1) (nl cc3); have lay_W79 : Laid W79 := Laid.below (w := w) (by assumption) hBW; clear hw_W79)
  refine Lin.wp_region_lin (by kernel_rfl) (by intro _ _ d _ _ h; cases d <;> exact h) (by kernel_rfl) (fun w' => Below W79.heap.size W79 w' ∧ w'.cell? ⟨g, 45, none⟩ = some (.int .u64 0) ∧ w'.cell? ⟨g, 46, none⟩ = some (.int .u64 65029) ∧ w'.cell? ⟨g, 47, none⟩ = some (.int .u8 0) ∧ w'.cell? ⟨g, 48, none⟩ = some (.int .u64 65029) ∧ w'.cell? ⟨g, 49, none⟩ = some (.int .u8 0)) ⟨(Below.refl _ _).drew, cl gB_X_.drew cc50, cl gB_X_.drew cc51, cl gB_X_.drew cc52, cl gB_X_.drew cc53, cl gB_X_.drew cc54⟩ ?_
  simp only [List.length_cons, List.length_nil, Nat.reduceAdd]
  refine Lin.Blk.out ?_
  iterate 10 (refine Lin.bl_val rfl rfl rfl ?_; apply Exists.intro; refine ⟨fun w' hw' => ?_, ?_⟩; (focus (have hBw := hw'.1; have hSw := hw'.2; clear hw'; (try dsimp only at hBw hSw); go_simp; first | with_reducible exact Lin.lin_value | with_reducible exact Lin.lin_skip)); (try simp only [Act.put, List.setIfInBounds_toArray, List.set_cons_zero, List.set_cons_succ]))
  (refine Lin.bl_val rfl rfl rfl ?_; apply Exists.intro; refine ⟨fun w' hw' => ?_, ?_⟩; (focus (have hBw := hw'.1; have hSw := hw'.2; clear hw'; (try dsimp only at hBw hSw); have lay' : Laid w' := Laid.below lay_W79 hBw; go_simp; first | exact Lin.lin_ret (law18_half _ _) rfl)); (try simp only [Act.put, List.setIfInBounds_toArray, List.set_cons_zero, List.set_cons_succ]))
  iterate 7 (refine Lin.bl_val rfl rfl rfl ?_; apply Exists.intro; refine ⟨fun w' hw' => ?_, ?_⟩; (focus (have hBw := hw'.1; have hSw := hw'.2; clear hw'; (try dsimp only at hBw hSw); go_simp; first | with_reducible exact Lin.lin_value | with_reducible exact Lin.lin_skip)); (try simp only [Act.put, List.setIfInBounds_toArray, List.set_cons_zero, List.set_cons_succ]))
  refine Lin.bl_end ?_
  refine Lin.fin0 (fun wa wb hc hb => ⟨hc.1.trans (hb.mono hc.1.size), cell_later hb hc.2.1, cell_later hb hc.2.2.1, cell_later hb hc.2.2.2.1, cell_later hb hc.2.2.2.2.1, cell_later hb hc.2.2.2.2.2⟩) (by kernel_rfl) ?_
  intro X9 hw_X9
  have hb_X9 := hw_X9.1; clear hw_X9
  have lay_X9 : Laid X9 := Laid.below lay_W79 hb_X9
  (replace cc1 := cl hb_X9 cc1; replace cc2 := cl hb_X9 cc2; replace cc3 := cl hb_X9 cc3; replace cc4 := cl hb_X9 cc4; replace gB_X_ := below_after gB_X_ hb_X9; replace hBW := below_after hBW hb_X9; have hsb_X9 := hb_X9.size; have hn_X9 := an (nl cc1) (nl cc3))
  refine wpAny_done (by kernel_rfl) ?_ _
  apply_assumption
  (first | refine wp_rename ?_ | refine goal_rename ?_); intro X9_ hw_X9; subst hw_X9
  go_wp2_with fail
  rw [rounds_succ]
  go_upto_region 7 with fail
  ((first | refine wp_rename ?_ | refine goal_rename ?_); intro W710 hw_W710; have hG := named cc1 W710 (by rw [hw_W710]; go_grown); replace cc1 := cl hG cc1; replace cc2 := cl hG cc2; replace cc3 := cl hG cc3; replace cc4 := cl hG cc4; replace gB_X_ := below_after gB_X_ hG; replace hBW := below_after hBW hG; have hs_W710 := hG.size; clear hG; have hn_W710 := an (nl cc1) (nl cc3); have lay_W710 : Laid W710 := Laid.below (w := w) (by assumption) hBW; clear hw_W710)
  refine Lin.wp_region_lin (by kernel_rfl) (by intro _ _ d _ _ h; cases d <;> exact h) (by kernel_rfl) (fun w' => Below W710.heap.size W710 w' ∧ w'.cell? ⟨g, 50, none⟩ = some (.int .u64 0) ∧ w'.cell? ⟨g, 51, none⟩ = some (.int .u64 33791) ∧ w'.cell? ⟨g, 52, none⟩ = some (.int .u8 0) ∧ w'.cell? ⟨g, 53, none⟩ = some (.int .u64 33791) ∧ w'.cell? ⟨g, 54, none⟩ = some (.int .u8 0)) ⟨(Below.refl _ _).drew, cl gB_X_.drew cc55, cl gB_X_.drew cc56, cl gB_X_.drew cc57, cl gB_X_.drew cc58, cl gB_X_.drew cc59⟩ ?_
  simp only [List.length_cons, List.length_nil, Nat.reduceAdd]
  refine Lin.Blk.out ?_
  iterate 10 (refine Lin.bl_val rfl rfl rfl ?_; apply Exists.intro; refine ⟨fun w' hw' => ?_, ?_⟩; (focus (have hBw := hw'.1; have hSw := hw'.2; clear hw'; (try dsimp only at hBw hSw); go_simp; first | with_reducible exact Lin.lin_value | with_reducible exact Lin.lin_skip)); (try simp only [Act.put, List.setIfInBounds_toArray, List.set_cons_zero, List.set_cons_succ]))
  (refine Lin.bl_val rfl rfl rfl ?_; apply Exists.intro; refine ⟨fun w' hw' => ?_, ?_⟩; (focus (have hBw := hw'.1; have hSw := hw'.2; clear hw'; (try dsimp only at hBw hSw); have lay' : Laid w' := Laid.below lay_W710 hBw; go_simp; first | exact Lin.lin_ret (law18_half _ _) rfl)); (try simp only [Act.put, List.setIfInBounds_toArray, List.set_cons_zero, List.set_cons_succ]))
  iterate 7 (refine Lin.bl_val rfl rfl rfl ?_; apply Exists.intro; refine ⟨fun w' hw' => ?_, ?_⟩; (focus (have hBw := hw'.1; have hSw := hw'.2; clear hw'; (try dsimp only at hBw hSw); go_simp; first | with_reducible exact Lin.lin_value | with_reducible exact Lin.lin_skip)); (try simp only [Act.put, List.setIfInBounds_toArray, List.set_cons_zero, List.set_cons_succ]))
  refine Lin.bl_end ?_
  refine Lin.fin0 (fun wa wb hc hb => ⟨hc.1.trans (hb.mono hc.1.size), cell_later hb hc.2.1, cell_later hb hc.2.2.1, cell_later hb hc.2.2.2.1, cell_later hb hc.2.2.2.2.1, cell_later hb hc.2.2.2.2.2⟩) (by kernel_rfl) ?_
  intro X10 hw_X10
  have hb_X10 := hw_X10.1; clear hw_X10
  have lay_X10 : Laid X10 := Laid.below lay_W710 hb_X10
  (replace cc1 := cl hb_X10 cc1; replace cc2 := cl hb_X10 cc2; replace cc3 := cl hb_X10 cc3; replace cc4 := cl hb_X10 cc4; replace gB_X_ := below_after gB_X_ hb_X10; replace hBW := below_after hBW hb_X10; have hsb_X10 := hb_X10.size; have hn_X10 := an (nl cc1) (nl cc3))
  refine wpAny_done (by kernel_rfl) ?_ _
  apply_assumption
  (first | refine wp_rename ?_ | refine goal_rename ?_); intro X10_ hw_X10; subst hw_X10
  go_wp2_with fail
  rw [rounds_succ]
  go_upto_region 7 with fail
  ((first | refine wp_rename ?_ | refine goal_rename ?_); intro W711 hw_W711; have hG := named cc1 W711 (by rw [hw_W711]; go_grown); replace cc1 := cl hG cc1; replace cc2 := cl hG cc2; replace cc3 := cl hG cc3; replace cc4 := cl hG cc4; replace gB_X_ := below_after gB_X_ hG; replace hBW := below_after hBW hG; have hs_W711 := hG.size; clear hG; have hn_W711 := an (nl cc1) (nl cc3); have lay_W711 : Laid W711 := Laid.below (w := w) (by assumption) hBW; clear hw_W711)
  refine Lin.wp_region_lin (by kernel_rfl) (by intro _ _ d _ _ h; cases d <;> exact h) (by kernel_rfl) (fun w' => Below W711.heap.size W711 w' ∧ w'.cell? ⟨g, 55, none⟩ = some (.int .u64 0) ∧ w'.cell? ⟨g, 56, none⟩ = some (.int .u64 0) ∧ w'.cell? ⟨g, 57, none⟩ = some (.int .u8 0) ∧ w'.cell? ⟨g, 58, none⟩ = some (.int .u64 0) ∧ w'.cell? ⟨g, 59, none⟩ = some (.int .u8 0)) ⟨(Below.refl _ _).drew, cl gB_X_.drew cc60, cl gB_X_.drew cc61, cl gB_X_.drew cc62, cl gB_X_.drew cc63, cl gB_X_.drew cc64⟩ ?_
  simp only [List.length_cons, List.length_nil, Nat.reduceAdd]
  refine Lin.Blk.out ?_
  iterate 10 (refine Lin.bl_val rfl rfl rfl ?_; apply Exists.intro; refine ⟨fun w' hw' => ?_, ?_⟩; (focus (have hBw := hw'.1; have hSw := hw'.2; clear hw'; (try dsimp only at hBw hSw); go_simp; first | with_reducible exact Lin.lin_value | with_reducible exact Lin.lin_skip)); (try simp only [Act.put, List.setIfInBounds_toArray, List.set_cons_zero, List.set_cons_succ]))
  (refine Lin.bl_val rfl rfl rfl ?_; apply Exists.intro; refine ⟨fun w' hw' => ?_, ?_⟩; (focus (have hBw := hw'.1; have hSw := hw'.2; clear hw'; (try dsimp only at hBw hSw); have lay' : Laid w' := Laid.below lay_W711 hBw; go_simp; first | exact Lin.lin_ret (law18_half _ _) rfl)); (try simp only [Act.put, List.setIfInBounds_toArray, List.set_cons_zero, List.set_cons_succ]))
  iterate 7 (refine Lin.bl_val rfl rfl rfl ?_; apply Exists.intro; refine ⟨fun w' hw' => ?_, ?_⟩; (focus (have hBw := hw'.1; have hSw := hw'.2; clear hw'; (try dsimp only at hBw hSw); go_simp; first | with_reducible exact Lin.lin_value | with_reducible exact Lin.lin_skip)); (try simp only [Act.put, List.setIfInBounds_toArray, List.set_cons_zero, List.set_cons_succ]))
  refine Lin.bl_end ?_
  refine Lin.fin0 (fun wa wb hc hb => ⟨hc.1.trans (hb.mono hc.1.size), cell_later hb hc.2.1, cell_later hb hc.2.2.1, cell_later hb hc.2.2.2.1, cell_later hb hc.2.2.2.2.1, cell_later hb hc.2.2.2.2.2⟩) (by kernel_rfl) ?_
  intro X11 hw_X11
  have hb_X11 := hw_X11.1; clear hw_X11
  have lay_X11 : Laid X11 := Laid.below lay_W711 hb_X11
  (replace cc1 := cl hb_X11 cc1; replace cc2 := cl hb_X11 cc2; replace cc3 := cl hb_X11 cc3; replace cc4 := cl hb_X11 cc4; replace gB_X_ := below_after gB_X_ hb_X11; replace hBW := below_after hBW hb_X11; have hsb_X11 := hb_X11.size; have hn_X11 := an (nl cc1) (nl cc3))
  refine wpAny_done (by kernel_rfl) ?_ _
  apply_assumption
  (first | refine wp_rename ?_ | refine goal_rename ?_); intro X11_ hw_X11; subst hw_X11
  go_wp2_with fail
  rw [rounds_succ]
  go_upto_region 7 with fail
  ((first | refine wp_rename ?_ | refine goal_rename ?_); intro W712 hw_W712; have hG := named cc1 W712 (by rw [hw_W712]; go_grown); replace cc1 := cl hG cc1; replace cc2 := cl hG cc2; replace cc3 := cl hG cc3; replace cc4 := cl hG cc4; replace gB_X_ := below_after gB_X_ hG; replace hBW := below_after hBW hG; have hs_W712 := hG.size; clear hG; have hn_W712 := an (nl cc1) (nl cc3); have lay_W712 : Laid W712 := Laid.below (w := w) (by assumption) hBW; clear hw_W712)
  refine Lin.wp_region_lin (by kernel_rfl) (by intro _ _ d _ _ h; cases d <;> exact h) (by kernel_rfl) (fun w' => Below W712.heap.size W712 w' ∧ w'.cell? ⟨g, 60, none⟩ = some (.int .u64 0) ∧ w'.cell? ⟨g, 61, none⟩ = some (.int .u64 0) ∧ w'.cell? ⟨g, 62, none⟩ = some (.int .u8 0) ∧ w'.cell? ⟨g, 63, none⟩ = some (.int .u64 0) ∧ w'.cell? ⟨g, 64, none⟩ = some (.int .u8 0)) ⟨(Below.refl _ _).drew, cl gB_X_.drew cc65, cl gB_X_.drew cc66, cl gB_X_.drew cc67, cl gB_X_.drew cc68, cl gB_X_.drew cc69⟩ ?_
  simp only [List.length_cons, List.length_nil, Nat.reduceAdd]
  refine Lin.Blk.out ?_
  iterate 10 (refine Lin.bl_val rfl rfl rfl ?_; apply Exists.intro; refine ⟨fun w' hw' => ?_, ?_⟩; (focus (have hBw := hw'.1; have hSw := hw'.2; clear hw'; (try dsimp only at hBw hSw); go_simp; first | with_reducible exact Lin.lin_value | with_reducible exact Lin.lin_skip)); (try simp only [Act.put, List.setIfInBounds_toArray, List.set_cons_zero, List.set_cons_succ]))
  (refine Lin.bl_val rfl rfl rfl ?_; apply Exists.intro; refine ⟨fun w' hw' => ?_, ?_⟩; (focus (have hBw := hw'.1; have hSw := hw'.2; clear hw'; (try dsimp only at hBw hSw); have lay' : Laid w' := Laid.below lay_W712 hBw; go_simp; first | exact Lin.lin_ret (law18_half _ _) rfl)); (try simp only [Act.put, List.setIfInBounds_toArray, List.set_cons_zero, List.set_cons_succ]))
  iterate 7 (refine Lin.bl_val rfl rfl rfl ?_; apply Exists.intro; refine ⟨fun w' hw' => ?_, ?_⟩; (focus (have hBw := hw'.1; have hSw := hw'.2; clear hw'; (try dsimp only at hBw hSw); go_simp; first | with_reducible exact Lin.lin_value | with_reducible exact Lin.lin_skip)); (try simp only [Act.put, List.setIfInBounds_toArray, List.set_cons_zero, List.set_cons_succ]))
  refine Lin.bl_end ?_
  refine Lin.fin0 (fun wa wb hc hb => ⟨hc.1.trans (hb.mono hc.1.size), cell_later hb hc.2.1, cell_later hb hc.2.2.1, cell_later hb hc.2.2.2.1, cell_later hb hc.2.2.2.2.1, cell_later hb hc.2.2.2.2.2⟩) (by kernel_rfl) ?_
  intro X12 hw_X12
  have hb_X12 := hw_X12.1; clear hw_X12
  have lay_X12 : Laid X12 := Laid.below lay_W712 hb_X12
  (replace cc1 := cl hb_X12 cc1; replace cc2 := cl hb_X12 cc2; replace cc3 := cl hb_X12 cc3; replace cc4 := cl hb_X12 cc4; replace gB_X_ := below_after gB_X_ hb_X12; replace hBW := below_after hBW hb_X12; have hsb_X12 := hb_X12.size; have hn_X12 := an (nl cc1) (nl cc3))
  refine wpAny_done (by kernel_rfl) ?_ _
  apply_assumption
  (first | refine wp_rename ?_ | refine goal_rename ?_); intro X12_ hw_X12; subst hw_X12
  go_wp2_with fail
  rw [rounds_succ]
  go_upto_region 7 with fail
  ((first | refine wp_rename ?_ | refine goal_rename ?_); intro W713 hw_W713; have hG := named cc1 W713 (by rw [hw_W713]; go_grown); replace cc1 := cl hG cc1; replace cc2 := cl hG cc2; replace cc3 := cl hG cc3; replace cc4 := cl hG cc4; replace gB_X_ := below_after gB_X_ hG; replace hBW := below_after hBW hG; have hs_W713 := hG.size; clear hG; have hn_W713 := an (nl cc1) (nl cc3); have lay_W713 : Laid W713 := Laid.below (w := w) (by assumption) hBW; clear hw_W713)
  refine Lin.wp_region_lin (by kernel_rfl) (by intro _ _ d _ _ h; cases d <;> exact h) (by kernel_rfl) (fun w' => Below W713.heap.size W713 w' ∧ w'.cell? ⟨g, 65, none⟩ = some (.int .u64 0) ∧ w'.cell? ⟨g, 66, none⟩ = some (.int .u64 26624) ∧ w'.cell? ⟨g, 67, none⟩ = some (.int .u8 16) ∧ w'.cell? ⟨g, 68, none⟩ = some (.int .u64 26624) ∧ w'.cell? ⟨g, 69, none⟩ = some (.int .u8 16)) ⟨(Below.refl _ _).drew, cl gB_X_.drew cc70, cl gB_X_.drew cc71, cl gB_X_.drew cc72, cl gB_X_.drew cc73, cl gB_X_.drew cc74⟩ ?_
  simp only [List.length_cons, List.length_nil, Nat.reduceAdd]
  refine Lin.Blk.out ?_
  iterate 10 (refine Lin.bl_val rfl rfl rfl ?_; apply Exists.intro; refine ⟨fun w' hw' => ?_, ?_⟩; (focus (have hBw := hw'.1; have hSw := hw'.2; clear hw'; (try dsimp only at hBw hSw); go_simp; first | with_reducible exact Lin.lin_value | with_reducible exact Lin.lin_skip)); (try simp only [Act.put, List.setIfInBounds_toArray, List.set_cons_zero, List.set_cons_succ]))
  (refine Lin.bl_val rfl rfl rfl ?_; apply Exists.intro; refine ⟨fun w' hw' => ?_, ?_⟩; (focus (have hBw := hw'.1; have hSw := hw'.2; clear hw'; (try dsimp only at hBw hSw); have lay' : Laid w' := Laid.below lay_W713 hBw; go_simp; first | exact Lin.lin_ret (law18_half _ _) rfl)); (try simp only [Act.put, List.setIfInBounds_toArray, List.set_cons_zero, List.set_cons_succ]))
  iterate 7 (refine Lin.bl_val rfl rfl rfl ?_; apply Exists.intro; refine ⟨fun w' hw' => ?_, ?_⟩; (focus (have hBw := hw'.1; have hSw := hw'.2; clear hw'; (try dsimp only at hBw hSw); go_simp; first | with_reducible exact Lin.lin_value | with_reducible exact Lin.lin_skip)); (try simp only [Act.put, List.setIfInBounds_toArray, List.set_cons_zero, List.set_cons_succ]))
  refine Lin.bl_end ?_
  refine Lin.fin0 (fun wa wb hc hb => ⟨hc.1.trans (hb.mono hc.1.size), cell_later hb hc.2.1, cell_later hb hc.2.2.1, cell_later hb hc.2.2.2.1, cell_later hb hc.2.2.2.2.1, cell_later hb hc.2.2.2.2.2⟩) (by kernel_rfl) ?_
  intro X13 hw_X13
  have hb_X13 := hw_X13.1; clear hw_X13
  have lay_X13 : Laid X13 := Laid.below lay_W713 hb_X13
  (replace cc1 := cl hb_X13 cc1; replace cc2 := cl hb_X13 cc2; replace cc3 := cl hb_X13 cc3; replace cc4 := cl hb_X13 cc4; replace gB_X_ := below_after gB_X_ hb_X13; replace hBW := below_after hBW hb_X13; have hsb_X13 := hb_X13.size; have hn_X13 := an (nl cc1) (nl cc3))
  refine wpAny_done (by kernel_rfl) ?_ _
  apply_assumption
  (first | refine wp_rename ?_ | refine goal_rename ?_); intro X13_ hw_X13; subst hw_X13
  go_wp2_with fail
  rw [rounds_succ]
  go_upto_region 7 with fail
  ((first | refine wp_rename ?_ | refine goal_rename ?_); intro W714 hw_W714; have hG := named cc1 W714 (by rw [hw_W714]; go_grown); replace cc1 := cl hG cc1; replace cc2 := cl hG cc2; replace cc3 := cl hG cc3; replace cc4 := cl hG cc4; replace gB_X_ := below_after gB_X_ hG; replace hBW := below_after hBW hG; have hs_W714 := hG.size; clear hG; have hn_W714 := an (nl cc1) (nl cc3); have lay_W714 : Laid W714 := Laid.below (w := w) (by assumption) hBW; clear hw_W714)
  refine Lin.wp_region_lin (by kernel_rfl) (by intro _ _ d _ _ h; cases d <;> exact h) (by kernel_rfl) (fun w' => Below W714.heap.size W714 w' ∧ w'.cell? ⟨g, 70, none⟩ = some (.int .u64 0) ∧ w'.cell? ⟨g, 71, none⟩ = some (.int .u64 26626) ∧ w'.cell? ⟨g, 72, none⟩ = some (.int .u8 16) ∧ w'.cell? ⟨g, 73, none⟩ = some (.int .u64 26626) ∧ w'.cell? ⟨g, 74, none⟩ = some (.int .u8 16)) ⟨(Below.refl _ _).drew, cl gB_X_.drew cc75, cl gB_X_.drew cc76, cl gB_X_.drew cc77, cl gB_X_.drew cc78, cl gB_X_.drew cc79⟩ ?_
  simp only [List.length_cons, List.length_nil, Nat.reduceAdd]
  refine Lin.Blk.out ?_
  iterate 10 (refine Lin.bl_val rfl rfl rfl ?_; apply Exists.intro; refine ⟨fun w' hw' => ?_, ?_⟩; (focus (have hBw := hw'.1; have hSw := hw'.2; clear hw'; (try dsimp only at hBw hSw); go_simp; first | with_reducible exact Lin.lin_value | with_reducible exact Lin.lin_skip)); (try simp only [Act.put, List.setIfInBounds_toArray, List.set_cons_zero, List.set_cons_succ]))
  (refine Lin.bl_val rfl rfl rfl ?_; apply Exists.intro; refine ⟨fun w' hw' => ?_, ?_⟩; (focus (have hBw := hw'.1; have hSw := hw'.2; clear hw'; (try dsimp only at hBw hSw); have lay' : Laid w' := Laid.below lay_W714 hBw; go_simp; first | exact Lin.lin_ret (law18_half _ _) rfl)); (try simp only [Act.put, List.setIfInBounds_toArray, List.set_cons_zero, List.set_cons_succ]))
  iterate 7 (refine Lin.bl_val rfl rfl rfl ?_; apply Exists.intro; refine ⟨fun w' hw' => ?_, ?_⟩; (focus (have hBw := hw'.1; have hSw := hw'.2; clear hw'; (try dsimp only at hBw hSw); go_simp; first | with_reducible exact Lin.lin_value | with_reducible exact Lin.lin_skip)); (try simp only [Act.put, List.setIfInBounds_toArray, List.set_cons_zero, List.set_cons_succ]))
  refine Lin.bl_end ?_
  refine Lin.fin0 (fun wa wb hc hb => ⟨hc.1.trans (hb.mono hc.1.size), cell_later hb hc.2.1, cell_later hb hc.2.2.1, cell_later hb hc.2.2.2.1, cell_later hb hc.2.2.2.2.1, cell_later hb hc.2.2.2.2.2⟩) (by kernel_rfl) ?_
  intro X14 hw_X14
  have hb_X14 := hw_X14.1; clear hw_X14
  have lay_X14 : Laid X14 := Laid.below lay_W714 hb_X14
  (replace cc1 := cl hb_X14 cc1; replace cc2 := cl hb_X14 cc2; replace cc3 := cl hb_X14 cc3; replace cc4 := cl hb_X14 cc4; replace gB_X_ := below_after gB_X_ hb_X14; replace hBW := below_after hBW hb_X14; have hsb_X14 := hb_X14.size; have hn_X14 := an (nl cc1) (nl cc3))
  refine wpAny_done (by kernel_rfl) ?_ _
  apply_assumption
  (first | refine wp_rename ?_ | refine goal_rename ?_); intro X14_ hw_X14; subst hw_X14
  go_wp2_with fail
  rw [rounds_succ]
  (go_wp2_with fail; refine (law18_half _ _).mono ?_; rintro en a0 ⟨rfl, hB_a0⟩; have lay_a0 := laid_after hB_a0; have hG := cell_grown cc1 (by go_grown) hB_a0; replace cc1 := cl hG cc1; replace cc2 := cl hG cc2; replace cc3 := cl hG cc3; replace cc4 := cl hG cc4; replace gB_X_ := below_after gB_X_ hG; have hs_a0 := hG.size; clear hG; replace hBW : Below w.heap.size w a0 := below_after (w := w) (by go_grown) hB_a0; have hn_a0 := an (nl cc1) (nl cc3); clear hB_a0)
  (go_wp2_with fail; refine (addsub_Turn _ _ _ _).mono ?_; rw [t0, t1]; rintro en a1 ⟨rfl, hB_a1⟩; have lay_a1 := laid_after hB_a1; have hG := cell_grown cc1 (by go_grown) hB_a1; replace cc1 := cl hG cc1; replace cc2 := cl hG cc2; replace cc3 := cl hG cc3; replace cc4 := cl hG cc4; replace gB_X_ := below_after gB_X_ hG; have hs_a1 := hG.size; clear hG; replace hBW : Below w.heap.size w a1 := below_after (w := w) (by go_grown) hB_a1; have hn_a1 := an (nl cc1) (nl cc3); clear hB_a1)
  (go_wp2_with fail; refine (law18_half _ _).mono ?_; rintro en a2 ⟨rfl, hB_a2⟩; have lay_a2 := laid_after hB_a2; have hG := cell_grown cc1 (by go_grown) hB_a2; replace cc1 := cl hG cc1; replace cc2 := cl hG cc2; replace cc3 := cl hG cc3; replace cc4 := cl hG cc4; replace gB_X_ := below_after gB_X_ hG; have hs_a2 := hG.size; clear hG; replace hBW : Below w.heap.size w a2 := below_after (w := w) (by go_grown) hB_a2; have hn_a2 := an (nl cc1) (nl cc3); clear hB_a2)
  (go_wp2_with fail; refine (law18_half _ _).mono ?_; rintro en a3 ⟨rfl, hB_a3⟩; have lay_a3 := laid_after hB_a3; have hG := cell_grown cc1 (by go_grown) hB_a3; replace cc1 := cl hG cc1; replace cc2 := cl hG cc2; replace cc3 := cl hG cc3; replace cc4 := cl hG cc4; replace gB_X_ := below_after gB_X_ hG; have hs_a3 := hG.size; clear hG; replace hBW : Below w.heap.size w a3 := below_after (w := w) (by go_grown) hB_a3; have hn_a3 := an (nl cc1) (nl cc3); clear hB_a3)
  (go_wp2_with fail; refine (addsub_Turn _ _ _ _).mono ?_; rw [t2, t3]; rintro en a4 ⟨rfl, hB_a4⟩; have lay_a4 := laid_after hB_a4; have hG := cell_grown cc1 (by go_grown) hB_a4; replace cc1 := cl hG cc1; replace cc2 := cl hG cc2; replace cc3 := cl hG cc3; replace cc4 := cl hG cc4; replace gB_X_ := below_after gB_X_ hG; have hs_a4 := hG.size; clear hG; replace hBW : Below w.heap.size w a4 := below_after (w := w) (by go_grown) hB_a4; have hn_a4 := an (nl cc1) (nl cc3); clear hB_a4)
  (go_wp2_with fail; refine (addsub_Nought _ _ _ _ _).mono ?_; rw [n0]; rintro en a5 ⟨rfl, hB_a5⟩; have lay_a5 := laid_after hB_a5; have hG := cell_grown cc1 (by go_grown) hB_a5; replace cc1 := cl hG cc1; replace cc2 := cl hG cc2; replace cc3 := cl hG cc3; replace cc4 := cl hG cc4; replace gB_X_ := below_after gB_X_ hG; have hs_a5 := hG.size; clear hG; replace hBW : Below w.heap.size w a5 := below_after (w := w) (by go_grown) hB_a5; have hn_a5 := an (nl cc1) (nl cc3); clear hB_a5)
  (go_wp2_with fail; refine (addsub_Nought _ _ _ _ _).mono ?_; rw [n1]; rintro en a6 ⟨rfl, hB_a6⟩; have lay_a6 := laid_after hB_a6; have hG := cell_grown cc1 (by go_grown) hB_a6; replace cc1 := cl hG cc1; replace cc2 := cl hG cc2; replace cc3 := cl hG cc3; replace cc4 := cl hG cc4; replace gB_X_ := below_after gB_X_ hG; have hs_a6 := hG.size; clear hG; replace hBW : Below w.heap.size w a6 := below_after (w := w) (by go_grown) hB_a6; have hn_a6 := an (nl cc1) (nl cc3); clear hB_a6)
  (go_wp2_with fail; refine (law18_goes _).mono ?_; rintro en a7 ⟨rfl, hB_a7⟩; have lay_a7 := laid_after hB_a7; have hG := cell_grown cc1 (by go_grown) hB_a7; replace cc1 := cl hG cc1; replace cc2 := cl hG cc2; replace cc3 := cl hG cc3; replace cc4 := cl hG cc4; replace gB_X_ := below_after gB_X_ hG; have hs_a7 := hG.size; clear hG; replace hBW : Below w.heap.size w a7 := below_after (w := w) (by go_grown) hB_a7; have hn_a7 := an (nl cc1) (nl cc3); clear hB_a7)
  go_wp2_with fail
  go_returns
  exact ⟨rfl, by go_grown⟩
end Go.Proofs.YtkldkchkhblndaaGreatDoor
