/- AddsubAdds: the walk: for every input. Condition: the listed table is laid. -/
import Derived.Test.YtkpjeceofcfnkaaGreatDoorLaw18v
import Derived.Test.YtkpjeceofcfnkaaGreatDoorLaw18a
set_option maxRecDepth 100000
set_option maxHeartbeats 4000000
set_option linter.unusedSimpArgs false
set_option linter.unusedVariables false
namespace Go.Proofs.YtkpjeceofcfnkaaGreatDoor
open Go.RowKit Go.Hb
theorem adds_walk (f m h l h' l' r0 r1 ry : Int) (aft : Bool) [hU : U8 f] [hM : U8 m] [U64 h] [U64 l] [U64 h'] [U64 l'] (w : World) [hLay : Laid w] (h0 : Hid (hi (addB f m (cat h l) (cat h' l')) = r0)) (h1 : Hid (lo (addB f m (cat h l) (cat h' l')) = r1)) (h2 : Hid (addFl f m aft (cat h l) (cat h' l') = ry)) :
    Calls Tryz.prog 4 #[.int .u8 f, .agg #[.int .u8 m, .bool aft], .agg #[.int .u64 (h), .int .u64 (l)], .agg #[.int .u64 (h'), .int .u64 (l')]] w fun en w' => en = .returned (.bool true) ∧ Below w.heap.size w w' := by
  have he := fun W => eql_res_same W r0 r1 ry
  go_enter Tryz.func4, Tryz.ntmps4
  skip
  go_upto_region 1 with fail
  ((first | refine wp_rename ?_ | refine goal_rename ?_); intro W1 hw_W1; have cc1 : W1.cell? ⟨w.heap.size, 0, none⟩ = some (.int .u8 m) := (by rw [hw_W1]; go_simp); have cc2 : W1.cell? ⟨w.heap.size, 1, none⟩ = some (.bool aft) := (by rw [hw_W1]; go_simp); have cc3 : W1.cell? ⟨w.heap.size + 1, 0, none⟩ = some (.int .u64 h) := (by rw [hw_W1]; go_simp); have cc4 : W1.cell? ⟨w.heap.size + 1, 1, none⟩ = some (.int .u64 l) := (by rw [hw_W1]; go_simp); have cc5 : W1.cell? ⟨w.heap.size + 1 + 1, 0, none⟩ = some (.int .u64 h') := (by rw [hw_W1]; go_simp); have cc6 : W1.cell? ⟨w.heap.size + 1 + 1, 1, none⟩ = some (.int .u64 l') := (by rw [hw_W1]; go_simp); have hBW : Below w.heap.size w W1 := (by rw [hw_W1]; (first | with_reducible exact drewN_below (by assumption) _ | go_grown)); have hn_W1 := an (nl cc1) (an (nl cc3) (nl cc5)); have lay_W1 : Laid W1 := Laid.below (w := w) (by assumption) hBW; clear hw_W1)
  refine Lin.wp_region_lin (by kernel_rfl) (by intro _ _ d _ _ h; cases d <;> exact h) (by kernel_rfl) (fun w' => Below W1.heap.size W1 w' ∧ w'.cell? ⟨w.heap.size, 0, none⟩ = some (.int .u8 m) ∧ w'.cell? ⟨w.heap.size, 1, none⟩ = some (.bool aft) ∧ w'.cell? ⟨w.heap.size + 1, 0, none⟩ = some (.int .u64 h) ∧ w'.cell? ⟨w.heap.size + 1, 1, none⟩ = some (.int .u64 l) ∧ w'.cell? ⟨w.heap.size + 1 + 1, 0, none⟩ = some (.int .u64 h') ∧ w'.cell? ⟨w.heap.size + 1 + 1, 1, none⟩ = some (.int .u64 l')) ⟨(Below.refl _ _).drew, by go_simp, by go_simp, by go_simp, by go_simp, by go_simp, by go_simp⟩ ?_
  simp only [List.length_cons, List.length_nil, Nat.reduceAdd]
  refine Lin.Blk.out ?_
  iterate 15 (first | refine Lin.bl_rest rfl ?_ | (refine Lin.bl_val rfl rfl (by first | rfl | kernel_rfl) ?_; apply Exists.intro; refine ⟨fun w' hw' => ?_, ?_⟩; (focus (have hBw := hw'.1; have hSw := hw'.2; clear hw'; (try dsimp only at hBw hSw); have lay' : Laid w' := Laid.below lay_W1 hBw; go_simp; first | with_reducible exact Lin.lin_value | with_reducible exact Lin.lin_skip | exact Lin.lin_ret (addsub_Add f m h l h' l' aft _) (by rw [h0.out, h1.out, h2.out]) | exact Lin.lin_ret (ref18_Add f m h l h' l' aft _) (by rw [h0.out, h1.out, h2.out]) | exact Lin.lin_ret (law18_goes _) rfl)); (try simp only [Act.put, List.setIfInBounds_toArray, List.set_cons_zero, List.set_cons_succ])))
  refine Lin.bl_end ?_
  refine Lin.fin0 (fun wa wb hc hb => ⟨hc.1.trans (hb.mono hc.1.size), cell_later hb hc.2.1, cell_later hb hc.2.2.1, cell_later hb hc.2.2.2.1, cell_later hb hc.2.2.2.2.1, cell_later hb hc.2.2.2.2.2.1, cell_later hb hc.2.2.2.2.2.2⟩) (by kernel_rfl) ?_
  intro X hw_X
  have hb_X := hw_X.1; clear hw_X
  have lay_X : Laid X := Laid.below lay_W1 hb_X
  (replace cc1 := cl hb_X cc1; replace cc2 := cl hb_X cc2; replace cc3 := cl hb_X cc3; replace cc4 := cl hb_X cc4; replace cc5 := cl hb_X cc5; replace cc6 := cl hb_X cc6; replace hBW := below_after hBW hb_X; have hsb_X := hb_X.size; have hn_X := an (nl cc1) (an (nl cc3) (nl cc5)))
  (refine wpAny_ready (rs := [14]) (by kernel_rfl) (by simp) ?_; refine AllReady.cons rfl (fun K hK => ?_) AllReady.nil; go_simp; refine hK _ _ ?_; clear hK K)
  refine wpAny_done (by kernel_rfl) ?_ _
  apply_assumption
  (first | refine wp_rename ?_ | refine goal_rename ?_); intro X_ hw_X; subst hw_X
  go_wp2_with fail
  go_returns
  exact ⟨rfl, by go_grown⟩
theorem walk_AddsubAdds (f m : Int) (aft : Bool) (h l h' l' : Int) [hU : U8 f] [hM : U8 m] [U64 h] [U64 l] [U64 h'] [U64 l'] (w : World) [hLay : Laid w] :
    Calls Tryz.prog 4 #[.int .u8 f, .agg #[.int .u8 m, .bool aft], .agg #[.int .u64 (h), .int .u64 (l)], .agg #[.int .u64 (h'), .int .u64 (l')]] w fun en w' => en = .returned (.bool true) ∧ Below w.heap.size w w' :=
  adds_walk f m h l h' l' _ _ _ aft w (Lib.hid rfl) (Lib.hid rfl) (Lib.hid rfl)
end Go.Proofs.YtkpjeceofcfnkaaGreatDoor
