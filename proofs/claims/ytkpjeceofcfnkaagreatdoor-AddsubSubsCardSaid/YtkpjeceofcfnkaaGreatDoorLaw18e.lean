/- AddsubSubs: the walk: for every input. Condition: the listed table is laid. -/
import Derived.Test.YtkpjeceofcfnkaaGreatDoorLaw18v
import Derived.Test.YtkpjeceofcfnkaaGreatDoorLaw18a
set_option maxRecDepth 100000
set_option maxHeartbeats 8000000
set_option linter.unusedSimpArgs false
set_option linter.unusedVariables false
namespace Go.Proofs.YtkpjeceofcfnkaaGreatDoor
open Go.RowKit Go.Hb
theorem ref18_Sub (f m h l h' l' : Int) (aft : Bool) [hU : U8 f] [hM : U8 m] [U64 h] [U64 l] [U64 h'] [U64 l'] (w : World) [hLay : Laid w] :
    Calls Tryz.prog 13 #[.int .u8 f, .agg #[.int .u8 m, .bool aft], .agg #[.int .u64 (h), .int .u64 (l)], .agg #[.int .u64 (h'), .int .u64 (l')], .bool true] w fun en w' => en = .returned (.agg #[.int .u64 (hi (addB f m (cat h l) (subN f (cat h' l')))), .int .u64 (lo (addB f m (cat h l) (subN f (cat h' l')))), .int .u8 (addFl f m aft (cat h l) (subN f (cat h' l')))]) ∧ Below w.heap.size w w' := by
  refine ref18_all f m h l h' l' aft true _ w (fun hf => ?_) (fun hn => ?_) (fun hf hn => ?_)
  · unfold subN
    split
    · rfl
    · exact (turn_class f _ hU.ge hf).1
  · unfold subN; rw [if_pos hn]
  · obtain ⟨t1, t2, t3⟩ := turn_exact f (cat h' l') hU.ge hf
    unfold subN
    rw [hn, if_neg (by decide), t1, t2, t3]
    exact ⟨by cases sgnF f (cat h' l') <;> rfl, rfl, rfl⟩
theorem subs_walk (f m h l h' l' r0 r1 ry e t0 t1 : Int) (aft x y z s : Bool) (d : Nat) [hU : U8 f] [hM : U8 m] [U64 h] [U64 l] [U64 h'] [U64 l'] (w : World) [hLay : Laid w] (h0 : Hid (hi (addB f m (cat h l) (subN f (cat h' l'))) = r0)) (h1 : Hid (lo (addB f m (cat h l) (subN f (cat h' l'))) = r1)) (h2 : Hid (addFl f m aft (cat h l) (subN f (cat h' l')) = ry))
    (hs : Hid (sgnF f (cat h' l') = s)) (hx : Hid ((expF f (cat h' l') : Int) = e)) (hd : Hid (fracF f (cat h' l') = d)) (q0 : Hid (hi (turnF f (cat h' l')) = t0)) (q1 : Hid (lo (turnF f (cat h' l')) = t1))
    (HM : ∀ (W : World) (u : Value), Laid W → RN W u d → Calls Tryz.prog 16 #[.int .u8 f, .bool (!s), .int .i64 e, u] W fun en w' => en = .returned (.agg #[.int .u64 (t0), .int .u64 (t1)]) ∧ Below W.heap.size W w') (hz : (m == 3) = z)
    (hq : (x = true ∧ y = true) ∨ (x = true ∧ y = false) ∨ (x = false ∧ y = true) ∨ (x = false ∧ y = false)) :
    Calls Tryz.prog 5 #[.int .u8 f, .agg #[.int .u8 m, .bool aft], .agg #[.int .u64 (h), .int .u64 (l)], .agg #[.int .u64 (h'), .int .u64 (l')], .bool x, .bool y] w fun en w' => en = .returned (.bool true) ∧ Below w.heap.size w w' := by
  have he := fun W => eql_res_same W r0 r1 ry
  have hb := fun W => eql_bits_same W t0 t1
  have hno : ∀ (x y : Bool) (W : World), Calls Tryz.prog 19 #[.agg #[.int .u8 m, .bool aft], .bool x, .bool y] W fun en w' => en = .returned (.bool (if x = y then x else z)) ∧ Below W.heap.size W w' := fun x y W => by
    rw [← hz]; exact addsub_Nought m aft x y W
  go_enter Tryz.func5, Tryz.ntmps5
  skip
  (go_wp2_with fail; refine (ref_Split f h' l' _).mono ?_; rw [hs.out, hx.out, hd.out]; rintro en v1 ⟨⟨u1, rfl, hR_u1⟩, hB_v1⟩; have lay_v1 := laid_after hB_v1; have cc1 := cl hB_v1 (show World.cell? _ ⟨w.heap.size, 0, none⟩ = some (.int .u8 m) by go_simp); have cc2 := cl hB_v1 (show World.cell? _ ⟨w.heap.size, 1, none⟩ = some (.bool aft) by go_simp); have cc3 := cl hB_v1 (show World.cell? _ ⟨w.heap.size + 1, 0, none⟩ = some (.int .u64 h) by go_simp); have cc4 := cl hB_v1 (show World.cell? _ ⟨w.heap.size + 1, 1, none⟩ = some (.int .u64 l) by go_simp); have cc5 := cl hB_v1 (show World.cell? _ ⟨w.heap.size + 1 + 1, 0, none⟩ = some (.int .u64 h') by go_simp); have cc6 := cl hB_v1 (show World.cell? _ ⟨w.heap.size + 1 + 1, 1, none⟩ = some (.int .u64 l') by go_simp); have hs_v1 := hB_v1.size; (try simp only [World.size_alloc, World.size_setCell, World.size_drew] at hs_v1); have hBW : Below w.heap.size w v1 := below_after (w := w) (by go_grown) hB_v1; have hn_v1 := an (nl cc1) (an (nl cc3) (nl cc5)); clear hB_v1)
  (go_wp2_with fail; refine (HM _ _ (by first | assumption | infer_instance) hR_u1).mono ?_; rintro en v2 ⟨rfl, hB_v2⟩; have lay_v2 := laid_after hB_v2; replace hR_u1 := RN.later hR_u1 (below_after (by go_grown) hB_v2); have hG := cell_grown cc1 (by go_grown) hB_v2; replace cc1 := cl hG cc1; replace cc2 := cl hG cc2; replace cc3 := cl hG cc3; replace cc4 := cl hG cc4; replace cc5 := cl hG cc5; replace cc6 := cl hG cc6; replace hBW := below_after hBW hG; have hs_v2 := hG.size; clear hG; have hn_v2 := an (nl cc1) (an (nl cc3) (nl cc5)); clear hB_v2)
  clear hR_u1
  go_upto_region 3 with fail
  ((first | refine wp_rename ?_ | refine goal_rename ?_); intro W3 hw_W3; have hG := named cc1 W3 (by rw [hw_W3]; first | with_reducible exact drewN_below (Below.refl _ _) _ | go_grown); replace cc1 := cl hG cc1; replace cc2 := cl hG cc2; replace cc3 := cl hG cc3; replace cc4 := cl hG cc4; replace cc5 := cl hG cc5; replace cc6 := cl hG cc6; have cc7 : W3.cell? ⟨v2.heap.size, 0, none⟩ = some (.int .u64 t0) := (by rw [hw_W3]; go_simp); have cc8 : W3.cell? ⟨v2.heap.size, 1, none⟩ = some (.int .u64 t1) := (by rw [hw_W3]; go_simp); replace hBW := below_after hBW hG; have hs_W3 := hG.size; clear hG; have hn_W3 := an (nl cc1) (an (nl cc3) (an (nl cc5) (nl cc7))); have lay_W3 : Laid W3 := Laid.below (w := w) (by assumption) hBW; clear hw_W3)
  skip
  rcases hq with ⟨rfl, rfl⟩ | ⟨rfl, rfl⟩ | ⟨rfl, rfl⟩ | ⟨rfl, rfl⟩
  · skip
    refine Lin.wp_region_lin (by kernel_rfl) (by intro _ _ d _ _ h; cases d <;> exact h) (by kernel_rfl) (fun w' => Below W3.heap.size W3 w' ∧ w'.cell? ⟨w.heap.size, 0, none⟩ = some (.int .u8 m) ∧ w'.cell? ⟨w.heap.size, 1, none⟩ = some (.bool aft) ∧ w'.cell? ⟨w.heap.size + 1, 0, none⟩ = some (.int .u64 h) ∧ w'.cell? ⟨w.heap.size + 1, 1, none⟩ = some (.int .u64 l) ∧ w'.cell? ⟨w.heap.size + 1 + 1, 0, none⟩ = some (.int .u64 h') ∧ w'.cell? ⟨w.heap.size + 1 + 1, 1, none⟩ = some (.int .u64 l') ∧ w'.cell? ⟨v2.heap.size, 0, none⟩ = some (.int .u64 t0) ∧ w'.cell? ⟨v2.heap.size, 1, none⟩ = some (.int .u64 t1)) ⟨(Below.refl _ _).drew, by go_simp, by go_simp, by go_simp, by go_simp, by go_simp, by go_simp, by go_simp, by go_simp⟩ ?_
    simp only [List.length_cons, List.length_nil, Nat.reduceAdd]
    refine Lin.Blk.out ?_
    iterate 28 (first | refine Lin.bl_rest rfl ?_ | (refine Lin.bl_val rfl rfl (by first | rfl | kernel_rfl) ?_; apply Exists.intro; refine ⟨fun w' hw' => ?_, ?_⟩; (focus (have hBw := hw'.1; have hSw := hw'.2; clear hw'; (try dsimp only at hBw hSw); have lay' : Laid w' := Laid.below lay_W3 hBw; go_simp; first | with_reducible exact Lin.lin_value | with_reducible exact Lin.lin_skip | exact Lin.lin_ret (addsub_Sub f m h l h' l' aft _) (by rw [h0.out, h1.out, h2.out]) | exact Lin.lin_ret (ref18_Sub f m h l h' l' aft _) (by rw [h0.out, h1.out, h2.out]) | exact Lin.lin_ret (addsub_Turn f h' l' _) (by rw [q0.out, q1.out]) | exact Lin.lin_ret (hno true true _) rfl | exact Lin.lin_ret (law18_goes _) rfl)); (try simp only [Act.put, List.setIfInBounds_toArray, List.set_cons_zero, List.set_cons_succ])))
    iterate 8 (refine Lin.bl_skip rfl (by kernel_rfl) ?_; (try simp only [Act.put, List.setIfInBounds_toArray, List.set_cons_zero, List.set_cons_succ]))
    iterate 7 (first | refine Lin.bl_rest rfl ?_ | (refine Lin.bl_val rfl rfl (by first | rfl | kernel_rfl) ?_; apply Exists.intro; refine ⟨fun w' hw' => ?_, ?_⟩; (focus (have hBw := hw'.1; have hSw := hw'.2; clear hw'; (try dsimp only at hBw hSw); have lay' : Laid w' := Laid.below lay_W3 hBw; go_simp; first | with_reducible exact Lin.lin_value | with_reducible exact Lin.lin_skip | exact Lin.lin_ret (addsub_Sub f m h l h' l' aft _) (by rw [h0.out, h1.out, h2.out]) | exact Lin.lin_ret (ref18_Sub f m h l h' l' aft _) (by rw [h0.out, h1.out, h2.out]) | exact Lin.lin_ret (addsub_Turn f h' l' _) (by rw [q0.out, q1.out]) | exact Lin.lin_ret (hno true true _) rfl | exact Lin.lin_ret (law18_goes _) rfl)); (try simp only [Act.put, List.setIfInBounds_toArray, List.set_cons_zero, List.set_cons_succ])))
    refine Lin.bl_end ?_
    refine Lin.fin0 (fun wa wb hc hb => ⟨hc.1.trans (hb.mono hc.1.size), cell_later hb hc.2.1, cell_later hb hc.2.2.1, cell_later hb hc.2.2.2.1, cell_later hb hc.2.2.2.2.1, cell_later hb hc.2.2.2.2.2.1, cell_later hb hc.2.2.2.2.2.2.1, cell_later hb hc.2.2.2.2.2.2.2.1, cell_later hb hc.2.2.2.2.2.2.2.2⟩) (by kernel_rfl) ?_
    intro X hw_X
    have hb_X := hw_X.1; clear hw_X
    have lay_X : Laid X := Laid.below lay_W3 hb_X
    (replace cc1 := cl hb_X cc1; replace cc2 := cl hb_X cc2; replace cc3 := cl hb_X cc3; replace cc4 := cl hb_X cc4; replace cc5 := cl hb_X cc5; replace cc6 := cl hb_X cc6; replace cc7 := cl hb_X cc7; replace cc8 := cl hb_X cc8; replace hBW := below_after hBW hb_X; have hsb_X := hb_X.size; have hn_X := an (nl cc1) (an (nl cc3) (an (nl cc5) (nl cc7))))
    (refine wpAny_ready (rs := [42]) (by kernel_rfl) (by simp) ?_; refine AllReady.cons rfl (fun K hK => ?_) AllReady.nil; go_simp; refine hK _ _ ?_; clear hK K)
    refine wpAny_done (by kernel_rfl) ?_ _
    apply_assumption
    (first | refine wp_rename ?_ | refine goal_rename ?_); intro X_ hw_X; subst hw_X
    go_wp2_with fail
    go_returns
    exact ⟨rfl, by go_grown⟩
  · skip
    refine Lin.wp_region_lin (by kernel_rfl) (by intro _ _ d _ _ h; cases d <;> exact h) (by kernel_rfl) (fun w' => Below W3.heap.size W3 w' ∧ w'.cell? ⟨w.heap.size, 0, none⟩ = some (.int .u8 m) ∧ w'.cell? ⟨w.heap.size, 1, none⟩ = some (.bool aft) ∧ w'.cell? ⟨w.heap.size + 1, 0, none⟩ = some (.int .u64 h) ∧ w'.cell? ⟨w.heap.size + 1, 1, none⟩ = some (.int .u64 l) ∧ w'.cell? ⟨w.heap.size + 1 + 1, 0, none⟩ = some (.int .u64 h') ∧ w'.cell? ⟨w.heap.size + 1 + 1, 1, none⟩ = some (.int .u64 l') ∧ w'.cell? ⟨v2.heap.size, 0, none⟩ = some (.int .u64 t0) ∧ w'.cell? ⟨v2.heap.size, 1, none⟩ = some (.int .u64 t1)) ⟨(Below.refl _ _).drew, by go_simp, by go_simp, by go_simp, by go_simp, by go_simp, by go_simp, by go_simp, by go_simp⟩ ?_
    simp only [List.length_cons, List.length_nil, Nat.reduceAdd]
    refine Lin.Blk.out ?_
    iterate 43 (first | refine Lin.bl_rest rfl ?_ | (refine Lin.bl_val rfl rfl (by first | rfl | kernel_rfl) ?_; apply Exists.intro; refine ⟨fun w' hw' => ?_, ?_⟩; (focus (have hBw := hw'.1; have hSw := hw'.2; clear hw'; (try dsimp only at hBw hSw); have lay' : Laid w' := Laid.below lay_W3 hBw; go_simp; first | with_reducible exact Lin.lin_value | with_reducible exact Lin.lin_skip | exact Lin.lin_ret (addsub_Sub f m h l h' l' aft _) (by rw [h0.out, h1.out, h2.out]) | exact Lin.lin_ret (ref18_Sub f m h l h' l' aft _) (by rw [h0.out, h1.out, h2.out]) | exact Lin.lin_ret (addsub_Turn f h' l' _) (by rw [q0.out, q1.out]) | exact Lin.lin_ret (hno true false _) rfl | exact Lin.lin_ret (law18_goes _) rfl)); (try simp only [Act.put, List.setIfInBounds_toArray, List.set_cons_zero, List.set_cons_succ])))
    refine Lin.bl_end ?_
    refine Lin.fin0 (fun wa wb hc hb => ⟨hc.1.trans (hb.mono hc.1.size), cell_later hb hc.2.1, cell_later hb hc.2.2.1, cell_later hb hc.2.2.2.1, cell_later hb hc.2.2.2.2.1, cell_later hb hc.2.2.2.2.2.1, cell_later hb hc.2.2.2.2.2.2.1, cell_later hb hc.2.2.2.2.2.2.2.1, cell_later hb hc.2.2.2.2.2.2.2.2⟩) (by kernel_rfl) ?_
    intro X hw_X
    have hb_X := hw_X.1; clear hw_X
    have lay_X : Laid X := Laid.below lay_W3 hb_X
    (replace cc1 := cl hb_X cc1; replace cc2 := cl hb_X cc2; replace cc3 := cl hb_X cc3; replace cc4 := cl hb_X cc4; replace cc5 := cl hb_X cc5; replace cc6 := cl hb_X cc6; replace cc7 := cl hb_X cc7; replace cc8 := cl hb_X cc8; replace hBW := below_after hBW hb_X; have hsb_X := hb_X.size; have hn_X := an (nl cc1) (an (nl cc3) (an (nl cc5) (nl cc7))))
    (refine wpAny_ready (rs := [42]) (by kernel_rfl) (by simp) ?_; refine AllReady.cons rfl (fun K hK => ?_) AllReady.nil; go_simp; refine hK _ _ ?_; clear hK K)
    refine wpAny_done (by kernel_rfl) ?_ _
    apply_assumption
    (first | refine wp_rename ?_ | refine goal_rename ?_); intro X_ hw_X; subst hw_X
    go_wp2_with fail
    go_returns
    exact ⟨rfl, by go_grown⟩
  · skip
    refine Lin.wp_region_lin (by kernel_rfl) (by intro _ _ d _ _ h; cases d <;> exact h) (by kernel_rfl) (fun w' => Below W3.heap.size W3 w' ∧ w'.cell? ⟨w.heap.size, 0, none⟩ = some (.int .u8 m) ∧ w'.cell? ⟨w.heap.size, 1, none⟩ = some (.bool aft) ∧ w'.cell? ⟨w.heap.size + 1, 0, none⟩ = some (.int .u64 h) ∧ w'.cell? ⟨w.heap.size + 1, 1, none⟩ = some (.int .u64 l) ∧ w'.cell? ⟨w.heap.size + 1 + 1, 0, none⟩ = some (.int .u64 h') ∧ w'.cell? ⟨w.heap.size + 1 + 1, 1, none⟩ = some (.int .u64 l') ∧ w'.cell? ⟨v2.heap.size, 0, none⟩ = some (.int .u64 t0) ∧ w'.cell? ⟨v2.heap.size, 1, none⟩ = some (.int .u64 t1)) ⟨(Below.refl _ _).drew, by go_simp, by go_simp, by go_simp, by go_simp, by go_simp, by go_simp, by go_simp, by go_simp⟩ ?_
    simp only [List.length_cons, List.length_nil, Nat.reduceAdd]
    refine Lin.Blk.out ?_
    iterate 25 (first | refine Lin.bl_rest rfl ?_ | (refine Lin.bl_val rfl rfl (by first | rfl | kernel_rfl) ?_; apply Exists.intro; refine ⟨fun w' hw' => ?_, ?_⟩; (focus (have hBw := hw'.1; have hSw := hw'.2; clear hw'; (try dsimp only at hBw hSw); have lay' : Laid w' := Laid.below lay_W3 hBw; go_simp; first | with_reducible exact Lin.lin_value | with_reducible exact Lin.lin_skip | exact Lin.lin_ret (addsub_Sub f m h l h' l' aft _) (by rw [h0.out, h1.out, h2.out]) | exact Lin.lin_ret (ref18_Sub f m h l h' l' aft _) (by rw [h0.out, h1.out, h2.out]) | exact Lin.lin_ret (addsub_Turn f h' l' _) (by rw [q0.out, q1.out]) | exact Lin.lin_ret (hno false true _) rfl | exact Lin.lin_ret (law18_goes _) rfl)); (try simp only [Act.put, List.setIfInBounds_toArray, List.set_cons_zero, List.set_cons_succ])))
    (refine Lin.bl_skip rfl (by kernel_rfl) ?_; (try simp only [Act.put, List.setIfInBounds_toArray, List.set_cons_zero, List.set_cons_succ]))
    iterate 17 (first | refine Lin.bl_rest rfl ?_ | (refine Lin.bl_val rfl rfl (by first | rfl | kernel_rfl) ?_; apply Exists.intro; refine ⟨fun w' hw' => ?_, ?_⟩; (focus (have hBw := hw'.1; have hSw := hw'.2; clear hw'; (try dsimp only at hBw hSw); have lay' : Laid w' := Laid.below lay_W3 hBw; go_simp; first | with_reducible exact Lin.lin_value | with_reducible exact Lin.lin_skip | exact Lin.lin_ret (addsub_Sub f m h l h' l' aft _) (by rw [h0.out, h1.out, h2.out]) | exact Lin.lin_ret (ref18_Sub f m h l h' l' aft _) (by rw [h0.out, h1.out, h2.out]) | exact Lin.lin_ret (addsub_Turn f h' l' _) (by rw [q0.out, q1.out]) | exact Lin.lin_ret (hno false true _) rfl | exact Lin.lin_ret (law18_goes _) rfl)); (try simp only [Act.put, List.setIfInBounds_toArray, List.set_cons_zero, List.set_cons_succ])))
    refine Lin.bl_end ?_
    refine Lin.fin0 (fun wa wb hc hb => ⟨hc.1.trans (hb.mono hc.1.size), cell_later hb hc.2.1, cell_later hb hc.2.2.1, cell_later hb hc.2.2.2.1, cell_later hb hc.2.2.2.2.1, cell_later hb hc.2.2.2.2.2.1, cell_later hb hc.2.2.2.2.2.2.1, cell_later hb hc.2.2.2.2.2.2.2.1, cell_later hb hc.2.2.2.2.2.2.2.2⟩) (by kernel_rfl) ?_
    intro X hw_X
    have hb_X := hw_X.1; clear hw_X
    have lay_X : Laid X := Laid.below lay_W3 hb_X
    (replace cc1 := cl hb_X cc1; replace cc2 := cl hb_X cc2; replace cc3 := cl hb_X cc3; replace cc4 := cl hb_X cc4; replace cc5 := cl hb_X cc5; replace cc6 := cl hb_X cc6; replace cc7 := cl hb_X cc7; replace cc8 := cl hb_X cc8; replace hBW := below_after hBW hb_X; have hsb_X := hb_X.size; have hn_X := an (nl cc1) (an (nl cc3) (an (nl cc5) (nl cc7))))
    (refine wpAny_ready (rs := [42]) (by kernel_rfl) (by simp) ?_; refine AllReady.cons rfl (fun K hK => ?_) AllReady.nil; go_simp; refine hK _ _ ?_; clear hK K)
    refine wpAny_done (by kernel_rfl) ?_ _
    apply_assumption
    (first | refine wp_rename ?_ | refine goal_rename ?_); intro X_ hw_X; subst hw_X
    go_wp2_with fail
    go_returns
    exact ⟨rfl, by go_grown⟩
  · skip
    refine Lin.wp_region_lin (by kernel_rfl) (by intro _ _ d _ _ h; cases d <;> exact h) (by kernel_rfl) (fun w' => Below W3.heap.size W3 w' ∧ w'.cell? ⟨w.heap.size, 0, none⟩ = some (.int .u8 m) ∧ w'.cell? ⟨w.heap.size, 1, none⟩ = some (.bool aft) ∧ w'.cell? ⟨w.heap.size + 1, 0, none⟩ = some (.int .u64 h) ∧ w'.cell? ⟨w.heap.size + 1, 1, none⟩ = some (.int .u64 l) ∧ w'.cell? ⟨w.heap.size + 1 + 1, 0, none⟩ = some (.int .u64 h') ∧ w'.cell? ⟨w.heap.size + 1 + 1, 1, none⟩ = some (.int .u64 l') ∧ w'.cell? ⟨v2.heap.size, 0, none⟩ = some (.int .u64 t0) ∧ w'.cell? ⟨v2.heap.size, 1, none⟩ = some (.int .u64 t1)) ⟨(Below.refl _ _).drew, by go_simp, by go_simp, by go_simp, by go_simp, by go_simp, by go_simp, by go_simp, by go_simp⟩ ?_
    simp only [List.length_cons, List.length_nil, Nat.reduceAdd]
    refine Lin.Blk.out ?_
    iterate 25 (first | refine Lin.bl_rest rfl ?_ | (refine Lin.bl_val rfl rfl (by first | rfl | kernel_rfl) ?_; apply Exists.intro; refine ⟨fun w' hw' => ?_, ?_⟩; (focus (have hBw := hw'.1; have hSw := hw'.2; clear hw'; (try dsimp only at hBw hSw); have lay' : Laid w' := Laid.below lay_W3 hBw; go_simp; first | with_reducible exact Lin.lin_value | with_reducible exact Lin.lin_skip | exact Lin.lin_ret (addsub_Sub f m h l h' l' aft _) (by rw [h0.out, h1.out, h2.out]) | exact Lin.lin_ret (ref18_Sub f m h l h' l' aft _) (by rw [h0.out, h1.out, h2.out]) | exact Lin.lin_ret (addsub_Turn f h' l' _) (by rw [q0.out, q1.out]) | exact Lin.lin_ret (hno false false _) rfl | exact Lin.lin_ret (law18_goes _) rfl)); (try simp only [Act.put, List.setIfInBounds_toArray, List.set_cons_zero, List.set_cons_succ])))
    (refine Lin.bl_skip rfl (by kernel_rfl) ?_; (try simp only [Act.put, List.setIfInBounds_toArray, List.set_cons_zero, List.set_cons_succ]))
    iterate 6 (first | refine Lin.bl_rest rfl ?_ | (refine Lin.bl_val rfl rfl (by first | rfl | kernel_rfl) ?_; apply Exists.intro; refine ⟨fun w' hw' => ?_, ?_⟩; (focus (have hBw := hw'.1; have hSw := hw'.2; clear hw'; (try dsimp only at hBw hSw); have lay' : Laid w' := Laid.below lay_W3 hBw; go_simp; first | with_reducible exact Lin.lin_value | with_reducible exact Lin.lin_skip | exact Lin.lin_ret (addsub_Sub f m h l h' l' aft _) (by rw [h0.out, h1.out, h2.out]) | exact Lin.lin_ret (ref18_Sub f m h l h' l' aft _) (by rw [h0.out, h1.out, h2.out]) | exact Lin.lin_ret (addsub_Turn f h' l' _) (by rw [q0.out, q1.out]) | exact Lin.lin_ret (hno false false _) rfl | exact Lin.lin_ret (law18_goes _) rfl)); (try simp only [Act.put, List.setIfInBounds_toArray, List.set_cons_zero, List.set_cons_succ])))
    iterate 3 (refine Lin.bl_skip rfl (by kernel_rfl) ?_; (try simp only [Act.put, List.setIfInBounds_toArray, List.set_cons_zero, List.set_cons_succ]))
    iterate 8 (first | refine Lin.bl_rest rfl ?_ | (refine Lin.bl_val rfl rfl (by first | rfl | kernel_rfl) ?_; apply Exists.intro; refine ⟨fun w' hw' => ?_, ?_⟩; (focus (have hBw := hw'.1; have hSw := hw'.2; clear hw'; (try dsimp only at hBw hSw); have lay' : Laid w' := Laid.below lay_W3 hBw; go_simp; first | with_reducible exact Lin.lin_value | with_reducible exact Lin.lin_skip | exact Lin.lin_ret (addsub_Sub f m h l h' l' aft _) (by rw [h0.out, h1.out, h2.out]) | exact Lin.lin_ret (ref18_Sub f m h l h' l' aft _) (by rw [h0.out, h1.out, h2.out]) | exact Lin.lin_ret (addsub_Turn f h' l' _) (by rw [q0.out, q1.out]) | exact Lin.lin_ret (hno false false _) rfl | exact Lin.lin_ret (law18_goes _) rfl)); (try simp only [Act.put, List.setIfInBounds_toArray, List.set_cons_zero, List.set_cons_succ])))
    refine Lin.bl_end ?_
    refine Lin.fin0 (fun wa wb hc hb => ⟨hc.1.trans (hb.mono hc.1.size), cell_later hb hc.2.1, cell_later hb hc.2.2.1, cell_later hb hc.2.2.2.1, cell_later hb hc.2.2.2.2.1, cell_later hb hc.2.2.2.2.2.1, cell_later hb hc.2.2.2.2.2.2.1, cell_later hb hc.2.2.2.2.2.2.2.1, cell_later hb hc.2.2.2.2.2.2.2.2⟩) (by kernel_rfl) ?_
    intro X hw_X
    have hb_X := hw_X.1; clear hw_X
    have lay_X : Laid X := Laid.below lay_W3 hb_X
    (replace cc1 := cl hb_X cc1; replace cc2 := cl hb_X cc2; replace cc3 := cl hb_X cc3; replace cc4 := cl hb_X cc4; replace cc5 := cl hb_X cc5; replace cc6 := cl hb_X cc6; replace cc7 := cl hb_X cc7; replace cc8 := cl hb_X cc8; replace hBW := below_after hBW hb_X; have hsb_X := hb_X.size; have hn_X := an (nl cc1) (an (nl cc3) (an (nl cc5) (nl cc7))))
    (refine wpAny_ready (rs := [42]) (by kernel_rfl) (by simp) ?_; refine AllReady.cons rfl (fun K hK => ?_) AllReady.nil; go_simp; refine hK _ _ ?_; clear hK K)
    refine wpAny_done (by kernel_rfl) ?_ _
    apply_assumption
    (first | refine wp_rename ?_ | refine goal_rename ?_); intro X_ hw_X; subst hw_X
    go_wp2_with fail
    go_returns
    exact ⟨rfl, by go_grown⟩
theorem walk_AddsubSubs (f m : Int) (aft : Bool) (h l h' l' : Int) (x y : Bool) [hU : U8 f] [hM : U8 m] [U64 h] [U64 l] [U64 h'] [U64 l'] (w : World) [hLay : Laid w] :
    Calls Tryz.prog 5 #[.int .u8 f, .agg #[.int .u8 m, .bool aft], .agg #[.int .u64 (h), .int .u64 (l)], .agg #[.int .u64 (h'), .int .u64 (l')], .bool x, .bool y] w fun en w' => en = .returned (.bool true) ∧ Below w.heap.size w w' := by
  refine subs_walk f m h l h' l' _ _ _ _ (hi (turnF f (cat h' l'))) (lo (turnF f (cat h' l'))) aft x y _ _ _ w (Lib.hid rfl) (Lib.hid rfl) (Lib.hid rfl) (Lib.hid rfl) (Lib.hid rfl) (Lib.hid rfl) (Lib.hid rfl) (Lib.hid rfl) (fun W u hW hu => ?_) rfl ?_
  · have hx := exp_lt f (cat h' l')
    by_cases hf : f < 4
    · obtain ⟨b1, b2, b3, b4, b5, b6⟩ := fmt_bd f hU.ge hf
      have hl := frac_lt f (cat h' l') hU.ge hf
      have ht : turnF f (cat h' l') = makeF f (!(sgnF f (cat h' l'))) (expF f (cat h' l')) (fracF f (cat h' l')) := by
        unfold turnF; rw [cat_small _ (Nat.lt_of_lt_of_le hl (Nat.pow_le_pow_right (by decide) (by omega)))]
      rw [ht]
      exact ref_Make_at f _ _ _ u _ W rfl hf (by omega) (by omega) hu (dl_of _ (precS f - 1).toNat hl (by omega))
    · have ht : turnF f (cat h' l') = 0 := by unfold turnF makeF; rw [if_pos (by omega)]
      rw [ht]
      exact ref_Make_none f _ _ u W (by omega)
  · cases x <;> cases y <;> simp
end Go.Proofs.YtkpjeceofcfnkaaGreatDoor
