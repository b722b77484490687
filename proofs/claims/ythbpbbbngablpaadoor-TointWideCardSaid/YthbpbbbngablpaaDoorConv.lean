/- The contracts of payload.Move, conv.known and conv.Conv (by the mode Near): for known formats. Condition: the listed table is laid. -/
import Derived.Test.YthbpbbbngablpaaDoorNan2
import Derived.Test.YthbpbbbngablpaaDoorNanQ
import Derived.Test.YthbpbbbngablpaaDoorPack6
import Derived.Test.YthbpbbbngablpaaDoorMode
import Derived.Test.YthbpbbbngablpaaDoorLin
set_option linter.unusedSimpArgs false
set_option linter.unusedVariables false
namespace Go.Proofs.YthbpbbbngablpaaDoor
open Go.RowKit Go.Hb
set_option maxRecDepth 100000 in
theorem move_off (f : Int) [hU : U8 f] (w : World) [hLay : Laid w] : Calls Tryd.prog 72 #[.int .u8 f] w fun en w' => en = .returned (.int .i64 (129 - precS f)) ∧ Below w.heap.size w w' := by
  obtain ⟨p0, p1⟩ := precS_bd f
  have hw1 : IntKind.i64.wrap (129 - precS f) = 129 - precS f := IntWalk.i64_in _ (by omega)
  go_enter Tryd.func72, Tryd.ntmps72
  skip
  (go_wp2_with fail; refine (format_Prec f _).mono ?_; rintro en v1 ⟨rfl, hB_v1⟩; have lay_v1 := laid_after hB_v1; have hs_v1 := hB_v1.size; (try simp only [World.size_alloc, World.size_setCell, World.size_drew] at hs_v1); have hBW : Below w.heap.size w v1 := below_after (w := w) (by go_grown) hB_v1; clear hB_v1)
  go_wp2_with fail
  go_returns
  exact ⟨rfl, by go_grown⟩
set_option maxRecDepth 100000 in
set_option maxHeartbeats 2000000 in
theorem quieted_walk (f h l d0 d1 b0 b1 r0 r1 : Int) [hU : U8 f] [U64 h] [U64 l] [U64 d0] [U64 d1] (w : World) [hLay : Laid w] (hd0 : Hid (hi (defF f) = d0)) (hd1 : Hid (lo (defF f) = d1)) (hb0 : Hid (hi (fracF f (cat d0 d1)) = b0)) (hb1 : Hid (lo (fracF f (cat d0 d1)) = b1)) (hr0 : Go.bits BinOp.or IntKind.u64 h b0 = r0) (hr1 : Go.bits BinOp.or IntKind.u64 l b1 = r1) :
    Calls Tryd.prog 76 #[.int .u8 f, .agg #[.int .u64 (h), .int .u64 (l)]] w fun en w' => en = .returned (.agg #[.int .u64 (r0), .int .u64 (r1)]) ∧ Below w.heap.size w w' := by
  go_enter Tryd.func76, Tryd.ntmps76
  skip
  (go_wp2_with fail; refine (nan_Default f _).mono ?_; rw [hd0.out, hd1.out]; rintro en v1 ⟨rfl, hB_v1⟩; have lay_v1 := laid_after hB_v1; have cc1 := cl hB_v1 (show World.cell? _ ⟨w.heap.size, 0, none⟩ = some (.int .u64 h) by go_simp); have cc2 := cl hB_v1 (show World.cell? _ ⟨w.heap.size, 1, none⟩ = some (.int .u64 l) by go_simp); obtain ⟨cc3, fcc3⟩ := pf hB_v1 (show World.cell? _ ⟨w.heap.size + 1, 0, none⟩ = some (.int .u64 0) by go_simp) (by go_simp); obtain ⟨cc4, fcc4⟩ := pf hB_v1 (show World.cell? _ ⟨w.heap.size + 1, 1, none⟩ = some (.int .u64 0) by go_simp) (by go_simp); have hs_v1 := hB_v1.size; (try simp only [World.size_alloc, World.size_setCell, World.size_drew] at hs_v1); have hBW : Below w.heap.size w v1 := below_after (w := w) (by go_grown) hB_v1; have hn_v1 := an (nl cc1) (nl cc3); clear hB_v1)
  (go_wp2_with fail; refine (format_Split f d0 d1 _).mono ?_; rw [hb0.out, hb1.out]; rintro en v2 ⟨rfl, hB_v2⟩; have lay_v2 := laid_after hB_v2; have hG := cell_grown cc1 (by go_grown) hB_v2; replace cc1 := cl hG cc1; replace cc2 := cl hG cc2; replace fcc3 := fl hG fcc3 cc3; replace cc3 := cl hG cc3; replace fcc4 := fl hG fcc4 cc4; replace cc4 := cl hG cc4; have hs_v2 := hG.size; clear hG; replace hBW : Below w.heap.size w v2 := below_after (w := w) (by go_grown) hB_v2; have hn_v2 := an (nl cc1) (nl cc3); clear hB_v2)
  go_upto_region 2 with fail
  ((first | refine wp_rename ?_ | refine goal_rename ?_); intro W2 hw_W2; have hG := named cc1 W2 (by rw [hw_W2]; first | with_reducible exact drewN_below (Below.refl _ _) _ | go_grown); replace cc1 := cl hG cc1; replace cc2 := cl hG cc2; replace fcc3 := fl hG fcc3 cc3; replace cc3 := cl hG cc3; replace fcc4 := fl hG fcc4 cc4; replace cc4 := cl hG cc4; have cc5 : W2.cell? ⟨v2.heap.size, 0, none⟩ = some (.int .u64 b0) := (by rw [hw_W2]; go_simp); have cc6 : W2.cell? ⟨v2.heap.size, 1, none⟩ = some (.int .u64 b1) := (by rw [hw_W2]; go_simp); replace hBW := below_after hBW hG; have hs_W2 := hG.size; clear hG; have hn_W2 := an (nl cc1) (an (nl cc3) (nl cc5)); have lay_W2 : Laid W2 := Laid.below (w := w) (by assumption) hBW; clear hw_W2)
  go_wp2_with fail
  refine bodyPost_ret (by simp [results, Tryd.results76, go_sem, cc3, cc4]; try rfl) rfl ?_
  exact ⟨rfl, by go_grown⟩
set_option maxRecDepth 100000 in
set_option maxHeartbeats 2000000 in
theorem move_no (f g h l : Int) [hU : U8 f] [hV : U8 g] [U64 h] [U64 l] (w : World) [hLay : Laid w] (hg : decide (g < 4) = true) (hn : Hid (nanB f (cat h l) = false)) :
    Calls Tryd.prog 39 #[.int .u8 f, .int .u8 g, .agg #[.int .u64 (h), .int .u64 (l)]] w fun en w' => en = .returned (.tuple #[.agg #[.int .u64 0, .int .u64 0, .int .u8 0], .bool false]) ∧ Below w.heap.size w w' := by
  go_enter Tryd.func39, Tryd.ntmps39
  skip
  (go_wp2_with fail; refine (format_Known_b g _).mono ?_; rw [hg]; rintro en v0 ⟨rfl, hB_v0⟩; have lay_v0 := laid_after hB_v0; have cc1 := cl hB_v0 (show World.cell? _ ⟨w.heap.size, 0, none⟩ = some (.int .u64 h) by go_simp); have cc2 := cl hB_v0 (show World.cell? _ ⟨w.heap.size, 1, none⟩ = some (.int .u64 l) by go_simp); obtain ⟨cc3, fcc3⟩ := pf hB_v0 (show World.cell? _ ⟨w.heap.size + 1, 0, none⟩ = some (.int .u64 0) by go_simp) (by go_simp); obtain ⟨cc4, fcc4⟩ := pf hB_v0 (show World.cell? _ ⟨w.heap.size + 1, 1, none⟩ = some (.int .u64 0) by go_simp) (by go_simp); obtain ⟨cc5, fcc5⟩ := pf hB_v0 (show World.cell? _ ⟨w.heap.size + 1, 2, none⟩ = some (.int .u8 0) by go_simp) (by go_simp); have hs_v0 := hB_v0.size; (try simp only [World.size_alloc, World.size_setCell, World.size_drew] at hs_v0); have hBW : Below w.heap.size w v0 := below_after (w := w) (by go_grown) hB_v0; have hn_v0 := an (nl cc1) (nl cc3); clear hB_v0)
  (go_wp2_with fail; refine (class_NaN f h l _).mono ?_; rw [hn.out]; rintro en v1 ⟨rfl, hB_v1⟩; have lay_v1 := laid_after hB_v1; have hG := cell_grown cc1 (by go_grown) hB_v1; replace cc1 := cl hG cc1; replace cc2 := cl hG cc2; replace fcc3 := fl hG fcc3 cc3; replace cc3 := cl hG cc3; replace fcc4 := fl hG fcc4 cc4; replace cc4 := cl hG cc4; replace fcc5 := fl hG fcc5 cc5; replace cc5 := cl hG cc5; have hs_v1 := hG.size; clear hG; replace hBW : Below w.heap.size w v1 := below_after (w := w) (by go_grown) hB_v1; have hn_v1 := an (nl cc1) (nl cc3); clear hB_v1)
  go_wp2_with fail
  refine bodyPost_ret (by simp [results, Tryd.results39, go_sem, cc3, cc4, cc5]; try rfl) rfl ?_
  exact ⟨rfl, by go_grown⟩
set_option maxRecDepth 100000 in
set_option maxHeartbeats 8000000 in
theorem move_nan (f g h l a0 a1 x0 x1 c0 c1 q0 q1 y0 y1 z0 z1 fg : Int) (s sg : Bool) [hU : U8 f] [hV : U8 g] [U64 h] [U64 l] [U64 a0] [U64 a1] [U64 x0] [U64 x1] [U64 c0] [U64 c1] [U64 q0] [U64 q1] [U64 y0] [U64 y1] (w : World) [hLay : Laid w] (hg : decide (g < 4) = true) (hn : Hid (nanB f (cat h l) = true))
    (hs : Hid (sgnF f (cat h l) = s)) (ha0 : Hid (hi (fracF f (cat h l)) = a0)) (ha1 : Hid (lo (fracF f (cat h l)) = a1)) (hx0 : Hid (hi (lsh (cat a0 a1) (129 - precS f)) = x0)) (hx1 : Hid (lo (lsh (cat a0 a1) (129 - precS f)) = x1))
    (hc0 : Hid (hi (rsh (cat x0 x1) (129 - precS g)) = c0)) (hc1 : Hid (lo (rsh (cat x0 x1) (129 - precS g)) = c1)) (HQ : ∀ W : World, Laid W → Calls Tryd.prog 76 #[.int .u8 g, .agg #[.int .u64 (c0), .int .u64 (c1)]] W fun en w' => en = .returned (.agg #[.int .u64 (q0), .int .u64 (q1)]) ∧ Below W.heap.size W w')
    (hy0 : Hid (hi (makeF g s (2 * emaxS g + 1) (cat q0 q1)) = y0)) (hy1 : Hid (lo (makeF g s (2 * emaxS g + 1) (cat q0 q1)) = y1)) (hz0 : Hid (hi (quietF g (cat y0 y1)) = z0)) (hz1 : Hid (lo (quietF g (cat y0 y1)) = z1)) (hsg : Hid (sigB f (cat h l) = sg)) (hfl : (sg = true ∧ fg = 1) ∨ (sg = false ∧ fg = 0)) :
    Calls Tryd.prog 39 #[.int .u8 f, .int .u8 g, .agg #[.int .u64 (h), .int .u64 (l)]] w fun en w' => en = .returned (.tuple #[.agg #[.int .u64 z0, .int .u64 z1, .int .u8 fg], .bool true]) ∧ Below w.heap.size w w' := by
  obtain ⟨em0, em1⟩ := emaxS_bd g
  have hw2 : IntKind.i64.wrap (2 * emaxS g) = 2 * emaxS g := IntWalk.i64_in _ (by omega)
  have hw3 : IntKind.i64.wrap (2 * emaxS g + 1) = 2 * emaxS g + 1 := IntWalk.i64_in _ (by omega)
  go_enter Tryd.func39, Tryd.ntmps39
  skip
  (go_wp2_with fail; refine (format_Known_b g _).mono ?_; rw [hg]; rintro en v0 ⟨rfl, hB_v0⟩; have lay_v0 := laid_after hB_v0; have cc1 := cl hB_v0 (show World.cell? _ ⟨w.heap.size, 0, none⟩ = some (.int .u64 h) by go_simp); have cc2 := cl hB_v0 (show World.cell? _ ⟨w.heap.size, 1, none⟩ = some (.int .u64 l) by go_simp); obtain ⟨cc3, fcc3⟩ := pf hB_v0 (show World.cell? _ ⟨w.heap.size + 1, 0, none⟩ = some (.int .u64 0) by go_simp) (by go_simp); obtain ⟨cc4, fcc4⟩ := pf hB_v0 (show World.cell? _ ⟨w.heap.size + 1, 1, none⟩ = some (.int .u64 0) by go_simp) (by go_simp); obtain ⟨cc5, fcc5⟩ := pf hB_v0 (show World.cell? _ ⟨w.heap.size + 1, 2, none⟩ = some (.int .u8 0) by go_simp) (by go_simp); have hs_v0 := hB_v0.size; (try simp only [World.size_alloc, World.size_setCell, World.size_drew] at hs_v0); have hBW : Below w.heap.size w v0 := below_after (w := w) (by go_grown) hB_v0; have hn_v0 := an (nl cc1) (nl cc3); clear hB_v0)
  (go_wp2_with fail; refine (class_NaN f h l _).mono ?_; rw [hn.out]; rintro en v1 ⟨rfl, hB_v1⟩; have lay_v1 := laid_after hB_v1; have hG := cell_grown cc1 (by go_grown) hB_v1; replace cc1 := cl hG cc1; replace cc2 := cl hG cc2; replace fcc3 := fl hG fcc3 cc3; replace cc3 := cl hG cc3; replace fcc4 := fl hG fcc4 cc4; replace cc4 := cl hG cc4; replace fcc5 := fl hG fcc5 cc5; replace cc5 := cl hG cc5; have hs_v1 := hG.size; clear hG; replace hBW : Below w.heap.size w v1 := below_after (w := w) (by go_grown) hB_v1; have hn_v1 := an (nl cc1) (nl cc3); clear hB_v1)
  (go_wp2_with fail; refine (format_Split f h l _).mono ?_; rw [hs.out, ha0.out, ha1.out]; rintro en v2 ⟨rfl, hB_v2⟩; have lay_v2 := laid_after hB_v2; have hG := cell_grown cc1 (by go_grown) hB_v2; replace cc1 := cl hG cc1; replace cc2 := cl hG cc2; replace fcc3 := fl hG fcc3 cc3; replace cc3 := cl hG cc3; replace fcc4 := fl hG fcc4 cc4; replace cc4 := cl hG cc4; replace fcc5 := fl hG fcc5 cc5; replace cc5 := cl hG cc5; have hs_v2 := hG.size; clear hG; replace hBW : Below w.heap.size w v2 := below_after (w := w) (by go_grown) hB_v2; have hn_v2 := an (nl cc1) (nl cc3); clear hB_v2)
  go_upto_region 5 with fail
  ((first | refine wp_rename ?_ | refine goal_rename ?_); intro W5 hw_W5; have hG := named cc1 W5 (by rw [hw_W5]; first | with_reducible exact drewN_below (Below.refl _ _) _ | go_grown); replace cc1 := cl hG cc1; replace cc2 := cl hG cc2; replace fcc3 := fl hG fcc3 cc3; replace cc3 := cl hG cc3; replace fcc4 := fl hG fcc4 cc4; replace cc4 := cl hG cc4; replace fcc5 := fl hG fcc5 cc5; replace cc5 := cl hG cc5; have cc6 : W5.cell? ⟨v2.heap.size, 0, none⟩ = some (.int .u64 a0) := (by rw [hw_W5]; go_simp); have fcc6 : W5.frozen? ⟨v2.heap.size, 0, none⟩ = false := (by rw [hw_W5]; go_simp); have cc7 : W5.cell? ⟨v2.heap.size, 1, none⟩ = some (.int .u64 a1) := (by rw [hw_W5]; go_simp); have fcc7 : W5.frozen? ⟨v2.heap.size, 1, none⟩ = false := (by rw [hw_W5]; go_simp); replace hBW := below_after hBW hG; have hs_W5 := hG.size; clear hG; have hn_W5 := an (nl cc1) (an (nl cc3) (nl cc6)); have lay_W5 : Laid W5 := Laid.below (w := w) (by assumption) hBW; clear hw_W5)
  refine Lin.wp_region_lin (by kernel_rfl) (by intro _ _ d _ _ h; cases d <;> exact h) (by kernel_rfl) (fun w' => Below W5.heap.size W5 w' ∧ w'.cell? ⟨v2.heap.size, 0, none⟩ = some (.int .u64 a0) ∧ w'.cell? ⟨v2.heap.size, 1, none⟩ = some (.int .u64 a1)) ⟨(Below.refl _ _).drew, by go_simp, by go_simp⟩ ?_
  simp only [List.length_cons, List.length_nil, Nat.reduceAdd]
  refine Lin.Blk.out ?_
  iterate 3 (refine Lin.bl_val rfl rfl rfl ?_; apply Exists.intro; refine ⟨fun w' hw' => ?_, ?_⟩; (focus (have hBw := hw'.1; have hSw := hw'.2; clear hw'; (try dsimp only at hBw hSw); go_simp; first | with_reducible exact Lin.lin_value | with_reducible exact Lin.lin_skip)); (try simp only [Act.put, List.setIfInBounds_toArray, List.set_cons_zero, List.set_cons_succ]))
  iterate 2 (refine Lin.bl_val rfl rfl rfl ?_; apply Exists.intro; refine ⟨fun w' hw' => ?_, ?_⟩; (focus (have hBw := hw'.1; have hSw := hw'.2; clear hw'; (try dsimp only at hBw hSw); have lay' : Laid w' := Laid.below lay_W5 hBw; go_simp; first | with_reducible exact Lin.lin_ret (move_off f _) rfl | with_reducible exact Lin.lin_ret (move_off g _) rfl | exact Lin.lin_ret (shift_Left' _ _ _ _) (by rw [hx0.out, hx1.out]) | exact Lin.lin_ret (shift_Right _ _ _ _) (by rw [hc0.out, hc1.out]))); (try simp only [Act.put, List.setIfInBounds_toArray, List.set_cons_zero, List.set_cons_succ]))
  iterate 2 (refine Lin.bl_val rfl rfl rfl ?_; apply Exists.intro; refine ⟨fun w' hw' => ?_, ?_⟩; (focus (have hBw := hw'.1; have hSw := hw'.2; clear hw'; (try dsimp only at hBw hSw); go_simp; first | with_reducible exact Lin.lin_value | with_reducible exact Lin.lin_skip)); (try simp only [Act.put, List.setIfInBounds_toArray, List.set_cons_zero, List.set_cons_succ]))
  iterate 2 (refine Lin.bl_val rfl rfl rfl ?_; apply Exists.intro; refine ⟨fun w' hw' => ?_, ?_⟩; (focus (have hBw := hw'.1; have hSw := hw'.2; clear hw'; (try dsimp only at hBw hSw); have lay' : Laid w' := Laid.below lay_W5 hBw; go_simp; first | with_reducible exact Lin.lin_ret (move_off f _) rfl | with_reducible exact Lin.lin_ret (move_off g _) rfl | exact Lin.lin_ret (shift_Left' _ _ _ _) (by rw [hx0.out, hx1.out]) | exact Lin.lin_ret (shift_Right _ _ _ _) (by rw [hc0.out, hc1.out]))); (try simp only [Act.put, List.setIfInBounds_toArray, List.set_cons_zero, List.set_cons_succ]))
  refine Lin.bl_rest rfl ?_
  refine Lin.bl_end ?_
  refine Lin.fin0 (fun wa wb hc hb => ⟨hc.1.trans (hb.mono hc.1.size), cell_later hb hc.2.1, cell_later hb hc.2.2⟩) (by kernel_rfl) ?_
  intro X5 hw_X5
  have hb_X5 := hw_X5.1; clear hw_X5
  have lay_X5 : Laid X5 := Laid.below lay_W5 hb_X5
  (replace cc1 := cl hb_X5 cc1; replace cc2 := cl hb_X5 cc2; replace fcc3 := fl hb_X5 fcc3 cc3; replace cc3 := cl hb_X5 cc3; replace fcc4 := fl hb_X5 fcc4 cc4; replace cc4 := cl hb_X5 cc4; replace fcc5 := fl hb_X5 fcc5 cc5; replace cc5 := cl hb_X5 cc5; replace fcc6 := fl hb_X5 fcc6 cc6; replace cc6 := cl hb_X5 cc6; replace fcc7 := fl hb_X5 fcc7 cc7; replace cc7 := cl hb_X5 cc7; replace hBW := below_after hBW hb_X5; have hsb_X5 := hb_X5.size; have hn_X5 := an (nl cc1) (an (nl cc3) (nl cc6)))
  (refine wpAny_ready (rs := [9]) (by kernel_rfl) (by simp) ?_; refine AllReady.cons rfl (fun K hK => ?_) AllReady.nil; go_simp; refine hK _ _ ?_; clear hK K)
  refine wpAny_done (by kernel_rfl) ?_ _
  apply_assumption
  ((first | refine wp_rename ?_ | refine goal_rename ?_); intro X5s hw_X5s; replace cc1 := rn hw_X5s cc1 (by go_simp); replace cc2 := rn hw_X5s cc2 (by go_simp); replace cc3 := rn hw_X5s cc3 (by go_simp); replace fcc3 := rf hw_X5s fcc3 (by go_simp); replace cc4 := rn hw_X5s cc4 (by go_simp); replace fcc4 := rf hw_X5s fcc4 (by go_simp); replace cc5 := rn hw_X5s cc5 (by go_simp); replace fcc5 := rf hw_X5s fcc5 (by go_simp); replace cc6 : X5s.cell? ⟨v2.heap.size, 0, none⟩ = some (.int .u64 c0) := (by rw [hw_X5s]; go_simp); replace fcc6 := rf hw_X5s fcc6 (by go_simp); replace cc7 : X5s.cell? ⟨v2.heap.size, 1, none⟩ = some (.int .u64 c1) := (by rw [hw_X5s]; go_simp); replace fcc7 := rf hw_X5s fcc7 (by go_simp); replace hBW : Below w.heap.size w X5s := (by rw [hw_X5s]; (first | with_reducible exact drewN_below (by assumption) _ | go_grown)); have hn_X5s := an (nl cc1) (an (nl cc3) (nl cc6)); have lay_X5s : Laid X5s := Laid.below (w := w) (by assumption) hBW; clear hw_X5s)
  go_upto_region 6 with fail
  ((first | refine wp_rename ?_ | refine goal_rename ?_); intro W6 hw_W6; have hG := named cc1 W6 (by rw [hw_W6]; first | with_reducible exact drewN_below (Below.refl _ _) _ | go_grown); replace cc1 := cl hG cc1; replace cc2 := cl hG cc2; replace fcc3 := fl hG fcc3 cc3; replace cc3 := cl hG cc3; replace fcc4 := fl hG fcc4 cc4; replace cc4 := cl hG cc4; replace fcc5 := fl hG fcc5 cc5; replace cc5 := cl hG cc5; replace fcc6 := fl hG fcc6 cc6; replace cc6 := cl hG cc6; replace fcc7 := fl hG fcc7 cc7; replace cc7 := cl hG cc7; replace hBW := below_after hBW hG; have hs_W6 := hG.size; clear hG; have hn_W6 := an (nl cc1) (an (nl cc3) (nl cc6)); have lay_W6 : Laid W6 := Laid.below (w := w) (by assumption) hBW; clear hw_W6)
  refine Lin.wp_region_lin (by kernel_rfl) (by intro _ _ d _ _ h; cases d <;> exact h) (by kernel_rfl) (fun w' => Below W6.heap.size W6 w' ∧ w'.cell? ⟨v2.heap.size, 0, none⟩ = some (.int .u64 c0) ∧ w'.cell? ⟨v2.heap.size, 1, none⟩ = some (.int .u64 c1)) ⟨(Below.refl _ _).drew, by go_simp, by go_simp⟩ ?_
  simp only [List.length_cons, List.length_nil, Nat.reduceAdd]
  refine Lin.Blk.out ?_
  iterate 4 (refine Lin.bl_val rfl rfl rfl ?_; apply Exists.intro; refine ⟨fun w' hw' => ?_, ?_⟩; (focus (have hBw := hw'.1; have hSw := hw'.2; clear hw'; (try dsimp only at hBw hSw); go_simp; first | with_reducible exact Lin.lin_value | with_reducible exact Lin.lin_skip)); (try simp only [Act.put, List.setIfInBounds_toArray, List.set_cons_zero, List.set_cons_succ]))
  (refine Lin.bl_val rfl rfl rfl ?_; apply Exists.intro; refine ⟨fun w' hw' => ?_, ?_⟩; (focus (have hBw := hw'.1; have hSw := hw'.2; clear hw'; (try dsimp only at hBw hSw); have lay' : Laid w' := Laid.below lay_W6 hBw; go_simp; first | exact Lin.lin_ret (format_Emax g _) rfl | exact Lin.lin_ret (HQ _ lay') rfl | exact Lin.lin_ret (format_Make _ _ _ _ _ _) (by rw [hy0.out, hy1.out]) | exact Lin.lin_ret (nan_Quiet _ _ _ _) (by rw [hz0.out, hz1.out]))); (try simp only [Act.put, List.setIfInBounds_toArray, List.set_cons_zero, List.set_cons_succ]))
  iterate 4 (refine Lin.bl_val rfl rfl rfl ?_; apply Exists.intro; refine ⟨fun w' hw' => ?_, ?_⟩; (focus (have hBw := hw'.1; have hSw := hw'.2; clear hw'; (try dsimp only at hBw hSw); go_simp; first | with_reducible exact Lin.lin_value | with_reducible exact Lin.lin_skip)); (try simp only [Act.put, List.setIfInBounds_toArray, List.set_cons_zero, List.set_cons_succ]))
  iterate 3 (refine Lin.bl_val rfl rfl rfl ?_; apply Exists.intro; refine ⟨fun w' hw' => ?_, ?_⟩; (focus (have hBw := hw'.1; have hSw := hw'.2; clear hw'; (try dsimp only at hBw hSw); have lay' : Laid w' := Laid.below lay_W6 hBw; go_simp; first | exact Lin.lin_ret (format_Emax g _) rfl | exact Lin.lin_ret (HQ _ lay') rfl | exact Lin.lin_ret (format_Make _ _ _ _ _ _) (by rw [hy0.out, hy1.out]) | exact Lin.lin_ret (nan_Quiet _ _ _ _) (by rw [hz0.out, hz1.out]))); (try simp only [Act.put, List.setIfInBounds_toArray, List.set_cons_zero, List.set_cons_succ]))
  (refine Lin.bl_val rfl rfl rfl ?_; apply Exists.intro; refine ⟨fun w' hw' => ?_, ?_⟩; (focus (have hBw := hw'.1; have hSw := hw'.2; clear hw'; (try dsimp only at hBw hSw); go_simp; first | with_reducible exact Lin.lin_value | with_reducible exact Lin.lin_skip)); (try simp only [Act.put, List.setIfInBounds_toArray, List.set_cons_zero, List.set_cons_succ]))
  refine Lin.bl_rest rfl ?_
  refine Lin.bl_rest rfl ?_
  refine Lin.bl_end ?_
  refine Lin.new1 W6.heap.size (fun wa wb hc hb => ⟨hc.1.trans (hb.mono hc.1.size), cell_later hb hc.2.1, cell_later hb hc.2.2⟩) (fun wa hc => hc.1.size) 13 _ rfl rfl (by kernel_rfl) (by kernel_rfl) rfl (.agg #[.int .u64 0, .int .u64 0, .int .u8 0]) (by intro t ht; cases ht <;> (intro w; kernel_rfl)) ?_
  intro q X6 hw_X6 lo_q ho_q
  have hb_X6 := hw_X6.1; clear hw_X6
  have lay_X6 : Laid X6 := Laid.below lay_W6 hb_X6
  (replace cc1 := cl hb_X6 cc1; replace cc2 := cl hb_X6 cc2; replace fcc3 := fl hb_X6 fcc3 cc3; replace cc3 := cl hb_X6 cc3; replace fcc4 := fl hb_X6 fcc4 cc4; replace cc4 := cl hb_X6 cc4; replace fcc5 := fl hb_X6 fcc5 cc5; replace cc5 := cl hb_X6 cc5; replace fcc6 := fl hb_X6 fcc6 cc6; replace cc6 := cl hb_X6 cc6; replace fcc7 := fl hb_X6 fcc7 cc7; replace cc7 := cl hb_X6 cc7; replace hBW := below_after hBW hb_X6; have hsb_X6 := hb_X6.size; have hn_X6 := an (nl cc1) (an (nl cc3) (nl cc6)))
  have hi_q := Lin.heap_lt ho_q
  have cc8 : X6.cell? ⟨q, 0, none⟩ = some (.int .u64 0) := Lin.heap_cell ho_q rfl; have fcc8 : X6.frozen? ⟨q, 0, none⟩ = false := Lin.heap_free ho_q
  have cc9 : X6.cell? ⟨q, 1, none⟩ = some (.int .u64 0) := Lin.heap_cell ho_q rfl; have fcc9 : X6.frozen? ⟨q, 1, none⟩ = false := Lin.heap_free ho_q
  have cc10 : X6.cell? ⟨q, 2, none⟩ = some (.int .u8 0) := Lin.heap_cell ho_q rfl; have fcc10 : X6.frozen? ⟨q, 2, none⟩ = false := Lin.heap_free ho_q
  clear ho_q
  have hN_X6 : q ≠ X6.heap.size ∧ X6.heap.size ≠ q ∧ w.heap.size ≤ q := (by omega)
  unfold Lin.ptrOf
  (try simp only [Act.put, List.setIfInBounds_toArray, List.set_cons_zero, List.set_cons_succ])
  have hM_X6 : w.heap.size ≠ q ∧ q ≠ w.heap.size ∧ w.heap.size + 1 ≠ q ∧ q ≠ w.heap.size + 1 ∧ v2.heap.size ≠ q ∧ q ≠ v2.heap.size := (by omega)
  (refine wpAny_ready (rs := [14]) (by kernel_rfl) (by simp) ?_; refine AllReady.cons rfl (fun K hK => ?_) AllReady.nil; go_simp; refine hK _ _ ?_; clear hK K)
  refine wpAny_done (by kernel_rfl) ?_ _
  apply_assumption
  ((first | refine wp_rename ?_ | refine goal_rename ?_); intro X6s hw_X6s; replace cc1 := rn hw_X6s cc1 (by go_simp); replace cc2 := rn hw_X6s cc2 (by go_simp); replace cc3 := rn hw_X6s cc3 (by go_simp); replace fcc3 := rf hw_X6s fcc3 (by go_simp); replace cc4 := rn hw_X6s cc4 (by go_simp); replace fcc4 := rf hw_X6s fcc4 (by go_simp); replace cc5 := rn hw_X6s cc5 (by go_simp); replace fcc5 := rf hw_X6s fcc5 (by go_simp); replace cc6 := rn hw_X6s cc6 (by go_simp); replace fcc6 := rf hw_X6s fcc6 (by go_simp); replace cc7 := rn hw_X6s cc7 (by go_simp); replace fcc7 := rf hw_X6s fcc7 (by go_simp); replace cc8 : X6s.cell? ⟨q, 0, none⟩ = some (.int .u64 z0) := (by rw [hw_X6s]; go_simp); replace fcc8 := rf hw_X6s fcc8 (by go_simp); replace cc9 : X6s.cell? ⟨q, 1, none⟩ = some (.int .u64 z1) := (by rw [hw_X6s]; go_simp); replace fcc9 := rf hw_X6s fcc9 (by go_simp); replace cc10 : X6s.cell? ⟨q, 2, none⟩ = some (.int .u8 0) := (by rw [hw_X6s]; go_simp); replace fcc10 := rf hw_X6s fcc10 (by go_simp); replace hBW : Below w.heap.size w X6s := (by rw [hw_X6s]; (first | with_reducible exact drewN_below (by assumption) _ | go_grown)); have hn_X6s := an (nl cc1) (an (nl cc3) (an (nl cc6) (nl cc8))); have lay_X6s : Laid X6s := Laid.below (w := w) (by assumption) hBW; clear hw_X6s)
  (go_wp2_with fail; refine (class_Signaling f h l _).mono ?_; rw [hsg.out]; rintro en v7 ⟨rfl, hB_v7⟩; have lay_v7 := laid_after hB_v7; have hG := cell_grown cc1 (by go_grown) hB_v7; replace cc1 := cl hG cc1; replace cc2 := cl hG cc2; replace fcc3 := fl hG fcc3 cc3; replace cc3 := cl hG cc3; replace fcc4 := fl hG fcc4 cc4; replace cc4 := cl hG cc4; replace fcc5 := fl hG fcc5 cc5; replace cc5 := cl hG cc5; replace fcc6 := fl hG fcc6 cc6; replace cc6 := cl hG cc6; replace fcc7 := fl hG fcc7 cc7; replace cc7 := cl hG cc7; replace fcc8 := fl hG fcc8 cc8; replace cc8 := cl hG cc8; replace fcc9 := fl hG fcc9 cc9; replace cc9 := cl hG cc9; replace fcc10 := fl hG fcc10 cc10; replace cc10 := cl hG cc10; have hs_v7 := hG.size; clear hG; replace hBW : Below w.heap.size w v7 := below_after (w := w) (by go_grown) hB_v7; have hn_v7 := an (nl cc1) (an (nl cc3) (an (nl cc6) (nl cc8))); clear hB_v7)
  skip
  rcases hfl with ⟨rfl, rfl⟩ | ⟨rfl, rfl⟩
  · skip
    go_wp2_with fail
    refine bodyPost_ret (by simp [results, Tryd.results39, go_sem, cc3, cc4, cc5]; try rfl) rfl ?_
    exact ⟨rfl, by go_grown⟩
  · skip
    go_wp2_with fail
    refine bodyPost_ret (by simp [results, Tryd.results39, go_sem, cc3, cc4, cc5]; try rfl) rfl ?_
    exact ⟨rfl, by go_grown⟩
set_option maxRecDepth 100000 in
set_option maxHeartbeats 2000000 in
theorem conv_known2 (f g : Int) (b : Nat) [hU : U8 f] [hV : U8 g] (w : World) (c0 : w.cell? ⟨b, 0, none⟩ = some (.int .u8 f)) (c1 : w.cell? ⟨b, 1, none⟩ = some (.int .u8 g)) (hf : decide (f < 4) = true) (hg : decide (g < 4) = true) :
    Calls Tryd.prog 38 #[.slice (some ⟨b, 0, none⟩) 2 2] w fun en w' => en = .returned (.bool true) ∧ Below w.heap.size w w' := by
  go_enter Tryd.func38, Tryd.ntmps38
  go_wp2_with fail
  refine wp_loop_rounds 3 ?_
  rw [rounds_succ]
  (go_wp2_with fail; refine (format_Known f _).mono ?_; rw [hf]; rintro en _ ⟨rfl, rfl⟩)
  go_wp2_with fail
  rw [rounds_succ]
  (go_wp2_with fail; refine (format_Known g _).mono ?_; rw [hg]; rintro en _ ⟨rfl, rfl⟩)
  go_wp2_with fail
  rw [rounds_succ]
  go_wp2_with fail
  go_returns
  exact ⟨rfl, by go_grown⟩
/-- What Move makes of a NaN is one. -/
theorem made_nan (g : Int) (s : Bool) (x : Nat) (h0 : 0 ≤ g) (hg : g < 4) : nanB g (makeF g s (2 * emaxS g + 1) (x ||| fracF g (defF g))) = true := by
  obtain ⟨b1, b2, b3, b4, b5, b6⟩ := fmt_bd g h0 hg
  obtain ⟨m0, m1⟩ := emaxS_bd g
  have hI := infC_lt g h0 hg
  have ho : lsh (cat 0 1) (precS g - 2) = 2 ^ (precS g - 2).toNat := by unfold lsh; rw [show cat 0 1 = 1 from rfl, Nat.one_mul]
  have hlt : 2 ^ (precS g - 2).toNat < 2 ^ (precS g - 1).toNat := Nat.pow_lt_pow_right (by decide) (by omega)
  have hd : fracF g (defF g) = 2 ^ (precS g - 2).toNat := by
    unfold defF fracF
    rw [if_neg (by omega), ho, cat_small _ (Nat.pow_lt_pow_right (by decide) (by omega)), makeF_c g _ _ _ h0 hg (by omega) (by omega), Nat.mod_eq_of_lt hlt]
    unfold signN
    rw [if_neg (by decide), Nat.add_zero, Nat.add_comm, Nat.add_mul_mod_self_right, Nat.mod_eq_of_lt hlt]
  rw [hd, makeF_c g _ _ _ h0 hg (by omega) (by omega)]
  have hr : (x ||| 2 ^ (precS g - 2).toNat) % 2 ^ (precS g - 1).toNat ≠ 0 := by
    intro hz
    have h1 : ((x ||| 2 ^ (precS g - 2).toNat) % 2 ^ (precS g - 1).toNat).testBit (precS g - 2).toNat = true := by
      rw [Nat.testBit_mod_two_pow, decide_eq_true (by omega), Bool.true_and, Nat.testBit_or, Nat.testBit_two_pow_self, Bool.or_true]
    rw [hz, Nat.zero_testBit] at h1
    exact absurd h1 (by decide)
  have hl := Nat.mod_lt (x ||| 2 ^ (precS g - 2).toNat) (Nat.two_pow_pos (precS g - 1).toNat)
  generalize (x ||| 2 ^ (precS g - 2).toNat) % 2 ^ (precS g - 1).toNat = r at *
  have hc : (2 * emaxS g + 1).toNat * 2 ^ (precS g - 1).toNat = infC g := rfl
  rw [hc]
  have hcode := code_of g (infC g + r) s h0 hg (by omega)
  unfold nanB
  rw [decide_eq_true_eq]
  exact (class_code g _ h0 hg).2.2.2.2.2 (by rw [hcode]; omega)
/-- A NaN put into another format is a NaN. -/
theorem move_is (f g h l : Int) [hU : U8 f] [hV : U8 g] [U64 h] [U64 l] (hg : g < 4) (hn : nanB f (cat h l) = true) :
    ∃ z fg, nanB g z = true ∧ z < 2 ^ 128 ∧ ∀ (w : World), Laid w → Calls Tryd.prog 39 #[.int .u8 f, .int .u8 g, .agg #[.int .u64 (h), .int .u64 (l)]] w fun en w' => en = .returned (.tuple #[.agg #[.int .u64 (hi z), .int .u64 (lo z), .int .u8 fg], .bool true]) ∧ Below w.heap.size w w' := by
  obtain ⟨b1, b2, b3, b4, b5, b6⟩ := fmt_bd g hV.ge hg
  have hgd : decide (g < 4) = true := decide_eq_true hg
  generalize hX : cat (hi (rsh (cat (hi (lsh (cat (hi (fracF f (cat h l))) (lo (fracF f (cat h l)))) (129 - precS f))) (lo (lsh (cat (hi (fracF f (cat h l))) (lo (fracF f (cat h l)))) (129 - precS f)))) (129 - precS g))) (lo (rsh (cat (hi (lsh (cat (hi (fracF f (cat h l))) (lo (fracF f (cat h l)))) (129 - precS f))) (lo (lsh (cat (hi (fracF f (cat h l))) (lo (fracF f (cat h l)))) (129 - precS f)))) (129 - precS g))) = X
  have hfr : fracF g (defF g) < 2 ^ 128 := Nat.lt_trans (fracF_lt g _ hV.ge) (by decide)
  have hXl : X < 2 ^ 128 := by rw [← hX, two128]; exact cat_lt _ _
  have hol : X ||| fracF g (defF g) < 2 ^ 128 := Nat.or_lt_two_pow hXl hfr
  have hmk := made_nan g (sgnF f (cat h l)) X hV.ge hg
  have hml := makeF_lt g (sgnF f (cat h l)) (2 * emaxS g + 1) (X ||| fracF g (defF g)) hV.ge
  have hq := nan_quiet g _ hV.ge hg hmk
  refine ⟨quietF g (makeF g (sgnF f (cat h l)) (2 * emaxS g + 1) (X ||| fracF g (defF g))), if sigB f (cat h l) then 1 else 0, hq, ?_, fun w hLay => ?_⟩
  · unfold quietF
    rw [hmk, if_pos rfl, show lsh (cat 0 1) (precS g - 2) = 2 ^ (precS g - 2).toNat by unfold lsh; rw [show cat 0 1 = 1 from rfl, Nat.one_mul]]
    refine Nat.or_lt_two_pow (Nat.lt_of_lt_of_le (Nat.mod_lt _ (Nat.two_pow_pos _)) (Nat.pow_le_pow_right (by decide) (by omega))) (Nat.pow_lt_pow_right (by decide) (by omega))
  · obtain ⟨o1, o2⟩ := or_hl X (fracF g (defF g))
    have hdl := cat_small (defF g) (makeF_lt _ _ _ _ hV.ge)
    refine move_nan f g h l _ _ _ _ _ _ (hi (X ||| fracF g (defF g))) (lo (X ||| fracF g (defF g))) _ _ _ _ _ _ (sigB f (cat h l)) w hgd (Lib.hid hn) rfl rfl rfl rfl rfl rfl rfl (fun W hW => ?_) rfl rfl ?_ ?_ rfl ?_
    · refine quieted_walk g _ _ _ _ _ _ _ _ W rfl rfl rfl rfl ?_ ?_
      · rw [hdl, ← o1, ← hX, hi_cat]
      · rw [hdl, ← o2, ← hX, lo_cat]
    · show hi _ = _
      rw [cat_small (X ||| _) hol, cat_small _ hml]
    · show lo _ = _
      rw [cat_small (X ||| _) hol, cat_small _ hml]
    · cases sigB f (cat h l)
      · exact Or.inr ⟨rfl, rfl⟩
      · exact Or.inl ⟨rfl, rfl⟩
end Go.Proofs.YthbpbbbngablpaaDoor
namespace Go.Proofs.YthbpbbbngablpaaDoor
open Go.RowKit Go.Hb
set_option maxRecDepth 100000 in
set_option maxHeartbeats 8000000 in
theorem conv_nan (f g h l z0 z1 fg : Int) [hU : U8 f] [hV : U8 g] [U64 h] [U64 l] (w : World) [hLay : Laid w] (hf : decide (f < 4) = true) (hg : decide (g < 4) = true)
    (HM : ∀ W : World, Laid W → Calls Tryd.prog 39 #[.int .u8 f, .int .u8 g, .agg #[.int .u64 (h), .int .u64 (l)]] W fun en w' => en = .returned (.tuple #[.agg #[.int .u64 z0, .int .u64 z1, .int .u8 fg], .bool true]) ∧ Below W.heap.size W w') :
    Calls Tryd.prog 14 #[.int .u8 f, .int .u8 g, .agg #[.int .u8 0, .bool false], .agg #[.int .u64 (h), .int .u64 (l)]] w fun en w' => en = .returned (.agg #[.int .u64 z0, .int .u64 z1, .int .u8 fg]) ∧ Below w.heap.size w w' := by
  go_enter Tryd.func14, Tryd.ntmps14
  skip
  (go_wp2_with fail; refine (conv_known2 f g _ _ (by first | assumption | go_simp) (by first | assumption | go_simp) hf hg).mono ?_; rintro en v1 ⟨rfl, hB_v1⟩; have lay_v1 := laid_after hB_v1; have cc1 := cl hB_v1 (show World.cell? _ ⟨w.heap.size, 0, none⟩ = some (.int .u8 0) by go_simp); have cc2 := cl hB_v1 (show World.cell? _ ⟨w.heap.size, 1, none⟩ = some (.bool false) by go_simp); have cc3 := cl hB_v1 (show World.cell? _ ⟨w.heap.size + 1, 0, none⟩ = some (.int .u64 h) by go_simp); have cc4 := cl hB_v1 (show World.cell? _ ⟨w.heap.size + 1, 1, none⟩ = some (.int .u64 l) by go_simp); obtain ⟨cc5, fcc5⟩ := pf hB_v1 (show World.cell? _ ⟨w.heap.size + 1 + 1, 0, none⟩ = some (.int .u64 0) by go_simp) (by go_simp); obtain ⟨cc6, fcc6⟩ := pf hB_v1 (show World.cell? _ ⟨w.heap.size + 1 + 1, 1, none⟩ = some (.int .u64 0) by go_simp) (by go_simp); obtain ⟨cc7, fcc7⟩ := pf hB_v1 (show World.cell? _ ⟨w.heap.size + 1 + 1, 2, none⟩ = some (.int .u8 0) by go_simp) (by go_simp); have hs_v1 := hB_v1.size; (try simp only [World.size_alloc, World.size_setCell, World.size_drew] at hs_v1); have hBW : Below w.heap.size w v1 := below_after (w := w) (by go_grown) hB_v1; have hn_v1 := an (nl cc1) (an (nl cc3) (nl cc5)); clear hB_v1)
  (go_wp2_with fail; refine (mode_Known_b _ _).mono ?_; rintro en v2 ⟨rfl, hB_v2⟩; have lay_v2 := laid_after hB_v2; have hG := cell_grown cc1 (by go_grown) hB_v2; replace cc1 := cl hG cc1; replace cc2 := cl hG cc2; replace cc3 := cl hG cc3; replace cc4 := cl hG cc4; replace fcc5 := fl hG fcc5 cc5; replace cc5 := cl hG cc5; replace fcc6 := fl hG fcc6 cc6; replace cc6 := cl hG cc6; replace fcc7 := fl hG fcc7 cc7; replace cc7 := cl hG cc7; have hs_v2 := hG.size; clear hG; replace hBW : Below w.heap.size w v2 := below_after (w := w) (by go_grown) hB_v2; have hn_v2 := an (nl cc1) (an (nl cc3) (nl cc5)); clear hB_v2)
  (go_wp2_with fail; refine (HM _ (by first | assumption | infer_instance)).mono ?_; rintro en v3 ⟨rfl, hB_v3⟩; have lay_v3 := laid_after hB_v3; have hG := cell_grown cc1 (by go_grown) hB_v3; replace cc1 := cl hG cc1; replace cc2 := cl hG cc2; replace cc3 := cl hG cc3; replace cc4 := cl hG cc4; replace fcc5 := fl hG fcc5 cc5; replace cc5 := cl hG cc5; replace fcc6 := fl hG fcc6 cc6; replace cc6 := cl hG cc6; replace fcc7 := fl hG fcc7 cc7; replace cc7 := cl hG cc7; have hs_v3 := hG.size; clear hG; replace hBW : Below w.heap.size w v3 := below_after (w := w) (by go_grown) hB_v3; have hn_v3 := an (nl cc1) (an (nl cc3) (nl cc5)); clear hB_v3)
  go_upto_region 4 with fail
  ((first | refine wp_rename ?_ | refine goal_rename ?_); intro W4 hw_W4; have hG := named cc1 W4 (by rw [hw_W4]; first | with_reducible exact drewN_below (Below.refl _ _) _ | go_grown); replace cc1 := cl hG cc1; replace cc2 := cl hG cc2; replace cc3 := cl hG cc3; replace cc4 := cl hG cc4; replace fcc5 := fl hG fcc5 cc5; replace cc5 := cl hG cc5; replace fcc6 := fl hG fcc6 cc6; replace cc6 := cl hG cc6; replace fcc7 := fl hG fcc7 cc7; replace cc7 := cl hG cc7; have cc8 : W4.cell? ⟨v3.heap.size, 0, none⟩ = some (.int .u64 z0) := (by rw [hw_W4]; go_simp); have cc9 : W4.cell? ⟨v3.heap.size, 1, none⟩ = some (.int .u64 z1) := (by rw [hw_W4]; go_simp); have cc10 : W4.cell? ⟨v3.heap.size, 2, none⟩ = some (.int .u8 fg) := (by rw [hw_W4]; go_simp); replace hBW := below_after hBW hG; have hs_W4 := hG.size; clear hG; have hn_W4 := an (nl cc1) (an (nl cc3) (an (nl cc5) (nl cc8))); have lay_W4 : Laid W4 := Laid.below (w := w) (by assumption) hBW; clear hw_W4)
  go_wp2_with fail
  refine bodyPost_ret (by simp [results, Tryd.results14, go_sem, cc5, cc6, cc7]; try rfl) rfl ?_
  exact ⟨rfl, by go_grown⟩
set_option maxRecDepth 100000 in
set_option maxHeartbeats 8000000 in
theorem conv_inf (f g h l e xh xl z0 z1 : Int) (s : Bool) [hU : U8 f] [hV : U8 g] [U64 h] [U64 l] (w : World) [hLay : Laid w] (hf : decide (f < 4) = true) (hg : decide (g < 4) = true) (hn : Hid (nanB f (cat h l) = false))
    (u1 : Hid (sgnF f (cat h l) = s)) (u2 : Hid (classF f (cat h l) = 3)) (u3 : Hid (unE f (cat h l) = e)) (u4 : Hid (hi (unS f (cat h l)) = xh)) (u5 : Hid (lo (unS f (cat h l)) = xl)) (i0 : Hid (hi (makeF g s (2 * emaxS g + 1) 0) = z0)) (i1 : Hid (lo (makeF g s (2 * emaxS g + 1) 0) = z1)) :
    Calls Tryd.prog 14 #[.int .u8 f, .int .u8 g, .agg #[.int .u8 0, .bool false], .agg #[.int .u64 (h), .int .u64 (l)]] w fun en w' => en = .returned (.agg #[.int .u64 z0, .int .u64 z1, .int .u8 0]) ∧ Below w.heap.size w w' := by
  go_enter Tryd.func14, Tryd.ntmps14
  skip
  (go_wp2_with fail; refine (conv_known2 f g _ _ (by first | assumption | go_simp) (by first | assumption | go_simp) hf hg).mono ?_; rintro en v1 ⟨rfl, hB_v1⟩; have lay_v1 := laid_after hB_v1; have cc1 := cl hB_v1 (show World.cell? _ ⟨w.heap.size, 0, none⟩ = some (.int .u8 0) by go_simp); have cc2 := cl hB_v1 (show World.cell? _ ⟨w.heap.size, 1, none⟩ = some (.bool false) by go_simp); have cc3 := cl hB_v1 (show World.cell? _ ⟨w.heap.size + 1, 0, none⟩ = some (.int .u64 h) by go_simp); have cc4 := cl hB_v1 (show World.cell? _ ⟨w.heap.size + 1, 1, none⟩ = some (.int .u64 l) by go_simp); obtain ⟨cc5, fcc5⟩ := pf hB_v1 (show World.cell? _ ⟨w.heap.size + 1 + 1, 0, none⟩ = some (.int .u64 0) by go_simp) (by go_simp); obtain ⟨cc6, fcc6⟩ := pf hB_v1 (show World.cell? _ ⟨w.heap.size + 1 + 1, 1, none⟩ = some (.int .u64 0) by go_simp) (by go_simp); obtain ⟨cc7, fcc7⟩ := pf hB_v1 (show World.cell? _ ⟨w.heap.size + 1 + 1, 2, none⟩ = some (.int .u8 0) by go_simp) (by go_simp); have hs_v1 := hB_v1.size; (try simp only [World.size_alloc, World.size_setCell, World.size_drew] at hs_v1); have hBW : Below w.heap.size w v1 := below_after (w := w) (by go_grown) hB_v1; have hn_v1 := an (nl cc1) (an (nl cc3) (nl cc5)); clear hB_v1)
  (go_wp2_with fail; refine (mode_Known_b _ _).mono ?_; rintro en v2 ⟨rfl, hB_v2⟩; have lay_v2 := laid_after hB_v2; have hG := cell_grown cc1 (by go_grown) hB_v2; replace cc1 := cl hG cc1; replace cc2 := cl hG cc2; replace cc3 := cl hG cc3; replace cc4 := cl hG cc4; replace fcc5 := fl hG fcc5 cc5; replace cc5 := cl hG cc5; replace fcc6 := fl hG fcc6 cc6; replace cc6 := cl hG cc6; replace fcc7 := fl hG fcc7 cc7; replace cc7 := cl hG cc7; have hs_v2 := hG.size; clear hG; replace hBW : Below w.heap.size w v2 := below_after (w := w) (by go_grown) hB_v2; have hn_v2 := an (nl cc1) (an (nl cc3) (nl cc5)); clear hB_v2)
  (go_wp2_with fail; refine (move_no f g h l _ hg hn).mono ?_; rintro en v3 ⟨rfl, hB_v3⟩; have lay_v3 := laid_after hB_v3; have hG := cell_grown cc1 (by go_grown) hB_v3; replace cc1 := cl hG cc1; replace cc2 := cl hG cc2; replace cc3 := cl hG cc3; replace cc4 := cl hG cc4; replace fcc5 := fl hG fcc5 cc5; replace cc5 := cl hG cc5; replace fcc6 := fl hG fcc6 cc6; replace cc6 := cl hG cc6; replace fcc7 := fl hG fcc7 cc7; replace cc7 := cl hG cc7; have hs_v3 := hG.size; clear hG; replace hBW : Below w.heap.size w v3 := below_after (w := w) (by go_grown) hB_v3; have hn_v3 := an (nl cc1) (an (nl cc3) (nl cc5)); clear hB_v3)
  (go_wp2_with fail; refine (fields_Unpack f h l _).mono ?_; rw [u1.out, u2.out, u3.out, u4.out, u5.out]; rintro en v4 ⟨rfl, hB_v4⟩; have lay_v4 := laid_after hB_v4; have hG := cell_grown cc1 (by go_grown) hB_v4; replace cc1 := cl hG cc1; replace cc2 := cl hG cc2; replace cc3 := cl hG cc3; replace cc4 := cl hG cc4; replace fcc5 := fl hG fcc5 cc5; replace cc5 := cl hG cc5; replace fcc6 := fl hG fcc6 cc6; replace cc6 := cl hG cc6; replace fcc7 := fl hG fcc7 cc7; replace cc7 := cl hG cc7; have cc8 := cl hB_v4 (show World.cell? _ ⟨v3.heap.size, 0, none⟩ = some (.int .u64 0) by go_simp); have cc9 := cl hB_v4 (show World.cell? _ ⟨v3.heap.size, 1, none⟩ = some (.int .u64 0) by go_simp); have cc10 := cl hB_v4 (show World.cell? _ ⟨v3.heap.size, 2, none⟩ = some (.int .u8 0) by go_simp); have hs_v4 := hG.size; clear hG; replace hBW : Below w.heap.size w v4 := below_after (w := w) (by go_grown) hB_v4; have hn_v4 := an (nl cc1) (an (nl cc3) (an (nl cc5) (nl cc8))); clear hB_v4)
  (go_wp2_with fail; refine (format_Inf g s _).mono ?_; rw [i0.out, i1.out]; rintro en v5 ⟨rfl, hB_v5⟩; have lay_v5 := laid_after hB_v5; have hG := cell_grown cc1 (by go_grown) hB_v5; replace cc1 := cl hG cc1; replace cc2 := cl hG cc2; replace cc3 := cl hG cc3; replace cc4 := cl hG cc4; replace fcc5 := fl hG fcc5 cc5; replace cc5 := cl hG cc5; replace fcc6 := fl hG fcc6 cc6; replace cc6 := cl hG cc6; replace fcc7 := fl hG fcc7 cc7; replace cc7 := cl hG cc7; replace cc8 := cl hG cc8; replace cc9 := cl hG cc9; replace cc10 := cl hG cc10; have cc11 := cl hB_v5 (show World.cell? _ ⟨v4.heap.size, 0, none⟩ = some (.bool s) by go_simp); have cc12 := cl hB_v5 (show World.cell? _ ⟨v4.heap.size, 1, none⟩ = some (.int .u8 3) by go_simp); have cc13 := cl hB_v5 (show World.cell? _ ⟨v4.heap.size, 2, none⟩ = some (.int .i64 e) by go_simp); have cc14 := cl hB_v5 (show World.cell? _ ⟨v4.heap.size, 3, none⟩ = some (.int .u64 xh) by go_simp); have cc15 := cl hB_v5 (show World.cell? _ ⟨v4.heap.size, 4, none⟩ = some (.int .u64 xl) by go_simp); have hs_v5 := hG.size; clear hG; replace hBW : Below w.heap.size w v5 := below_after (w := w) (by go_grown) hB_v5; have hn_v5 := an (nl cc1) (an (nl cc3) (an (nl cc5) (an (nl cc8) (nl cc11)))); clear hB_v5)
  go_wp2_with fail
  refine bodyPost_ret (by simp [results, Tryd.results14, go_sem, cc5, cc6, cc7]; try rfl) rfl ?_
  exact ⟨rfl, by go_grown⟩
set_option maxRecDepth 100000 in
set_option maxHeartbeats 8000000 in
theorem conv_fin (f g h l c e xh xl z0 z1 fg : Int) (s : Bool) [hU : U8 f] [hV : U8 g] [U64 h] [U64 l] [U64 xh] [U64 xl] (w : World) [hLay : Laid w] (hf : decide (f < 4) = true) (hg : decide (g < 4) = true) (hn : Hid (nanB f (cat h l) = false))
    (u1 : Hid (sgnF f (cat h l) = s)) (u2 : Hid (classF f (cat h l) = c)) (hc : (c == 3) = false) (u3 : Hid (unE f (cat h l) = e)) (u4 : Hid (hi (unS f (cat h l)) = xh)) (u5 : Hid (lo (unS f (cat h l)) = xl)) (i0 : Hid (hi (resB g 0 s e (cat4 0 0 xl xh)) = z0)) (i1 : Hid (lo (resB g 0 s e (cat4 0 0 xl xh)) = z1)) (i2 : Hid (resFl g 0 false s e (cat4 0 0 xl xh) = fg)) :
    Calls Tryd.prog 14 #[.int .u8 f, .int .u8 g, .agg #[.int .u8 0, .bool false], .agg #[.int .u64 (h), .int .u64 (l)]] w fun en w' => en = .returned (.agg #[.int .u64 z0, .int .u64 z1, .int .u8 fg]) ∧ Below w.heap.size w w' := by
  go_enter Tryd.func14, Tryd.ntmps14
  skip
  (go_wp2_with fail; refine (conv_known2 f g _ _ (by first | assumption | go_simp) (by first | assumption | go_simp) hf hg).mono ?_; rintro en v1 ⟨rfl, hB_v1⟩; have lay_v1 := laid_after hB_v1; have cc1 := cl hB_v1 (show World.cell? _ ⟨w.heap.size, 0, none⟩ = some (.int .u8 0) by go_simp); have cc2 := cl hB_v1 (show World.cell? _ ⟨w.heap.size, 1, none⟩ = some (.bool false) by go_simp); have cc3 := cl hB_v1 (show World.cell? _ ⟨w.heap.size + 1, 0, none⟩ = some (.int .u64 h) by go_simp); have cc4 := cl hB_v1 (show World.cell? _ ⟨w.heap.size + 1, 1, none⟩ = some (.int .u64 l) by go_simp); obtain ⟨cc5, fcc5⟩ := pf hB_v1 (show World.cell? _ ⟨w.heap.size + 1 + 1, 0, none⟩ = some (.int .u64 0) by go_simp) (by go_simp); obtain ⟨cc6, fcc6⟩ := pf hB_v1 (show World.cell? _ ⟨w.heap.size + 1 + 1, 1, none⟩ = some (.int .u64 0) by go_simp) (by go_simp); obtain ⟨cc7, fcc7⟩ := pf hB_v1 (show World.cell? _ ⟨w.heap.size + 1 + 1, 2, none⟩ = some (.int .u8 0) by go_simp) (by go_simp); have hs_v1 := hB_v1.size; (try simp only [World.size_alloc, World.size_setCell, World.size_drew] at hs_v1); have hBW : Below w.heap.size w v1 := below_after (w := w) (by go_grown) hB_v1; have hn_v1 := an (nl cc1) (an (nl cc3) (nl cc5)); clear hB_v1)
  (go_wp2_with fail; refine (mode_Known_b _ _).mono ?_; rintro en v2 ⟨rfl, hB_v2⟩; have lay_v2 := laid_after hB_v2; have hG := cell_grown cc1 (by go_grown) hB_v2; replace cc1 := cl hG cc1; replace cc2 := cl hG cc2; replace cc3 := cl hG cc3; replace cc4 := cl hG cc4; replace fcc5 := fl hG fcc5 cc5; replace cc5 := cl hG cc5; replace fcc6 := fl hG fcc6 cc6; replace cc6 := cl hG cc6; replace fcc7 := fl hG fcc7 cc7; replace cc7 := cl hG cc7; have hs_v2 := hG.size; clear hG; replace hBW : Below w.heap.size w v2 := below_after (w := w) (by go_grown) hB_v2; have hn_v2 := an (nl cc1) (an (nl cc3) (nl cc5)); clear hB_v2)
  (go_wp2_with fail; refine (move_no f g h l _ hg hn).mono ?_; rintro en v3 ⟨rfl, hB_v3⟩; have lay_v3 := laid_after hB_v3; have hG := cell_grown cc1 (by go_grown) hB_v3; replace cc1 := cl hG cc1; replace cc2 := cl hG cc2; replace cc3 := cl hG cc3; replace cc4 := cl hG cc4; replace fcc5 := fl hG fcc5 cc5; replace cc5 := cl hG cc5; replace fcc6 := fl hG fcc6 cc6; replace cc6 := cl hG cc6; replace fcc7 := fl hG fcc7 cc7; replace cc7 := cl hG cc7; have hs_v3 := hG.size; clear hG; replace hBW : Below w.heap.size w v3 := below_after (w := w) (by go_grown) hB_v3; have hn_v3 := an (nl cc1) (an (nl cc3) (nl cc5)); clear hB_v3)
  (go_wp2_with fail; refine (fields_Unpack f h l _).mono ?_; rw [u1.out, u2.out, u3.out, u4.out, u5.out]; rintro en v4 ⟨rfl, hB_v4⟩; have lay_v4 := laid_after hB_v4; have hG := cell_grown cc1 (by go_grown) hB_v4; replace cc1 := cl hG cc1; replace cc2 := cl hG cc2; replace cc3 := cl hG cc3; replace cc4 := cl hG cc4; replace fcc5 := fl hG fcc5 cc5; replace cc5 := cl hG cc5; replace fcc6 := fl hG fcc6 cc6; replace cc6 := cl hG cc6; replace fcc7 := fl hG fcc7 cc7; replace cc7 := cl hG cc7; have cc8 := cl hB_v4 (show World.cell? _ ⟨v3.heap.size, 0, none⟩ = some (.int .u64 0) by go_simp); have cc9 := cl hB_v4 (show World.cell? _ ⟨v3.heap.size, 1, none⟩ = some (.int .u64 0) by go_simp); have cc10 := cl hB_v4 (show World.cell? _ ⟨v3.heap.size, 2, none⟩ = some (.int .u8 0) by go_simp); have hs_v4 := hG.size; clear hG; replace hBW : Below w.heap.size w v4 := below_after (w := w) (by go_grown) hB_v4; have hn_v4 := an (nl cc1) (an (nl cc3) (an (nl cc5) (nl cc8))); clear hB_v4)
  go_upto_region 9 with fail
  ((first | refine wp_rename ?_ | refine goal_rename ?_); intro W9 hw_W9; have hG := named cc1 W9 (by rw [hw_W9]; first | with_reducible exact drewN_below (Below.refl _ _) _ | go_grown); replace cc1 := cl hG cc1; replace cc2 := cl hG cc2; replace cc3 := cl hG cc3; replace cc4 := cl hG cc4; replace fcc5 := fl hG fcc5 cc5; replace cc5 := cl hG cc5; replace fcc6 := fl hG fcc6 cc6; replace cc6 := cl hG cc6; replace fcc7 := fl hG fcc7 cc7; replace cc7 := cl hG cc7; replace cc8 := cl hG cc8; replace cc9 := cl hG cc9; replace cc10 := cl hG cc10; have cc11 : W9.cell? ⟨v4.heap.size, 0, none⟩ = some (.bool s) := (by rw [hw_W9]; go_simp); have cc12 : W9.cell? ⟨v4.heap.size, 1, none⟩ = some (.int .u8 c) := (by rw [hw_W9]; go_simp); have cc13 : W9.cell? ⟨v4.heap.size, 2, none⟩ = some (.int .i64 e) := (by rw [hw_W9]; go_simp); have cc14 : W9.cell? ⟨v4.heap.size, 3, none⟩ = some (.int .u64 xh) := (by rw [hw_W9]; go_simp); have cc15 : W9.cell? ⟨v4.heap.size, 4, none⟩ = some (.int .u64 xl) := (by rw [hw_W9]; go_simp); replace hBW := below_after hBW hG; have hs_W9 := hG.size; clear hG; have hn_W9 := an (nl cc1) (an (nl cc3) (an (nl cc5) (an (nl cc8) (nl cc11)))); have lay_W9 : Laid W9 := Laid.below (w := w) (by assumption) hBW; clear hw_W9)
  refine Lin.wp_region_lin (by kernel_rfl) (by intro _ _ d _ _ h; cases d <;> exact h) (by kernel_rfl) (fun w' => Below W9.heap.size W9 w' ∧ w'.cell? ⟨w.heap.size, 0, none⟩ = some (.int .u8 0) ∧ w'.cell? ⟨w.heap.size, 1, none⟩ = some (.bool false) ∧ w'.cell? ⟨v4.heap.size, 0, none⟩ = some (.bool s) ∧ w'.cell? ⟨v4.heap.size, 1, none⟩ = some (.int .u8 c) ∧ w'.cell? ⟨v4.heap.size, 2, none⟩ = some (.int .i64 e) ∧ w'.cell? ⟨v4.heap.size, 3, none⟩ = some (.int .u64 xh) ∧ w'.cell? ⟨v4.heap.size, 4, none⟩ = some (.int .u64 xl)) ⟨(Below.refl _ _).drew, by go_simp, by go_simp, by go_simp, by go_simp, by go_simp, by go_simp, by go_simp⟩ ?_
  simp only [List.length_cons, List.length_nil, Nat.reduceAdd]
  refine Lin.Blk.out ?_
  iterate 9 (refine Lin.bl_val rfl rfl rfl ?_; apply Exists.intro; refine ⟨fun w' hw' => ?_, ?_⟩; (focus (have hBw := hw'.1; have hSw := hw'.2; clear hw'; (try dsimp only at hBw hSw); go_simp; first | with_reducible exact Lin.lin_value | with_reducible exact Lin.lin_skip)); (try simp only [Act.put, List.setIfInBounds_toArray, List.set_cons_zero, List.set_cons_succ]))
  iterate 2 (refine Lin.bl_val rfl rfl rfl ?_; apply Exists.intro; refine ⟨fun w' hw' => ?_, ?_⟩; (focus (have hBw := hw'.1; have hSw := hw'.2; clear hw'; (try dsimp only at hBw hSw); have lay' : Laid w' := Laid.below lay_W9 hBw; go_simp; first | exact Lin.lin_ret (wide_Join _ _ _ _ _) rfl | exact Lin.lin_ret (pack_Round _ _ _ _ _ _ _ _ _ _) (by rw [i0.out, i1.out, i2.out]))); (try simp only [Act.put, List.setIfInBounds_toArray, List.set_cons_zero, List.set_cons_succ]))
  refine Lin.bl_rest rfl ?_
  refine Lin.bl_end ?_
  refine Lin.fin0 (fun wa wb hc hb => ⟨hc.1.trans (hb.mono hc.1.size), cell_later hb hc.2.1, cell_later hb hc.2.2.1, cell_later hb hc.2.2.2.1, cell_later hb hc.2.2.2.2.1, cell_later hb hc.2.2.2.2.2.1, cell_later hb hc.2.2.2.2.2.2.1, cell_later hb hc.2.2.2.2.2.2.2⟩) (by kernel_rfl) ?_
  intro X9 hw_X9
  have hb_X9 := hw_X9.1; clear hw_X9
  have lay_X9 : Laid X9 := Laid.below lay_W9 hb_X9
  (replace cc1 := cl hb_X9 cc1; replace cc2 := cl hb_X9 cc2; replace cc3 := cl hb_X9 cc3; replace cc4 := cl hb_X9 cc4; replace fcc5 := fl hb_X9 fcc5 cc5; replace cc5 := cl hb_X9 cc5; replace fcc6 := fl hb_X9 fcc6 cc6; replace cc6 := cl hb_X9 cc6; replace fcc7 := fl hb_X9 fcc7 cc7; replace cc7 := cl hb_X9 cc7; replace cc8 := cl hb_X9 cc8; replace cc9 := cl hb_X9 cc9; replace cc10 := cl hb_X9 cc10; replace cc11 := cl hb_X9 cc11; replace cc12 := cl hb_X9 cc12; replace cc13 := cl hb_X9 cc13; replace cc14 := cl hb_X9 cc14; replace cc15 := cl hb_X9 cc15; replace hBW := below_after hBW hb_X9; have hsb_X9 := hb_X9.size; have hn_X9 := an (nl cc1) (an (nl cc3) (an (nl cc5) (an (nl cc8) (nl cc11)))))
  (refine wpAny_ready (rs := [11]) (by kernel_rfl) (by simp) ?_; refine AllReady.cons rfl (fun K hK => ?_) AllReady.nil; go_simp; refine hK _ _ ?_; clear hK K)
  refine wpAny_done (by kernel_rfl) ?_ _
  apply_assumption
  ((first | refine wp_rename ?_ | refine goal_rename ?_); intro X9s hw_X9s; replace cc1 := rn hw_X9s cc1 (by go_simp); replace cc2 := rn hw_X9s cc2 (by go_simp); replace cc3 := rn hw_X9s cc3 (by go_simp); replace cc4 := rn hw_X9s cc4 (by go_simp); replace cc5 : X9s.cell? ⟨w.heap.size + 1 + 1, 0, none⟩ = some (.int .u64 z0) := (by rw [hw_X9s]; go_simp); replace fcc5 := rf hw_X9s fcc5 (by go_simp); replace cc6 : X9s.cell? ⟨w.heap.size + 1 + 1, 1, none⟩ = some (.int .u64 z1) := (by rw [hw_X9s]; go_simp); replace fcc6 := rf hw_X9s fcc6 (by go_simp); replace cc7 : X9s.cell? ⟨w.heap.size + 1 + 1, 2, none⟩ = some (.int .u8 fg) := (by rw [hw_X9s]; go_simp); replace fcc7 := rf hw_X9s fcc7 (by go_simp); replace cc8 := rn hw_X9s cc8 (by go_simp); replace cc9 := rn hw_X9s cc9 (by go_simp); replace cc10 := rn hw_X9s cc10 (by go_simp); replace cc11 := rn hw_X9s cc11 (by go_simp); replace cc12 := rn hw_X9s cc12 (by go_simp); replace cc13 := rn hw_X9s cc13 (by go_simp); replace cc14 := rn hw_X9s cc14 (by go_simp); replace cc15 := rn hw_X9s cc15 (by go_simp); replace hBW : Below w.heap.size w X9s := (by rw [hw_X9s]; (first | with_reducible exact drewN_below (by assumption) _ | go_grown)); have hn_X9s := an (nl cc1) (an (nl cc3) (an (nl cc5) (an (nl cc8) (nl cc11)))); have lay_X9s : Laid X9s := Laid.below (w := w) (by assumption) hBW; clear hw_X9s)
  go_wp2_with fail
  refine bodyPost_ret (by simp [results, Tryd.results14, go_sem, cc5, cc6, cc7]; try rfl) rfl ?_
  exact ⟨rfl, by go_grown⟩
end Go.Proofs.YthbpbbbngablpaaDoor
