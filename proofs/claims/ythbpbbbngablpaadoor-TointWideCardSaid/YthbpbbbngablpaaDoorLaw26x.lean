/- TointWide: the walk: for every input. Condition: the listed tables are laid. -/
import Derived.Test.YthbpbbbngablpaaDoorConv
import Derived.Test.YthbpbbbngablpaaDoorConvP
import Derived.Test.YthbpbbbngablpaaDoorLaw26a
set_option linter.unusedSimpArgs false
set_option linter.unusedVariables false
namespace Go.Proofs.YthbpbbbngablpaaDoor
open Go.RowKit Go.Hb
set_option maxRecDepth 100000 in
set_option maxHeartbeats 4000000 in
theorem tw_out (f g k m h l : Int) [hU : U8 f] [hV : U8 g] [hK : U8 k] [hM : U8 m] [U64 h] [U64 l] (w : World) [hLay : Laid w] [hLE : LaidE w]
    (hq : decide (f < 4) = false ∨ (decide (f < 4) = true ∧ decide (g < 4) = false) ∨ (decide (f < 4) = true ∧ decide (g < 4) = true ∧ decide (g < f) = true)) :
    Calls Tryd.prog 4 #[.int .u8 f, .int .u8 g, .int .u8 k, .int .u8 m, .agg #[.int .u64 (h), .int .u64 (l)]] w fun en w' => en = .returned (.bool true) ∧ Below w.heap.size w w' := by
  rcases hq with q1 | ⟨q1, q2⟩ | ⟨q1, q2, q3⟩
  · go_enter Tryd.func4, Tryd.ntmps4
    skip
    (go_wp2_with fail; refine (format_Known_b f _).mono ?_; rw [q1]; rintro en v1 ⟨rfl, hB_v1⟩; have lay_v1 := laid_after hB_v1; (try have layE_v1 := laidE_after hB_v1); have cc1 := cl hB_v1 (show World.cell? _ ⟨w.heap.size, 0, none⟩ = some (.int .u64 h) by go_simp); have cc2 := cl hB_v1 (show World.cell? _ ⟨w.heap.size, 1, none⟩ = some (.int .u64 l) by go_simp); have hs_v1 := hB_v1.size; (try simp only [World.size_alloc, World.size_setCell, World.size_drew] at hs_v1); have hBW : Below w.heap.size w v1 := below_after (w := w) (by go_grown) hB_v1; have hn_v1 := nl cc1; clear hB_v1)
    (go_wp2_with fail; refine (law26_goes _).mono ?_; rintro en v3 ⟨rfl, hB_v3⟩; have lay_v3 := laid_after hB_v3; (try have layE_v3 := laidE_after hB_v3); have hG := cell_grown cc1 (by go_grown) hB_v3; replace cc1 := cl hG cc1; replace cc2 := cl hG cc2; have hs_v3 := hG.size; clear hG; replace hBW : Below w.heap.size w v3 := below_after (w := w) (by go_grown) hB_v3; have hn_v3 := nl cc1; clear hB_v3)
    go_wp2_with fail
    go_returns
    exact ⟨rfl, by go_grown⟩
  · go_enter Tryd.func4, Tryd.ntmps4
    skip
    (go_wp2_with fail; refine (format_Known_b f _).mono ?_; rw [q1]; rintro en v1 ⟨rfl, hB_v1⟩; have lay_v1 := laid_after hB_v1; (try have layE_v1 := laidE_after hB_v1); have cc1 := cl hB_v1 (show World.cell? _ ⟨w.heap.size, 0, none⟩ = some (.int .u64 h) by go_simp); have cc2 := cl hB_v1 (show World.cell? _ ⟨w.heap.size, 1, none⟩ = some (.int .u64 l) by go_simp); have hs_v1 := hB_v1.size; (try simp only [World.size_alloc, World.size_setCell, World.size_drew] at hs_v1); have hBW : Below w.heap.size w v1 := below_after (w := w) (by go_grown) hB_v1; have hn_v1 := nl cc1; clear hB_v1)
    (go_wp2_with fail; refine (format_Known_b g _).mono ?_; rw [q2]; rintro en v2 ⟨rfl, hB_v2⟩; have lay_v2 := laid_after hB_v2; (try have layE_v2 := laidE_after hB_v2); have hG := cell_grown cc1 (by go_grown) hB_v2; replace cc1 := cl hG cc1; replace cc2 := cl hG cc2; have hs_v2 := hG.size; clear hG; replace hBW : Below w.heap.size w v2 := below_after (w := w) (by go_grown) hB_v2; have hn_v2 := nl cc1; clear hB_v2)
    (go_wp2_with fail; refine (law26_goes _).mono ?_; rintro en v3 ⟨rfl, hB_v3⟩; have lay_v3 := laid_after hB_v3; (try have layE_v3 := laidE_after hB_v3); have hG := cell_grown cc1 (by go_grown) hB_v3; replace cc1 := cl hG cc1; replace cc2 := cl hG cc2; have hs_v3 := hG.size; clear hG; replace hBW : Below w.heap.size w v3 := below_after (w := w) (by go_grown) hB_v3; have hn_v3 := nl cc1; clear hB_v3)
    go_wp2_with fail
    go_returns
    exact ⟨rfl, by go_grown⟩
  · go_enter Tryd.func4, Tryd.ntmps4
    skip
    (go_wp2_with fail; refine (format_Known_b f _).mono ?_; rw [q1]; rintro en v1 ⟨rfl, hB_v1⟩; have lay_v1 := laid_after hB_v1; (try have layE_v1 := laidE_after hB_v1); have cc1 := cl hB_v1 (show World.cell? _ ⟨w.heap.size, 0, none⟩ = some (.int .u64 h) by go_simp); have cc2 := cl hB_v1 (show World.cell? _ ⟨w.heap.size, 1, none⟩ = some (.int .u64 l) by go_simp); have hs_v1 := hB_v1.size; (try simp only [World.size_alloc, World.size_setCell, World.size_drew] at hs_v1); have hBW : Below w.heap.size w v1 := below_after (w := w) (by go_grown) hB_v1; have hn_v1 := nl cc1; clear hB_v1)
    (go_wp2_with fail; refine (format_Known_b g _).mono ?_; rw [q2]; rintro en v2 ⟨rfl, hB_v2⟩; have lay_v2 := laid_after hB_v2; (try have layE_v2 := laidE_after hB_v2); have hG := cell_grown cc1 (by go_grown) hB_v2; replace cc1 := cl hG cc1; replace cc2 := cl hG cc2; have hs_v2 := hG.size; clear hG; replace hBW : Below w.heap.size w v2 := below_after (w := w) (by go_grown) hB_v2; have hn_v2 := nl cc1; clear hB_v2)
    (go_wp2_with fail; refine (law26_goes _).mono ?_; rintro en v3 ⟨rfl, hB_v3⟩; have lay_v3 := laid_after hB_v3; (try have layE_v3 := laidE_after hB_v3); have hG := cell_grown cc1 (by go_grown) hB_v3; replace cc1 := cl hG cc1; replace cc2 := cl hG cc2; have hs_v3 := hG.size; clear hG; replace hBW : Below w.heap.size w v3 := below_after (w := w) (by go_grown) hB_v3; have hn_v3 := nl cc1; clear hB_v3)
    go_wp2_with fail
    go_returns
    exact ⟨rfl, by go_grown⟩
set_option maxRecDepth 100000 in
set_option maxHeartbeats 4000000 in
theorem tw_in (f g k m h l z0 z1 fg x y : Int) [hU : U8 f] [hV : U8 g] [hK : U8 k] [hM : U8 m] [U64 h] [U64 l] [U64 z0] [U64 z1] (w : World) [hLay : Laid w] [hLE : LaidE w]
    (q1 : decide (f < 4) = true) (q2 : decide (g < 4) = true) (q3 : decide (g < f) = false)
    (HC : ∀ W : World, Laid W → Calls Tryd.prog 14 #[.int .u8 f, .int .u8 g, .agg #[.int .u8 0, .bool false], .agg #[.int .u64 (h), .int .u64 (l)]] W fun en w' => en = .returned (.agg #[.int .u64 z0, .int .u64 z1, .int .u8 fg]) ∧ Below W.heap.size W w')
    (a0 : Hid (intV f k m (cat h l) = x)) (a1 : Hid (intF f k m (cat h l) = y)) (b0 : Hid (intV g k m (cat z0 z1) = x)) (b1 : Hid (intF g k m (cat z0 z1) = y)) :
    Calls Tryd.prog 4 #[.int .u8 f, .int .u8 g, .int .u8 k, .int .u8 m, .agg #[.int .u64 (h), .int .u64 (l)]] w fun en w' => en = .returned (.bool true) ∧ Below w.heap.size w w' := by
  have he := fun W => eql_whole_same W x y
  have hT1 : ∀ W : World, Laid W → LaidE W → Calls Tryd.prog 13 #[.int .u8 f, .int .u8 k, .int .u8 m, .agg #[.int .u64 (h), .int .u64 (l)]] W fun en w' => en = .returned (.agg #[.int .u64 x, .int .u8 y]) ∧ Below W.heap.size W w' := fun W _ _ => by
    rw [← a0.out, ← a1.out]; exact toint_Int f k m h l W
  have hT2 : ∀ W : World, Laid W → LaidE W → Calls Tryd.prog 13 #[.int .u8 g, .int .u8 k, .int .u8 m, .agg #[.int .u64 (z0), .int .u64 (z1)]] W fun en w' => en = .returned (.agg #[.int .u64 x, .int .u8 y]) ∧ Below W.heap.size W w' := fun W _ _ => by
    rw [← b0.out, ← b1.out]; exact toint_Int g k m z0 z1 W
  go_enter Tryd.func4, Tryd.ntmps4
  skip
  (go_wp2_with fail; refine (format_Known_b f _).mono ?_; rw [q1]; rintro en v1 ⟨rfl, hB_v1⟩; have lay_v1 := laid_after hB_v1; (try have layE_v1 := laidE_after hB_v1); have cc1 := cl hB_v1 (show World.cell? _ ⟨w.heap.size, 0, none⟩ = some (.int .u64 h) by go_simp); have cc2 := cl hB_v1 (show World.cell? _ ⟨w.heap.size, 1, none⟩ = some (.int .u64 l) by go_simp); have hs_v1 := hB_v1.size; (try simp only [World.size_alloc, World.size_setCell, World.size_drew] at hs_v1); have hBW : Below w.heap.size w v1 := below_after (w := w) (by go_grown) hB_v1; have hn_v1 := nl cc1; clear hB_v1)
  (go_wp2_with fail; refine (format_Known_b g _).mono ?_; rw [q2]; rintro en v2 ⟨rfl, hB_v2⟩; have lay_v2 := laid_after hB_v2; (try have layE_v2 := laidE_after hB_v2); have hG := cell_grown cc1 (by go_grown) hB_v2; replace cc1 := cl hG cc1; replace cc2 := cl hG cc2; have hs_v2 := hG.size; clear hG; replace hBW : Below w.heap.size w v2 := below_after (w := w) (by go_grown) hB_v2; have hn_v2 := nl cc1; clear hB_v2)
  go_upto_region 3 with fail
  ((first | refine wp_rename ?_ | refine goal_rename ?_); intro W3 hw_W3; have hG := named cc1 W3 (by rw [hw_W3]; first | with_reducible exact drewN_below (Below.refl _ _) _ | go_grown); replace cc1 := cl hG cc1; replace cc2 := cl hG cc2; replace hBW := below_after hBW hG; have hs_W3 := hG.size; clear hG; have hn_W3 := nl cc1; have lay_W3 : Laid W3 := Laid.below (w := w) (by assumption) hBW; (try have layE_W3 : LaidE W3 := LaidE.below (w := w) (by assumption) hBW); clear hw_W3)
  refine Lin.wp_region_lin (by kernel_rfl) (by intro _ _ d _ _ h; cases d <;> exact h) (by kernel_rfl) (fun w' => Below W3.heap.size W3 w' ∧ w'.cell? ⟨w.heap.size, 0, none⟩ = some (.int .u64 h) ∧ w'.cell? ⟨w.heap.size, 1, none⟩ = some (.int .u64 l)) ⟨(Below.refl _ _).drew, by go_simp, by go_simp⟩ ?_
  simp only [List.length_cons, List.length_nil, Nat.reduceAdd]
  refine Lin.Blk.out ?_
  iterate 4 (refine Lin.bl_val rfl rfl rfl ?_; apply Exists.intro; refine ⟨fun w' hw' => ?_, ?_⟩; (focus (have hBw := hw'.1; have hSw := hw'.2; clear hw'; (try dsimp only at hBw hSw); go_simp; first | with_reducible exact Lin.lin_value | with_reducible exact Lin.lin_skip)); (try simp only [Act.put, List.setIfInBounds_toArray, List.set_cons_zero, List.set_cons_succ]))
  (refine Lin.bl_val rfl rfl rfl ?_; apply Exists.intro; refine ⟨fun w' hw' => ?_, ?_⟩; (focus (have hBw := hw'.1; have hSw := hw'.2; clear hw'; (try dsimp only at hBw hSw); have lay' : Laid w' := Laid.below lay_W3 hBw; (try have layE' : LaidE w' := LaidE.below layE_W3 hBw); go_simp; first | with_reducible exact Lin.lin_ret (hT1 _ lay' layE') rfl | with_reducible exact Lin.lin_ret (hT2 _ lay' layE') rfl | with_reducible exact Lin.lin_ret (HC _ lay') rfl | exact Lin.lin_ret (law26_goes _) rfl)); (try simp only [Act.put, List.setIfInBounds_toArray, List.set_cons_zero, List.set_cons_succ]))
  iterate 7 (refine Lin.bl_val rfl rfl rfl ?_; apply Exists.intro; refine ⟨fun w' hw' => ?_, ?_⟩; (focus (have hBw := hw'.1; have hSw := hw'.2; clear hw'; (try dsimp only at hBw hSw); go_simp; first | with_reducible exact Lin.lin_value | with_reducible exact Lin.lin_skip)); (try simp only [Act.put, List.setIfInBounds_toArray, List.set_cons_zero, List.set_cons_succ]))
  (refine Lin.bl_val rfl rfl rfl ?_; apply Exists.intro; refine ⟨fun w' hw' => ?_, ?_⟩; (focus (have hBw := hw'.1; have hSw := hw'.2; clear hw'; (try dsimp only at hBw hSw); have lay' : Laid w' := Laid.below lay_W3 hBw; (try have layE' : LaidE w' := LaidE.below layE_W3 hBw); go_simp; first | with_reducible exact Lin.lin_ret (hT1 _ lay' layE') rfl | with_reducible exact Lin.lin_ret (hT2 _ lay' layE') rfl | with_reducible exact Lin.lin_ret (HC _ lay') rfl | exact Lin.lin_ret (law26_goes _) rfl)); (try simp only [Act.put, List.setIfInBounds_toArray, List.set_cons_zero, List.set_cons_succ]))
  (refine Lin.bl_val rfl rfl rfl ?_; apply Exists.intro; refine ⟨fun w' hw' => ?_, ?_⟩; (focus (have hBw := hw'.1; have hSw := hw'.2; clear hw'; (try dsimp only at hBw hSw); go_simp; first | with_reducible exact Lin.lin_value | with_reducible exact Lin.lin_skip)); (try simp only [Act.put, List.setIfInBounds_toArray, List.set_cons_zero, List.set_cons_succ]))
  (refine Lin.bl_val rfl rfl rfl ?_; apply Exists.intro; refine ⟨fun w' hw' => ?_, ?_⟩; (focus (have hBw := hw'.1; have hSw := hw'.2; clear hw'; (try dsimp only at hBw hSw); have lay' : Laid w' := Laid.below lay_W3 hBw; (try have layE' : LaidE w' := LaidE.below layE_W3 hBw); go_simp; first | with_reducible exact Lin.lin_ret (hT1 _ lay' layE') rfl | with_reducible exact Lin.lin_ret (hT2 _ lay' layE') rfl | with_reducible exact Lin.lin_ret (HC _ lay') rfl | exact Lin.lin_ret (law26_goes _) rfl)); (try simp only [Act.put, List.setIfInBounds_toArray, List.set_cons_zero, List.set_cons_succ]))
  iterate 2 (refine Lin.bl_val rfl rfl rfl ?_; apply Exists.intro; refine ⟨fun w' hw' => ?_, ?_⟩; (focus (have hBw := hw'.1; have hSw := hw'.2; clear hw'; (try dsimp only at hBw hSw); go_simp; first | with_reducible exact Lin.lin_value | with_reducible exact Lin.lin_skip)); (try simp only [Act.put, List.setIfInBounds_toArray, List.set_cons_zero, List.set_cons_succ]))
  (refine Lin.bl_val rfl rfl (by kernel_rfl) ?_; apply Exists.intro; refine ⟨fun w' hw' => ?_, ?_⟩; (focus (have hBw := hw'.1; have hSw := hw'.2; clear hw'; (try dsimp only at hBw hSw); have lay' : Laid w' := Laid.below lay_W3 hBw; (try have layE' : LaidE w' := LaidE.below layE_W3 hBw); go_simp; first | with_reducible exact Lin.lin_ret (hT1 _ lay' layE') rfl | with_reducible exact Lin.lin_ret (hT2 _ lay' layE') rfl | with_reducible exact Lin.lin_ret (HC _ lay') rfl | exact Lin.lin_ret (law26_goes _) rfl)); (try simp only [Act.put, List.setIfInBounds_toArray, List.set_cons_zero, List.set_cons_succ]))
  (refine Lin.bl_val rfl rfl rfl ?_; apply Exists.intro; refine ⟨fun w' hw' => ?_, ?_⟩; (focus (have hBw := hw'.1; have hSw := hw'.2; clear hw'; (try dsimp only at hBw hSw); go_simp; first | with_reducible exact Lin.lin_value | with_reducible exact Lin.lin_skip)); (try simp only [Act.put, List.setIfInBounds_toArray, List.set_cons_zero, List.set_cons_succ]))
  refine Lin.bl_rest rfl ?_
  refine Lin.bl_end ?_
  refine Lin.fin0 (fun wa wb hc hb => ⟨hc.1.trans (hb.mono hc.1.size), cell_later hb hc.2.1, cell_later hb hc.2.2⟩) (by kernel_rfl) ?_
  intro X hw_X
  have hb_X := hw_X.1; clear hw_X
  have lay_X : Laid X := Laid.below lay_W3 hb_X; (try have layE_X : LaidE X := LaidE.below layE_W3 hb_X)
  (replace cc1 := cl hb_X cc1; replace cc2 := cl hb_X cc2; replace hBW := below_after hBW hb_X; have hsb_X := hb_X.size; have hn_X := nl cc1)
  (refine wpAny_ready (rs := [19]) (by kernel_rfl) (by simp) ?_; refine AllReady.cons rfl (fun K hK => ?_) AllReady.nil; go_simp; refine hK _ _ ?_; clear hK K)
  refine wpAny_done (by kernel_rfl) ?_ _
  apply_assumption
  (first | refine wp_rename ?_ | refine goal_rename ?_); intro X_ hw_X; subst hw_X
  go_wp2_with fail
  go_returns
  exact ⟨rfl, by go_grown⟩
theorem up_two (v : Nat) (h : v < 2 ^ 128) : cat4 0 0 (lo v) (hi v) = up128 v := by rw [cat4_join, cat_small _ h]; rfl
theorem conv_any (f g h l : Int) [hU : U8 f] [hV : U8 g] [U64 h] [U64 l] (hf : f < 4) (hg : g < 4) (hfg : f ≤ g) (k m : Int) :
    ∃ z fg, intV g k m z = intV f k m (cat h l) ∧ intF g k m z = intF f k m (cat h l) ∧ z < 2 ^ 128 ∧ ∀ W : World, Laid W → Calls Tryd.prog 14 #[.int .u8 f, .int .u8 g, .agg #[.int .u8 0, .bool false], .agg #[.int .u64 (h), .int .u64 (l)]] W fun en w' => en = .returned (.agg #[.int .u64 (hi z), .int .u64 (lo z), .int .u8 fg]) ∧ Below W.heap.size W w' := by
  have q1 : decide (f < 4) = true := decide_eq_true hf
  have q2 : decide (g < 4) = true := decide_eq_true hg
  have hbd := classF_bd f (cat h l)
  obtain ⟨m0, m1⟩ := emaxS_bd g
  by_cases hn : nanB f (cat h l) = true
  · obtain ⟨z, fg, z1, z2, HM⟩ := move_is f g h l hg hn
    obtain ⟨e1, e2⟩ := int_nan2 f g k m (cat h l) z hf hg hn z1
    exact ⟨z, fg, e1.symm, e2.symm, z2, fun W hW => conv_nan f g h l _ _ _ W q1 q2 HM⟩
  · have hn' : nanB f (cat h l) = false := by cases hb : nanB f (cat h l); rfl; exact absurd hb hn
    have h4 : ¬ 4 ≤ classF f (cat h l) := fun h => hn (decide_eq_true h)
    by_cases h3 : classF f (cat h l) = 3
    · have hI := infC_lt g hV.ge hg
      have hup := Nat.two_pow_pos (precS g - 1).toNat
      have hmk : makeF g (sgnF f (cat h l)) (2 * emaxS g + 1) 0 = infC g + signN g (sgnF f (cat h l)) := by
        rw [makeF_c g _ _ 0 hV.ge hg (by omega) (by omega), Nat.zero_mod, Nat.add_zero]; rfl
      have hc := code_of g (infC g) (sgnF f (cat h l)) hV.ge hg (by omega)
      have hs := (of_code g (infC g) (sgnF f (cat h l)) hV.ge hg (by omega)).2.2
      have hcl : classF g (makeF g (sgnF f (cat h l)) (2 * emaxS g + 1) 0) = 3 := by rw [hmk]; exact (class_code g _ hV.ge hg).2.2.2.1.2 hc
      obtain ⟨e1, e2⟩ := int_inf f g k m (cat h l) _ hf hg h3 hcl (by rw [hmk]; exact hs)
      refine ⟨_, 0, e1.symm, e2.symm, makeF_lt _ _ _ _ hV.ge, fun W hW => ?_⟩
      exact conv_inf f g h l _ _ _ _ _ _ W q1 q2 (Lib.hid hn') (Lib.hid rfl) (Lib.hid h3) (Lib.hid rfl) (Lib.hid rfl) (Lib.hid rfl) (Lib.hid rfl) (Lib.hid rfl)
    · obtain ⟨c1, c2, c3⟩ := conv_plain f g (cat h l) hU.ge hfg hg (by omega)
      obtain ⟨e1, e2⟩ := int_same f g k m (cat h l) _ hU.ge hf hV.ge hg (by omega) c1 c2 c3
      refine ⟨convB f g (cat h l), resFl g 0 false (sgnF f (cat h l)) (unE f (cat h l)) (up128 (unS f (cat h l))), e1.symm, e2.symm, resB_lt _ _ _ _ _ hV.ge, fun W hW => ?_⟩
      have hu := up_two (unS f (cat h l)) (unS_lt f (cat h l) hU.ge)
      have h1 : Hid (hi (resB g 0 (sgnF f (cat h l)) (unE f (cat h l)) (cat4 0 0 (lo (unS f (cat h l))) (hi (unS f (cat h l))))) = hi (convB f g (cat h l))) := Lib.hid (by rw [hu]; rfl)
      have h2 : Hid (lo (resB g 0 (sgnF f (cat h l)) (unE f (cat h l)) (cat4 0 0 (lo (unS f (cat h l))) (hi (unS f (cat h l))))) = lo (convB f g (cat h l))) := Lib.hid (by rw [hu]; rfl)
      exact conv_fin f g h l _ _ _ _ _ _ _ _ W q1 q2 (Lib.hid hn') (Lib.hid rfl) (Lib.hid rfl) (by rw [beq_eq_false_iff_ne]; exact h3) (Lib.hid rfl) (Lib.hid rfl) (Lib.hid rfl) h1 h2 (Lib.hid (by rw [hu]))
theorem walk_TointWide (f g k m h l : Int) [hU : U8 f] [hV : U8 g] [hK : U8 k] [hM : U8 m] [U64 h] [U64 l] (w : World) [hLay : Laid w] [hLE : LaidE w] :
    Calls Tryd.prog 4 #[.int .u8 f, .int .u8 g, .int .u8 k, .int .u8 m, .agg #[.int .u64 (h), .int .u64 (l)]] w fun en w' => en = .returned (.bool true) ∧ Below w.heap.size w w' := by
  by_cases hf : f < 4
  · by_cases hg : g < 4
    · by_cases hfg : f ≤ g
      · obtain ⟨z, fg, e1, e2, hz, HC⟩ := conv_any f g h l hf hg hfg k m
        have hc := cat_small z hz
        exact tw_in f g k m h l (hi z) (lo z) fg _ _ w (decide_eq_true hf) (decide_eq_true hg) (decide_eq_false (by omega)) HC (Lib.hid rfl) (Lib.hid rfl) (Lib.hid (by rw [hc]; exact e1)) (Lib.hid (by rw [hc]; exact e2))
      · exact tw_out f g k m h l w (Or.inr (Or.inr ⟨decide_eq_true hf, decide_eq_true hg, decide_eq_true (by omega)⟩))
    · exact tw_out f g k m h l w (Or.inr (Or.inl ⟨decide_eq_true hf, decide_eq_false hg⟩))
  · exact tw_out f g k m h l w (Or.inl (decide_eq_false hf))
end Go.Proofs.YthbpbbbngablpaaDoor
