/- comp.Least of two, the second one before the first. -/
import Derived.Test.YthbpbbbngablpaaDoorComp2
import Derived.Test.YthbpbbbngablpaaDoorLin
set_option linter.unusedSimpArgs false
set_option linter.unusedVariables false
namespace Go.Proofs.YthbpbbbngablpaaDoor
open Go.RowKit Go.Hb
set_option maxRecDepth 100000 in
theorem least_cmp (f h l h' l' : Int) (bf : Nat) [hU : U8 f] [U64 h] [U64 l] [U64 h'] [U64 l'] (w : World) [hLay : Laid w] (cf : w.cell? ⟨bf, 0, none⟩ = some (.int .u8 f)) (sf : bf < w.heap.size) :
    Calls Tryd.prog 65 #[.agg #[.int .u64 (h), .int .u64 (l)], .agg #[.int .u64 (h'), .int .u64 (l')], .pointer (some ⟨bf, 0, none⟩)] w fun en w' => en = .returned (.int .i64 (ordF f (cat h l) (cat h' l'))) ∧ Below w.heap.size w w' := by
  go_enter Tryd.func65, Tryd.ntmps65
  skip
  (go_wp2_with fail; refine (comp_Order _ _ _ _ _ _).mono ?_; rintro en v1 ⟨rfl, hB_v1⟩; have lay_v1 := laid_after hB_v1; have cc1 := cl hB_v1 (show World.cell? _ ⟨bf, 0, none⟩ = some (.int .u8 f) by go_simp); have cc2 := cl hB_v1 (show World.cell? _ ⟨w.heap.size, 0, none⟩ = some (.int .u64 h) by go_simp); have cc3 := cl hB_v1 (show World.cell? _ ⟨w.heap.size, 1, none⟩ = some (.int .u64 l) by go_simp); have cc4 := cl hB_v1 (show World.cell? _ ⟨w.heap.size + 1, 0, none⟩ = some (.int .u64 h') by go_simp); have cc5 := cl hB_v1 (show World.cell? _ ⟨w.heap.size + 1, 1, none⟩ = some (.int .u64 l') by go_simp); have hs_v1 := hB_v1.size; (try simp only [World.size_alloc, World.size_setCell, World.size_drew] at hs_v1); have hBW : Below w.heap.size w v1 := below_after (w := w) (by go_grown) hB_v1; have hn_v1 := an (nl cc1) (an (nl cc2) (nl cc4)); clear hB_v1)
  go_wp2_with fail
  go_returns
  exact ⟨rfl, by go_grown⟩
set_option maxRecDepth 100000 in
set_option maxHeartbeats 4000000 in
theorem min_two (f h l h' l' c : Int) (b bf : Nat) [hU : U8 f] [U64 h] [U64 l] [U64 h'] [U64 l'] (w : World) [hLay : Laid w] (c0 : w.cell? ⟨b, 0, none⟩ = some (.int .u64 h)) (c1 : w.cell? ⟨b, 1, none⟩ = some (.int .u64 l)) (c2 : w.cell? ⟨b, 2, none⟩ = some (.int .u64 h')) (c3 : w.cell? ⟨b, 3, none⟩ = some (.int .u64 l'))
    (cf : w.cell? ⟨bf, 0, none⟩ = some (.int .u8 f)) (o1 : Hid (ordF f (cat h' l') (cat h l) = c)) (hc : decide (c < 0) = true) :
    Calls Tryd.prog 64 #[.slice (some ⟨b, 0, none⟩) 2 2, .func (.func 65) #[] #[.pointer (some ⟨bf, 0, none⟩)]] w fun en w' => en = .returned (.agg #[.int .u64 (h'), .int .u64 (l')]) ∧ Below w.heap.size w w' := by
  have sb : b < w.heap.size := World.block_lt_of_cell? w _ c0
  have sbf : bf < w.heap.size := World.block_lt_of_cell? w _ cf
  go_enter Tryd.func64, Tryd.ntmps64
  skip
  go_wp2
  refine wp_loop_rounds 3 ?_
  rw [rounds_succ]
  go_upto_region 7 with fail
  ((first | refine wp_rename ?_ | refine goal_rename ?_); intro W7 hw_W7; have cc1 : W7.cell? ⟨bf, 0, none⟩ = some (.int .u8 f) := (by rw [hw_W7]; go_simp); have cc2 : W7.cell? ⟨b, 0, none⟩ = some (.int .u64 h) := (by rw [hw_W7]; go_simp); have cc3 : W7.cell? ⟨b, 1, none⟩ = some (.int .u64 l) := (by rw [hw_W7]; go_simp); have cc4 : W7.cell? ⟨b, 2, none⟩ = some (.int .u64 h') := (by rw [hw_W7]; go_simp); have cc5 : W7.cell? ⟨b, 3, none⟩ = some (.int .u64 l') := (by rw [hw_W7]; go_simp); have cc6 : W7.cell? ⟨w.heap.size, 0, none⟩ = some (.int .u64 0) := (by rw [hw_W7]; go_simp); have fcc6 : W7.frozen? ⟨w.heap.size, 0, none⟩ = false := (by rw [hw_W7]; go_simp); have cc7 : W7.cell? ⟨w.heap.size, 1, none⟩ = some (.int .u64 0) := (by rw [hw_W7]; go_simp); have fcc7 : W7.frozen? ⟨w.heap.size, 1, none⟩ = false := (by rw [hw_W7]; go_simp); have cc8 : W7.cell? ⟨w.heap.size + 1, 0, none⟩ = some (.int .u64 h) := (by rw [hw_W7]; go_simp); have fcc8 : W7.frozen? ⟨w.heap.size + 1, 0, none⟩ = false := (by rw [hw_W7]; go_simp); have cc9 : W7.cell? ⟨w.heap.size + 1, 1, none⟩ = some (.int .u64 l) := (by rw [hw_W7]; go_simp); have fcc9 : W7.frozen? ⟨w.heap.size + 1, 1, none⟩ = false := (by rw [hw_W7]; go_simp); have hBW : Below w.heap.size w W7 := (by rw [hw_W7]; (first | with_reducible exact drewN_below (by assumption) _ | go_grown)); have hn_W7 := an (nl cc1) (an (nl cc2) (an (nl cc6) (nl cc8))); have lay_W7 : Laid W7 := Laid.below (w := w) (by assumption) hBW; clear hw_W7)
  refine Lin.wp_region_lin (by kernel_rfl) (by intro _ _ d _ _ h; cases d <;> exact h) (by kernel_rfl) (fun w' => Below W7.heap.size W7 w' ∧ w'.cell? ⟨bf, 0, none⟩ = some (.int .u8 f) ∧ w'.cell? ⟨b, 0, none⟩ = some (.int .u64 h) ∧ w'.cell? ⟨b, 1, none⟩ = some (.int .u64 l) ∧ w'.cell? ⟨b, 2, none⟩ = some (.int .u64 h') ∧ w'.cell? ⟨b, 3, none⟩ = some (.int .u64 l') ∧ w'.cell? ⟨w.heap.size, 0, none⟩ = some (.int .u64 0) ∧ w'.cell? ⟨w.heap.size, 1, none⟩ = some (.int .u64 0) ∧ w'.cell? ⟨w.heap.size + 1, 0, none⟩ = some (.int .u64 h) ∧ w'.cell? ⟨w.heap.size + 1, 1, none⟩ = some (.int .u64 l)) ⟨(Below.refl _ _).drew, by go_simp, by go_simp, by go_simp, by go_simp, by go_simp, by go_simp, by go_simp, by go_simp, by go_simp⟩ ?_
  simp only [List.length_cons, List.length_nil, Nat.reduceAdd]
  iterate 6 (refine Lin.lex_val rfl rfl rfl ?_; apply Exists.intro; refine ⟨fun w' hw' => ?_, ?_⟩; (focus (have hBw := hw'.1; have hSw := hw'.2; clear hw'; (try dsimp only at hBw hSw); go_simp; first | with_reducible exact Lin.lin_value | with_reducible exact Lin.lin_skip)); (try simp only [Act.put, List.setIfInBounds_toArray, List.set_cons_zero, List.set_cons_succ]))
  (refine Lin.lex_val rfl rfl rfl ?_; apply Exists.intro; refine ⟨fun w' hw' => ?_, ?_⟩; (focus (have hBw := hw'.1; have hSw := hw'.2; clear hw'; (try dsimp only at hBw hSw); have lay' : Laid w' := Laid.below lay_W7 hBw; go_simp; first | exact Lin.lin_ret (least_cmp f _ _ _ _ bf _ hSw.1 (World.block_lt_of_cell? _ _ hSw.1)) (by rw [o1.out]))); (try simp only [Act.put, List.setIfInBounds_toArray, List.set_cons_zero, List.set_cons_succ]))
  (refine Lin.lex_val rfl rfl rfl ?_; apply Exists.intro; refine ⟨fun w' hw' => ?_, ?_⟩; (focus (have hBw := hw'.1; have hSw := hw'.2; clear hw'; (try dsimp only at hBw hSw); go_simp; first | with_reducible exact Lin.lin_value | with_reducible exact Lin.lin_skip)); (try simp only [Act.put, List.setIfInBounds_toArray, List.set_cons_zero, List.set_cons_succ]))
  refine Lin.lex_end ?_
  refine Lin.fin0 (fun wa wb hc hb => ⟨hc.1.trans (hb.mono hc.1.size), cell_later hb hc.2.1, cell_later hb hc.2.2.1, cell_later hb hc.2.2.2.1, cell_later hb hc.2.2.2.2.1, cell_later hb hc.2.2.2.2.2.1, cell_later hb hc.2.2.2.2.2.2.1, cell_later hb hc.2.2.2.2.2.2.2.1, cell_later hb hc.2.2.2.2.2.2.2.2.1, cell_later hb hc.2.2.2.2.2.2.2.2.2⟩) (by kernel_rfl) ?_
  intro X hw_X
  have hb_X := hw_X.1; clear hw_X
  have lay_X : Laid X := Laid.below lay_W7 hb_X
  (replace cc1 := cl hb_X cc1; replace cc2 := cl hb_X cc2; replace cc3 := cl hb_X cc3; replace cc4 := cl hb_X cc4; replace cc5 := cl hb_X cc5; replace fcc6 := fl hb_X fcc6 cc6; replace cc6 := cl hb_X cc6; replace fcc7 := fl hb_X fcc7 cc7; replace cc7 := cl hb_X cc7; replace fcc8 := fl hb_X fcc8 cc8; replace cc8 := cl hb_X cc8; replace fcc9 := fl hb_X fcc9 cc9; replace cc9 := cl hb_X cc9; replace hBW := below_after hBW hb_X; have hsb_X := hb_X.size; have hn_X := an (nl cc1) (an (nl cc2) (an (nl cc6) (nl cc8))))
  refine wpAny_done (by kernel_rfl) ?_ _
  apply_assumption
  (first | refine wp_rename ?_ | refine goal_rename ?_); intro X_ hw_X; subst hw_X
  skip
  skip
  go_wp2
  rw [rounds_succ]
  go_wp2_with fail
  refine bodyPost_ret (by simp [results, Tryd.results64, go_sem, cc6, cc7, cc8, cc9]; try rfl) rfl ?_
  exact ⟨rfl, by go_grown⟩
set_option maxRecDepth 100000 in
set_option maxHeartbeats 4000000 in
theorem least_two (f h l h' l' c ch cl2 : Int) (b : Nat) [hU : U8 f] [U64 h] [U64 l] [U64 h'] [U64 l'] (w : World) [hLay : Laid w] (c0 : w.cell? ⟨b, 0, none⟩ = some (.int .u64 h)) (c1 : w.cell? ⟨b, 1, none⟩ = some (.int .u64 l)) (c2 : w.cell? ⟨b, 2, none⟩ = some (.int .u64 h')) (c3 : w.cell? ⟨b, 3, none⟩ = some (.int .u64 l'))
    (hf : f < 4) (o1 : Hid (ordF f (cat h' l') (cat h l) = c)) (hc : decide (c < 0) = true) (k0 : Hid (hi (lowN (cat h' l') (widthS f)) = ch)) (k1 : Hid (lo (lowN (cat h' l') (widthS f)) = cl2)) :
    Calls Tryd.prog 30 #[.int .u8 f, .slice (some ⟨b, 0, none⟩) 2 2] w fun en w' => en = .returned (.tuple #[.agg #[.int .u64 (ch), .int .u64 (cl2)], .bool true]) ∧ Below w.heap.size w w' := by
  have sb : b < w.heap.size := World.block_lt_of_cell? w _ c0
  have hfd : decide (f < 4) = true := decide_eq_true hf
  clear hf
  go_enter Tryd.func30, Tryd.ntmps30
  skip
  (go_wp2_with fail; refine (format_Known_b _ _).mono ?_; rintro en v1 ⟨rfl, hB_v1⟩; have lay_v1 := laid_after hB_v1; have cc1 := cl hB_v1 (show World.cell? _ ⟨b, 0, none⟩ = some (.int .u64 h) by go_simp); have cc2 := cl hB_v1 (show World.cell? _ ⟨b, 1, none⟩ = some (.int .u64 l) by go_simp); have cc3 := cl hB_v1 (show World.cell? _ ⟨b, 2, none⟩ = some (.int .u64 h') by go_simp); have cc4 := cl hB_v1 (show World.cell? _ ⟨b, 3, none⟩ = some (.int .u64 l') by go_simp); have cc5 := cl hB_v1 (show World.cell? _ ⟨w.heap.size, 0, none⟩ = some (.int .u8 f) by go_simp); obtain ⟨cc6, fcc6⟩ := pf hB_v1 (show World.cell? _ ⟨w.heap.size + 1, 0, none⟩ = some (.int .u64 0) by go_simp) (by go_simp); obtain ⟨cc7, fcc7⟩ := pf hB_v1 (show World.cell? _ ⟨w.heap.size + 1, 1, none⟩ = some (.int .u64 0) by go_simp) (by go_simp); have hs_v1 := hB_v1.size; (try simp only [World.size_alloc, World.size_setCell, World.size_drew] at hs_v1); have hBW : Below w.heap.size w v1 := below_after (w := w) (by go_grown) hB_v1; have hn_v1 := an (nl cc1) (an (nl cc5) (nl cc6)); clear hB_v1)
  go_upto_region 3 with fail
  ((first | refine wp_rename ?_ | refine goal_rename ?_); intro W3 hw_W3; have hG := named cc1 W3 (by rw [hw_W3]; first | with_reducible exact drewN_below (Below.refl _ _) _ | go_grown); replace cc1 := cl hG cc1; replace cc2 := cl hG cc2; replace cc3 := cl hG cc3; replace cc4 := cl hG cc4; replace cc5 := cl hG cc5; replace fcc6 := fl hG fcc6 cc6; replace cc6 := cl hG cc6; replace fcc7 := fl hG fcc7 cc7; replace cc7 := cl hG cc7; replace hBW := below_after hBW hG; have hs_W3 := hG.size; clear hG; have hn_W3 := an (nl cc1) (an (nl cc5) (nl cc6)); have lay_W3 : Laid W3 := Laid.below (w := w) (by assumption) hBW; clear hw_W3)
  refine Lin.wp_region_lin (by kernel_rfl) (by intro _ _ d _ _ h; cases d <;> exact h) (by kernel_rfl) (fun w' => Below W3.heap.size W3 w' ∧ w'.cell? ⟨b, 0, none⟩ = some (.int .u64 h) ∧ w'.cell? ⟨b, 1, none⟩ = some (.int .u64 l) ∧ w'.cell? ⟨b, 2, none⟩ = some (.int .u64 h') ∧ w'.cell? ⟨b, 3, none⟩ = some (.int .u64 l') ∧ w'.cell? ⟨w.heap.size, 0, none⟩ = some (.int .u8 f)) ⟨(Below.refl _ _).drew, by go_simp, by go_simp, by go_simp, by go_simp, by go_simp⟩ ?_
  simp only [List.length_cons, List.length_nil, Nat.reduceAdd]
  iterate 3 (refine Lin.lex_val rfl rfl rfl ?_; apply Exists.intro; refine ⟨fun w' hw' => ?_, ?_⟩; (focus (have hBw := hw'.1; have hSw := hw'.2; clear hw'; (try dsimp only at hBw hSw); go_simp; first | with_reducible exact Lin.lin_value | with_reducible exact Lin.lin_skip)); (try simp only [Act.put, List.setIfInBounds_toArray, List.set_cons_zero, List.set_cons_succ]))
  iterate 2 (refine Lin.lex_val rfl rfl rfl ?_; apply Exists.intro; refine ⟨fun w' hw' => ?_, ?_⟩; (focus (have hBw := hw'.1; have hSw := hw'.2; clear hw'; (try dsimp only at hBw hSw); have lay' : Laid w' := Laid.below lay_W3 hBw; go_simp; first | exact Lin.lin_ret (min_two f h l h' l' _ b w.heap.size _ hSw.1 hSw.2.1 hSw.2.2.1 hSw.2.2.2.1 hSw.2.2.2.2 o1 hc) rfl | exact Lin.lin_ret (format_Cut _ _ _ _) (by rw [k0.out, k1.out]))); (try simp only [Act.put, List.setIfInBounds_toArray, List.set_cons_zero, List.set_cons_succ]))
  refine Lin.lex_rest rfl ?_
  refine Lin.lex_rest rfl ?_
  refine Lin.lex_end ?_
  refine Lin.fin0 (fun wa wb hc hb => ⟨hc.1.trans (hb.mono hc.1.size), cell_later hb hc.2.1, cell_later hb hc.2.2.1, cell_later hb hc.2.2.2.1, cell_later hb hc.2.2.2.2.1, cell_later hb hc.2.2.2.2.2⟩) (by kernel_rfl) ?_
  intro X hw_X
  have hb_X := hw_X.1; clear hw_X
  have lay_X : Laid X := Laid.below lay_W3 hb_X
  (replace cc1 := cl hb_X cc1; replace cc2 := cl hb_X cc2; replace cc3 := cl hb_X cc3; replace cc4 := cl hb_X cc4; replace cc5 := cl hb_X cc5; replace fcc6 := fl hb_X fcc6 cc6; replace cc6 := cl hb_X cc6; replace fcc7 := fl hb_X fcc7 cc7; replace cc7 := cl hb_X cc7; replace hBW := below_after hBW hb_X; have hsb_X := hb_X.size; have hn_X := an (nl cc1) (an (nl cc5) (nl cc6)))
  (refine wpAny_ready (rs := [5]) (by kernel_rfl) (by simp) ?_; refine AllReady.cons rfl (fun K hK => ?_) AllReady.nil; go_simp; refine hK _ _ ?_; clear hK K)
  (refine wpAny_ready (rs := [6]) (by kernel_rfl) (by simp) ?_; refine AllReady.cons rfl (fun K hK => ?_) AllReady.nil; go_simp; refine hK _ _ ?_; clear hK K)
  refine wpAny_done (by kernel_rfl) ?_ _
  apply_assumption
  ((first | refine wp_rename ?_ | refine goal_rename ?_); intro Xs hw_Xs; replace cc1 := rn hw_Xs cc1 (by go_simp); replace cc2 := rn hw_Xs cc2 (by go_simp); replace cc3 := rn hw_Xs cc3 (by go_simp); replace cc4 := rn hw_Xs cc4 (by go_simp); replace cc5 := rn hw_Xs cc5 (by go_simp); replace cc6 : Xs.cell? ⟨w.heap.size + 1, 0, none⟩ = some (.int .u64 ch) := (by rw [hw_Xs]; go_simp); replace fcc6 := rf hw_Xs fcc6 (by go_simp); replace cc7 : Xs.cell? ⟨w.heap.size + 1, 1, none⟩ = some (.int .u64 cl2) := (by rw [hw_Xs]; go_simp); replace fcc7 := rf hw_Xs fcc7 (by go_simp); replace hBW : Below w.heap.size w Xs := (by rw [hw_Xs]; (first | with_reducible exact drewN_below (by assumption) _ | go_grown)); have hn_Xs := an (nl cc1) (an (nl cc5) (nl cc6)); have lay_Xs : Laid Xs := Laid.below (w := w) (by assumption) hBW; clear hw_Xs)
  go_wp2_with fail
  refine bodyPost_ret (by simp [results, Tryd.results30, go_sem, cc6, cc7]; try rfl) rfl ?_
  exact ⟨rfl, by go_grown⟩
set_option maxRecDepth 100000 in
theorem least_empty (f : Int) [hU : U8 f] (w : World) [hLay : Laid w] (hf : f < 4) :
    Calls Tryd.prog 30 #[.int .u8 f, .slice none 0 0] w fun en w' => en = .returned (.tuple #[.agg #[.int .u64 (0), .int .u64 (0)], .bool false]) ∧ Below w.heap.size w w' := by
  have hfd : decide (f < 4) = true := decide_eq_true hf
  clear hf
  go_enter Tryd.func30, Tryd.ntmps30
  skip
  (go_wp2_with fail; refine (format_Known_b _ _).mono ?_; rintro en v1 ⟨rfl, hB_v1⟩; have lay_v1 := laid_after hB_v1; have cc1 := cl hB_v1 (show World.cell? _ ⟨w.heap.size, 0, none⟩ = some (.int .u8 f) by go_simp); obtain ⟨cc2, fcc2⟩ := pf hB_v1 (show World.cell? _ ⟨w.heap.size + 1, 0, none⟩ = some (.int .u64 0) by go_simp) (by go_simp); obtain ⟨cc3, fcc3⟩ := pf hB_v1 (show World.cell? _ ⟨w.heap.size + 1, 1, none⟩ = some (.int .u64 0) by go_simp) (by go_simp); have hs_v1 := hB_v1.size; (try simp only [World.size_alloc, World.size_setCell, World.size_drew] at hs_v1); have hBW : Below w.heap.size w v1 := below_after (w := w) (by go_grown) hB_v1; have hn_v1 := an (nl cc1) (nl cc2); clear hB_v1)
  go_wp2_with fail
  refine bodyPost_ret (by simp [results, Tryd.results30, go_sem, cc2, cc3]; try rfl) rfl ?_
  exact ⟨rfl, by go_grown⟩
end Go.Proofs.YthbpbbbngablpaaDoor
