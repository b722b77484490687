/- The contracts of comp's relation (Quiet, Signaling): for every input. Condition: the listed table is laid. -/
import Derived.Test.YthbpbbbngablpaaDoorComp3
set_option linter.unusedSimpArgs false
set_option linter.unusedVariables false
namespace Go.Proofs.YthbpbbbngablpaaDoor
open Go.RowKit Go.Hb
--@drewN
/-- What comp.sizes answers. -/
def sizC (c e : Int) (a : Nat) (c' e' : Int) (b : Nat) : Int := if c = 3 then (if c' = 3 then 0 else 1) else if c' = 3 then -1 else magC e a e' b
theorem sizC_bd (c e : Int) (a : Nat) (c' e' : Int) (b : Nat) : -1 ≤ sizC c e a c' e' b ∧ sizC c e a c' e' b ≤ 1 := by
  have := magC_bd e a e' b
  unfold sizC; repeat' split <;> omega
/-- What comp.related answers. -/
def relC (s : Bool) (c e : Int) (a : Nat) (t : Bool) (c' e' : Int) (b : Nat) : Int :=
  1 + (if c = 0 ∧ c' = 0 then 0 else if s = t then (if s then -(sizC c e a c' e' b) else sizC c e a c' e' b) else if s then -1 else 1)
set_option maxRecDepth 100000 in
set_option maxHeartbeats 4000000 in
theorem sizes_i (c e h l c' e' h' l' : Int) (s t : Bool) (w : World) [hLay : Laid w] (q1 : (c == 3) = true) (j : Bool) (q2 : (c' == 3) = j) :
    Calls Tryd.prog 87 #[.agg #[.bool s, .int .u8 c, .int .i64 e, .int .u64 h, .int .u64 l], .agg #[.bool t, .int .u8 c', .int .i64 e', .int .u64 h', .int .u64 l']] w fun en w' => en = .returned (.int .i64 (if j then 0 else 1)) ∧ Below w.heap.size w w' := by
  go_enter Tryd.func87, Tryd.ntmps87
  skip
  go_upto_region 1 with fail
  ((first | refine wp_rename ?_ | refine goal_rename ?_); intro W1 hw_W1; have cc1 : W1.cell? ⟨w.heap.size, 0, none⟩ = some (.bool s) := (by rw [hw_W1]; go_simp); have cc2 : W1.cell? ⟨w.heap.size, 1, none⟩ = some (.int .u8 c) := (by rw [hw_W1]; go_simp); have cc3 : W1.cell? ⟨w.heap.size, 2, none⟩ = some (.int .i64 e) := (by rw [hw_W1]; go_simp); have cc4 : W1.cell? ⟨w.heap.size, 3, none⟩ = some (.int .u64 h) := (by rw [hw_W1]; go_simp); have cc5 : W1.cell? ⟨w.heap.size, 4, none⟩ = some (.int .u64 l) := (by rw [hw_W1]; go_simp); have cc6 : W1.cell? ⟨w.heap.size + 1, 0, none⟩ = some (.bool t) := (by rw [hw_W1]; go_simp); have cc7 : W1.cell? ⟨w.heap.size + 1, 1, none⟩ = some (.int .u8 c') := (by rw [hw_W1]; go_simp); have cc8 : W1.cell? ⟨w.heap.size + 1, 2, none⟩ = some (.int .i64 e') := (by rw [hw_W1]; go_simp); have cc9 : W1.cell? ⟨w.heap.size + 1, 3, none⟩ = some (.int .u64 h') := (by rw [hw_W1]; go_simp); have cc10 : W1.cell? ⟨w.heap.size + 1, 4, none⟩ = some (.int .u64 l') := (by rw [hw_W1]; go_simp); have hBW : Below w.heap.size w W1 := (by rw [hw_W1]; (first | with_reducible exact drewN_below (by assumption) _ | go_grown)); have hn_W1 := an (nl cc1) (nl cc6); have lay_W1 : Laid W1 := Laid.below (w := w) (by assumption) hBW; clear hw_W1)
  go_quiet (fail)
  ((first | refine wp_rename ?_ | refine goal_rename ?_); intro W2 hw_W2; have hG := named cc1 W2 (by rw [hw_W2]; first | with_reducible exact drewN_below (Below.refl _ _) _ | go_grown); replace cc1 := cl hG cc1; replace cc2 := cl hG cc2; replace cc3 := cl hG cc3; replace cc4 := cl hG cc4; replace cc5 := cl hG cc5; replace cc6 := cl hG cc6; replace cc7 := cl hG cc7; replace cc8 := cl hG cc8; replace cc9 := cl hG cc9; replace cc10 := cl hG cc10; replace hBW := below_after hBW hG; have hs_W2 := hG.size; clear hG; have hn_W2 := an (nl cc1) (nl cc6); have lay_W2 : Laid W2 := Laid.below (w := w) (by assumption) hBW; clear hw_W2)
  cases j
  · go_wp2_with fail
    go_returns
    exact ⟨rfl, by go_grown⟩
  · go_wp2_with fail
    go_returns
    exact ⟨rfl, by go_grown⟩
set_option maxRecDepth 100000 in
set_option maxHeartbeats 4000000 in
theorem sizes_j (c e h l c' e' h' l' : Int) (s t : Bool) (w : World) [hLay : Laid w] (q1 : (c == 3) = false) (q2 : (c' == 3) = true) :
    Calls Tryd.prog 87 #[.agg #[.bool s, .int .u8 c, .int .i64 e, .int .u64 h, .int .u64 l], .agg #[.bool t, .int .u8 c', .int .i64 e', .int .u64 h', .int .u64 l']] w fun en w' => en = .returned (.int .i64 (-1)) ∧ Below w.heap.size w w' := by
  go_enter Tryd.func87, Tryd.ntmps87
  skip
  go_upto_region 1 with fail
  ((first | refine wp_rename ?_ | refine goal_rename ?_); intro W1 hw_W1; have cc1 : W1.cell? ⟨w.heap.size, 0, none⟩ = some (.bool s) := (by rw [hw_W1]; go_simp); have cc2 : W1.cell? ⟨w.heap.size, 1, none⟩ = some (.int .u8 c) := (by rw [hw_W1]; go_simp); have cc3 : W1.cell? ⟨w.heap.size, 2, none⟩ = some (.int .i64 e) := (by rw [hw_W1]; go_simp); have cc4 : W1.cell? ⟨w.heap.size, 3, none⟩ = some (.int .u64 h) := (by rw [hw_W1]; go_simp); have cc5 : W1.cell? ⟨w.heap.size, 4, none⟩ = some (.int .u64 l) := (by rw [hw_W1]; go_simp); have cc6 : W1.cell? ⟨w.heap.size + 1, 0, none⟩ = some (.bool t) := (by rw [hw_W1]; go_simp); have cc7 : W1.cell? ⟨w.heap.size + 1, 1, none⟩ = some (.int .u8 c') := (by rw [hw_W1]; go_simp); have cc8 : W1.cell? ⟨w.heap.size + 1, 2, none⟩ = some (.int .i64 e') := (by rw [hw_W1]; go_simp); have cc9 : W1.cell? ⟨w.heap.size + 1, 3, none⟩ = some (.int .u64 h') := (by rw [hw_W1]; go_simp); have cc10 : W1.cell? ⟨w.heap.size + 1, 4, none⟩ = some (.int .u64 l') := (by rw [hw_W1]; go_simp); have hBW : Below w.heap.size w W1 := (by rw [hw_W1]; (first | with_reducible exact drewN_below (by assumption) _ | go_grown)); have hn_W1 := an (nl cc1) (nl cc6); have lay_W1 : Laid W1 := Laid.below (w := w) (by assumption) hBW; clear hw_W1)
  go_quiet (fail)
  ((first | refine wp_rename ?_ | refine goal_rename ?_); intro W2 hw_W2; have hG := named cc1 W2 (by rw [hw_W2]; first | with_reducible exact drewN_below (Below.refl _ _) _ | go_grown); replace cc1 := cl hG cc1; replace cc2 := cl hG cc2; replace cc3 := cl hG cc3; replace cc4 := cl hG cc4; replace cc5 := cl hG cc5; replace cc6 := cl hG cc6; replace cc7 := cl hG cc7; replace cc8 := cl hG cc8; replace cc9 := cl hG cc9; replace cc10 := cl hG cc10; replace hBW := below_after hBW hG; have hs_W2 := hG.size; clear hG; have hn_W2 := an (nl cc1) (nl cc6); have lay_W2 : Laid W2 := Laid.below (w := w) (by assumption) hBW; clear hw_W2)
  go_wp2_with fail
  go_returns
  exact ⟨rfl, by go_grown⟩
set_option maxRecDepth 100000 in
set_option maxHeartbeats 4000000 in
theorem sizes_k (c e h l c' e' h' l' r : Int) (s t : Bool) [U64 h] [U64 l] [U64 h'] [U64 l'] (w : World) [hLay : Laid w] (he : -1000000 ≤ e) (he2 : e ≤ 1000000) (hf : -1000000 ≤ e') (hf2 : e' ≤ 1000000) (q1 : (c == 3) = false) (q2 : (c' == 3) = false) (m0 : Hid (magC e (cat4 0 0 l h) e' (cat4 0 0 l' h') = r)) :
    Calls Tryd.prog 87 #[.agg #[.bool s, .int .u8 c, .int .i64 e, .int .u64 h, .int .u64 l], .agg #[.bool t, .int .u8 c', .int .i64 e', .int .u64 h', .int .u64 l']] w fun en w' => en = .returned (.int .i64 r) ∧ Below w.heap.size w w' := by
  go_enter Tryd.func87, Tryd.ntmps87
  skip
  go_upto_region 1 with fail
  ((first | refine wp_rename ?_ | refine goal_rename ?_); intro W1 hw_W1; have cc1 : W1.cell? ⟨w.heap.size, 0, none⟩ = some (.bool s) := (by rw [hw_W1]; go_simp); have cc2 : W1.cell? ⟨w.heap.size, 1, none⟩ = some (.int .u8 c) := (by rw [hw_W1]; go_simp); have cc3 : W1.cell? ⟨w.heap.size, 2, none⟩ = some (.int .i64 e) := (by rw [hw_W1]; go_simp); have cc4 : W1.cell? ⟨w.heap.size, 3, none⟩ = some (.int .u64 h) := (by rw [hw_W1]; go_simp); have cc5 : W1.cell? ⟨w.heap.size, 4, none⟩ = some (.int .u64 l) := (by rw [hw_W1]; go_simp); have cc6 : W1.cell? ⟨w.heap.size + 1, 0, none⟩ = some (.bool t) := (by rw [hw_W1]; go_simp); have cc7 : W1.cell? ⟨w.heap.size + 1, 1, none⟩ = some (.int .u8 c') := (by rw [hw_W1]; go_simp); have cc8 : W1.cell? ⟨w.heap.size + 1, 2, none⟩ = some (.int .i64 e') := (by rw [hw_W1]; go_simp); have cc9 : W1.cell? ⟨w.heap.size + 1, 3, none⟩ = some (.int .u64 h') := (by rw [hw_W1]; go_simp); have cc10 : W1.cell? ⟨w.heap.size + 1, 4, none⟩ = some (.int .u64 l') := (by rw [hw_W1]; go_simp); have hBW : Below w.heap.size w W1 := (by rw [hw_W1]; (first | with_reducible exact drewN_below (by assumption) _ | go_grown)); have hn_W1 := an (nl cc1) (nl cc6); have lay_W1 : Laid W1 := Laid.below (w := w) (by assumption) hBW; clear hw_W1)
  go_quiet (fail)
  ((first | refine wp_rename ?_ | refine goal_rename ?_); intro W2 hw_W2; have hG := named cc1 W2 (by rw [hw_W2]; first | with_reducible exact drewN_below (Below.refl _ _) _ | go_grown); replace cc1 := cl hG cc1; replace cc2 := cl hG cc2; replace cc3 := cl hG cc3; replace cc4 := cl hG cc4; replace cc5 := cl hG cc5; replace cc6 := cl hG cc6; replace cc7 := cl hG cc7; replace cc8 := cl hG cc8; replace cc9 := cl hG cc9; replace cc10 := cl hG cc10; replace hBW := below_after hBW hG; have hs_W2 := hG.size; clear hG; have hn_W2 := an (nl cc1) (nl cc6); have lay_W2 : Laid W2 := Laid.below (w := w) (by assumption) hBW; clear hw_W2)
  go_upto_region 8 with fail
  ((first | refine wp_rename ?_ | refine goal_rename ?_); intro W8 hw_W8; have hG := named cc1 W8 (by rw [hw_W8]; first | with_reducible exact drewN_below (Below.refl _ _) _ | go_grown); replace cc1 := cl hG cc1; replace cc2 := cl hG cc2; replace cc3 := cl hG cc3; replace cc4 := cl hG cc4; replace cc5 := cl hG cc5; replace cc6 := cl hG cc6; replace cc7 := cl hG cc7; replace cc8 := cl hG cc8; replace cc9 := cl hG cc9; replace cc10 := cl hG cc10; replace hBW := below_after hBW hG; have hs_W8 := hG.size; clear hG; have hn_W8 := an (nl cc1) (nl cc6); have lay_W8 : Laid W8 := Laid.below (w := w) (by assumption) hBW; clear hw_W8)
  refine Lin.wp_region_lin (by kernel_rfl) (by intro _ _ d _ _ h; cases d <;> exact h) (by kernel_rfl) (fun w' => Below W8.heap.size W8 w' ∧ w'.cell? ⟨w.heap.size, 0, none⟩ = some (.bool s) ∧ w'.cell? ⟨w.heap.size, 1, none⟩ = some (.int .u8 c) ∧ w'.cell? ⟨w.heap.size, 2, none⟩ = some (.int .i64 e) ∧ w'.cell? ⟨w.heap.size, 3, none⟩ = some (.int .u64 h) ∧ w'.cell? ⟨w.heap.size, 4, none⟩ = some (.int .u64 l) ∧ w'.cell? ⟨w.heap.size + 1, 0, none⟩ = some (.bool t) ∧ w'.cell? ⟨w.heap.size + 1, 1, none⟩ = some (.int .u8 c') ∧ w'.cell? ⟨w.heap.size + 1, 2, none⟩ = some (.int .i64 e') ∧ w'.cell? ⟨w.heap.size + 1, 3, none⟩ = some (.int .u64 h') ∧ w'.cell? ⟨w.heap.size + 1, 4, none⟩ = some (.int .u64 l')) ⟨(Below.refl _ _).drew, by go_simp, by go_simp, by go_simp, by go_simp, by go_simp, by go_simp, by go_simp, by go_simp, by go_simp, by go_simp⟩ ?_
  simp only [List.length_cons, List.length_nil, Nat.reduceAdd]
  (refine Lin.lex_val rfl rfl rfl ?_; apply Exists.intro; refine ⟨fun w' hw' => ?_, ?_⟩; (focus (have hBw := hw'.1; have hSw := hw'.2; clear hw'; (try dsimp only at hBw hSw); go_simp; first | with_reducible exact Lin.lin_value | with_reducible exact Lin.lin_skip)); (try simp only [Act.put, List.setIfInBounds_toArray, List.set_cons_zero, List.set_cons_succ]))
  (refine Lin.lex_val rfl rfl rfl ?_; apply Exists.intro; refine ⟨fun w' hw' => ?_, ?_⟩; (focus (have hBw := hw'.1; have hSw := hw'.2; clear hw'; (try dsimp only at hBw hSw); have lay' : Laid w' := Laid.below lay_W8 hBw; go_simp; first | exact Lin.lin_ret (mag_Of _ _ _ _ _ _) rfl | exact Lin.lin_ret (mag_Of _ _ _ _ _ _) rfl | exact Lin.lin_ret (mag_Cmp _ _ _ _ _ _ _ _ _ _ _ he he2 hf hf2) (by rw [m0.out]))); (try simp only [Act.put, List.setIfInBounds_toArray, List.set_cons_zero, List.set_cons_succ]))
  (refine Lin.lex_val rfl rfl rfl ?_; apply Exists.intro; refine ⟨fun w' hw' => ?_, ?_⟩; (focus (have hBw := hw'.1; have hSw := hw'.2; clear hw'; (try dsimp only at hBw hSw); go_simp; first | with_reducible exact Lin.lin_value | with_reducible exact Lin.lin_skip)); (try simp only [Act.put, List.setIfInBounds_toArray, List.set_cons_zero, List.set_cons_succ]))
  iterate 2 (refine Lin.lex_val rfl rfl rfl ?_; apply Exists.intro; refine ⟨fun w' hw' => ?_, ?_⟩; (focus (have hBw := hw'.1; have hSw := hw'.2; clear hw'; (try dsimp only at hBw hSw); have lay' : Laid w' := Laid.below lay_W8 hBw; go_simp; first | exact Lin.lin_ret (mag_Of _ _ _ _ _ _) rfl | exact Lin.lin_ret (mag_Of _ _ _ _ _ _) rfl | exact Lin.lin_ret (mag_Cmp _ _ _ _ _ _ _ _ _ _ _ he he2 hf hf2) (by rw [m0.out]))); (try simp only [Act.put, List.setIfInBounds_toArray, List.set_cons_zero, List.set_cons_succ]))
  refine Lin.lex_rest rfl ?_
  refine Lin.lex_end ?_
  refine Lin.fin0 (fun wa wb hc hb => ⟨hc.1.trans (hb.mono hc.1.size), cell_later hb hc.2.1, cell_later hb hc.2.2.1, cell_later hb hc.2.2.2.1, cell_later hb hc.2.2.2.2.1, cell_later hb hc.2.2.2.2.2.1, cell_later hb hc.2.2.2.2.2.2.1, cell_later hb hc.2.2.2.2.2.2.2.1, cell_later hb hc.2.2.2.2.2.2.2.2.1, cell_later hb hc.2.2.2.2.2.2.2.2.2.1, cell_later hb hc.2.2.2.2.2.2.2.2.2.2⟩) (by kernel_rfl) ?_
  intro Y hw_Y
  have hb_Y := hw_Y.1; clear hw_Y
  have lay_Y : Laid Y := Laid.below lay_W8 hb_Y
  (replace cc1 := cl hb_Y cc1; replace cc2 := cl hb_Y cc2; replace cc3 := cl hb_Y cc3; replace cc4 := cl hb_Y cc4; replace cc5 := cl hb_Y cc5; replace cc6 := cl hb_Y cc6; replace cc7 := cl hb_Y cc7; replace cc8 := cl hb_Y cc8; replace cc9 := cl hb_Y cc9; replace cc10 := cl hb_Y cc10; replace hBW := below_after hBW hb_Y; have hsb_Y := hb_Y.size; have hn_Y := an (nl cc1) (nl cc6))
  (refine wpAny_ready (rs := [5]) (by kernel_rfl) (by simp) ?_; refine AllReady.cons rfl (fun K hK => ?_) AllReady.nil; go_simp; refine hK _ _ ?_; clear hK K)
  refine wpAny_done (by kernel_rfl) ?_ _
  apply_assumption
  (first | refine wp_rename ?_ | refine goal_rename ?_); intro Y_ hw_Y; subst hw_Y
  go_wp2_with fail
  go_returns
  exact ⟨rfl, by go_grown⟩
theorem comp_sizes (c e h l c' e' h' l' : Int) (s t : Bool) [U64 h] [U64 l] [U64 h'] [U64 l'] (w : World) [hLay : Laid w] (he : -1000000 ≤ e) (he2 : e ≤ 1000000) (hf : -1000000 ≤ e') (hf2 : e' ≤ 1000000) :
    Calls Tryd.prog 87 #[.agg #[.bool s, .int .u8 c, .int .i64 e, .int .u64 h, .int .u64 l], .agg #[.bool t, .int .u8 c', .int .i64 e', .int .u64 h', .int .u64 l']] w fun en w' => en = .returned (.int .i64 (sizC c e (cat4 0 0 l h) c' e' (cat4 0 0 l' h'))) ∧ Below w.heap.size w w' := by
  unfold sizC
  by_cases h1 : c = 3
  · rw [if_pos h1]
    by_cases h2 : c' = 3
    · rw [if_pos h2]; exact sizes_i c e h l c' e' h' l' s t w (beq_iff_eq.2 h1) true (beq_iff_eq.2 h2)
    · rw [if_neg h2]; exact sizes_i c e h l c' e' h' l' s t w (beq_iff_eq.2 h1) false (beq_eq_false_iff_ne.2 h2)
  · rw [if_neg h1]
    by_cases h2 : c' = 3
    · rw [if_pos h2]; exact sizes_j c e h l c' e' h' l' s t w (beq_eq_false_iff_ne.2 h1) (beq_iff_eq.2 h2)
    · rw [if_neg h2]; exact sizes_k c e h l c' e' h' l' _ s t w he he2 hf hf2 (beq_eq_false_iff_ne.2 h1) (beq_eq_false_iff_ne.2 h2) (Lib.hid rfl)
theorem rel_wrap (r : Int) (h0 : -1 ≤ r) (h1 : r ≤ 1) : IntKind.u8.wrap (1 + IntKind.u8.wrap r) = 1 + r ∧ IntKind.u8.wrap (1 + r) = 1 + r := by
  have : r = -1 ∨ r = 0 ∨ r = 1 := by omega
  rcases this with rfl | rfl | rfl <;> exact ⟨rfl, rfl⟩
set_option maxRecDepth 100000 in
set_option maxHeartbeats 4000000 in
theorem related_z (c e h l c' e' h' l' r : Int) (s t : Bool) [U64 h] [U64 l] [U64 h'] [U64 l'] (w : World) [hLay : Laid w] (he : -1000000 ≤ e) (he2 : e ≤ 1000000) (hf : -1000000 ≤ e') (hf2 : e' ≤ 1000000)
    (r0 : Hid (sizC c e (cat4 0 0 l h) c' e' (cat4 0 0 l' h') = r)) (q1 : (c == 0) = true) (q2 : (c' == 0) = true) :
    Calls Tryd.prog 44 #[.agg #[.bool s, .int .u8 c, .int .i64 e, .int .u64 h, .int .u64 l], .agg #[.bool t, .int .u8 c', .int .i64 e', .int .u64 h', .int .u64 l']] w fun en w' => en = .returned (.int .u8 1) ∧ Below w.heap.size w w' := by
  go_enter Tryd.func44, Tryd.ntmps44
  skip
  (go_wp2_with fail; refine (comp_sizes _ _ _ _ _ _ _ _ _ _ _ he he2 hf hf2).mono ?_; rw [r0.out]; rintro en v1 ⟨rfl, hB_v1⟩; have lay_v1 := laid_after hB_v1; have cc1 := cl hB_v1 (show World.cell? _ ⟨w.heap.size, 0, none⟩ = some (.bool s) by go_simp); have cc2 := cl hB_v1 (show World.cell? _ ⟨w.heap.size, 1, none⟩ = some (.int .u8 c) by go_simp); have cc3 := cl hB_v1 (show World.cell? _ ⟨w.heap.size, 2, none⟩ = some (.int .i64 e) by go_simp); have cc4 := cl hB_v1 (show World.cell? _ ⟨w.heap.size, 3, none⟩ = some (.int .u64 h) by go_simp); have cc5 := cl hB_v1 (show World.cell? _ ⟨w.heap.size, 4, none⟩ = some (.int .u64 l) by go_simp); have cc6 := cl hB_v1 (show World.cell? _ ⟨w.heap.size + 1, 0, none⟩ = some (.bool t) by go_simp); have cc7 := cl hB_v1 (show World.cell? _ ⟨w.heap.size + 1, 1, none⟩ = some (.int .u8 c') by go_simp); have cc8 := cl hB_v1 (show World.cell? _ ⟨w.heap.size + 1, 2, none⟩ = some (.int .i64 e') by go_simp); have cc9 := cl hB_v1 (show World.cell? _ ⟨w.heap.size + 1, 3, none⟩ = some (.int .u64 h') by go_simp); have cc10 := cl hB_v1 (show World.cell? _ ⟨w.heap.size + 1, 4, none⟩ = some (.int .u64 l') by go_simp); have hs_v1 := hB_v1.size; (try simp only [World.size_alloc, World.size_setCell, World.size_drew] at hs_v1); have hBW : Below w.heap.size w v1 := below_after (w := w) (by go_grown) hB_v1; have hn_v1 := an (nl cc1) (nl cc6); clear hB_v1)
  go_wp2_with fail
  go_returns
  exact ⟨rfl, by go_grown⟩
set_option maxRecDepth 100000 in
set_option maxHeartbeats 8000000 in
theorem related_n (c e h l c' e' h' l' r : Int) (s t : Bool) [U64 h] [U64 l] [U64 h'] [U64 l'] (w : World) [hLay : Laid w] (he : -1000000 ≤ e) (he2 : e ≤ 1000000) (hf : -1000000 ≤ e') (hf2 : e' ≤ 1000000)
    (r0 : Hid (sizC c e (cat4 0 0 l h) c' e' (cat4 0 0 l' h') = r)) (hr : -1 ≤ r) (hr2 : r ≤ 1) (q1 : (c == 0) = true) (q2 : (c' == 0) = false) :
    Calls Tryd.prog 44 #[.agg #[.bool s, .int .u8 c, .int .i64 e, .int .u64 h, .int .u64 l], .agg #[.bool t, .int .u8 c', .int .i64 e', .int .u64 h', .int .u64 l']] w fun en w' => en = .returned (.int .u8 (1 + (if s = t then (if s then -r else r) else if s then -1 else 1))) ∧ Below w.heap.size w w' := by
  have hw1 : IntKind.i64.wrap (-r) = -r := wrap_in _ (by omega) (by omega)
  have hw2 := (rel_wrap r hr hr2).1
  have hw3 := (rel_wrap (-r) (by omega) (by omega)).1
  go_enter Tryd.func44, Tryd.ntmps44
  skip
  (go_wp2_with fail; refine (comp_sizes _ _ _ _ _ _ _ _ _ _ _ he he2 hf hf2).mono ?_; rw [r0.out]; rintro en v1 ⟨rfl, hB_v1⟩; have lay_v1 := laid_after hB_v1; have cc1 := cl hB_v1 (show World.cell? _ ⟨w.heap.size, 0, none⟩ = some (.bool s) by go_simp); have cc2 := cl hB_v1 (show World.cell? _ ⟨w.heap.size, 1, none⟩ = some (.int .u8 c) by go_simp); have cc3 := cl hB_v1 (show World.cell? _ ⟨w.heap.size, 2, none⟩ = some (.int .i64 e) by go_simp); have cc4 := cl hB_v1 (show World.cell? _ ⟨w.heap.size, 3, none⟩ = some (.int .u64 h) by go_simp); have cc5 := cl hB_v1 (show World.cell? _ ⟨w.heap.size, 4, none⟩ = some (.int .u64 l) by go_simp); have cc6 := cl hB_v1 (show World.cell? _ ⟨w.heap.size + 1, 0, none⟩ = some (.bool t) by go_simp); have cc7 := cl hB_v1 (show World.cell? _ ⟨w.heap.size + 1, 1, none⟩ = some (.int .u8 c') by go_simp); have cc8 := cl hB_v1 (show World.cell? _ ⟨w.heap.size + 1, 2, none⟩ = some (.int .i64 e') by go_simp); have cc9 := cl hB_v1 (show World.cell? _ ⟨w.heap.size + 1, 3, none⟩ = some (.int .u64 h') by go_simp); have cc10 := cl hB_v1 (show World.cell? _ ⟨w.heap.size + 1, 4, none⟩ = some (.int .u64 l') by go_simp); have hs_v1 := hB_v1.size; (try simp only [World.size_alloc, World.size_setCell, World.size_drew] at hs_v1); have hBW : Below w.heap.size w v1 := below_after (w := w) (by go_grown) hB_v1; have hn_v1 := an (nl cc1) (nl cc6); clear hB_v1)
  cases s <;> cases t
  all_goals go_wp2_with fail
  all_goals go_returns
  all_goals exact ⟨ret_int (by first | rfl | omega | (simp; done) | (simp; omega)), by go_grown⟩
set_option maxRecDepth 100000 in
set_option maxHeartbeats 8000000 in
theorem related_m (c e h l c' e' h' l' r : Int) (s t : Bool) [U64 h] [U64 l] [U64 h'] [U64 l'] (w : World) [hLay : Laid w] (he : -1000000 ≤ e) (he2 : e ≤ 1000000) (hf : -1000000 ≤ e') (hf2 : e' ≤ 1000000)
    (r0 : Hid (sizC c e (cat4 0 0 l h) c' e' (cat4 0 0 l' h') = r)) (hr : -1 ≤ r) (hr2 : r ≤ 1) (q1 : (c == 0) = false) :
    Calls Tryd.prog 44 #[.agg #[.bool s, .int .u8 c, .int .i64 e, .int .u64 h, .int .u64 l], .agg #[.bool t, .int .u8 c', .int .i64 e', .int .u64 h', .int .u64 l']] w fun en w' => en = .returned (.int .u8 (1 + (if s = t then (if s then -r else r) else if s then -1 else 1))) ∧ Below w.heap.size w w' := by
  have hw1 : IntKind.i64.wrap (-r) = -r := wrap_in _ (by omega) (by omega)
  have hw2 := (rel_wrap r hr hr2).1
  have hw3 := (rel_wrap (-r) (by omega) (by omega)).1
  go_enter Tryd.func44, Tryd.ntmps44
  skip
  (go_wp2_with fail; refine (comp_sizes _ _ _ _ _ _ _ _ _ _ _ he he2 hf hf2).mono ?_; rw [r0.out]; rintro en v1 ⟨rfl, hB_v1⟩; have lay_v1 := laid_after hB_v1; have cc1 := cl hB_v1 (show World.cell? _ ⟨w.heap.size, 0, none⟩ = some (.bool s) by go_simp); have cc2 := cl hB_v1 (show World.cell? _ ⟨w.heap.size, 1, none⟩ = some (.int .u8 c) by go_simp); have cc3 := cl hB_v1 (show World.cell? _ ⟨w.heap.size, 2, none⟩ = some (.int .i64 e) by go_simp); have cc4 := cl hB_v1 (show World.cell? _ ⟨w.heap.size, 3, none⟩ = some (.int .u64 h) by go_simp); have cc5 := cl hB_v1 (show World.cell? _ ⟨w.heap.size, 4, none⟩ = some (.int .u64 l) by go_simp); have cc6 := cl hB_v1 (show World.cell? _ ⟨w.heap.size + 1, 0, none⟩ = some (.bool t) by go_simp); have cc7 := cl hB_v1 (show World.cell? _ ⟨w.heap.size + 1, 1, none⟩ = some (.int .u8 c') by go_simp); have cc8 := cl hB_v1 (show World.cell? _ ⟨w.heap.size + 1, 2, none⟩ = some (.int .i64 e') by go_simp); have cc9 := cl hB_v1 (show World.cell? _ ⟨w.heap.size + 1, 3, none⟩ = some (.int .u64 h') by go_simp); have cc10 := cl hB_v1 (show World.cell? _ ⟨w.heap.size + 1, 4, none⟩ = some (.int .u64 l') by go_simp); have hs_v1 := hB_v1.size; (try simp only [World.size_alloc, World.size_setCell, World.size_drew] at hs_v1); have hBW : Below w.heap.size w v1 := below_after (w := w) (by go_grown) hB_v1; have hn_v1 := an (nl cc1) (nl cc6); clear hB_v1)
  cases s <;> cases t
  all_goals go_wp2_with fail
  all_goals go_returns
  all_goals exact ⟨ret_int (by first | rfl | omega | (simp; done) | (simp; omega)), by go_grown⟩
theorem comp_related (c e h l c' e' h' l' : Int) (s t : Bool) [U64 h] [U64 l] [U64 h'] [U64 l'] (w : World) [hLay : Laid w] (he : -1000000 ≤ e) (he2 : e ≤ 1000000) (hf : -1000000 ≤ e') (hf2 : e' ≤ 1000000) :
    Calls Tryd.prog 44 #[.agg #[.bool s, .int .u8 c, .int .i64 e, .int .u64 h, .int .u64 l], .agg #[.bool t, .int .u8 c', .int .i64 e', .int .u64 h', .int .u64 l']] w fun en w' => en = .returned (.int .u8 (relC s c e (cat4 0 0 l h) t c' e' (cat4 0 0 l' h'))) ∧ Below w.heap.size w w' := by
  have hb := sizC_bd c e (cat4 0 0 l h) c' e' (cat4 0 0 l' h')
  unfold relC
  by_cases h1 : c = 0
  · by_cases h2 : c' = 0
    · rw [if_pos ⟨h1, h2⟩]; exact related_z c e h l c' e' h' l' _ s t w he he2 hf hf2 (Lib.hid rfl) (beq_iff_eq.2 h1) (beq_iff_eq.2 h2)
    · rw [if_neg (fun x => h2 x.2)]; exact related_n c e h l c' e' h' l' _ s t w he he2 hf hf2 (Lib.hid rfl) hb.1 hb.2 (beq_iff_eq.2 h1) (beq_eq_false_iff_ne.2 h2)
  · rw [if_neg (fun x => h1 x.1)]; exact related_m c e h l c' e' h' l' _ s t w he he2 hf hf2 (Lib.hid rfl) hb.1 hb.2 (beq_eq_false_iff_ne.2 h1)
end Go.Proofs.YthbpbbbngablpaaDoor
