/- The contracts of comp.Quiet and comp.Signaling: for every input. Condition: the listed table is laid. -/
import Derived.Test.YthbpbbbngablpaaDoorComp4
set_option linter.unusedSimpArgs false
set_option linter.unusedVariables false
namespace Go.Proofs.YthbpbbbngablpaaDoor
open Go.RowKit Go.Hb
def nan2 (f : Int) (a b : Nat) : Bool := nanB f a || nanB f b
def sig2 (f : Int) (a b : Nat) : Bool := sigB f a || sigB f b
/-- The relation of two that are no NaNs. -/
def relF (f : Int) (a b : Nat) : Int := relC (sgnF f a) (classF f a) (unE f a) (up128 (unS f a)) (sgnF f b) (classF f b) (unE f b) (up128 (unS f b))
def qV (f : Int) (a b : Nat) : Int := if f < 4 then (if nan2 f a b then 3 else relF f a b) else 0
def qF (f : Int) (a b : Nat) : Int := if f < 4 ∧ nan2 f a b = true ∧ sig2 f a b = true then 1 else 0
def sF (f : Int) (a b : Nat) : Int := if f < 4 ∧ nan2 f a b = true then 1 else 0
theorem unE_hi (f : Int) (v : Nat) (h0 : 0 ≤ f) : unE f v ≤ 1000000 := by
  obtain ⟨e0, e1⟩ := emaxS_bd f
  obtain ⟨p0, p1⟩ := precS_bd f
  unfold unE
  split
  · rename_i h
    have hf := ((class_parts f v h0).2 h).2.2
    omega
  · split
    · have := by128_bd (fracF f v) (Nat.lt_trans (fracF_lt f v h0) (by decide)); omega
    · omega

set_option maxRecDepth 100000 in
set_option maxHeartbeats 4000000 in
theorem relS_none (f h l h' l' : Int) [hU : U8 f] [U64 h] [U64 l] [U64 h'] [U64 l'] (w : World) [hLay : Laid w] (hf : ¬ f < 4) :
    Calls Tryd.prog 15 #[.int .u8 f, .agg #[.int .u64 (h), .int .u64 (l)], .agg #[.int .u64 (h'), .int .u64 (l')], .func (.func 16) #[] #[]] w fun en w' => en = .returned (.tuple #[.int .u8 (0), .int .u8 0]) ∧ Below w.heap.size w w' := by
  have hfd : decide (f < 4) = false := decide_eq_false hf
  clear hf
  go_enter Tryd.func15, Tryd.ntmps15
  skip
  (go_wp2_with fail; refine (format_Known_b _ _).mono ?_; rintro en v1 ⟨rfl, hB_v1⟩; have lay_v1 := laid_after hB_v1; have cc1 := cl hB_v1 (show World.cell? _ ⟨w.heap.size, 0, none⟩ = some (.int .u64 h) by go_simp); have cc2 := cl hB_v1 (show World.cell? _ ⟨w.heap.size, 1, none⟩ = some (.int .u64 l) by go_simp); have cc3 := cl hB_v1 (show World.cell? _ ⟨w.heap.size + 1, 0, none⟩ = some (.int .u64 h') by go_simp); have cc4 := cl hB_v1 (show World.cell? _ ⟨w.heap.size + 1, 1, none⟩ = some (.int .u64 l') by go_simp); have hs_v1 := hB_v1.size; (try simp only [World.size_alloc, World.size_setCell, World.size_drew] at hs_v1); have hBW : Below w.heap.size w v1 := below_after (w := w) (by go_grown) hB_v1; have hn_v1 := an (nl cc1) (nl cc3); clear hB_v1)
  go_wp2_with fail
  go_returns
  exact ⟨rfl, by go_grown⟩

set_option maxRecDepth 100000 in
set_option maxHeartbeats 4000000 in
theorem relS_t (f h l h' l' : Int) [hU : U8 f] [U64 h] [U64 l] [U64 h'] [U64 l'] (w : World) [hLay : Laid w] (hf : f < 4) (n1 : Hid ((nanB f (cat h l) || nanB f (cat h' l')) = true)) (n2 : Hid ((sigB f (cat h l) || sigB f (cat h' l')) = true)) :
    Calls Tryd.prog 15 #[.int .u8 f, .agg #[.int .u64 (h), .int .u64 (l)], .agg #[.int .u64 (h'), .int .u64 (l')], .func (.func 16) #[] #[]] w fun en w' => en = .returned (.tuple #[.int .u8 (3), .int .u8 1]) ∧ Below w.heap.size w w' := by
  have hfd : decide (f < 4) = true := decide_eq_true hf
  clear hf
  go_enter Tryd.func15, Tryd.ntmps15
  skip
  (go_wp2_with fail; refine (format_Known_b _ _).mono ?_; rintro en v1 ⟨rfl, hB_v1⟩; have lay_v1 := laid_after hB_v1; have cc1 := cl hB_v1 (show World.cell? _ ⟨w.heap.size, 0, none⟩ = some (.int .u64 h) by go_simp); have cc2 := cl hB_v1 (show World.cell? _ ⟨w.heap.size, 1, none⟩ = some (.int .u64 l) by go_simp); have cc3 := cl hB_v1 (show World.cell? _ ⟨w.heap.size + 1, 0, none⟩ = some (.int .u64 h') by go_simp); have cc4 := cl hB_v1 (show World.cell? _ ⟨w.heap.size + 1, 1, none⟩ = some (.int .u64 l') by go_simp); have hs_v1 := hB_v1.size; (try simp only [World.size_alloc, World.size_setCell, World.size_drew] at hs_v1); have hBW : Below w.heap.size w v1 := below_after (w := w) (by go_grown) hB_v1; have hn_v1 := an (nl cc1) (nl cc3); clear hB_v1)
  (go_wp2_with fail; refine (class_AnyNaN _ h l h' l' _ _ (by go_simp) (by go_simp) (by go_simp) (by go_simp)).mono ?_; rw [n1.out]; rintro en v2 ⟨rfl, hB_v2⟩; have lay_v2 := laid_after hB_v2; have hG := cell_grown cc1 (by go_grown) hB_v2; replace cc1 := cl hG cc1; replace cc2 := cl hG cc2; replace cc3 := cl hG cc3; replace cc4 := cl hG cc4; have hs_v2 := hG.size; clear hG; replace hBW : Below w.heap.size w v2 := below_after (w := w) (by go_grown) hB_v2; have hn_v2 := an (nl cc1) (nl cc3); clear hB_v2)
  (go_wp2_with fail; refine (class_AnySig _ h l h' l' _ _ (by go_simp) (by go_simp) (by go_simp) (by go_simp)).mono ?_; rw [n2.out]; rintro en v3 ⟨rfl, hB_v3⟩; have lay_v3 := laid_after hB_v3; have hG := cell_grown cc1 (by go_grown) hB_v3; replace cc1 := cl hG cc1; replace cc2 := cl hG cc2; replace cc3 := cl hG cc3; replace cc4 := cl hG cc4; have hs_v3 := hG.size; clear hG; replace hBW : Below w.heap.size w v3 := below_after (w := w) (by go_grown) hB_v3; have hn_v3 := an (nl cc1) (nl cc3); clear hB_v3)
  go_wp2_with fail
  go_returns
  exact ⟨rfl, by go_grown⟩

set_option maxRecDepth 100000 in
set_option maxHeartbeats 4000000 in
theorem relS_f (f h l h' l' : Int) [hU : U8 f] [U64 h] [U64 l] [U64 h'] [U64 l'] (w : World) [hLay : Laid w] (hf : f < 4) (n1 : Hid ((nanB f (cat h l) || nanB f (cat h' l')) = true)) (n2 : Hid ((sigB f (cat h l) || sigB f (cat h' l')) = false)) :
    Calls Tryd.prog 15 #[.int .u8 f, .agg #[.int .u64 (h), .int .u64 (l)], .agg #[.int .u64 (h'), .int .u64 (l')], .func (.func 16) #[] #[]] w fun en w' => en = .returned (.tuple #[.int .u8 (3), .int .u8 0]) ∧ Below w.heap.size w w' := by
  have hfd : decide (f < 4) = true := decide_eq_true hf
  clear hf
  go_enter Tryd.func15, Tryd.ntmps15
  skip
  (go_wp2_with fail; refine (format_Known_b _ _).mono ?_; rintro en v1 ⟨rfl, hB_v1⟩; have lay_v1 := laid_after hB_v1; have cc1 := cl hB_v1 (show World.cell? _ ⟨w.heap.size, 0, none⟩ = some (.int .u64 h) by go_simp); have cc2 := cl hB_v1 (show World.cell? _ ⟨w.heap.size, 1, none⟩ = some (.int .u64 l) by go_simp); have cc3 := cl hB_v1 (show World.cell? _ ⟨w.heap.size + 1, 0, none⟩ = some (.int .u64 h') by go_simp); have cc4 := cl hB_v1 (show World.cell? _ ⟨w.heap.size + 1, 1, none⟩ = some (.int .u64 l') by go_simp); have hs_v1 := hB_v1.size; (try simp only [World.size_alloc, World.size_setCell, World.size_drew] at hs_v1); have hBW : Below w.heap.size w v1 := below_after (w := w) (by go_grown) hB_v1; have hn_v1 := an (nl cc1) (nl cc3); clear hB_v1)
  (go_wp2_with fail; refine (class_AnyNaN _ h l h' l' _ _ (by go_simp) (by go_simp) (by go_simp) (by go_simp)).mono ?_; rw [n1.out]; rintro en v2 ⟨rfl, hB_v2⟩; have lay_v2 := laid_after hB_v2; have hG := cell_grown cc1 (by go_grown) hB_v2; replace cc1 := cl hG cc1; replace cc2 := cl hG cc2; replace cc3 := cl hG cc3; replace cc4 := cl hG cc4; have hs_v2 := hG.size; clear hG; replace hBW : Below w.heap.size w v2 := below_after (w := w) (by go_grown) hB_v2; have hn_v2 := an (nl cc1) (nl cc3); clear hB_v2)
  (go_wp2_with fail; refine (class_AnySig _ h l h' l' _ _ (by go_simp) (by go_simp) (by go_simp) (by go_simp)).mono ?_; rw [n2.out]; rintro en v3 ⟨rfl, hB_v3⟩; have lay_v3 := laid_after hB_v3; have hG := cell_grown cc1 (by go_grown) hB_v3; replace cc1 := cl hG cc1; replace cc2 := cl hG cc2; replace cc3 := cl hG cc3; replace cc4 := cl hG cc4; have hs_v3 := hG.size; clear hG; replace hBW : Below w.heap.size w v3 := below_after (w := w) (by go_grown) hB_v3; have hn_v3 := an (nl cc1) (nl cc3); clear hB_v3)
  go_wp2_with fail
  go_returns
  exact ⟨rfl, by go_grown⟩

set_option maxRecDepth 100000 in
set_option maxHeartbeats 4000000 in
theorem relS_num (f h l h' l' c e xh xl c' e' yh yl r : Int) (s t : Bool) [hU : U8 f] [U64 h] [U64 l] [U64 h'] [U64 l'] [U64 xh] [U64 xl] [U64 yh] [U64 yl] (w : World) [hLay : Laid w] (hf : f < 4) (n1 : Hid ((nanB f (cat h l) || nanB f (cat h' l')) = false)) (he : -1000000 ≤ e) (he2 : e ≤ 1000000) (hg : -1000000 ≤ e') (hg2 : e' ≤ 1000000)
    (u1 : Hid (sgnF f (cat h l) = s)) (u2 : Hid (classF f (cat h l) = c)) (u3 : Hid (unE f (cat h l) = e)) (u4 : Hid (hi (unS f (cat h l)) = xh)) (u5 : Hid (lo (unS f (cat h l)) = xl)) (k1 : Hid (sgnF f (cat h' l') = t)) (k2 : Hid (classF f (cat h' l') = c')) (k3 : Hid (unE f (cat h' l') = e')) (k4 : Hid (hi (unS f (cat h' l')) = yh)) (k5 : Hid (lo (unS f (cat h' l')) = yl)) (r0 : Hid (relC s c e (cat4 0 0 xl xh) t c' e' (cat4 0 0 yl yh) = r)) :
    Calls Tryd.prog 15 #[.int .u8 f, .agg #[.int .u64 (h), .int .u64 (l)], .agg #[.int .u64 (h'), .int .u64 (l')], .func (.func 16) #[] #[]] w fun en w' => en = .returned (.tuple #[.int .u8 (r), .int .u8 0]) ∧ Below w.heap.size w w' := by
  have hfd : decide (f < 4) = true := decide_eq_true hf
  clear hf
  go_enter Tryd.func15, Tryd.ntmps15
  skip
  (go_wp2_with fail; refine (format_Known_b _ _).mono ?_; rintro en v1 ⟨rfl, hB_v1⟩; have lay_v1 := laid_after hB_v1; have cc1 := cl hB_v1 (show World.cell? _ ⟨w.heap.size, 0, none⟩ = some (.int .u64 h) by go_simp); have cc2 := cl hB_v1 (show World.cell? _ ⟨w.heap.size, 1, none⟩ = some (.int .u64 l) by go_simp); have cc3 := cl hB_v1 (show World.cell? _ ⟨w.heap.size + 1, 0, none⟩ = some (.int .u64 h') by go_simp); have cc4 := cl hB_v1 (show World.cell? _ ⟨w.heap.size + 1, 1, none⟩ = some (.int .u64 l') by go_simp); have hs_v1 := hB_v1.size; (try simp only [World.size_alloc, World.size_setCell, World.size_drew] at hs_v1); have hBW : Below w.heap.size w v1 := below_after (w := w) (by go_grown) hB_v1; have hn_v1 := an (nl cc1) (nl cc3); clear hB_v1)
  (go_wp2_with fail; refine (class_AnyNaN _ h l h' l' _ _ (by go_simp) (by go_simp) (by go_simp) (by go_simp)).mono ?_; rw [n1.out]; rintro en v2 ⟨rfl, hB_v2⟩; have lay_v2 := laid_after hB_v2; have hG := cell_grown cc1 (by go_grown) hB_v2; replace cc1 := cl hG cc1; replace cc2 := cl hG cc2; replace cc3 := cl hG cc3; replace cc4 := cl hG cc4; have hs_v2 := hG.size; clear hG; replace hBW : Below w.heap.size w v2 := below_after (w := w) (by go_grown) hB_v2; have hn_v2 := an (nl cc1) (nl cc3); clear hB_v2)
  go_upto_region 4 with fail
  ((first | refine wp_rename ?_ | refine goal_rename ?_); intro W4 hw_W4; have hG := named cc1 W4 (by rw [hw_W4]; first | with_reducible exact drewN_below (Below.refl _ _) _ | go_grown); replace cc1 := cl hG cc1; replace cc2 := cl hG cc2; replace cc3 := cl hG cc3; replace cc4 := cl hG cc4; replace hBW := below_after hBW hG; have hs_W4 := hG.size; clear hG; have hn_W4 := an (nl cc1) (nl cc3); have lay_W4 : Laid W4 := Laid.below (w := w) (by assumption) hBW; clear hw_W4)
  refine Lin.wp_region_lin (by kernel_rfl) (by intro _ _ d _ _ h; cases d <;> exact h) (by kernel_rfl) (fun w' => Below W4.heap.size W4 w' ∧ w'.cell? ⟨w.heap.size, 0, none⟩ = some (.int .u64 h) ∧ w'.cell? ⟨w.heap.size, 1, none⟩ = some (.int .u64 l) ∧ w'.cell? ⟨w.heap.size + 1, 0, none⟩ = some (.int .u64 h') ∧ w'.cell? ⟨w.heap.size + 1, 1, none⟩ = some (.int .u64 l')) ⟨(Below.refl _ _).drew, by go_simp, by go_simp, by go_simp, by go_simp⟩ ?_
  simp only [List.length_cons, List.length_nil, Nat.reduceAdd]
  iterate 2 (refine Lin.lex_val rfl rfl rfl ?_; apply Exists.intro; refine ⟨fun w' hw' => ?_, ?_⟩; (focus (have hBw := hw'.1; have hSw := hw'.2; clear hw'; (try dsimp only at hBw hSw); go_simp; first | with_reducible exact Lin.lin_value | with_reducible exact Lin.lin_skip)); (try simp only [Act.put, List.setIfInBounds_toArray, List.set_cons_zero, List.set_cons_succ]))
  (refine Lin.lex_val rfl rfl rfl ?_; apply Exists.intro; refine ⟨fun w' hw' => ?_, ?_⟩; (focus (have hBw := hw'.1; have hSw := hw'.2; clear hw'; (try dsimp only at hBw hSw); have lay' : Laid w' := Laid.below lay_W4 hBw; go_simp; first | exact Lin.lin_ret (fields_Unpack _ _ _ _) (by rw [u1.out, u2.out, u3.out, u4.out, u5.out]) | exact Lin.lin_ret (fields_Unpack _ _ _ _) (by rw [k1.out, k2.out, k3.out, k4.out, k5.out]) | exact Lin.lin_ret (comp_related _ _ _ _ _ _ _ _ _ _ _ he he2 hg hg2) (by rw [r0.out]))); (try simp only [Act.put, List.setIfInBounds_toArray, List.set_cons_zero, List.set_cons_succ]))
  iterate 2 (refine Lin.lex_val rfl rfl rfl ?_; apply Exists.intro; refine ⟨fun w' hw' => ?_, ?_⟩; (focus (have hBw := hw'.1; have hSw := hw'.2; clear hw'; (try dsimp only at hBw hSw); go_simp; first | with_reducible exact Lin.lin_value | with_reducible exact Lin.lin_skip)); (try simp only [Act.put, List.setIfInBounds_toArray, List.set_cons_zero, List.set_cons_succ]))
  iterate 2 (refine Lin.lex_val rfl rfl rfl ?_; apply Exists.intro; refine ⟨fun w' hw' => ?_, ?_⟩; (focus (have hBw := hw'.1; have hSw := hw'.2; clear hw'; (try dsimp only at hBw hSw); have lay' : Laid w' := Laid.below lay_W4 hBw; go_simp; first | exact Lin.lin_ret (fields_Unpack _ _ _ _) (by rw [u1.out, u2.out, u3.out, u4.out, u5.out]) | exact Lin.lin_ret (fields_Unpack _ _ _ _) (by rw [k1.out, k2.out, k3.out, k4.out, k5.out]) | exact Lin.lin_ret (comp_related _ _ _ _ _ _ _ _ _ _ _ he he2 hg hg2) (by rw [r0.out]))); (try simp only [Act.put, List.setIfInBounds_toArray, List.set_cons_zero, List.set_cons_succ]))
  refine Lin.lex_rest rfl ?_
  refine Lin.lex_rest rfl ?_
  refine Lin.lex_end ?_
  refine Lin.fin0 (fun wa wb hc hb => ⟨hc.1.trans (hb.mono hc.1.size), cell_later hb hc.2.1, cell_later hb hc.2.2.1, cell_later hb hc.2.2.2.1, cell_later hb hc.2.2.2.2⟩) (by kernel_rfl) ?_
  intro X hw_X
  have hb_X := hw_X.1; clear hw_X
  have lay_X : Laid X := Laid.below lay_W4 hb_X
  (replace cc1 := cl hb_X cc1; replace cc2 := cl hb_X cc2; replace cc3 := cl hb_X cc3; replace cc4 := cl hb_X cc4; replace hBW := below_after hBW hb_X; have hsb_X := hb_X.size; have hn_X := an (nl cc1) (nl cc3))
  (refine wpAny_ready (rs := [7]) (by kernel_rfl) (by simp) ?_; refine AllReady.cons rfl (fun K hK => ?_) AllReady.nil; go_simp; refine hK _ _ ?_; clear hK K)
  (refine wpAny_ready (rs := [8]) (by kernel_rfl) (by simp) ?_; refine AllReady.cons rfl (fun K hK => ?_) AllReady.nil; go_simp; refine hK _ _ ?_; clear hK K)
  refine wpAny_done (by kernel_rfl) ?_ _
  apply_assumption
  (first | refine wp_rename ?_ | refine goal_rename ?_); intro X_ hw_X; subst hw_X
  go_wp2_with fail
  go_returns
  exact ⟨rfl, by go_grown⟩

theorem up_cat (v : Nat) (h : v < 2 ^ 128) : cat4 0 0 (lo v) (hi v) = up128 v := by rw [cat4_join, cat_small _ h]; rfl

theorem relS_all (f h l h' l' : Int) [hU : U8 f] [U64 h] [U64 l] [U64 h'] [U64 l'] (w : World) [hLay : Laid w] :
    Calls Tryd.prog 15 #[.int .u8 f, .agg #[.int .u64 (h), .int .u64 (l)], .agg #[.int .u64 (h'), .int .u64 (l')], .func (.func 16) #[] #[]] w fun en w' => en = .returned (.tuple #[.int .u8 (qV f (cat h l) (cat h' l')), .int .u8 (qF f (cat h l) (cat h' l'))]) ∧ Below w.heap.size w w' := by
  by_cases hf : f < 4
  · cases hn : nan2 f (cat h l) (cat h' l')
    · have e1 : qV f (cat h l) (cat h' l') = relF f (cat h l) (cat h' l') := by unfold qV; rw [if_pos hf, hn]; rfl
      have e2 : qF f (cat h l) (cat h' l') = 0 := by unfold qF; rw [hn]; simp
      rw [e1, e2]
      have ka := up_cat _ (unS_lt f (cat h l) hU.ge)
      have kb := up_cat _ (unS_lt f (cat h' l') hU.ge)
      have l1 := unE_low f (cat h l) hU.ge
      have l2 := unE_low f (cat h' l') hU.ge
      exact relS_num f h l h' l' _ _ _ _ _ _ _ _ _ _ _ w hf (Lib.hid hn) (by omega) (unE_hi f _ hU.ge) (by omega) (unE_hi f _ hU.ge) (Lib.hid rfl) (Lib.hid rfl) (Lib.hid rfl) (Lib.hid rfl) (Lib.hid rfl) (Lib.hid rfl) (Lib.hid rfl) (Lib.hid rfl) (Lib.hid rfl) (Lib.hid rfl) (Lib.hid (by rw [ka, kb]; rfl))
    · have e1 : qV f (cat h l) (cat h' l') = 3 := by unfold qV; rw [if_pos hf, hn]; rfl
      rw [e1]

      cases hs : sig2 f (cat h l) (cat h' l')
      · have e2 : qF f (cat h l) (cat h' l') = 0 := by unfold qF; rw [hs]; simp
        rw [e2]
        exact relS_f f h l h' l' w hf (Lib.hid hn) (Lib.hid hs)
      · have e2 : qF f (cat h l) (cat h' l') = 1 := by unfold qF; rw [if_pos ⟨hf, hn, hs⟩]
        rw [e2]
        exact relS_t f h l h' l' w hf (Lib.hid hn) (Lib.hid hs)

  · have e1 : qV f (cat h l) (cat h' l') = 0 := by unfold qV; rw [if_neg hf]
    have e2 : qF f (cat h l) (cat h' l') = 0 := by unfold qF; rw [if_neg (fun h => hf h.1)]
    rw [e1, e2]
    exact relS_none f h l h' l' w hf
theorem comp_Quiet (f h l h' l' : Int) [hU : U8 f] [U64 h] [U64 l] [U64 h'] [U64 l'] (w : World) [hLay : Laid w] :
    Calls Tryd.prog 5 #[.int .u8 f, .agg #[.int .u64 (h), .int .u64 (l)], .agg #[.int .u64 (h'), .int .u64 (l')]] w fun en w' => en = .returned (.tuple #[.int .u8 (qV f (cat h l) (cat h' l')), .int .u8 (qF f (cat h l) (cat h' l'))]) ∧ Below w.heap.size w w' := by
  go_enter Tryd.func5, Tryd.ntmps5
  skip
  (go_wp2_with fail; refine (relS_all _ _ _ _ _ _).mono ?_; rintro en v1 ⟨rfl, hB_v1⟩; have lay_v1 := laid_after hB_v1; have cc1 := cl hB_v1 (show World.cell? _ ⟨w.heap.size, 0, none⟩ = some (.int .u64 h) by go_simp); have cc2 := cl hB_v1 (show World.cell? _ ⟨w.heap.size, 1, none⟩ = some (.int .u64 l) by go_simp); have cc3 := cl hB_v1 (show World.cell? _ ⟨w.heap.size + 1, 0, none⟩ = some (.int .u64 h') by go_simp); have cc4 := cl hB_v1 (show World.cell? _ ⟨w.heap.size + 1, 1, none⟩ = some (.int .u64 l') by go_simp); have hs_v1 := hB_v1.size; (try simp only [World.size_alloc, World.size_setCell, World.size_drew] at hs_v1); have hBW : Below w.heap.size w v1 := below_after (w := w) (by go_grown) hB_v1; have hn_v1 := an (nl cc1) (nl cc3); clear hB_v1)
  go_wp2_with fail
  go_returns
  exact ⟨rfl, by go_grown⟩

set_option maxRecDepth 100000 in
set_option maxHeartbeats 4000000 in
theorem relN_none (f h l h' l' : Int) [hU : U8 f] [U64 h] [U64 l] [U64 h'] [U64 l'] (w : World) [hLay : Laid w] (hf : ¬ f < 4) :
    Calls Tryd.prog 15 #[.int .u8 f, .agg #[.int .u64 (h), .int .u64 (l)], .agg #[.int .u64 (h'), .int .u64 (l')], .func (.func 20) #[] #[]] w fun en w' => en = .returned (.tuple #[.int .u8 (0), .int .u8 0]) ∧ Below w.heap.size w w' := by
  have hfd : decide (f < 4) = false := decide_eq_false hf
  clear hf
  go_enter Tryd.func15, Tryd.ntmps15
  skip
  (go_wp2_with fail; refine (format_Known_b _ _).mono ?_; rintro en v1 ⟨rfl, hB_v1⟩; have lay_v1 := laid_after hB_v1; have cc1 := cl hB_v1 (show World.cell? _ ⟨w.heap.size, 0, none⟩ = some (.int .u64 h) by go_simp); have cc2 := cl hB_v1 (show World.cell? _ ⟨w.heap.size, 1, none⟩ = some (.int .u64 l) by go_simp); have cc3 := cl hB_v1 (show World.cell? _ ⟨w.heap.size + 1, 0, none⟩ = some (.int .u64 h') by go_simp); have cc4 := cl hB_v1 (show World.cell? _ ⟨w.heap.size + 1, 1, none⟩ = some (.int .u64 l') by go_simp); have hs_v1 := hB_v1.size; (try simp only [World.size_alloc, World.size_setCell, World.size_drew] at hs_v1); have hBW : Below w.heap.size w v1 := below_after (w := w) (by go_grown) hB_v1; have hn_v1 := an (nl cc1) (nl cc3); clear hB_v1)
  go_wp2_with fail
  go_returns
  exact ⟨rfl, by go_grown⟩

set_option maxRecDepth 100000 in
set_option maxHeartbeats 4000000 in
theorem relN_t (f h l h' l' : Int) [hU : U8 f] [U64 h] [U64 l] [U64 h'] [U64 l'] (w : World) [hLay : Laid w] (hf : f < 4) (n1 : Hid ((nanB f (cat h l) || nanB f (cat h' l')) = true)) :
    Calls Tryd.prog 15 #[.int .u8 f, .agg #[.int .u64 (h), .int .u64 (l)], .agg #[.int .u64 (h'), .int .u64 (l')], .func (.func 20) #[] #[]] w fun en w' => en = .returned (.tuple #[.int .u8 (3), .int .u8 1]) ∧ Below w.heap.size w w' := by
  have hfd : decide (f < 4) = true := decide_eq_true hf
  clear hf
  go_enter Tryd.func15, Tryd.ntmps15
  skip
  (go_wp2_with fail; refine (format_Known_b _ _).mono ?_; rintro en v1 ⟨rfl, hB_v1⟩; have lay_v1 := laid_after hB_v1; have cc1 := cl hB_v1 (show World.cell? _ ⟨w.heap.size, 0, none⟩ = some (.int .u64 h) by go_simp); have cc2 := cl hB_v1 (show World.cell? _ ⟨w.heap.size, 1, none⟩ = some (.int .u64 l) by go_simp); have cc3 := cl hB_v1 (show World.cell? _ ⟨w.heap.size + 1, 0, none⟩ = some (.int .u64 h') by go_simp); have cc4 := cl hB_v1 (show World.cell? _ ⟨w.heap.size + 1, 1, none⟩ = some (.int .u64 l') by go_simp); have hs_v1 := hB_v1.size; (try simp only [World.size_alloc, World.size_setCell, World.size_drew] at hs_v1); have hBW : Below w.heap.size w v1 := below_after (w := w) (by go_grown) hB_v1; have hn_v1 := an (nl cc1) (nl cc3); clear hB_v1)
  (go_wp2_with fail; refine (class_AnyNaN _ h l h' l' _ _ (by go_simp) (by go_simp) (by go_simp) (by go_simp)).mono ?_; rw [n1.out]; rintro en v2 ⟨rfl, hB_v2⟩; have lay_v2 := laid_after hB_v2; have hG := cell_grown cc1 (by go_grown) hB_v2; replace cc1 := cl hG cc1; replace cc2 := cl hG cc2; replace cc3 := cl hG cc3; replace cc4 := cl hG cc4; have hs_v2 := hG.size; clear hG; replace hBW : Below w.heap.size w v2 := below_after (w := w) (by go_grown) hB_v2; have hn_v2 := an (nl cc1) (nl cc3); clear hB_v2)
  (go_wp2_with fail; refine (class_AnyNaN _ h l h' l' _ _ (by go_simp) (by go_simp) (by go_simp) (by go_simp)).mono ?_; rw [n1.out]; rintro en v3 ⟨rfl, hB_v3⟩; have lay_v3 := laid_after hB_v3; have hG := cell_grown cc1 (by go_grown) hB_v3; replace cc1 := cl hG cc1; replace cc2 := cl hG cc2; replace cc3 := cl hG cc3; replace cc4 := cl hG cc4; have hs_v3 := hG.size; clear hG; replace hBW : Below w.heap.size w v3 := below_after (w := w) (by go_grown) hB_v3; have hn_v3 := an (nl cc1) (nl cc3); clear hB_v3)
  go_wp2_with fail
  go_returns
  exact ⟨rfl, by go_grown⟩

set_option maxRecDepth 100000 in
set_option maxHeartbeats 4000000 in
theorem relN_num (f h l h' l' c e xh xl c' e' yh yl r : Int) (s t : Bool) [hU : U8 f] [U64 h] [U64 l] [U64 h'] [U64 l'] [U64 xh] [U64 xl] [U64 yh] [U64 yl] (w : World) [hLay : Laid w] (hf : f < 4) (n1 : Hid ((nanB f (cat h l) || nanB f (cat h' l')) = false)) (he : -1000000 ≤ e) (he2 : e ≤ 1000000) (hg : -1000000 ≤ e') (hg2 : e' ≤ 1000000)
    (u1 : Hid (sgnF f (cat h l) = s)) (u2 : Hid (classF f (cat h l) = c)) (u3 : Hid (unE f (cat h l) = e)) (u4 : Hid (hi (unS f (cat h l)) = xh)) (u5 : Hid (lo (unS f (cat h l)) = xl)) (k1 : Hid (sgnF f (cat h' l') = t)) (k2 : Hid (classF f (cat h' l') = c')) (k3 : Hid (unE f (cat h' l') = e')) (k4 : Hid (hi (unS f (cat h' l')) = yh)) (k5 : Hid (lo (unS f (cat h' l')) = yl)) (r0 : Hid (relC s c e (cat4 0 0 xl xh) t c' e' (cat4 0 0 yl yh) = r)) :
    Calls Tryd.prog 15 #[.int .u8 f, .agg #[.int .u64 (h), .int .u64 (l)], .agg #[.int .u64 (h'), .int .u64 (l')], .func (.func 20) #[] #[]] w fun en w' => en = .returned (.tuple #[.int .u8 (r), .int .u8 0]) ∧ Below w.heap.size w w' := by
  have hfd : decide (f < 4) = true := decide_eq_true hf
  clear hf
  go_enter Tryd.func15, Tryd.ntmps15
  skip
  (go_wp2_with fail; refine (format_Known_b _ _).mono ?_; rintro en v1 ⟨rfl, hB_v1⟩; have lay_v1 := laid_after hB_v1; have cc1 := cl hB_v1 (show World.cell? _ ⟨w.heap.size, 0, none⟩ = some (.int .u64 h) by go_simp); have cc2 := cl hB_v1 (show World.cell? _ ⟨w.heap.size, 1, none⟩ = some (.int .u64 l) by go_simp); have cc3 := cl hB_v1 (show World.cell? _ ⟨w.heap.size + 1, 0, none⟩ = some (.int .u64 h') by go_simp); have cc4 := cl hB_v1 (show World.cell? _ ⟨w.heap.size + 1, 1, none⟩ = some (.int .u64 l') by go_simp); have hs_v1 := hB_v1.size; (try simp only [World.size_alloc, World.size_setCell, World.size_drew] at hs_v1); have hBW : Below w.heap.size w v1 := below_after (w := w) (by go_grown) hB_v1; have hn_v1 := an (nl cc1) (nl cc3); clear hB_v1)
  (go_wp2_with fail; refine (class_AnyNaN _ h l h' l' _ _ (by go_simp) (by go_simp) (by go_simp) (by go_simp)).mono ?_; rw [n1.out]; rintro en v2 ⟨rfl, hB_v2⟩; have lay_v2 := laid_after hB_v2; have hG := cell_grown cc1 (by go_grown) hB_v2; replace cc1 := cl hG cc1; replace cc2 := cl hG cc2; replace cc3 := cl hG cc3; replace cc4 := cl hG cc4; have hs_v2 := hG.size; clear hG; replace hBW : Below w.heap.size w v2 := below_after (w := w) (by go_grown) hB_v2; have hn_v2 := an (nl cc1) (nl cc3); clear hB_v2)
  go_upto_region 4 with fail
  ((first | refine wp_rename ?_ | refine goal_rename ?_); intro W4 hw_W4; have hG := named cc1 W4 (by rw [hw_W4]; first | with_reducible exact drewN_below (Below.refl _ _) _ | go_grown); replace cc1 := cl hG cc1; replace cc2 := cl hG cc2; replace cc3 := cl hG cc3; replace cc4 := cl hG cc4; replace hBW := below_after hBW hG; have hs_W4 := hG.size; clear hG; have hn_W4 := an (nl cc1) (nl cc3); have lay_W4 : Laid W4 := Laid.below (w := w) (by assumption) hBW; clear hw_W4)
  refine Lin.wp_region_lin (by kernel_rfl) (by intro _ _ d _ _ h; cases d <;> exact h) (by kernel_rfl) (fun w' => Below W4.heap.size W4 w' ∧ w'.cell? ⟨w.heap.size, 0, none⟩ = some (.int .u64 h) ∧ w'.cell? ⟨w.heap.size, 1, none⟩ = some (.int .u64 l) ∧ w'.cell? ⟨w.heap.size + 1, 0, none⟩ = some (.int .u64 h') ∧ w'.cell? ⟨w.heap.size + 1, 1, none⟩ = some (.int .u64 l')) ⟨(Below.refl _ _).drew, by go_simp, by go_simp, by go_simp, by go_simp⟩ ?_
  simp only [List.length_cons, List.length_nil, Nat.reduceAdd]
  iterate 2 (refine Lin.lex_val rfl rfl rfl ?_; apply Exists.intro; refine ⟨fun w' hw' => ?_, ?_⟩; (focus (have hBw := hw'.1; have hSw := hw'.2; clear hw'; (try dsimp only at hBw hSw); go_simp; first | with_reducible exact Lin.lin_value | with_reducible exact Lin.lin_skip)); (try simp only [Act.put, List.setIfInBounds_toArray, List.set_cons_zero, List.set_cons_succ]))
  (refine Lin.lex_val rfl rfl rfl ?_; apply Exists.intro; refine ⟨fun w' hw' => ?_, ?_⟩; (focus (have hBw := hw'.1; have hSw := hw'.2; clear hw'; (try dsimp only at hBw hSw); have lay' : Laid w' := Laid.below lay_W4 hBw; go_simp; first | exact Lin.lin_ret (fields_Unpack _ _ _ _) (by rw [u1.out, u2.out, u3.out, u4.out, u5.out]) | exact Lin.lin_ret (fields_Unpack _ _ _ _) (by rw [k1.out, k2.out, k3.out, k4.out, k5.out]) | exact Lin.lin_ret (comp_related _ _ _ _ _ _ _ _ _ _ _ he he2 hg hg2) (by rw [r0.out]))); (try simp only [Act.put, List.setIfInBounds_toArray, List.set_cons_zero, List.set_cons_succ]))
  iterate 2 (refine Lin.lex_val rfl rfl rfl ?_; apply Exists.intro; refine ⟨fun w' hw' => ?_, ?_⟩; (focus (have hBw := hw'.1; have hSw := hw'.2; clear hw'; (try dsimp only at hBw hSw); go_simp; first | with_reducible exact Lin.lin_value | with_reducible exact Lin.lin_skip)); (try simp only [Act.put, List.setIfInBounds_toArray, List.set_cons_zero, List.set_cons_succ]))
  iterate 2 (refine Lin.lex_val rfl rfl rfl ?_; apply Exists.intro; refine ⟨fun w' hw' => ?_, ?_⟩; (focus (have hBw := hw'.1; have hSw := hw'.2; clear hw'; (try dsimp only at hBw hSw); have lay' : Laid w' := Laid.below lay_W4 hBw; go_simp; first | exact Lin.lin_ret (fields_Unpack _ _ _ _) (by rw [u1.out, u2.out, u3.out, u4.out, u5.out]) | exact Lin.lin_ret (fields_Unpack _ _ _ _) (by rw [k1.out, k2.out, k3.out, k4.out, k5.out]) | exact Lin.lin_ret (comp_related _ _ _ _ _ _ _ _ _ _ _ he he2 hg hg2) (by rw [r0.out]))); (try simp only [Act.put, List.setIfInBounds_toArray, List.set_cons_zero, List.set_cons_succ]))
  refine Lin.lex_rest rfl ?_
  refine Lin.lex_rest rfl ?_
  refine Lin.lex_end ?_
  refine Lin.fin0 (fun wa wb hc hb => ⟨hc.1.trans (hb.mono hc.1.size), cell_later hb hc.2.1, cell_later hb hc.2.2.1, cell_later hb hc.2.2.2.1, cell_later hb hc.2.2.2.2⟩) (by kernel_rfl) ?_
  intro X hw_X
  have hb_X := hw_X.1; clear hw_X
  have lay_X : Laid X := Laid.below lay_W4 hb_X
  (replace cc1 := cl hb_X cc1; replace cc2 := cl hb_X cc2; replace cc3 := cl hb_X cc3; replace cc4 := cl hb_X cc4; replace hBW := below_after hBW hb_X; have hsb_X := hb_X.size; have hn_X := an (nl cc1) (nl cc3))
  (refine wpAny_ready (rs := [7]) (by kernel_rfl) (by simp) ?_; refine AllReady.cons rfl (fun K hK => ?_) AllReady.nil; go_simp; refine hK _ _ ?_; clear hK K)
  (refine wpAny_ready (rs := [8]) (by kernel_rfl) (by simp) ?_; refine AllReady.cons rfl (fun K hK => ?_) AllReady.nil; go_simp; refine hK _ _ ?_; clear hK K)
  refine wpAny_done (by kernel_rfl) ?_ _
  apply_assumption
  (first | refine wp_rename ?_ | refine goal_rename ?_); intro X_ hw_X; subst hw_X
  go_wp2_with fail
  go_returns
  exact ⟨rfl, by go_grown⟩


theorem relN_all (f h l h' l' : Int) [hU : U8 f] [U64 h] [U64 l] [U64 h'] [U64 l'] (w : World) [hLay : Laid w] :
    Calls Tryd.prog 15 #[.int .u8 f, .agg #[.int .u64 (h), .int .u64 (l)], .agg #[.int .u64 (h'), .int .u64 (l')], .func (.func 20) #[] #[]] w fun en w' => en = .returned (.tuple #[.int .u8 (qV f (cat h l) (cat h' l')), .int .u8 (sF f (cat h l) (cat h' l'))]) ∧ Below w.heap.size w w' := by
  by_cases hf : f < 4
  · cases hn : nan2 f (cat h l) (cat h' l')
    · have e1 : qV f (cat h l) (cat h' l') = relF f (cat h l) (cat h' l') := by unfold qV; rw [if_pos hf, hn]; rfl
      have e2 : sF f (cat h l) (cat h' l') = 0 := by unfold sF; rw [hn]; simp
      rw [e1, e2]
      have ka := up_cat _ (unS_lt f (cat h l) hU.ge)
      have kb := up_cat _ (unS_lt f (cat h' l') hU.ge)
      have l1 := unE_low f (cat h l) hU.ge
      have l2 := unE_low f (cat h' l') hU.ge
      exact relN_num f h l h' l' _ _ _ _ _ _ _ _ _ _ _ w hf (Lib.hid hn) (by omega) (unE_hi f _ hU.ge) (by omega) (unE_hi f _ hU.ge) (Lib.hid rfl) (Lib.hid rfl) (Lib.hid rfl) (Lib.hid rfl) (Lib.hid rfl) (Lib.hid rfl) (Lib.hid rfl) (Lib.hid rfl) (Lib.hid rfl) (Lib.hid rfl) (Lib.hid (by rw [ka, kb]; rfl))
    · have e1 : qV f (cat h l) (cat h' l') = 3 := by unfold qV; rw [if_pos hf, hn]; rfl
      rw [e1]

      have e2 : sF f (cat h l) (cat h' l') = 1 := by unfold sF; rw [if_pos ⟨hf, hn⟩]
      rw [e2]
      exact relN_t f h l h' l' w hf (Lib.hid hn)

  · have e1 : qV f (cat h l) (cat h' l') = 0 := by unfold qV; rw [if_neg hf]
    have e2 : sF f (cat h l) (cat h' l') = 0 := by unfold sF; rw [if_neg (fun h => hf h.1)]
    rw [e1, e2]
    exact relN_none f h l h' l' w hf
theorem comp_Signaling (f h l h' l' : Int) [hU : U8 f] [U64 h] [U64 l] [U64 h'] [U64 l'] (w : World) [hLay : Laid w] :
    Calls Tryd.prog 7 #[.int .u8 f, .agg #[.int .u64 (h), .int .u64 (l)], .agg #[.int .u64 (h'), .int .u64 (l')]] w fun en w' => en = .returned (.tuple #[.int .u8 (qV f (cat h l) (cat h' l')), .int .u8 (sF f (cat h l) (cat h' l'))]) ∧ Below w.heap.size w w' := by
  go_enter Tryd.func7, Tryd.ntmps7
  skip
  (go_wp2_with fail; refine (relN_all _ _ _ _ _ _).mono ?_; rintro en v1 ⟨rfl, hB_v1⟩; have lay_v1 := laid_after hB_v1; have cc1 := cl hB_v1 (show World.cell? _ ⟨w.heap.size, 0, none⟩ = some (.int .u64 h) by go_simp); have cc2 := cl hB_v1 (show World.cell? _ ⟨w.heap.size, 1, none⟩ = some (.int .u64 l) by go_simp); have cc3 := cl hB_v1 (show World.cell? _ ⟨w.heap.size + 1, 0, none⟩ = some (.int .u64 h') by go_simp); have cc4 := cl hB_v1 (show World.cell? _ ⟨w.heap.size + 1, 1, none⟩ = some (.int .u64 l') by go_simp); have hs_v1 := hB_v1.size; (try simp only [World.size_alloc, World.size_setCell, World.size_drew] at hs_v1); have hBW : Below w.heap.size w v1 := below_after (w := w) (by go_grown) hB_v1; have hn_v1 := an (nl cc1) (nl cc3); clear hB_v1)
  go_wp2_with fail
  go_returns
  exact ⟨rfl, by go_grown⟩

end Go.Proofs.YthbpbbbngablpaaDoor
