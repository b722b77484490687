/- Sizes of numbers compared: plain lemmas (moved out of Sum1, SumX, Add2). No program in sight. -/
import Derived.Test.YtkpjeceofcfnkaaGreatDoorMag
import Derived.Test.YtkpjeceofcfnkaaGreatDoorAny
import Derived.Test.YtkpjeceofcfnkaaGreatDoorComp2
import Derived.Test.YtkpjeceofcfnkaaGreatDoorWholes
import Derived.Test.YtkpjeceofcfnkaaGreatDoorCodes4
set_option maxRecDepth 100000
set_option maxHeartbeats 4000000
set_option linter.unusedSimpArgs false
set_option linter.unusedVariables false
namespace Go.Proofs.YtkpjeceofcfnkaaGreatDoor
open Go.RowKit Go.Hb
/-- What mag.Cmp answers of two sizes. -/
def magC (e : Int) (a : Nat) (e' : Int) (b : Nat) : Int :=
  if cmpN (rsh a (max e e' - e)) (rsh b (max e e' - e')) = 0 then (if lostS a (max e e' - e) then 1 else if lostS b (max e e' - e') then -1 else 0) else cmpN (rsh a (max e e' - e)) (rsh b (max e e' - e'))
theorem magC_bd (e : Int) (a : Nat) (e' : Int) (b : Nat) : -1 ≤ magC e a e' b ∧ magC e a e' b ≤ 1 := by
  have := cmpN_bd (rsh a (max e e' - e)) (rsh b (max e e' - e'))
  unfold magC; repeat' split <;> omega
theorem mag_Cmp_a (e e' mx x0 x1 x2 x3 y0 y1 y2 y3 p0 p1 p2 p3 q0 q1 q2 q3 c r : Int) (s t : Bool) [U64 x0] [U64 x1] [U64 x2] [U64 x3] [U64 y0] [U64 y1] [U64 y2] [U64 y3] [U64 p0] [U64 p1] [U64 p2] [U64 p3] [U64 q0] [U64 q1] [U64 q2] [U64 q3] (w : World) [hLay : Laid w]
    (he : -1000000 ≤ e) (he2 : e ≤ 1000000) (hf : -1000000 ≤ e') (hf2 : e' ≤ 1000000) (hmx : max e e' = mx) (hm1 : -1000000 ≤ mx) (hm2 : mx ≤ 1000000)
    (a0 : Hid (lo (rsh (cat4 x0 x1 x2 x3) (mx - e)) = p0)) (a1 : Hid (w1 (rsh (cat4 x0 x1 x2 x3) (mx - e)) = p1)) (a2 : Hid (w2 (rsh (cat4 x0 x1 x2 x3) (mx - e)) = p2)) (a3 : Hid (w3 (rsh (cat4 x0 x1 x2 x3) (mx - e)) = p3)) (a4 : Hid (lostS (cat4 x0 x1 x2 x3) (mx - e) = s))
    (b0 : Hid (lo (rsh (cat4 y0 y1 y2 y3) (mx - e')) = q0)) (b1 : Hid (w1 (rsh (cat4 y0 y1 y2 y3) (mx - e')) = q1)) (b2 : Hid (w2 (rsh (cat4 y0 y1 y2 y3) (mx - e')) = q2)) (b3 : Hid (w3 (rsh (cat4 y0 y1 y2 y3) (mx - e')) = q3)) (b4 : Hid (lostS (cat4 y0 y1 y2 y3) (mx - e') = t))
    (c0 : Hid (cmpN (cat4 p0 p1 p2 p3) (cat4 q0 q1 q2 q3) = c)) (hr : ((c == 0) = false ∧ c = r) ∨ ((c == 0) = true ∧ s = true ∧ r = 1) ∨ ((c == 0) = true ∧ s = false ∧ t = true ∧ r = -1) ∨ ((c == 0) = true ∧ s = false ∧ t = false ∧ c = r)) :
    Calls Tryz.prog 127 #[.agg #[.int .i64 e, .int .u64 x0, .int .u64 x1, .int .u64 x2, .int .u64 x3], .agg #[.int .i64 e', .int .u64 y0, .int .u64 y1, .int .u64 y2, .int .u64 y3]] w fun en w' => en = .returned (.int .i64 r) ∧ Below w.heap.size w w' := by
  go_enter Tryz.func127, Tryz.ntmps127
  skip
  go_upto_region 1 with fail
  ((first | refine wp_rename ?_ | refine goal_rename ?_); intro W1 hw_W1; have cc1 : W1.cell? ⟨w.heap.size, 0, none⟩ = some (.int .i64 e) := (by rw [hw_W1]; go_simp); have cc2 : W1.cell? ⟨w.heap.size, 1, none⟩ = some (.int .u64 x0) := (by rw [hw_W1]; go_simp); have cc3 : W1.cell? ⟨w.heap.size, 2, none⟩ = some (.int .u64 x1) := (by rw [hw_W1]; go_simp); have cc4 : W1.cell? ⟨w.heap.size, 3, none⟩ = some (.int .u64 x2) := (by rw [hw_W1]; go_simp); have cc5 : W1.cell? ⟨w.heap.size, 4, none⟩ = some (.int .u64 x3) := (by rw [hw_W1]; go_simp); have cc6 : W1.cell? ⟨w.heap.size + 1, 0, none⟩ = some (.int .i64 e') := (by rw [hw_W1]; go_simp); have cc7 : W1.cell? ⟨w.heap.size + 1, 1, none⟩ = some (.int .u64 y0) := (by rw [hw_W1]; go_simp); have cc8 : W1.cell? ⟨w.heap.size + 1, 2, none⟩ = some (.int .u64 y1) := (by rw [hw_W1]; go_simp); have cc9 : W1.cell? ⟨w.heap.size + 1, 3, none⟩ = some (.int .u64 y2) := (by rw [hw_W1]; go_simp); have cc10 : W1.cell? ⟨w.heap.size + 1, 4, none⟩ = some (.int .u64 y3) := (by rw [hw_W1]; go_simp); have hBW : Below w.heap.size w W1 := (by rw [hw_W1]; (first | with_reducible exact drewN_below (by assumption) _ | go_grown)); have hn_W1 := an (nl cc1) (nl cc6); have lay_W1 : Laid W1 := Laid.below (w := w) (by assumption) hBW; clear hw_W1)
  refine Lin.wp_region_lin (by kernel_rfl) (by intro _ _ d _ _ h; cases d <;> exact h) (by kernel_rfl) (fun w' => Below W1.heap.size W1 w' ∧ w'.cell? ⟨w.heap.size, 0, none⟩ = some (.int .i64 e) ∧ w'.cell? ⟨w.heap.size, 1, none⟩ = some (.int .u64 x0) ∧ w'.cell? ⟨w.heap.size, 2, none⟩ = some (.int .u64 x1) ∧ w'.cell? ⟨w.heap.size, 3, none⟩ = some (.int .u64 x2) ∧ w'.cell? ⟨w.heap.size, 4, none⟩ = some (.int .u64 x3) ∧ w'.cell? ⟨w.heap.size + 1, 0, none⟩ = some (.int .i64 e') ∧ w'.cell? ⟨w.heap.size + 1, 1, none⟩ = some (.int .u64 y0) ∧ w'.cell? ⟨w.heap.size + 1, 2, none⟩ = some (.int .u64 y1) ∧ w'.cell? ⟨w.heap.size + 1, 3, none⟩ = some (.int .u64 y2) ∧ w'.cell? ⟨w.heap.size + 1, 4, none⟩ = some (.int .u64 y3)) ⟨(Below.refl _ _).drew, by go_simp, by go_simp, by go_simp, by go_simp, by go_simp, by go_simp, by go_simp, by go_simp, by go_simp, by go_simp⟩ ?_
  simp only [List.length_cons, List.length_nil, Nat.reduceAdd]
  iterate 7 (first | refine Lin.lex_rest rfl ?_ | (refine Lin.lex_val rfl rfl (by first | rfl | kernel_rfl) ?_; apply Exists.intro; refine ⟨fun w' hw' => ?_, ?_⟩; (focus (have hBw := hw'.1; have hSw := hw'.2; clear hw'; (try dsimp only at hBw hSw); have lay' : Laid w' := Laid.below lay_W1 hBw; go_simp; first | with_reducible exact Lin.lin_value | with_reducible exact Lin.lin_skip | exact Lin.lin_ret (mag_exp _ _ _ _ _ _ he he2) rfl | exact Lin.lin_ret (mag_exp _ _ _ _ _ _ hf hf2) rfl)); (try simp only [Act.put, List.setIfInBounds_toArray, List.set_cons_zero, List.set_cons_succ])))
  refine Lin.lex_end ?_
  refine Lin.new1 W1.heap.size (fun wa wb hc hb => ⟨hc.1.trans (hb.mono hc.1.size), cell_later hb hc.2.1, cell_later hb hc.2.2.1, cell_later hb hc.2.2.2.1, cell_later hb hc.2.2.2.2.1, cell_later hb hc.2.2.2.2.2.1, cell_later hb hc.2.2.2.2.2.2.1, cell_later hb hc.2.2.2.2.2.2.2.1, cell_later hb hc.2.2.2.2.2.2.2.2.1, cell_later hb hc.2.2.2.2.2.2.2.2.2.1, cell_later hb hc.2.2.2.2.2.2.2.2.2.2⟩) (fun wa hc => hc.1.size) 5 _ rfl rfl (by kernel_rfl) (by kernel_rfl) rfl (.int .i64 0) (by intro t ht; cases ht <;> (intro w; kernel_rfl)) ?_
  intro g X hw_X lo_g ho_g
  have hb_X := hw_X.1; clear hw_X
  have lay_X : Laid X := Laid.below lay_W1 hb_X
  (replace cc1 := cl hb_X cc1; replace cc2 := cl hb_X cc2; replace cc3 := cl hb_X cc3; replace cc4 := cl hb_X cc4; replace cc5 := cl hb_X cc5; replace cc6 := cl hb_X cc6; replace cc7 := cl hb_X cc7; replace cc8 := cl hb_X cc8; replace cc9 := cl hb_X cc9; replace cc10 := cl hb_X cc10; replace hBW := below_after hBW hb_X; have hsb_X := hb_X.size; have hn_X := an (nl cc1) (nl cc6))
  have hi_g := Lin.heap_lt ho_g
  have cc11 : X.cell? ⟨g, 0, none⟩ = some (.int .i64 0) := Lin.heap_cell ho_g rfl; have fcc11 : X.frozen? ⟨g, 0, none⟩ = false := Lin.heap_free ho_g
  clear ho_g
  have hN_X : g ≠ X.heap.size ∧ X.heap.size ≠ g ∧ w.heap.size ≤ g := (by omega)
  unfold Lin.ptrOf
  (try simp only [Act.put, List.setIfInBounds_toArray, List.set_cons_zero, List.set_cons_succ])
  have hM_X : w.heap.size ≠ g ∧ g ≠ w.heap.size ∧ w.heap.size + 1 ≠ g ∧ g ≠ w.heap.size + 1 := (by omega)
  (refine wpAny_ready (rs := [6]) (by kernel_rfl) (by simp) ?_; refine AllReady.cons rfl (fun K hK => ?_) AllReady.nil; go_simp; refine hK _ _ ?_; clear hK K)
  refine wpAny_done (by kernel_rfl) ?_ _
  apply_assumption
  ((first | refine wp_rename ?_ | refine goal_rename ?_); intro Xs hw_Xs; replace cc1 := rn hw_Xs cc1 (by go_simp); replace cc2 := rn hw_Xs cc2 (by go_simp); replace cc3 := rn hw_Xs cc3 (by go_simp); replace cc4 := rn hw_Xs cc4 (by go_simp); replace cc5 := rn hw_Xs cc5 (by go_simp); replace cc6 := rn hw_Xs cc6 (by go_simp); replace cc7 := rn hw_Xs cc7 (by go_simp); replace cc8 := rn hw_Xs cc8 (by go_simp); replace cc9 := rn hw_Xs cc9 (by go_simp); replace cc10 := rn hw_Xs cc10 (by go_simp); replace cc11 : Xs.cell? ⟨g, 0, none⟩ = some (.int .i64 mx) := (by rw [hw_Xs]; go_simp); replace fcc11 := rf hw_Xs fcc11 (by go_simp); replace hBW : Below w.heap.size w Xs := (by rw [hw_Xs]; (first | with_reducible exact drewN_below (by assumption) _ | go_grown)); have hn_Xs := an (nl cc1) (an (nl cc6) (nl cc11)); have lay_Xs : Laid Xs := Laid.below (w := w) (by assumption) hBW; clear hw_Xs)
  (go_wp2_with fail; refine (mag_part _ _ _ _ _ _ _ _ _ _ _ _ _ he he2 hm1 hm2 (by assumption) (by omega) a0 a1 a2 a3 a4).mono ?_; rintro en v2 ⟨rfl, hB_v2⟩; have lay_v2 := laid_after hB_v2; have hG := cell_grown cc1 (by go_grown) hB_v2; replace cc1 := cl hG cc1; replace cc2 := cl hG cc2; replace cc3 := cl hG cc3; replace cc4 := cl hG cc4; replace cc5 := cl hG cc5; replace cc6 := cl hG cc6; replace cc7 := cl hG cc7; replace cc8 := cl hG cc8; replace cc9 := cl hG cc9; replace cc10 := cl hG cc10; replace fcc11 := fl hG fcc11 cc11; replace cc11 := cl hG cc11; replace hBW := below_after hBW hG; have hs_v2 := hG.size; clear hG; have hn_v2 := an (nl cc1) (an (nl cc6) (nl cc11)); clear hB_v2)
  (go_wp2_with fail; refine (mag_part _ _ _ _ _ _ _ _ _ _ _ _ _ hf hf2 hm1 hm2 (by first | assumption | go_simp) (by first | omega | (go_simp; done) | (go_simp; omega)) b0 b1 b2 b3 b4).mono ?_; rintro en v3 ⟨rfl, hB_v3⟩; have lay_v3 := laid_after hB_v3; have hG := cell_grown cc1 (by go_grown) hB_v3; replace cc1 := cl hG cc1; replace cc2 := cl hG cc2; replace cc3 := cl hG cc3; replace cc4 := cl hG cc4; replace cc5 := cl hG cc5; replace cc6 := cl hG cc6; replace cc7 := cl hG cc7; replace cc8 := cl hG cc8; replace cc9 := cl hG cc9; replace cc10 := cl hG cc10; replace fcc11 := fl hG fcc11 cc11; replace cc11 := cl hG cc11; have cc12 := cl hB_v3 (show World.cell? _ ⟨v2.heap.size, 0, none⟩ = some (.int .u64 p0) by go_simp); have cc13 := cl hB_v3 (show World.cell? _ ⟨v2.heap.size, 1, none⟩ = some (.int .u64 p1) by go_simp); have cc14 := cl hB_v3 (show World.cell? _ ⟨v2.heap.size, 2, none⟩ = some (.int .u64 p2) by go_simp); have cc15 := cl hB_v3 (show World.cell? _ ⟨v2.heap.size, 3, none⟩ = some (.int .u64 p3) by go_simp); replace hBW := below_after hBW hG; have hs_v3 := hG.size; clear hG; have hn_v3 := an (nl cc1) (an (nl cc6) (an (nl cc11) (nl cc12))); clear hB_v3)
  (go_wp2_with fail; refine (wide_Cmp _ _ _ _ _ _ _ _ _).mono ?_; rw [c0.out]; rintro en v4 ⟨rfl, hB_v4⟩; have lay_v4 := laid_after hB_v4; have hG := cell_grown cc1 (by go_grown) hB_v4; replace cc1 := cl hG cc1; replace cc2 := cl hG cc2; replace cc3 := cl hG cc3; replace cc4 := cl hG cc4; replace cc5 := cl hG cc5; replace cc6 := cl hG cc6; replace cc7 := cl hG cc7; replace cc8 := cl hG cc8; replace cc9 := cl hG cc9; replace cc10 := cl hG cc10; replace fcc11 := fl hG fcc11 cc11; replace cc11 := cl hG cc11; replace cc12 := cl hG cc12; replace cc13 := cl hG cc13; replace cc14 := cl hG cc14; replace cc15 := cl hG cc15; have cc16 := cl hB_v4 (show World.cell? _ ⟨v3.heap.size, 0, none⟩ = some (.int .u64 q0) by go_simp); have cc17 := cl hB_v4 (show World.cell? _ ⟨v3.heap.size, 1, none⟩ = some (.int .u64 q1) by go_simp); have cc18 := cl hB_v4 (show World.cell? _ ⟨v3.heap.size, 2, none⟩ = some (.int .u64 q2) by go_simp); have cc19 := cl hB_v4 (show World.cell? _ ⟨v3.heap.size, 3, none⟩ = some (.int .u64 q3) by go_simp); replace hBW := below_after hBW hG; have hs_v4 := hG.size; clear hG; have hn_v4 := an (nl cc1) (an (nl cc6) (an (nl cc11) (an (nl cc12) (nl cc16)))); clear hB_v4)
  rcases hr with ⟨ck, rfl⟩ | ⟨ck, rfl, rfl⟩ | ⟨ck, rfl, rfl, rfl⟩ | ⟨ck, rfl, rfl, rfl⟩
  · go_wp2_with fail
    go_returns
    exact ⟨rfl, by go_grown⟩
  · go_wp2_with fail
    go_returns
    exact ⟨rfl, by go_grown⟩
  · go_wp2_with fail
    go_returns
    exact ⟨rfl, by go_grown⟩
  · go_wp2_with fail
    go_returns
    exact ⟨rfl, by go_grown⟩
theorem mag_Cmp (e e' x0 x1 x2 x3 y0 y1 y2 y3 : Int) [U64 x0] [U64 x1] [U64 x2] [U64 x3] [U64 y0] [U64 y1] [U64 y2] [U64 y3] (w : World) [hLay : Laid w] (he : -1000000 ≤ e) (he2 : e ≤ 1000000) (hf : -1000000 ≤ e') (hf2 : e' ≤ 1000000) :
    Calls Tryz.prog 127 #[.agg #[.int .i64 e, .int .u64 x0, .int .u64 x1, .int .u64 x2, .int .u64 x3], .agg #[.int .i64 e', .int .u64 y0, .int .u64 y1, .int .u64 y2, .int .u64 y3]] w fun en w' => en = .returned (.int .i64 (magC e (cat4 x0 x1 x2 x3) e' (cat4 y0 y1 y2 y3))) ∧ Below w.heap.size w w' := by
  have h1 : rsh (cat4 x0 x1 x2 x3) (max e e' - e) < 115792089237316195423570985008687907853269984665640564039457584007913129639936 := Nat.lt_of_le_of_lt (Nat.div_le_self _ _) (cat4_lt x0 x1 x2 x3)
  have h2 : rsh (cat4 y0 y1 y2 y3) (max e e' - e') < 115792089237316195423570985008687907853269984665640564039457584007913129639936 := Nat.lt_of_le_of_lt (Nat.div_le_self _ _) (cat4_lt y0 y1 y2 y3)
  have hq : cmpN (cat4 (lo (rsh (cat4 x0 x1 x2 x3) (max e e' - e))) (w1 (rsh (cat4 x0 x1 x2 x3) (max e e' - e))) (w2 (rsh (cat4 x0 x1 x2 x3) (max e e' - e))) (w3 (rsh (cat4 x0 x1 x2 x3) (max e e' - e)))) (cat4 (lo (rsh (cat4 y0 y1 y2 y3) (max e e' - e'))) (w1 (rsh (cat4 y0 y1 y2 y3) (max e e' - e'))) (w2 (rsh (cat4 y0 y1 y2 y3) (max e e' - e'))) (w3 (rsh (cat4 y0 y1 y2 y3) (max e e' - e')))) = cmpN (rsh (cat4 x0 x1 x2 x3) (max e e' - e)) (rsh (cat4 y0 y1 y2 y3) (max e e' - e')) := by rw [cat4_parts _ h1, cat4_parts _ h2]
  refine mag_Cmp_a e e' (max e e') x0 x1 x2 x3 y0 y1 y2 y3 _ _ _ _ _ _ _ _ _ _ _ _ w he he2 hf hf2 rfl (by omega) (by omega) (Lib.hid rfl) (Lib.hid rfl) (Lib.hid rfl) (Lib.hid rfl) (Lib.hid rfl) (Lib.hid rfl) (Lib.hid rfl) (Lib.hid rfl) (Lib.hid rfl) (Lib.hid rfl) (Lib.hid rfl) ?_
  rw [hq]
  unfold magC
  generalize cmpN (rsh (cat4 x0 x1 x2 x3) (max e e' - e)) (rsh (cat4 y0 y1 y2 y3) (max e e' - e')) = c
  generalize lostS (cat4 x0 x1 x2 x3) (max e e' - e) = s
  generalize lostS (cat4 y0 y1 y2 y3) (max e e' - e') = t
  by_cases hc : c = 0
  · subst hc
    cases s <;> cases t <;> simp
  · rw [if_neg hc]
    exact Or.inl ⟨beq_eq_false_iff_ne.2 hc, rfl⟩
end Go.Proofs.YtkpjeceofcfnkaaGreatDoor
namespace Go.Proofs.YtkpjeceofcfnkaaGreatDoor
open Go.RowKit Go.Hb
theorem cmpN_lt {a b : Nat} (h : a < b) : cmpN a b = -1 := by unfold cmpN; rw [if_pos h]
theorem cmpN_gt {a b : Nat} (h : b < a) : cmpN a b = 1 := by unfold cmpN; rw [if_neg (by omega), if_pos h]
theorem cmpN_same {a b : Nat} (h : a = b) : cmpN a b = 0 := by unfold cmpN; rw [if_neg (by omega), if_neg (by omega)]
theorem mag_lt {e : Int} {a : Nat} {e' : Int} {b : Nat} (h : rsh a (max e e' - e) < rsh b (max e e' - e')) : magC e a e' b = -1 := by
  unfold magC; rw [cmpN_lt h, if_neg (by decide)]
theorem mag_gt {e : Int} {a : Nat} {e' : Int} {b : Nat} (h : rsh b (max e e' - e') < rsh a (max e e' - e)) : magC e a e' b = 1 := by
  unfold magC; rw [cmpN_gt h, if_neg (by decide)]
theorem mag_same {e : Int} {a : Nat} {e' : Int} {b : Nat} (h : rsh a (max e e' - e) = rsh b (max e e' - e')) : magC e a e' b = if lostS a (max e e' - e) then 1 else if lostS b (max e e' - e') then -1 else 0 := by
  unfold magC; rw [cmpN_same h, if_pos rfl]
theorem un_bd (f : Int) (v : Nat) (h0 : 0 ≤ f) : -1000000 ≤ unE f v ∧ unE f v ≤ 1000000 := by
  obtain ⟨e0, e1⟩ := emaxS_bd f
  obtain ⟨p0, p1⟩ := precS_bd f
  have hl := unE_low f v h0
  refine ⟨by omega, ?_⟩
  unfold unE
  split
  · have hx : expF f v ≤ 32767 := by
      unfold expF
      split
      · omega
      · have hw : (widthS f - precS f).toNat ≤ 15 := by unfold widthS precS; repeat' split <;> omega
        have := Nat.mod_lt (v / 2 ^ (precS f - 1).toNat) (Nat.two_pow_pos (widthS f - precS f).toNat)
        have h2 : 2 ^ (widthS f - precS f).toNat ≤ 2 ^ 15 := Nat.pow_le_pow_right (by decide) hw
        have h3 : (2 : Nat) ^ 15 = 32768 := by decide
        omega
    omega
  · split
    · have := by128_bd (fracF f v) (Nat.lt_trans (fracF_lt f v h0) (by decide)); omega
    · omega
theorem numX_in (K e : Int) (v : Nat) (h0 : -1000000 ≤ e) (h1 : e ≤ 2000000) : numX K e v = v * 2 ^ (e + K).toNat := by
  have h : farS e = e := by unfold farS; omega
  unfold numX
  rw [h]
theorem cmp_mul (x y k : Nat) : cmpN (x * 2 ^ k) (y * 2 ^ k) = cmpN x y := by
  have hp := Nat.two_pow_pos k
  rcases Nat.lt_trichotomy x y with h | h | h
  · rw [cmpN_lt h, cmpN_lt (Nat.mul_lt_mul_of_pos_right h hp)]
  · rw [h, cmpN_same rfl, cmpN_same rfl]
  · rw [cmpN_gt h, cmpN_gt (Nat.mul_lt_mul_of_pos_right h hp)]
theorem cmp_neg (x y : Nat) : cmpN y x = -(cmpN x y) := by
  rcases Nat.lt_trichotomy x y with h | h | h
  · rw [cmpN_lt h, cmpN_gt h]; rfl
  · rw [cmpN_same h, cmpN_same h.symm]; rfl
  · rw [cmpN_gt h, cmpN_lt h]
theorem mag_ge (e e' : Int) (a b : Nat) (hee : e' ≤ e) : magC e a e' b = cmpN (a * 2 ^ (e - e').toNat) b := by
  have hx : max e e' = e := by omega
  have r1 : rsh a (max e e' - e) = a := by rw [hx]; unfold rsh; rw [show (e - e).toNat = 0 by omega, Nat.pow_zero, Nat.div_one]
  have l1 : lostS a (max e e' - e) = false := by rw [hx]; unfold lostS; rw [show (e - e).toNat = 0 by omega, Nat.pow_zero, Nat.mod_one]; decide
  have r2 : rsh b (max e e' - e') = b / 2 ^ (e - e').toNat := by rw [hx]; rfl
  have hp := Nat.two_pow_pos (e - e').toNat
  have hd := Nat.div_add_mod b (2 ^ (e - e').toNat)
  have hm := Nat.mod_lt b hp
  rcases Nat.lt_trichotomy a (b / 2 ^ (e - e').toNat) with h | h | h
  · rw [mag_lt (by rw [r1, r2]; exact h)]
    have := Nat.mul_le_mul_right (2 ^ (e - e').toNat) (show a + 1 ≤ b / 2 ^ (e - e').toNat from h)
    rw [Nat.succ_mul, Nat.mul_comm (b / 2 ^ (e - e').toNat)] at this
    rw [cmpN_lt (by omega)]
  · rw [mag_same (by rw [r1, r2]; exact h), l1]
    rw [← h, Nat.mul_comm] at hd
    by_cases hz : b % 2 ^ (e - e').toNat = 0
    · have l2 : lostS b (max e e' - e') = false := by rw [hx]; unfold lostS; rw [hz]; decide
      rw [l2, cmpN_same (by omega)]; rfl
    · have l2 : lostS b (max e e' - e') = true := by rw [hx]; unfold lostS; exact decide_eq_true hz
      rw [l2, cmpN_lt (by omega)]; rfl
  · rw [mag_gt (by rw [r1, r2]; exact h)]
    have := Nat.mul_le_mul_right (2 ^ (e - e').toNat) (show b / 2 ^ (e - e').toNat + 1 ≤ a from h)
    rw [Nat.succ_mul, Nat.mul_comm (b / 2 ^ (e - e').toNat)] at this
    rw [cmpN_gt (by omega)]
theorem mag_anti (e e' : Int) (a b : Nat) : magC e' b e a = -(magC e a e' b) := by
  have hx : max e' e = max e e' := Int.max_comm e' e
  rcases Nat.lt_trichotomy (rsh a (max e e' - e)) (rsh b (max e e' - e')) with h1 | h1 | h1
  · rw [mag_gt (by rw [hx]; exact h1), mag_lt h1]; rfl
  · rw [mag_same (by rw [hx]; exact h1.symm), mag_same h1, hx]
    have hno : ¬ (lostS a (max e e' - e) = true ∧ lostS b (max e e' - e') = true) := by
      rintro ⟨h2, h3⟩
      unfold lostS at h2 h3
      rw [decide_eq_true_eq] at h2 h3
      rcases Int.le_total e' e with h | h
      · apply h2; rw [show (max e e' - e).toNat = 0 by omega, Nat.pow_zero, Nat.mod_one]
      · apply h3; rw [show (max e e' - e').toNat = 0 by omega, Nat.pow_zero, Nat.mod_one]
    cases hla : lostS a (max e e' - e) <;> cases hlb : lostS b (max e e' - e')
    · rfl
    · rfl
    · rfl
    · exact absurd ⟨hla, hlb⟩ hno
  · rw [mag_lt (by rw [hx]; exact h1), mag_gt h1]
/-- Sizes compared as numbers. -/
theorem mag_cmp (K e e' : Int) (a b : Nat) (h0 : -1000000 ≤ e) (h1 : e ≤ 1000000) (h0' : -1000000 ≤ e') (h1' : e' ≤ 1000000) (hK : 3000000 ≤ K) : magC e a e' b = cmpN (numX K e a) (numX K e' b) := by
  have key : ∀ (e e' : Int) (a b : Nat), -1000000 ≤ e' → e ≤ 1000000 → e' ≤ e → magC e a e' b = cmpN (numX K e a) (numX K e' b) := fun e e' a b h0 h1 hee => by
    rw [mag_ge e e' a b hee, numX_in K e a (by omega) (by omega), numX_in K e' b h0 (by omega), show (e + K).toNat = (e - e').toNat + (e' + K).toNat by omega, Nat.pow_add, ← Nat.mul_assoc, cmp_mul]
  rcases Int.le_total e' e with h | h
  · exact key e e' a b h0' h1 h
  · rw [mag_anti e' e b a, key e' e b a h0 h1' h, cmp_neg]
    omega
end Go.Proofs.YtkpjeceofcfnkaaGreatDoor
