/- CompOrder: the relation is an order, and that of the difference to nought; the walks by ways, joined. Condition: the listed table is laid. -/
import Derived.Test.YtkldkchkhblndaaGreatDoorLaw28a
import Derived.Test.YtkldkchkhblndaaGreatDoorRelP
import Derived.Test.YtkldkchkhblndaaGreatDoorAny3
import Derived.Test.YtkldkchkhblndaaGreatDoorSumX
set_option linter.unusedSimpArgs false
set_option linter.unusedVariables false
namespace Go.Proofs.YtkldkchkhblndaaGreatDoor
open Go.RowKit Go.Hb
set_option maxRecDepth 100000 in
set_option maxHeartbeats 8000000 in
theorem co_nf (f h l h' l' h2 l2 : Int) [hU : U8 f] [U64 h] [U64 l] [U64 h'] [U64 l'] [U64 h2] [U64 l2] (w : World) [hLay : Laid w] (hf : ¬ f < 4) :
    Calls Tryz.prog 12 #[.int .u8 f, .agg #[.int .u64 (h), .int .u64 (l)], .agg #[.int .u64 (h'), .int .u64 (l')], .agg #[.int .u64 (h2), .int .u64 (l2)]] w fun en w' => en = .returned (.bool true) ∧ Below w.heap.size w w' := by
  have hfd : decide (f < 4) = false := decide_eq_false hf
  clear hf
  go_enter Tryz.func12, Tryz.ntmps12
  skip
  (go_wp2_with fail; refine (format_Known_b _ _).mono ?_; rintro en v1 ⟨rfl, hB_v1⟩; have lay_v1 := laid_after hB_v1; have cc1 := cl hB_v1 (show World.cell? _ ⟨w.heap.size, 0, none⟩ = some (.int .u64 h) by go_simp); have cc2 := cl hB_v1 (show World.cell? _ ⟨w.heap.size, 1, none⟩ = some (.int .u64 l) by go_simp); have cc3 := cl hB_v1 (show World.cell? _ ⟨w.heap.size + 1, 0, none⟩ = some (.int .u64 h') by go_simp); have cc4 := cl hB_v1 (show World.cell? _ ⟨w.heap.size + 1, 1, none⟩ = some (.int .u64 l') by go_simp); have cc5 := cl hB_v1 (show World.cell? _ ⟨w.heap.size + 1 + 1, 0, none⟩ = some (.int .u64 h2) by go_simp); have cc6 := cl hB_v1 (show World.cell? _ ⟨w.heap.size + 1 + 1, 1, none⟩ = some (.int .u64 l2) by go_simp); have hs_v1 := hB_v1.size; (try simp only [World.size_alloc, World.size_setCell, World.size_drew] at hs_v1); have hBW : Below w.heap.size w v1 := below_after (w := w) (by go_grown) hB_v1; have hn_v1 := an (nl cc1) (an (nl cc3) (nl cc5)); clear hB_v1)
  (go_wp2_with fail; refine (law28_goes _).mono ?_; rintro en v9 ⟨rfl, hB_v9⟩; have lay_v9 := laid_after hB_v9; have hG := cell_grown cc1 (by go_grown) hB_v9; replace cc1 := cl hG cc1; replace cc2 := cl hG cc2; replace cc3 := cl hG cc3; replace cc4 := cl hG cc4; replace cc5 := cl hG cc5; replace cc6 := cl hG cc6; have hs_v9 := hG.size; clear hG; replace hBW : Below w.heap.size w v9 := below_after (w := w) (by go_grown) hB_v9; have hn_v9 := an (nl cc1) (an (nl cc3) (nl cc5)); clear hB_v9)
  go_wp2_with fail
  go_returns
  exact ⟨rfl, by go_grown⟩
set_option maxRecDepth 100000 in
set_option maxHeartbeats 8000000 in
theorem co_nan (f h l h' l' h2 l2 : Int) [hU : U8 f] [U64 h] [U64 l] [U64 h'] [U64 l'] [U64 h2] [U64 l2] (w : World) [hLay : Laid w] (hf : f < 4) (n3 : Hid ((nanB f (cat h l) || nanB f (cat h' l') || nanB f (cat h2 l2)) = true)) :
    Calls Tryz.prog 12 #[.int .u8 f, .agg #[.int .u64 (h), .int .u64 (l)], .agg #[.int .u64 (h'), .int .u64 (l')], .agg #[.int .u64 (h2), .int .u64 (l2)]] w fun en w' => en = .returned (.bool true) ∧ Below w.heap.size w w' := by
  have hfd : decide (f < 4) = true := decide_eq_true hf
  clear hf
  go_enter Tryz.func12, Tryz.ntmps12
  skip
  (go_wp2_with fail; refine (format_Known_b _ _).mono ?_; rintro en v1 ⟨rfl, hB_v1⟩; have lay_v1 := laid_after hB_v1; have cc1 := cl hB_v1 (show World.cell? _ ⟨w.heap.size, 0, none⟩ = some (.int .u64 h) by go_simp); have cc2 := cl hB_v1 (show World.cell? _ ⟨w.heap.size, 1, none⟩ = some (.int .u64 l) by go_simp); have cc3 := cl hB_v1 (show World.cell? _ ⟨w.heap.size + 1, 0, none⟩ = some (.int .u64 h') by go_simp); have cc4 := cl hB_v1 (show World.cell? _ ⟨w.heap.size + 1, 1, none⟩ = some (.int .u64 l') by go_simp); have cc5 := cl hB_v1 (show World.cell? _ ⟨w.heap.size + 1 + 1, 0, none⟩ = some (.int .u64 h2) by go_simp); have cc6 := cl hB_v1 (show World.cell? _ ⟨w.heap.size + 1 + 1, 1, none⟩ = some (.int .u64 l2) by go_simp); have hs_v1 := hB_v1.size; (try simp only [World.size_alloc, World.size_setCell, World.size_drew] at hs_v1); have hBW : Below w.heap.size w v1 := below_after (w := w) (by go_grown) hB_v1; have hn_v1 := an (nl cc1) (an (nl cc3) (nl cc5)); clear hB_v1)
  (go_wp2_with fail; refine (class_AnyNaN3 _ h l h' l' h2 l2 _ _ (by go_simp) (by go_simp) (by go_simp) (by go_simp) (by go_simp) (by go_simp)).mono ?_; rw [n3.out]; rintro en v2 ⟨rfl, hB_v2⟩; have lay_v2 := laid_after hB_v2; have hG := cell_grown cc1 (by go_grown) hB_v2; replace cc1 := cl hG cc1; replace cc2 := cl hG cc2; replace cc3 := cl hG cc3; replace cc4 := cl hG cc4; replace cc5 := cl hG cc5; replace cc6 := cl hG cc6; have hs_v2 := hG.size; clear hG; replace hBW : Below w.heap.size w v2 := below_after (w := w) (by go_grown) hB_v2; have hn_v2 := an (nl cc1) (an (nl cc3) (nl cc5)); clear hB_v2)
  (go_wp2_with fail; refine (law28_goes _).mono ?_; rintro en v9 ⟨rfl, hB_v9⟩; have lay_v9 := laid_after hB_v9; have hG := cell_grown cc1 (by go_grown) hB_v9; replace cc1 := cl hG cc1; replace cc2 := cl hG cc2; replace cc3 := cl hG cc3; replace cc4 := cl hG cc4; replace cc5 := cl hG cc5; replace cc6 := cl hG cc6; have hs_v9 := hG.size; clear hG; replace hBW : Below w.heap.size w v9 := below_after (w := w) (by go_grown) hB_v9; have hn_v9 := an (nl cc1) (an (nl cc3) (nl cc5)); clear hB_v9)
  go_wp2_with fail
  go_returns
  exact ⟨rfl, by go_grown⟩
set_option maxRecDepth 100000 in
set_option maxHeartbeats 8000000 in
theorem co_ok (f h l h' l' h2 l2 x y z u o k k' s0 s1 sf z0 z1 : Int) (sk sk' : Bool) [hU : U8 f] [U64 h] [U64 l] [U64 h'] [U64 l'] [U64 h2] [U64 l2] [U64 s0] [U64 s1] [U64 z0] [U64 z1] (w : World) [hLay : Laid w] (hf : f < 4) (n3 : Hid ((nanB f (cat h l) || nanB f (cat h' l') || nanB f (cat h2 l2)) = false))
    (a0 : Hid (qV f (cat h l) (cat h' l') = x)) (a1 : Hid (qF f (cat h l) (cat h' l') = 0)) (b0 : Hid (qV f (cat h' l') (cat h l) = y)) (b1 : Hid (sF f (cat h' l') (cat h l) = 0)) (c0 : Hid (qV f (cat h' l') (cat h2 l2) = z)) (c1 : Hid (qF f (cat h' l') (cat h2 l2) = 0)) (d0 : Hid (qV f (cat h l) (cat h2 l2) = u)) (d1 : Hid (qF f (cat h l) (cat h2 l2) = 0))
    (o0 : Hid (ordF f (cat h l) (cat h' l') = o)) (k0 : Hid (classF f (cat h l) = k)) (k1 : Hid (sgnF f (cat h l) = sk)) (k2 : Hid (classF f (cat h' l') = k')) (k3 : Hid (sgnF f (cat h' l') = sk'))
    (q2 : decide (x > 2) = false) (qs : IntKind.u8.wrap (x + y) = 2)
    (h7 : (decide (x ≤ 1) = false) ∨ (decide (x ≤ 1) = true ∧ decide (z ≤ 1) = false) ∨ (decide (x ≤ 1) = true ∧ decide (z ≤ 1) = true ∧ decide (u > 1) = false))
    (h10 : (x = 0 ∧ o = -1) ∨ (x = 2 ∧ o = 1) ∨ ((x == 0) = false ∧ (x == 2) = false))
    (h14 : ((x == 1) = false) ∨ (x = 1 ∧ o = 0) ∨ (x = 1 ∧ (o == 0) = false ∧ (o != 0) = true ∧ k = 0 ∧ k' = 0))
    (e0 : Hid (hi (addB f 0 (cat h l) (subN f (cat h' l'))) = s0)) (e1 : Hid (lo (addB f 0 (cat h l) (subN f (cat h' l'))) = s1)) (e2 : Hid (addFl f 0 false (cat h l) (subN f (cat h' l')) = sf)) (g0 : Hid (hi (makeF f true 0 0) = z0)) (g1 : Hid (lo (makeF f true 0 0) = z1))
    (hfin : finC f (cat h l) = false ∨ (finC f (cat h l) = true ∧ finC f (cat h' l') = false) ∨ (finC f (cat h l) = true ∧ finC f (cat h' l') = true ∧ qV f (cat s0 s1) (cat z0 z1) = x ∧ qF f (cat s0 s1) (cat z0 z1) = 0)) :
    Calls Tryz.prog 12 #[.int .u8 f, .agg #[.int .u64 (h), .int .u64 (l)], .agg #[.int .u64 (h'), .int .u64 (l')], .agg #[.int .u64 (h2), .int .u64 (l2)]] w fun en w' => en = .returned (.bool true) ∧ Below w.heap.size w w' := by
  have hfd : decide (f < 4) = true := decide_eq_true hf
  have hor : bits BinOp.or IntKind.u8 0 0 = 0 := by decide +kernel
  clear hf
  go_enter Tryz.func12, Tryz.ntmps12
  skip
  (go_wp2_with fail; refine (format_Known_b _ _).mono ?_; rintro en v1 ⟨rfl, hB_v1⟩; have lay_v1 := laid_after hB_v1; have cc1 := cl hB_v1 (show World.cell? _ ⟨w.heap.size, 0, none⟩ = some (.int .u64 h) by go_simp); have cc2 := cl hB_v1 (show World.cell? _ ⟨w.heap.size, 1, none⟩ = some (.int .u64 l) by go_simp); have cc3 := cl hB_v1 (show World.cell? _ ⟨w.heap.size + 1, 0, none⟩ = some (.int .u64 h') by go_simp); have cc4 := cl hB_v1 (show World.cell? _ ⟨w.heap.size + 1, 1, none⟩ = some (.int .u64 l') by go_simp); have cc5 := cl hB_v1 (show World.cell? _ ⟨w.heap.size + 1 + 1, 0, none⟩ = some (.int .u64 h2) by go_simp); have cc6 := cl hB_v1 (show World.cell? _ ⟨w.heap.size + 1 + 1, 1, none⟩ = some (.int .u64 l2) by go_simp); have hs_v1 := hB_v1.size; (try simp only [World.size_alloc, World.size_setCell, World.size_drew] at hs_v1); have hBW : Below w.heap.size w v1 := below_after (w := w) (by go_grown) hB_v1; have hn_v1 := an (nl cc1) (an (nl cc3) (nl cc5)); clear hB_v1)
  (go_wp2_with fail; refine (class_AnyNaN3 _ h l h' l' h2 l2 _ _ (by go_simp) (by go_simp) (by go_simp) (by go_simp) (by go_simp) (by go_simp)).mono ?_; rw [n3.out]; rintro en v2 ⟨rfl, hB_v2⟩; have lay_v2 := laid_after hB_v2; have hG := cell_grown cc1 (by go_grown) hB_v2; replace cc1 := cl hG cc1; replace cc2 := cl hG cc2; replace cc3 := cl hG cc3; replace cc4 := cl hG cc4; replace cc5 := cl hG cc5; replace cc6 := cl hG cc6; have hs_v2 := hG.size; clear hG; replace hBW : Below w.heap.size w v2 := below_after (w := w) (by go_grown) hB_v2; have hn_v2 := an (nl cc1) (an (nl cc3) (nl cc5)); clear hB_v2)
  (go_wp2_with fail; refine (comp_Quiet _ _ _ _ _ _).mono ?_; rw [a0.out, a1.out]; rintro en v3 ⟨rfl, hB_v3⟩; have lay_v3 := laid_after hB_v3; have hG := cell_grown cc1 (by go_grown) hB_v3; replace cc1 := cl hG cc1; replace cc2 := cl hG cc2; replace cc3 := cl hG cc3; replace cc4 := cl hG cc4; replace cc5 := cl hG cc5; replace cc6 := cl hG cc6; have hs_v3 := hG.size; clear hG; replace hBW : Below w.heap.size w v3 := below_after (w := w) (by go_grown) hB_v3; have hn_v3 := an (nl cc1) (an (nl cc3) (nl cc5)); clear hB_v3)
  (go_wp2_with fail; refine (comp_Signaling _ _ _ _ _ _).mono ?_; rw [b0.out, b1.out]; rintro en v4 ⟨rfl, hB_v4⟩; have lay_v4 := laid_after hB_v4; have hG := cell_grown cc1 (by go_grown) hB_v4; replace cc1 := cl hG cc1; replace cc2 := cl hG cc2; replace cc3 := cl hG cc3; replace cc4 := cl hG cc4; replace cc5 := cl hG cc5; replace cc6 := cl hG cc6; have hs_v4 := hG.size; clear hG; replace hBW : Below w.heap.size w v4 := below_after (w := w) (by go_grown) hB_v4; have hn_v4 := an (nl cc1) (an (nl cc3) (nl cc5)); clear hB_v4)
  (go_wp2_with fail; refine (comp_Quiet _ _ _ _ _ _).mono ?_; rw [c0.out, c1.out]; rintro en v5 ⟨rfl, hB_v5⟩; have lay_v5 := laid_after hB_v5; have hG := cell_grown cc1 (by go_grown) hB_v5; replace cc1 := cl hG cc1; replace cc2 := cl hG cc2; replace cc3 := cl hG cc3; replace cc4 := cl hG cc4; replace cc5 := cl hG cc5; replace cc6 := cl hG cc6; have hs_v5 := hG.size; clear hG; replace hBW : Below w.heap.size w v5 := below_after (w := w) (by go_grown) hB_v5; have hn_v5 := an (nl cc1) (an (nl cc3) (nl cc5)); clear hB_v5)
  (go_wp2_with fail; refine (comp_Quiet _ _ _ _ _ _).mono ?_; rw [d0.out, d1.out]; rintro en v6 ⟨rfl, hB_v6⟩; have lay_v6 := laid_after hB_v6; have hG := cell_grown cc1 (by go_grown) hB_v6; replace cc1 := cl hG cc1; replace cc2 := cl hG cc2; replace cc3 := cl hG cc3; replace cc4 := cl hG cc4; replace cc5 := cl hG cc5; replace cc6 := cl hG cc6; have hs_v6 := hG.size; clear hG; replace hBW : Below w.heap.size w v6 := below_after (w := w) (by go_grown) hB_v6; have hn_v6 := an (nl cc1) (an (nl cc3) (nl cc5)); clear hB_v6)
  go_upto_region 7 with fail
  ((first | refine wp_rename ?_ | refine goal_rename ?_); intro W7 hw_W7; have hG := named cc1 W7 (by rw [hw_W7]; go_grown); replace cc1 := cl hG cc1; replace cc2 := cl hG cc2; replace cc3 := cl hG cc3; replace cc4 := cl hG cc4; replace cc5 := cl hG cc5; replace cc6 := cl hG cc6; replace hBW := below_after hBW hG; have hs_W7 := hG.size; clear hG; have hn_W7 := an (nl cc1) (an (nl cc3) (nl cc5)); have lay_W7 : Laid W7 := Laid.below (w := w) (by assumption) hBW; clear hw_W7)
  go_cut [89] (fun s89 wx => s89 = .bool false ∧ Below W7.heap.size W7 wx)
  case first =>
    rcases h7 with q3 | ⟨q3, q4⟩ | ⟨q3, q4, q5⟩
    all_goals (go_wp2_with fail; go_meet)
    all_goals exact ⟨rfl, by go_grown⟩
  case rest =>
  obtain ⟨rfl, hb_X7⟩ := hcut
  (first | refine wp_rename ?_ | refine goal_rename ?_); intro X7 hw_X7; subst hw_X7
  (replace cc1 := cl hb_X7 cc1; replace cc2 := cl hb_X7 cc2; replace cc3 := cl hb_X7 cc3; replace cc4 := cl hb_X7 cc4; replace cc5 := cl hb_X7 cc5; replace cc6 := cl hb_X7 cc6; replace hBW := below_after hBW hb_X7; have hsb_X7 := hb_X7.size; have hn_X7 := an (nl cc1) (an (nl cc3) (nl cc5)))
  have lay_X7 : Laid X7 := Laid.below lay_W7 hb_X7
  (go_wp2_with fail; refine (comp_Order _ _ _ _ _ _).mono ?_; rw [o0.out]; rintro en v7 ⟨rfl, hB_v7⟩; have lay_v7 := laid_after hB_v7; have hG := cell_grown cc1 (by go_grown) hB_v7; replace cc1 := cl hG cc1; replace cc2 := cl hG cc2; replace cc3 := cl hG cc3; replace cc4 := cl hG cc4; replace cc5 := cl hG cc5; replace cc6 := cl hG cc6; have hs_v7 := hG.size; clear hG; replace hBW : Below w.heap.size w v7 := below_after (w := w) (by go_grown) hB_v7; have hn_v7 := an (nl cc1) (an (nl cc3) (nl cc5)); clear hB_v7)
  go_upto_region 10 with fail
  ((first | refine wp_rename ?_ | refine goal_rename ?_); intro W10 hw_W10; have hG := named cc1 W10 (by rw [hw_W10]; go_grown); replace cc1 := cl hG cc1; replace cc2 := cl hG cc2; replace cc3 := cl hG cc3; replace cc4 := cl hG cc4; replace cc5 := cl hG cc5; replace cc6 := cl hG cc6; replace hBW := below_after hBW hG; have hs_W10 := hG.size; clear hG; have hn_W10 := an (nl cc1) (an (nl cc3) (nl cc5)); have lay_W10 : Laid W10 := Laid.below (w := w) (by assumption) hBW; clear hw_W10)
  go_cut [107] (fun s107 wx => s107 = .bool false ∧ Below W10.heap.size W10 wx)
  case first =>
    rcases h10 with ⟨rfl, rfl⟩ | ⟨rfl, rfl⟩ | ⟨q3, q4⟩
    all_goals (go_wp2_with fail; go_meet)
    all_goals exact ⟨rfl, by go_grown⟩
  case rest =>
  obtain ⟨rfl, hb_X10⟩ := hcut
  (first | refine wp_rename ?_ | refine goal_rename ?_); intro X10 hw_X10; subst hw_X10
  (replace cc1 := cl hb_X10 cc1; replace cc2 := cl hb_X10 cc2; replace cc3 := cl hb_X10 cc3; replace cc4 := cl hb_X10 cc4; replace cc5 := cl hb_X10 cc5; replace cc6 := cl hb_X10 cc6; replace hBW := below_after hBW hb_X10; have hsb_X10 := hb_X10.size; have hn_X10 := an (nl cc1) (an (nl cc3) (nl cc5)))
  have lay_X10 : Laid X10 := Laid.below lay_W10 hb_X10
  (go_wp2_with fail; refine (class_Of _ _ _ _).mono ?_; rw [k0.out, k1.out]; rintro en v8 ⟨rfl, hB_v8⟩; have lay_v8 := laid_after hB_v8; have hG := cell_grown cc1 (by go_grown) hB_v8; replace cc1 := cl hG cc1; replace cc2 := cl hG cc2; replace cc3 := cl hG cc3; replace cc4 := cl hG cc4; replace cc5 := cl hG cc5; replace cc6 := cl hG cc6; have hs_v8 := hG.size; clear hG; replace hBW : Below w.heap.size w v8 := below_after (w := w) (by go_grown) hB_v8; have hn_v8 := an (nl cc1) (an (nl cc3) (nl cc5)); clear hB_v8)
  (go_wp2_with fail; refine (class_Of _ _ _ _).mono ?_; rw [k2.out, k3.out]; rintro en v9 ⟨rfl, hB_v9⟩; have lay_v9 := laid_after hB_v9; have hG := cell_grown cc1 (by go_grown) hB_v9; replace cc1 := cl hG cc1; replace cc2 := cl hG cc2; replace cc3 := cl hG cc3; replace cc4 := cl hG cc4; replace cc5 := cl hG cc5; replace cc6 := cl hG cc6; have hs_v9 := hG.size; clear hG; replace hBW : Below w.heap.size w v9 := below_after (w := w) (by go_grown) hB_v9; have hn_v9 := an (nl cc1) (an (nl cc3) (nl cc5)); clear hB_v9)
  go_upto_region 14 with fail
  ((first | refine wp_rename ?_ | refine goal_rename ?_); intro W14 hw_W14; have hG := named cc1 W14 (by rw [hw_W14]; go_grown); replace cc1 := cl hG cc1; replace cc2 := cl hG cc2; replace cc3 := cl hG cc3; replace cc4 := cl hG cc4; replace cc5 := cl hG cc5; replace cc6 := cl hG cc6; replace hBW := below_after hBW hG; have hs_W14 := hG.size; clear hG; have hn_W14 := an (nl cc1) (an (nl cc3) (nl cc5)); have lay_W14 : Laid W14 := Laid.below (w := w) (by assumption) hBW; clear hw_W14)
  go_cut [133] (fun s133 wx => s133 = .bool false ∧ Below W14.heap.size W14 wx)
  case first =>
    rcases h14 with q3 | ⟨rfl, rfl⟩ | ⟨rfl, q4, q5, rfl, rfl⟩
    all_goals (go_wp2_with fail; go_meet)
    all_goals exact ⟨rfl, by go_grown⟩
  case rest =>
  obtain ⟨rfl, hb_X14⟩ := hcut
  (first | refine wp_rename ?_ | refine goal_rename ?_); intro X14 hw_X14; subst hw_X14
  (replace cc1 := cl hb_X14 cc1; replace cc2 := cl hb_X14 cc2; replace cc3 := cl hb_X14 cc3; replace cc4 := cl hb_X14 cc4; replace cc5 := cl hb_X14 cc5; replace cc6 := cl hb_X14 cc6; replace hBW := below_after hBW hb_X14; have hsb_X14 := hb_X14.size; have hn_X14 := an (nl cc1) (an (nl cc3) (nl cc5)))
  have lay_X14 : Laid X14 := Laid.below lay_W14 hb_X14
  rcases hfin with f1 | ⟨f1, f2⟩ | ⟨f1, f2, i0, i1⟩
  skip
  ·
    (go_wp2_with fail; refine (class_Finite _ _ _ _).mono ?_; rw [f1]; rintro en v10 ⟨rfl, hB_v10⟩; have lay_v10 := laid_after hB_v10; have hG := cell_grown cc1 (by go_grown) hB_v10; replace cc1 := cl hG cc1; replace cc2 := cl hG cc2; replace cc3 := cl hG cc3; replace cc4 := cl hG cc4; replace cc5 := cl hG cc5; replace cc6 := cl hG cc6; have hs_v10 := hG.size; clear hG; replace hBW : Below w.heap.size w v10 := below_after (w := w) (by go_grown) hB_v10; have hn_v10 := an (nl cc1) (an (nl cc3) (nl cc5)); clear hB_v10)
    (go_wp2_with fail; refine (law28_goes _).mono ?_; rintro en v15 ⟨rfl, hB_v15⟩; have lay_v15 := laid_after hB_v15; have hG := cell_grown cc1 (by go_grown) hB_v15; replace cc1 := cl hG cc1; replace cc2 := cl hG cc2; replace cc3 := cl hG cc3; replace cc4 := cl hG cc4; replace cc5 := cl hG cc5; replace cc6 := cl hG cc6; have hs_v15 := hG.size; clear hG; replace hBW : Below w.heap.size w v15 := below_after (w := w) (by go_grown) hB_v15; have hn_v15 := an (nl cc1) (an (nl cc3) (nl cc5)); clear hB_v15)
    go_wp2_with fail
    go_returns
    exact ⟨rfl, by go_grown⟩
  skip
  ·
    (go_wp2_with fail; refine (class_Finite _ _ _ _).mono ?_; rw [f1]; rintro en v10 ⟨rfl, hB_v10⟩; have lay_v10 := laid_after hB_v10; have hG := cell_grown cc1 (by go_grown) hB_v10; replace cc1 := cl hG cc1; replace cc2 := cl hG cc2; replace cc3 := cl hG cc3; replace cc4 := cl hG cc4; replace cc5 := cl hG cc5; replace cc6 := cl hG cc6; have hs_v10 := hG.size; clear hG; replace hBW : Below w.heap.size w v10 := below_after (w := w) (by go_grown) hB_v10; have hn_v10 := an (nl cc1) (an (nl cc3) (nl cc5)); clear hB_v10)
    (go_wp2_with fail; refine (class_Finite _ _ _ _).mono ?_; rw [f2]; rintro en v11 ⟨rfl, hB_v11⟩; have lay_v11 := laid_after hB_v11; have hG := cell_grown cc1 (by go_grown) hB_v11; replace cc1 := cl hG cc1; replace cc2 := cl hG cc2; replace cc3 := cl hG cc3; replace cc4 := cl hG cc4; replace cc5 := cl hG cc5; replace cc6 := cl hG cc6; have hs_v11 := hG.size; clear hG; replace hBW : Below w.heap.size w v11 := below_after (w := w) (by go_grown) hB_v11; have hn_v11 := an (nl cc1) (an (nl cc3) (nl cc5)); clear hB_v11)
    (go_wp2_with fail; refine (law28_goes _).mono ?_; rintro en v15 ⟨rfl, hB_v15⟩; have lay_v15 := laid_after hB_v15; have hG := cell_grown cc1 (by go_grown) hB_v15; replace cc1 := cl hG cc1; replace cc2 := cl hG cc2; replace cc3 := cl hG cc3; replace cc4 := cl hG cc4; replace cc5 := cl hG cc5; replace cc6 := cl hG cc6; have hs_v15 := hG.size; clear hG; replace hBW : Below w.heap.size w v15 := below_after (w := w) (by go_grown) hB_v15; have hn_v15 := an (nl cc1) (an (nl cc3) (nl cc5)); clear hB_v15)
    go_wp2_with fail
    go_returns
    exact ⟨rfl, by go_grown⟩
  skip
  ·
    (go_wp2_with fail; refine (class_Finite _ _ _ _).mono ?_; rw [f1]; rintro en v10 ⟨rfl, hB_v10⟩; have lay_v10 := laid_after hB_v10; have hG := cell_grown cc1 (by go_grown) hB_v10; replace cc1 := cl hG cc1; replace cc2 := cl hG cc2; replace cc3 := cl hG cc3; replace cc4 := cl hG cc4; replace cc5 := cl hG cc5; replace cc6 := cl hG cc6; have hs_v10 := hG.size; clear hG; replace hBW : Below w.heap.size w v10 := below_after (w := w) (by go_grown) hB_v10; have hn_v10 := an (nl cc1) (an (nl cc3) (nl cc5)); clear hB_v10)
    (go_wp2_with fail; refine (class_Finite _ _ _ _).mono ?_; rw [f2]; rintro en v11 ⟨rfl, hB_v11⟩; have lay_v11 := laid_after hB_v11; have hG := cell_grown cc1 (by go_grown) hB_v11; replace cc1 := cl hG cc1; replace cc2 := cl hG cc2; replace cc3 := cl hG cc3; replace cc4 := cl hG cc4; replace cc5 := cl hG cc5; replace cc6 := cl hG cc6; have hs_v11 := hG.size; clear hG; replace hBW : Below w.heap.size w v11 := below_after (w := w) (by go_grown) hB_v11; have hn_v11 := an (nl cc1) (an (nl cc3) (nl cc5)); clear hB_v11)
    (go_wp2_with fail; refine (addsub_Sub _ _ _ _ _ _ _ _).mono ?_; rw [e0.out, e1.out, e2.out]; rintro en v12 ⟨rfl, hB_v12⟩; have lay_v12 := laid_after hB_v12; have hG := cell_grown cc1 (by go_grown) hB_v12; replace cc1 := cl hG cc1; replace cc2 := cl hG cc2; replace cc3 := cl hG cc3; replace cc4 := cl hG cc4; replace cc5 := cl hG cc5; replace cc6 := cl hG cc6; have hs_v12 := hG.size; clear hG; replace hBW : Below w.heap.size w v12 := below_after (w := w) (by go_grown) hB_v12; have hn_v12 := an (nl cc1) (an (nl cc3) (nl cc5)); clear hB_v12)
    (go_wp2_with fail; refine (format_Nought _ _ _).mono ?_; rw [g0.out, g1.out]; rintro en v13 ⟨rfl, hB_v13⟩; have lay_v13 := laid_after hB_v13; have hG := cell_grown cc1 (by go_grown) hB_v13; replace cc1 := cl hG cc1; replace cc2 := cl hG cc2; replace cc3 := cl hG cc3; replace cc4 := cl hG cc4; replace cc5 := cl hG cc5; replace cc6 := cl hG cc6; have hs_v13 := hG.size; clear hG; replace hBW : Below w.heap.size w v13 := below_after (w := w) (by go_grown) hB_v13; have hn_v13 := an (nl cc1) (an (nl cc3) (nl cc5)); clear hB_v13)
    (go_wp2_with fail; refine (comp_Quiet _ _ _ _ _ _).mono ?_; rw [i0, i1]; rintro en v14 ⟨rfl, hB_v14⟩; have lay_v14 := laid_after hB_v14; have hG := cell_grown cc1 (by go_grown) hB_v14; replace cc1 := cl hG cc1; replace cc2 := cl hG cc2; replace cc3 := cl hG cc3; replace cc4 := cl hG cc4; replace cc5 := cl hG cc5; replace cc6 := cl hG cc6; have hs_v14 := hG.size; clear hG; replace hBW : Below w.heap.size w v14 := below_after (w := w) (by go_grown) hB_v14; have hn_v14 := an (nl cc1) (an (nl cc3) (nl cc5)); clear hB_v14)
    (go_wp2_with fail; refine (law28_goes _).mono ?_; rintro en v15 ⟨rfl, hB_v15⟩; have lay_v15 := laid_after hB_v15; have hG := cell_grown cc1 (by go_grown) hB_v15; replace cc1 := cl hG cc1; replace cc2 := cl hG cc2; replace cc3 := cl hG cc3; replace cc4 := cl hG cc4; replace cc5 := cl hG cc5; replace cc6 := cl hG cc6; have hs_v15 := hG.size; clear hG; replace hBW : Below w.heap.size w v15 := below_after (w := w) (by go_grown) hB_v15; have hn_v15 := an (nl cc1) (an (nl cc3) (nl cc5)); clear hB_v15)
    go_wp2_with fail
    go_returns
    exact ⟨rfl, by go_grown⟩
theorem walk_CompOrder (f h l h' l' h2 l2 : Int) [hU : U8 f] [U64 h] [U64 l] [U64 h'] [U64 l'] [U64 h2] [U64 l2] (w : World) [hLay : Laid w] :
    Calls Tryz.prog 12 #[.int .u8 f, .agg #[.int .u64 (h), .int .u64 (l)], .agg #[.int .u64 (h'), .int .u64 (l')], .agg #[.int .u64 (h2), .int .u64 (l2)]] w fun en w' => en = .returned (.bool true) ∧ Below w.heap.size w w' := by
  have f0 := hU.ge
  by_cases hf : f < 4
  case neg => exact co_nf f h l h' l' h2 l2 w hf
  cases n3 : (nanB f (cat h l) || nanB f (cat h' l') || nanB f (cat h2 l2))
  case true => exact co_nan f h l h' l' h2 l2 w hf (Lib.hid n3)
  have n3' := n3
  rw [Bool.or_eq_false_iff, Bool.or_eq_false_iff] at n3'
  have na : ¬ 4 ≤ classF f (cat h l) := of_decide_eq_false n3'.1.1
  have nb : ¬ 4 ≤ classF f (cat h' l') := of_decide_eq_false n3'.1.2
  have nc : ¬ 4 ≤ classF f (cat h2 l2) := of_decide_eq_false n3'.2
  obtain ⟨a1, a2, a3⟩ := q_key f _ _ f0 hf na nb
  obtain ⟨b1, b2, b3⟩ := q_key f _ _ f0 hf nb na
  obtain ⟨c1, c2, c3⟩ := q_key f _ _ f0 hf nb nc
  obtain ⟨d1, d2, d3⟩ := q_key f _ _ f0 hf na nc
  obtain ⟨x1, x2, x3, x4, x5, x6⟩ := sgn_bd (vkey f (cat h l) - vkey f (cat h' l'))
  obtain ⟨y1, y2, y3, y4, y5, y6⟩ := sgn_bd (vkey f (cat h' l') - vkey f (cat h l))
  obtain ⟨z1, z2, z3, z4, z5, z6⟩ := sgn_bd (vkey f (cat h' l') - vkey f (cat h2 l2))
  obtain ⟨u1, u2, u3, u4, u5, u6⟩ := sgn_bd (vkey f (cat h l) - vkey f (cat h2 l2))
  have ho : vkey f (cat h l) ≠ vkey f (cat h' l') → ordF f (cat h l) (cat h' l') = sgnI (vkey f (cat h l) - vkey f (cat h' l')) := ord_vkey f _ _ hf
  have hz : vkey f (cat h l) = vkey f (cat h' l') → ordF f (cat h l) (cat h' l') ≠ 0 → classF f (cat h l) = 0 ∧ classF f (cat h' l') = 0 := by
    intro h1 h2
    rw [(class_code f _ f0 hf).1, (class_code f _ f0 hf).1]
    rw [ord_key f _ _ hf] at h2
    unfold keyF sgnI at h2
    unfold vkey at h1
    revert h1 h2
    cases sgnF f (cat h l) <;> cases sgnF f (cat h' l') <;> simp <;> omega
  have q2 : decide (qV f (cat h l) (cat h' l') > 2) = false := decide_eq_false (by omega)
  have qs : IntKind.u8.wrap (qV f (cat h l) (cat h' l') + qV f (cat h' l') (cat h l)) = 2 := by
    have : qV f (cat h l) (cat h' l') + qV f (cat h' l') (cat h l) = 2 := by omega
    rw [this]; rfl
  have h7 : (decide (qV f (cat h l) (cat h' l') ≤ 1) = false) ∨ (decide (qV f (cat h l) (cat h' l') ≤ 1) = true ∧ decide (qV f (cat h' l') (cat h2 l2) ≤ 1) = false) ∨ (decide (qV f (cat h l) (cat h' l') ≤ 1) = true ∧ decide (qV f (cat h' l') (cat h2 l2) ≤ 1) = true ∧ decide (qV f (cat h l) (cat h2 l2) > 1) = false) := by
    by_cases e1 : qV f (cat h l) (cat h' l') ≤ 1
    · by_cases e2 : qV f (cat h' l') (cat h2 l2) ≤ 1
      · exact Or.inr (Or.inr ⟨decide_eq_true e1, decide_eq_true e2, decide_eq_false (by omega)⟩)
      · exact Or.inr (Or.inl ⟨decide_eq_true e1, decide_eq_false e2⟩)
    · exact Or.inl (decide_eq_false e1)
  have h10 : (qV f (cat h l) (cat h' l') = 0 ∧ ordF f (cat h l) (cat h' l') = -1) ∨ (qV f (cat h l) (cat h' l') = 2 ∧ ordF f (cat h l) (cat h' l') = 1) ∨ ((qV f (cat h l) (cat h' l') == 0) = false ∧ (qV f (cat h l) (cat h' l') == 2) = false) := by
    by_cases e1 : qV f (cat h l) (cat h' l') = 0
    · have e3 : ordF f (cat h l) (cat h' l') = -1 := by rw [ho (by omega)]; omega
      exact Or.inl ⟨e1, e3⟩
    · by_cases e2 : qV f (cat h l) (cat h' l') = 2
      · have e3 : ordF f (cat h l) (cat h' l') = 1 := by rw [ho (by omega)]; omega
        exact Or.inr (Or.inl ⟨e2, e3⟩)
      · exact Or.inr (Or.inr ⟨beq_eq_false_iff_ne.2 e1, beq_eq_false_iff_ne.2 e2⟩)
  have h14 : ((qV f (cat h l) (cat h' l') == 1) = false) ∨ (qV f (cat h l) (cat h' l') = 1 ∧ ordF f (cat h l) (cat h' l') = 0) ∨ (qV f (cat h l) (cat h' l') = 1 ∧ (ordF f (cat h l) (cat h' l') == 0) = false ∧ (ordF f (cat h l) (cat h' l') != 0) = true ∧ classF f (cat h l) = 0 ∧ classF f (cat h' l') = 0) := by
    by_cases e1 : qV f (cat h l) (cat h' l') = 1
    · by_cases e2 : ordF f (cat h l) (cat h' l') = 0
      · exact Or.inr (Or.inl ⟨e1, e2⟩)
      · obtain ⟨t1, t2⟩ := hz (by omega) e2
        exact Or.inr (Or.inr ⟨e1, beq_eq_false_iff_ne.2 e2, bne_iff_ne.2 e2, t1, t2⟩)
    · exact Or.inl (beq_eq_false_iff_ne.2 e1)
  have hd : finC f (cat h l) = true → finC f (cat h' l') = true → qV f (addB f 0 (cat h l) (subN f (cat h' l'))) (signN f true) = qV f (cat h l) (cat h' l') ∧ qF f (addB f 0 (cat h l) (subN f (cat h' l'))) (signN f true) = 0 := by
    intro hx hy
    obtain ⟨k1, k2⟩ := key_sub f 0 (cat h l) (cat h' l') f0 hf (by decide) ((fin_dec hf).1 hx) ((fin_dec hf).1 hy)
    obtain ⟨p1, p2, p3⟩ := nought_parts f true f0 hf
    obtain ⟨i1, i2, i3⟩ := q_key f (addB f 0 (cat h l) (subN f (cat h' l'))) (signN f true) f0 hf (by omega) (by omega)
    have hv : vkey f (signN f true) = 0 := by unfold vkey; rw [p1, p2]; rfl
    rw [hv, k2, ← a1] at i1
    exact ⟨i1, i2⟩
  have cs := cat_small _ (addB_small f 0 (cat h l) (subN f (cat h' l')) f0)
  have ez : cat (hi (makeF f true 0 0)) (lo (makeF f true 0 0)) = signN f true := by rw [cat_small _ (makeF_lt _ _ _ _ f0), makeF_zero f true hf]
  refine co_ok f h l h' l' h2 l2 _ _ _ _ _ _ _ _ _ _ _ _ _ _ w hf (Lib.hid n3) (Lib.hid rfl) (Lib.hid a2) (Lib.hid rfl) (Lib.hid b3) (Lib.hid rfl) (Lib.hid c2) (Lib.hid rfl) (Lib.hid d2) (Lib.hid rfl) (Lib.hid rfl) (Lib.hid rfl) (Lib.hid rfl) (Lib.hid rfl) q2 qs h7 h10 h14 (Lib.hid rfl) (Lib.hid rfl) (Lib.hid rfl) (Lib.hid rfl) (Lib.hid rfl) ?_
  rw [cs, ez]
  cases hx : finC f (cat h l)
  · exact Or.inl rfl
  · cases hy : finC f (cat h' l')
    · exact Or.inr (Or.inl ⟨rfl, rfl⟩)
    · exact Or.inr (Or.inr ⟨rfl, rfl, hd hx hy⟩)
end Go.Proofs.YtkldkchkhblndaaGreatDoor
