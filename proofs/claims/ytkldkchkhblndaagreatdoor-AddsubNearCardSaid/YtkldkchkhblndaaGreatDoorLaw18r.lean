/- AddsubNear: differences of near numbers are exact; the walks by ways, joined. Condition: the listed table is laid. -/
import Derived.Test.YtkldkchkhblndaaGreatDoorLaw18f
set_option linter.unusedSimpArgs false
set_option linter.unusedVariables false
namespace Go.Proofs.YtkldkchkhblndaaGreatDoor
open Go.RowKit Go.Hb
set_option maxRecDepth 100000 in
set_option maxHeartbeats 8000000 in
theorem ar_nf (f m h l h' l' : Int) (aft : Bool) [hU : U8 f] [hM : U8 m] [U8 (m % 5)] [U64 h] [U64 l] [U64 h'] [U64 l'] (w : World) [hLay : Laid w] (hf : ¬ f < 4) :
    Calls Tryz.prog 6 #[.int .u8 f, .agg #[.int .u8 m, .bool aft], .agg #[.int .u64 (h), .int .u64 (l)], .agg #[.int .u64 (h'), .int .u64 (l')]] w fun en w' => en = .returned (.bool true) ∧ Below w.heap.size w w' := by
  have hfd : decide (f < 4) = false := decide_eq_false hf
  have hm0 := hM.ge
  clear hf
  go_enter Tryz.func6, Tryz.ntmps6
  skip
  skip
  (go_wp2_with fail; refine (format_Known_b _ _).mono ?_; rintro en v1 ⟨rfl, hB_v1⟩; have lay_v1 := laid_after hB_v1; obtain ⟨cc1, fcc1⟩ := pf hB_v1 (show World.cell? _ ⟨w.heap.size, 0, none⟩ = some (.int .u8 (m % 5)) by go_simp) (by go_simp); obtain ⟨cc2, fcc2⟩ := pf hB_v1 (show World.cell? _ ⟨w.heap.size, 1, none⟩ = some (.bool aft) by go_simp) (by go_simp); have cc3 := cl hB_v1 (show World.cell? _ ⟨w.heap.size + 1, 0, none⟩ = some (.int .u64 h) by go_simp); have cc4 := cl hB_v1 (show World.cell? _ ⟨w.heap.size + 1, 1, none⟩ = some (.int .u64 l) by go_simp); obtain ⟨cc5, fcc5⟩ := pf hB_v1 (show World.cell? _ ⟨w.heap.size + 1 + 1, 0, none⟩ = some (.int .u64 h') by go_simp) (by go_simp); obtain ⟨cc6, fcc6⟩ := pf hB_v1 (show World.cell? _ ⟨w.heap.size + 1 + 1, 1, none⟩ = some (.int .u64 l') by go_simp) (by go_simp); have hs_v1 := hB_v1.size; (try simp only [World.size_alloc, World.size_setCell, World.size_drew] at hs_v1); have hBW : Below w.heap.size w v1 := below_after (w := w) (by go_grown) hB_v1; have hn_v1 := an (nl cc1) (an (nl cc3) (nl cc5)); clear hB_v1)
  (go_wp2_with fail; refine (law18_goes _).mono ?_; rintro en v4 ⟨rfl, hB_v4⟩; have lay_v4 := laid_after hB_v4; have hG := cell_grown cc1 (by go_grown) hB_v4; replace fcc1 := fl hG fcc1 cc1; replace cc1 := cl hG cc1; replace fcc2 := fl hG fcc2 cc2; replace cc2 := cl hG cc2; replace cc3 := cl hG cc3; replace cc4 := cl hG cc4; replace fcc5 := fl hG fcc5 cc5; replace cc5 := cl hG cc5; replace fcc6 := fl hG fcc6 cc6; replace cc6 := cl hG cc6; have hs_v4 := hG.size; clear hG; replace hBW : Below w.heap.size w v4 := below_after (w := w) (by go_grown) hB_v4; have hn_v4 := an (nl cc1) (an (nl cc3) (nl cc5)); clear hB_v4)
  go_wp2_with fail
  go_returns
  exact ⟨rfl, by go_grown⟩
set_option maxRecDepth 100000 in
set_option maxHeartbeats 8000000 in
theorem ar_x1 (f m h l h' l' : Int) (aft : Bool) [hU : U8 f] [hM : U8 m] [U8 (m % 5)] [U64 h] [U64 l] [U64 h'] [U64 l'] (w : World) [hLay : Laid w] (hf : f < 4) (f1 : Hid (finC f (cat h l) = false)) :
    Calls Tryz.prog 6 #[.int .u8 f, .agg #[.int .u8 m, .bool aft], .agg #[.int .u64 (h), .int .u64 (l)], .agg #[.int .u64 (h'), .int .u64 (l')]] w fun en w' => en = .returned (.bool true) ∧ Below w.heap.size w w' := by
  have hfd : decide (f < 4) = true := decide_eq_true hf
  have hm0 := hM.ge
  clear hf
  go_enter Tryz.func6, Tryz.ntmps6
  skip
  skip
  (go_wp2_with fail; refine (format_Known_b _ _).mono ?_; rintro en v1 ⟨rfl, hB_v1⟩; have lay_v1 := laid_after hB_v1; obtain ⟨cc1, fcc1⟩ := pf hB_v1 (show World.cell? _ ⟨w.heap.size, 0, none⟩ = some (.int .u8 (m % 5)) by go_simp) (by go_simp); obtain ⟨cc2, fcc2⟩ := pf hB_v1 (show World.cell? _ ⟨w.heap.size, 1, none⟩ = some (.bool aft) by go_simp) (by go_simp); have cc3 := cl hB_v1 (show World.cell? _ ⟨w.heap.size + 1, 0, none⟩ = some (.int .u64 h) by go_simp); have cc4 := cl hB_v1 (show World.cell? _ ⟨w.heap.size + 1, 1, none⟩ = some (.int .u64 l) by go_simp); obtain ⟨cc5, fcc5⟩ := pf hB_v1 (show World.cell? _ ⟨w.heap.size + 1 + 1, 0, none⟩ = some (.int .u64 h') by go_simp) (by go_simp); obtain ⟨cc6, fcc6⟩ := pf hB_v1 (show World.cell? _ ⟨w.heap.size + 1 + 1, 1, none⟩ = some (.int .u64 l') by go_simp) (by go_simp); have hs_v1 := hB_v1.size; (try simp only [World.size_alloc, World.size_setCell, World.size_drew] at hs_v1); have hBW : Below w.heap.size w v1 := below_after (w := w) (by go_grown) hB_v1; have hn_v1 := an (nl cc1) (an (nl cc3) (nl cc5)); clear hB_v1)
  (go_wp2_with fail; refine (class_Finite _ _ _ _).mono ?_; rw [f1.out]; rintro en x1 ⟨rfl, hB_x1⟩; have lay_x1 := laid_after hB_x1; have hG := cell_grown cc1 (by go_grown) hB_x1; replace fcc1 := fl hG fcc1 cc1; replace cc1 := cl hG cc1; replace fcc2 := fl hG fcc2 cc2; replace cc2 := cl hG cc2; replace cc3 := cl hG cc3; replace cc4 := cl hG cc4; replace fcc5 := fl hG fcc5 cc5; replace cc5 := cl hG cc5; replace fcc6 := fl hG fcc6 cc6; replace cc6 := cl hG cc6; have hs_x1 := hG.size; clear hG; replace hBW : Below w.heap.size w x1 := below_after (w := w) (by go_grown) hB_x1; have hn_x1 := an (nl cc1) (an (nl cc3) (nl cc5)); clear hB_x1)
  (go_wp2_with fail; refine (law18_goes _).mono ?_; rintro en v4 ⟨rfl, hB_v4⟩; have lay_v4 := laid_after hB_v4; have hG := cell_grown cc1 (by go_grown) hB_v4; replace fcc1 := fl hG fcc1 cc1; replace cc1 := cl hG cc1; replace fcc2 := fl hG fcc2 cc2; replace cc2 := cl hG cc2; replace cc3 := cl hG cc3; replace cc4 := cl hG cc4; replace fcc5 := fl hG fcc5 cc5; replace cc5 := cl hG cc5; replace fcc6 := fl hG fcc6 cc6; replace cc6 := cl hG cc6; have hs_v4 := hG.size; clear hG; replace hBW : Below w.heap.size w v4 := below_after (w := w) (by go_grown) hB_v4; have hn_v4 := an (nl cc1) (an (nl cc3) (nl cc5)); clear hB_v4)
  go_wp2_with fail
  go_returns
  exact ⟨rfl, by go_grown⟩
set_option maxRecDepth 100000 in
set_option maxHeartbeats 8000000 in
theorem ar_x2 (f m h l h' l' : Int) (aft : Bool) [hU : U8 f] [hM : U8 m] [U8 (m % 5)] [U64 h] [U64 l] [U64 h'] [U64 l'] (w : World) [hLay : Laid w] (hf : f < 4) (f1 : Hid (finC f (cat h l) = true)) (f2 : Hid (finC f (cat h' l') = false)) :
    Calls Tryz.prog 6 #[.int .u8 f, .agg #[.int .u8 m, .bool aft], .agg #[.int .u64 (h), .int .u64 (l)], .agg #[.int .u64 (h'), .int .u64 (l')]] w fun en w' => en = .returned (.bool true) ∧ Below w.heap.size w w' := by
  have hfd : decide (f < 4) = true := decide_eq_true hf
  have hm0 := hM.ge
  clear hf
  go_enter Tryz.func6, Tryz.ntmps6
  skip
  skip
  (go_wp2_with fail; refine (format_Known_b _ _).mono ?_; rintro en v1 ⟨rfl, hB_v1⟩; have lay_v1 := laid_after hB_v1; obtain ⟨cc1, fcc1⟩ := pf hB_v1 (show World.cell? _ ⟨w.heap.size, 0, none⟩ = some (.int .u8 (m % 5)) by go_simp) (by go_simp); obtain ⟨cc2, fcc2⟩ := pf hB_v1 (show World.cell? _ ⟨w.heap.size, 1, none⟩ = some (.bool aft) by go_simp) (by go_simp); have cc3 := cl hB_v1 (show World.cell? _ ⟨w.heap.size + 1, 0, none⟩ = some (.int .u64 h) by go_simp); have cc4 := cl hB_v1 (show World.cell? _ ⟨w.heap.size + 1, 1, none⟩ = some (.int .u64 l) by go_simp); obtain ⟨cc5, fcc5⟩ := pf hB_v1 (show World.cell? _ ⟨w.heap.size + 1 + 1, 0, none⟩ = some (.int .u64 h') by go_simp) (by go_simp); obtain ⟨cc6, fcc6⟩ := pf hB_v1 (show World.cell? _ ⟨w.heap.size + 1 + 1, 1, none⟩ = some (.int .u64 l') by go_simp) (by go_simp); have hs_v1 := hB_v1.size; (try simp only [World.size_alloc, World.size_setCell, World.size_drew] at hs_v1); have hBW : Below w.heap.size w v1 := below_after (w := w) (by go_grown) hB_v1; have hn_v1 := an (nl cc1) (an (nl cc3) (nl cc5)); clear hB_v1)
  (go_wp2_with fail; refine (class_Finite _ _ _ _).mono ?_; rw [f1.out]; rintro en x1 ⟨rfl, hB_x1⟩; have lay_x1 := laid_after hB_x1; have hG := cell_grown cc1 (by go_grown) hB_x1; replace fcc1 := fl hG fcc1 cc1; replace cc1 := cl hG cc1; replace fcc2 := fl hG fcc2 cc2; replace cc2 := cl hG cc2; replace cc3 := cl hG cc3; replace cc4 := cl hG cc4; replace fcc5 := fl hG fcc5 cc5; replace cc5 := cl hG cc5; replace fcc6 := fl hG fcc6 cc6; replace cc6 := cl hG cc6; have hs_x1 := hG.size; clear hG; replace hBW : Below w.heap.size w x1 := below_after (w := w) (by go_grown) hB_x1; have hn_x1 := an (nl cc1) (an (nl cc3) (nl cc5)); clear hB_x1)
  (go_wp2_with fail; refine (class_Finite _ _ _ _).mono ?_; rw [f2.out]; rintro en x2 ⟨rfl, hB_x2⟩; have lay_x2 := laid_after hB_x2; have hG := cell_grown cc1 (by go_grown) hB_x2; replace fcc1 := fl hG fcc1 cc1; replace cc1 := cl hG cc1; replace fcc2 := fl hG fcc2 cc2; replace cc2 := cl hG cc2; replace cc3 := cl hG cc3; replace cc4 := cl hG cc4; replace fcc5 := fl hG fcc5 cc5; replace cc5 := cl hG cc5; replace fcc6 := fl hG fcc6 cc6; replace cc6 := cl hG cc6; have hs_x2 := hG.size; clear hG; replace hBW : Below w.heap.size w x2 := below_after (w := w) (by go_grown) hB_x2; have hn_x2 := an (nl cc1) (an (nl cc3) (nl cc5)); clear hB_x2)
  (go_wp2_with fail; refine (law18_goes _).mono ?_; rintro en v4 ⟨rfl, hB_v4⟩; have lay_v4 := laid_after hB_v4; have hG := cell_grown cc1 (by go_grown) hB_v4; replace fcc1 := fl hG fcc1 cc1; replace cc1 := cl hG cc1; replace fcc2 := fl hG fcc2 cc2; replace cc2 := cl hG cc2; replace cc3 := cl hG cc3; replace cc4 := cl hG cc4; replace fcc5 := fl hG fcc5 cc5; replace cc5 := cl hG cc5; replace fcc6 := fl hG fcc6 cc6; replace cc6 := cl hG cc6; have hs_v4 := hG.size; clear hG; replace hBW : Below w.heap.size w v4 := below_after (w := w) (by go_grown) hB_v4; have hn_v4 := an (nl cc1) (an (nl cc3) (nl cc5)); clear hB_v4)
  go_wp2_with fail
  go_returns
  exact ⟨rfl, by go_grown⟩
set_option maxRecDepth 100000 in
set_option maxHeartbeats 8000000 in
theorem ar_ok (f m h l h' l' c c' bh bl xh xl yh yl k uh ul vh vl p0 p1 pz k' s0 s1 sz : Int) (aft sg sg' : Bool) [hU : U8 f] [hM : U8 m] [U8 (m % 5)] [U64 h] [U64 l] [U64 h'] [U64 l'] [U64 bh] [U64 bl] [U64 xh] [U64 xl] [U64 yh] [U64 yl] [U64 uh] [U64 ul] [U64 vh] [U64 vl] [U64 p0] [U64 p1] [U64 s0] [U64 s1] (w : World) [hLay : Laid w] (hf : f < 4) (f1 : Hid (finC f (cat h l) = true)) (f2 : Hid (finC f (cat h' l') = true))
    (c0 : Hid (classF f (cat h l) = c)) (c1 : Hid (sgnF f (cat h l) = sg)) (c2 : Hid (classF f (cat h' l') = c')) (c3 : Hid (sgnF f (cat h' l') = sg'))
    (hd : (sg' = sg ∧ bh = h' ∧ bl = l') ∨ (sg' = (!sg) ∧ hi (turnF f (cat h' l')) = bh ∧ lo (turnF f (cat h' l')) = bl))
    (z0 : Hid (hi (sizeF f (cat h l)) = xh)) (z1 : Hid (lo (sizeF f (cat h l)) = xl)) (z2 : Hid (hi (sizeF f (cat bh bl)) = yh)) (z3 : Hid (lo (sizeF f (cat bh bl)) = yl))
    (k0 : Hid (cmpN (cat xh xl) (cat yh yl) = k)) (hk : (decide (k > 0) = false ∧ uh = xh ∧ ul = xl ∧ vh = yh ∧ vl = yl) ∨ (decide (k > 0) = true ∧ uh = yh ∧ ul = yl ∧ vh = xh ∧ vl = xl))
    (a0 : Hid (hi (addB f 4 (cat uh ul) (cat uh ul)) = p0)) (a1 : Hid (lo (addB f 4 (cat uh ul) (cat uh ul)) = p1)) (a2 : Hid (addFl f 4 false (cat uh ul) (cat uh ul) = pz))
    (k1 : Hid (cmpN (cat p0 p1) (cat vh vl) = k')) (b0 : Hid (hi (addB f (m % 5) (cat h l) (subN f (cat bh bl))) = s0)) (b1 : Hid (lo (addB f (m % 5) (cat h l) (subN f (cat bh bl))) = s1)) (b2 : Hid (addFl f (m % 5) aft (cat h l) (subN f (cat bh bl)) = sz))
    (hn : decide (k' < 0) = true ∨ (decide (k' < 0) = false ∧ sz = 0)) :
    Calls Tryz.prog 6 #[.int .u8 f, .agg #[.int .u8 m, .bool aft], .agg #[.int .u64 (h), .int .u64 (l)], .agg #[.int .u64 (h'), .int .u64 (l')]] w fun en w' => en = .returned (.bool true) ∧ Below w.heap.size w w' := by
  have hfd : decide (f < 4) = true := decide_eq_true hf
  have hm0 := hM.ge
  clear hf
  go_enter Tryz.func6, Tryz.ntmps6
  skip
  skip
  (go_wp2_with fail; refine (format_Known_b _ _).mono ?_; rintro en v1 ⟨rfl, hB_v1⟩; have lay_v1 := laid_after hB_v1; obtain ⟨cc1, fcc1⟩ := pf hB_v1 (show World.cell? _ ⟨w.heap.size, 0, none⟩ = some (.int .u8 (m % 5)) by go_simp) (by go_simp); obtain ⟨cc2, fcc2⟩ := pf hB_v1 (show World.cell? _ ⟨w.heap.size, 1, none⟩ = some (.bool aft) by go_simp) (by go_simp); have cc3 := cl hB_v1 (show World.cell? _ ⟨w.heap.size + 1, 0, none⟩ = some (.int .u64 h) by go_simp); have cc4 := cl hB_v1 (show World.cell? _ ⟨w.heap.size + 1, 1, none⟩ = some (.int .u64 l) by go_simp); obtain ⟨cc5, fcc5⟩ := pf hB_v1 (show World.cell? _ ⟨w.heap.size + 1 + 1, 0, none⟩ = some (.int .u64 h') by go_simp) (by go_simp); obtain ⟨cc6, fcc6⟩ := pf hB_v1 (show World.cell? _ ⟨w.heap.size + 1 + 1, 1, none⟩ = some (.int .u64 l') by go_simp) (by go_simp); have hs_v1 := hB_v1.size; (try simp only [World.size_alloc, World.size_setCell, World.size_drew] at hs_v1); have hBW : Below w.heap.size w v1 := below_after (w := w) (by go_grown) hB_v1; have hn_v1 := an (nl cc1) (an (nl cc3) (nl cc5)); clear hB_v1)
  (go_wp2_with fail; refine (class_Finite _ _ _ _).mono ?_; rw [f1.out]; rintro en x1 ⟨rfl, hB_x1⟩; have lay_x1 := laid_after hB_x1; have hG := cell_grown cc1 (by go_grown) hB_x1; replace fcc1 := fl hG fcc1 cc1; replace cc1 := cl hG cc1; replace fcc2 := fl hG fcc2 cc2; replace cc2 := cl hG cc2; replace cc3 := cl hG cc3; replace cc4 := cl hG cc4; replace fcc5 := fl hG fcc5 cc5; replace cc5 := cl hG cc5; replace fcc6 := fl hG fcc6 cc6; replace cc6 := cl hG cc6; have hs_x1 := hG.size; clear hG; replace hBW : Below w.heap.size w x1 := below_after (w := w) (by go_grown) hB_x1; have hn_x1 := an (nl cc1) (an (nl cc3) (nl cc5)); clear hB_x1)
  (go_wp2_with fail; refine (class_Finite _ _ _ _).mono ?_; rw [f2.out]; rintro en x2 ⟨rfl, hB_x2⟩; have lay_x2 := laid_after hB_x2; have hG := cell_grown cc1 (by go_grown) hB_x2; replace fcc1 := fl hG fcc1 cc1; replace cc1 := cl hG cc1; replace fcc2 := fl hG fcc2 cc2; replace cc2 := cl hG cc2; replace cc3 := cl hG cc3; replace cc4 := cl hG cc4; replace fcc5 := fl hG fcc5 cc5; replace cc5 := cl hG cc5; replace fcc6 := fl hG fcc6 cc6; replace cc6 := cl hG cc6; have hs_x2 := hG.size; clear hG; replace hBW : Below w.heap.size w x2 := below_after (w := w) (by go_grown) hB_x2; have hn_x2 := an (nl cc1) (an (nl cc3) (nl cc5)); clear hB_x2)
  (go_wp2_with fail; refine (class_Of _ _ _ _).mono ?_; rw [c0.out, c1.out]; rintro en v2 ⟨rfl, hB_v2⟩; have lay_v2 := laid_after hB_v2; have hG := cell_grown cc1 (by go_grown) hB_v2; replace fcc1 := fl hG fcc1 cc1; replace cc1 := cl hG cc1; replace fcc2 := fl hG fcc2 cc2; replace cc2 := cl hG cc2; replace cc3 := cl hG cc3; replace cc4 := cl hG cc4; replace fcc5 := fl hG fcc5 cc5; replace cc5 := cl hG cc5; replace fcc6 := fl hG fcc6 cc6; replace cc6 := cl hG cc6; have hs_v2 := hG.size; clear hG; replace hBW : Below w.heap.size w v2 := below_after (w := w) (by go_grown) hB_v2; have hn_v2 := an (nl cc1) (an (nl cc3) (nl cc5)); clear hB_v2)
  (go_wp2_with fail; refine (class_Of _ _ _ _).mono ?_; rw [c2.out, c3.out]; rintro en v3 ⟨rfl, hB_v3⟩; have lay_v3 := laid_after hB_v3; have hG := cell_grown cc1 (by go_grown) hB_v3; replace fcc1 := fl hG fcc1 cc1; replace cc1 := cl hG cc1; replace fcc2 := fl hG fcc2 cc2; replace cc2 := cl hG cc2; replace cc3 := cl hG cc3; replace cc4 := cl hG cc4; replace fcc5 := fl hG fcc5 cc5; replace cc5 := cl hG cc5; replace fcc6 := fl hG fcc6 cc6; replace cc6 := cl hG cc6; have hs_v3 := hG.size; clear hG; replace hBW : Below w.heap.size w v3 := below_after (w := w) (by go_grown) hB_v3; have hn_v3 := an (nl cc1) (an (nl cc3) (nl cc5)); clear hB_v3)
  have hsg : (sg != !sg) = true := by cases sg <;> rfl
  rcases hd with ⟨rfl, rfl, rfl⟩ | ⟨rfl, t0, t1⟩
  skip
  case' inl =>
    skip
    skip
    go_upto_region 8 with fail
    ((first | refine wp_rename ?_ | refine goal_rename ?_); intro W8 hw_W8; have hG := named cc1 W8 (by rw [hw_W8]; go_grown); replace fcc1 := fl hG fcc1 cc1; replace cc1 := cl hG cc1; replace fcc2 := fl hG fcc2 cc2; replace cc2 := cl hG cc2; replace cc3 := cl hG cc3; replace cc4 := cl hG cc4; replace fcc5 := fl hG fcc5 cc5; replace cc5 := cl hG cc5; replace fcc6 := fl hG fcc6 cc6; replace cc6 := cl hG cc6; replace hBW := below_after hBW hG; have hs_W8 := hG.size; clear hG; have hn_W8 := an (nl cc1) (an (nl cc3) (nl cc5)); have lay_W8 : Laid W8 := Laid.below (w := w) (by assumption) hBW; clear hw_W8)
  skip
  case' inr =>
    (go_wp2_with fail; refine (addsub_Turn _ _ _ _).mono ?_; rw [t0, t1]; rintro en v4 ⟨rfl, hB_v4⟩; have lay_v4 := laid_after hB_v4; have hG := cell_grown cc1 (by go_grown) hB_v4; replace fcc1 := fl hG fcc1 cc1; replace cc1 := cl hG cc1; replace fcc2 := fl hG fcc2 cc2; replace cc2 := cl hG cc2; replace cc3 := cl hG cc3; replace cc4 := cl hG cc4; replace fcc5 := fl hG fcc5 cc5; replace cc5 := cl hG cc5; replace fcc6 := fl hG fcc6 cc6; replace cc6 := cl hG cc6; have hs_v4 := hG.size; clear hG; replace hBW : Below w.heap.size w v4 := below_after (w := w) (by go_grown) hB_v4; have hn_v4 := an (nl cc1) (an (nl cc3) (nl cc5)); clear hB_v4)
    skip
    skip
    go_upto_region 8 with fail
    ((first | refine wp_rename ?_ | refine goal_rename ?_); intro W8 hw_W8; replace cc1 := rn hw_W8 cc1 (by go_simp); replace fcc1 := rf hw_W8 fcc1 (by go_simp); replace cc2 := rn hw_W8 cc2 (by go_simp); replace fcc2 := rf hw_W8 fcc2 (by go_simp); replace cc3 := rn hw_W8 cc3 (by go_simp); replace cc4 := rn hw_W8 cc4 (by go_simp); replace cc5 : W8.cell? ⟨w.heap.size + 1 + 1, 0, none⟩ = some (.int .u64 bh) := (by rw [hw_W8]; go_simp); replace fcc5 := rf hw_W8 fcc5 (by go_simp); replace cc6 : W8.cell? ⟨w.heap.size + 1 + 1, 1, none⟩ = some (.int .u64 bl) := (by rw [hw_W8]; go_simp); replace fcc6 := rf hw_W8 fcc6 (by go_simp); replace hBW : Below w.heap.size w W8 := (by rw [hw_W8]; (first | with_reducible exact drewN_below (by assumption) _ | go_grown)); have hn_W8 := an (nl cc1) (an (nl cc3) (nl cc5)); have lay_W8 : Laid W8 := Laid.below (w := w) (by assumption) hBW; clear hw_W8)
  all_goals (
  refine Lin.wp_region_lin (by kernel_rfl) (by intro _ _ d _ _ h; cases d <;> exact h) (by kernel_rfl) (fun w' => Below W8.heap.size W8 w' ∧ w'.cell? ⟨w.heap.size + 1, 0, none⟩ = some (.int .u64 h) ∧ w'.cell? ⟨w.heap.size + 1, 1, none⟩ = some (.int .u64 l) ∧ w'.cell? ⟨w.heap.size + 1 + 1, 0, none⟩ = some (.int .u64 bh) ∧ w'.cell? ⟨w.heap.size + 1 + 1, 1, none⟩ = some (.int .u64 bl)) ⟨(Below.refl _ _).drew, by go_simp, by go_simp, by go_simp, by go_simp⟩ ?_
  simp only [List.length_cons, List.length_nil, Nat.reduceAdd]
  refine Lin.Blk.out ?_
  iterate 2 (refine Lin.bl_val rfl rfl rfl ?_; apply Exists.intro; refine ⟨fun w' hw' => ?_, ?_⟩; (focus (have hBw := hw'.1; have hSw := hw'.2; clear hw'; (try dsimp only at hBw hSw); go_simp; first | with_reducible exact Lin.lin_value | with_reducible exact Lin.lin_skip)); (try simp only [Act.put, List.setIfInBounds_toArray, List.set_cons_zero, List.set_cons_succ]))
  (refine Lin.bl_val rfl rfl rfl ?_; apply Exists.intro; refine ⟨fun w' hw' => ?_, ?_⟩; (focus (have hBw := hw'.1; have hSw := hw'.2; clear hw'; (try dsimp only at hBw hSw); have lay' : Laid w' := Laid.below lay_W8 hBw; go_simp; first | exact Lin.lin_ret (law18_size _ _ _ _) (by rw [z0.out, z1.out]) | exact Lin.lin_ret (law18_size _ _ _ _) (by rw [z2.out, z3.out]))); (try simp only [Act.put, List.setIfInBounds_toArray, List.set_cons_zero, List.set_cons_succ]))
  iterate 2 (refine Lin.bl_val rfl rfl rfl ?_; apply Exists.intro; refine ⟨fun w' hw' => ?_, ?_⟩; (focus (have hBw := hw'.1; have hSw := hw'.2; clear hw'; (try dsimp only at hBw hSw); go_simp; first | with_reducible exact Lin.lin_value | with_reducible exact Lin.lin_skip)); (try simp only [Act.put, List.setIfInBounds_toArray, List.set_cons_zero, List.set_cons_succ]))
  (refine Lin.bl_val rfl rfl rfl ?_; apply Exists.intro; refine ⟨fun w' hw' => ?_, ?_⟩; (focus (have hBw := hw'.1; have hSw := hw'.2; clear hw'; (try dsimp only at hBw hSw); have lay' : Laid w' := Laid.below lay_W8 hBw; go_simp; first | exact Lin.lin_ret (law18_size _ _ _ _) (by rw [z0.out, z1.out]) | exact Lin.lin_ret (law18_size _ _ _ _) (by rw [z2.out, z3.out]))); (try simp only [Act.put, List.setIfInBounds_toArray, List.set_cons_zero, List.set_cons_succ]))
  refine Lin.bl_rest rfl ?_
  refine Lin.bl_rest rfl ?_
  refine Lin.bl_rest rfl ?_
  refine Lin.bl_rest rfl ?_
  refine Lin.bl_end ?_
  refine Lin.new2 W8.heap.size (fun wa wb hc hb => ⟨hc.1.trans (hb.mono hc.1.size), cell_later hb hc.2.1, cell_later hb hc.2.2.1, cell_later hb hc.2.2.2.1, cell_later hb hc.2.2.2.2⟩) (fun wa hc => hc.1.size) 6 7 _ _ rfl rfl (by decide) (by kernel_rfl) rfl rfl (by kernel_rfl) (by kernel_rfl) (by kernel_rfl) (by kernel_rfl) rfl rfl (.agg #[.int .u64 0, .int .u64 0]) (.agg #[.int .u64 0, .int .u64 0]) (by intro t ht; cases ht <;> (intro w; kernel_rfl)) (by intro t ht; cases ht <;> (intro w; kernel_rfl)) ?_
  intro g k2 X hw_X lo_g lo_k2 ne_g_k2 ho_g ho_k2
  have nf_k2_g : k2 ≠ g := Ne.symm ne_g_k2
  have hb_X := hw_X.1; clear hw_X
  have lay_X : Laid X := Laid.below lay_W8 hb_X
  (replace fcc1 := fl hb_X fcc1 cc1; replace cc1 := cl hb_X cc1; replace fcc2 := fl hb_X fcc2 cc2; replace cc2 := cl hb_X cc2; replace cc3 := cl hb_X cc3; replace cc4 := cl hb_X cc4; replace fcc5 := fl hb_X fcc5 cc5; replace cc5 := cl hb_X cc5; replace fcc6 := fl hb_X fcc6 cc6; replace cc6 := cl hb_X cc6; replace hBW := below_after hBW hb_X; have hsb_X := hb_X.size; have hn_X := an (nl cc1) (an (nl cc3) (nl cc5)))
  have hi_g := Lin.heap_lt ho_g
  have cc7 : X.cell? ⟨g, 0, none⟩ = some (.int .u64 0) := Lin.heap_cell ho_g rfl; have fcc7 : X.frozen? ⟨g, 0, none⟩ = false := Lin.heap_free ho_g
  have cc8 : X.cell? ⟨g, 1, none⟩ = some (.int .u64 0) := Lin.heap_cell ho_g rfl; have fcc8 : X.frozen? ⟨g, 1, none⟩ = false := Lin.heap_free ho_g
  clear ho_g
  have hi_k2 := Lin.heap_lt ho_k2
  have cc9 : X.cell? ⟨k2, 0, none⟩ = some (.int .u64 0) := Lin.heap_cell ho_k2 rfl; have fcc9 : X.frozen? ⟨k2, 0, none⟩ = false := Lin.heap_free ho_k2
  have cc10 : X.cell? ⟨k2, 1, none⟩ = some (.int .u64 0) := Lin.heap_cell ho_k2 rfl; have fcc10 : X.frozen? ⟨k2, 1, none⟩ = false := Lin.heap_free ho_k2
  clear ho_k2
  have hN_X : g ≠ X.heap.size ∧ X.heap.size ≠ g ∧ w.heap.size ≤ g ∧ k2 ≠ X.heap.size ∧ X.heap.size ≠ k2 ∧ w.heap.size ≤ k2 := (by omega)
  unfold Lin.ptrOf
  (try simp only [Act.put, List.setIfInBounds_toArray, List.set_cons_zero, List.set_cons_succ])
  have hM_X : w.heap.size ≠ g ∧ g ≠ w.heap.size ∧ w.heap.size ≠ k2 ∧ k2 ≠ w.heap.size ∧ w.heap.size + 1 ≠ g ∧ g ≠ w.heap.size + 1 ∧ w.heap.size + 1 ≠ k2 ∧ k2 ≠ w.heap.size + 1 ∧ w.heap.size + 1 + 1 ≠ g ∧ g ≠ w.heap.size + 1 + 1 ∧ w.heap.size + 1 + 1 ≠ k2 ∧ k2 ≠ w.heap.size + 1 + 1 := (by omega)
  (refine wpAny_ready (rs := [8]) (by kernel_rfl) (by simp) ?_; refine AllReady.cons rfl (fun K hK => ?_) AllReady.nil; go_simp; refine hK _ _ ?_; clear hK K)
  (refine wpAny_ready (rs := [9]) (by kernel_rfl) (by simp) ?_; refine AllReady.cons rfl (fun K hK => ?_) AllReady.nil; go_simp; refine hK _ _ ?_; clear hK K)
  refine wpAny_done (by kernel_rfl) ?_ _
  apply_assumption
  ((first | refine wp_rename ?_ | refine goal_rename ?_); intro Xs hw_Xs; replace cc1 := rn hw_Xs cc1 (by go_simp); replace fcc1 := rf hw_Xs fcc1 (by go_simp); replace cc2 := rn hw_Xs cc2 (by go_simp); replace fcc2 := rf hw_Xs fcc2 (by go_simp); replace cc3 := rn hw_Xs cc3 (by go_simp); replace cc4 := rn hw_Xs cc4 (by go_simp); replace cc5 := rn hw_Xs cc5 (by go_simp); replace fcc5 := rf hw_Xs fcc5 (by go_simp); replace cc6 := rn hw_Xs cc6 (by go_simp); replace fcc6 := rf hw_Xs fcc6 (by go_simp); replace cc7 : Xs.cell? ⟨g, 0, none⟩ = some (.int .u64 xh) := (by rw [hw_Xs]; go_simp); replace fcc7 := rf hw_Xs fcc7 (by go_simp); replace cc8 : Xs.cell? ⟨g, 1, none⟩ = some (.int .u64 xl) := (by rw [hw_Xs]; go_simp); replace fcc8 := rf hw_Xs fcc8 (by go_simp); replace cc9 : Xs.cell? ⟨k2, 0, none⟩ = some (.int .u64 yh) := (by rw [hw_Xs]; go_simp); replace fcc9 := rf hw_Xs fcc9 (by go_simp); replace cc10 : Xs.cell? ⟨k2, 1, none⟩ = some (.int .u64 yl) := (by rw [hw_Xs]; go_simp); replace fcc10 := rf hw_Xs fcc10 (by go_simp); replace hBW : Below w.heap.size w Xs := (by rw [hw_Xs]; (first | with_reducible exact drewN_below (by assumption) _ | go_grown)); have hn_Xs := an (nl cc1) (an (nl cc3) (an (nl cc5) (an (nl cc7) (nl cc9)))); have lay_Xs : Laid Xs := Laid.below (w := w) (by assumption) hBW; clear hw_Xs)
  (go_wp2_with fail; refine (word_Cmp _ _ _ _ _).mono ?_; rw [k0.out]; rintro en v5 ⟨rfl, hB_v5⟩; have lay_v5 := laid_after hB_v5; have hG := cell_grown cc1 (by go_grown) hB_v5; replace fcc1 := fl hG fcc1 cc1; replace cc1 := cl hG cc1; replace fcc2 := fl hG fcc2 cc2; replace cc2 := cl hG cc2; replace cc3 := cl hG cc3; replace cc4 := cl hG cc4; replace fcc5 := fl hG fcc5 cc5; replace cc5 := cl hG cc5; replace fcc6 := fl hG fcc6 cc6; replace cc6 := cl hG cc6; replace fcc7 := fl hG fcc7 cc7; replace cc7 := cl hG cc7; replace fcc8 := fl hG fcc8 cc8; replace cc8 := cl hG cc8; replace fcc9 := fl hG fcc9 cc9; replace cc9 := cl hG cc9; replace fcc10 := fl hG fcc10 cc10; replace cc10 := cl hG cc10; have hs_v5 := hG.size; clear hG; replace hBW : Below w.heap.size w v5 := below_after (w := w) (by go_grown) hB_v5; have hn_v5 := an (nl cc1) (an (nl cc3) (an (nl cc5) (an (nl cc7) (nl cc9)))); clear hB_v5)
  rcases hk with ⟨g1, rfl, rfl, rfl, rfl⟩ | ⟨g1, rfl, rfl, rfl, rfl⟩
  skip
  case' inl =>
    skip
    skip
    skip
    skip
    go_upto_region 11 with fail
    ((first | refine wp_rename ?_ | refine goal_rename ?_); intro W11 hw_W11; have hG := named cc1 W11 (by rw [hw_W11]; go_grown); replace fcc1 := fl hG fcc1 cc1; replace cc1 := cl hG cc1; replace fcc2 := fl hG fcc2 cc2; replace cc2 := cl hG cc2; replace cc3 := cl hG cc3; replace cc4 := cl hG cc4; replace fcc5 := fl hG fcc5 cc5; replace cc5 := cl hG cc5; replace fcc6 := fl hG fcc6 cc6; replace cc6 := cl hG cc6; replace fcc7 := fl hG fcc7 cc7; replace cc7 := cl hG cc7; replace fcc8 := fl hG fcc8 cc8; replace cc8 := cl hG cc8; replace fcc9 := fl hG fcc9 cc9; replace cc9 := cl hG cc9; replace fcc10 := fl hG fcc10 cc10; replace cc10 := cl hG cc10; replace hBW := below_after hBW hG; have hs_W11 := hG.size; clear hG; have hn_W11 := an (nl cc1) (an (nl cc3) (an (nl cc5) (an (nl cc7) (nl cc9)))); have lay_W11 : Laid W11 := Laid.below (w := w) (by assumption) hBW; clear hw_W11)
  skip
  case' inr =>
    skip
    skip
    skip
    skip
    go_upto_region 11 with fail
    ((first | refine wp_rename ?_ | refine goal_rename ?_); intro W11 hw_W11; replace cc1 := rn hw_W11 cc1 (by go_simp); replace fcc1 := rf hw_W11 fcc1 (by go_simp); replace cc2 := rn hw_W11 cc2 (by go_simp); replace fcc2 := rf hw_W11 fcc2 (by go_simp); replace cc3 := rn hw_W11 cc3 (by go_simp); replace cc4 := rn hw_W11 cc4 (by go_simp); replace cc5 := rn hw_W11 cc5 (by go_simp); replace fcc5 := rf hw_W11 fcc5 (by go_simp); replace cc6 := rn hw_W11 cc6 (by go_simp); replace fcc6 := rf hw_W11 fcc6 (by go_simp); replace cc7 : W11.cell? ⟨g, 0, none⟩ = some (.int .u64 uh) := (by rw [hw_W11]; go_simp); replace fcc7 := rf hw_W11 fcc7 (by go_simp); replace cc8 : W11.cell? ⟨g, 1, none⟩ = some (.int .u64 ul) := (by rw [hw_W11]; go_simp); replace fcc8 := rf hw_W11 fcc8 (by go_simp); replace cc9 : W11.cell? ⟨k2, 0, none⟩ = some (.int .u64 vh) := (by rw [hw_W11]; go_simp); replace fcc9 := rf hw_W11 fcc9 (by go_simp); replace cc10 : W11.cell? ⟨k2, 1, none⟩ = some (.int .u64 vl) := (by rw [hw_W11]; go_simp); replace fcc10 := rf hw_W11 fcc10 (by go_simp); replace hBW : Below w.heap.size w W11 := (by rw [hw_W11]; (first | with_reducible exact drewN_below (by assumption) _ | go_grown)); have hn_W11 := an (nl cc1) (an (nl cc3) (an (nl cc5) (an (nl cc7) (nl cc9)))); have lay_W11 : Laid W11 := Laid.below (w := w) (by assumption) hBW; clear hw_W11)
  all_goals (
  (go_wp2_with fail; refine (addsub_Add _ _ _ _ _ _ _ _).mono ?_; rw [a0.out, a1.out, a2.out]; rintro en v6 ⟨rfl, hB_v6⟩; have lay_v6 := laid_after hB_v6; have hG := cell_grown cc1 (by go_grown) hB_v6; replace fcc1 := fl hG fcc1 cc1; replace cc1 := cl hG cc1; replace fcc2 := fl hG fcc2 cc2; replace cc2 := cl hG cc2; replace cc3 := cl hG cc3; replace cc4 := cl hG cc4; replace fcc5 := fl hG fcc5 cc5; replace cc5 := cl hG cc5; replace fcc6 := fl hG fcc6 cc6; replace cc6 := cl hG cc6; replace fcc7 := fl hG fcc7 cc7; replace cc7 := cl hG cc7; replace fcc8 := fl hG fcc8 cc8; replace cc8 := cl hG cc8; replace fcc9 := fl hG fcc9 cc9; replace cc9 := cl hG cc9; replace fcc10 := fl hG fcc10 cc10; replace cc10 := cl hG cc10; have hs_v6 := hG.size; clear hG; replace hBW : Below w.heap.size w v6 := below_after (w := w) (by go_grown) hB_v6; have hn_v6 := an (nl cc1) (an (nl cc3) (an (nl cc5) (an (nl cc7) (nl cc9)))); clear hB_v6)
  (go_wp2_with fail; refine (word_Cmp _ _ _ _ _).mono ?_; rw [k1.out]; rintro en v7 ⟨rfl, hB_v7⟩; have lay_v7 := laid_after hB_v7; have hG := cell_grown cc1 (by go_grown) hB_v7; replace fcc1 := fl hG fcc1 cc1; replace cc1 := cl hG cc1; replace fcc2 := fl hG fcc2 cc2; replace cc2 := cl hG cc2; replace cc3 := cl hG cc3; replace cc4 := cl hG cc4; replace fcc5 := fl hG fcc5 cc5; replace cc5 := cl hG cc5; replace fcc6 := fl hG fcc6 cc6; replace cc6 := cl hG cc6; replace fcc7 := fl hG fcc7 cc7; replace cc7 := cl hG cc7; replace fcc8 := fl hG fcc8 cc8; replace cc8 := cl hG cc8; replace fcc9 := fl hG fcc9 cc9; replace cc9 := cl hG cc9; replace fcc10 := fl hG fcc10 cc10; replace cc10 := cl hG cc10; have cc11 := cl hB_v7 (show World.cell? _ ⟨v6.heap.size, 0, none⟩ = some (.int .u64 p0) by go_simp); have cc12 := cl hB_v7 (show World.cell? _ ⟨v6.heap.size, 1, none⟩ = some (.int .u64 p1) by go_simp); have cc13 := cl hB_v7 (show World.cell? _ ⟨v6.heap.size, 2, none⟩ = some (.int .u8 pz) by go_simp); have hs_v7 := hG.size; clear hG; replace hBW : Below w.heap.size w v7 := below_after (w := w) (by go_grown) hB_v7; have hn_v7 := an (nl cc1) (an (nl cc3) (an (nl cc5) (an (nl cc7) (an (nl cc9) (nl cc11))))); clear hB_v7)
  rcases hn with n1 | ⟨n1, rfl⟩
  skip
  case' inr =>
    (go_wp2_with fail; refine (addsub_Sub _ _ _ _ _ _ _ _).mono ?_; rw [b0.out, b1.out, b2.out]; rintro en v8 ⟨rfl, hB_v8⟩; have lay_v8 := laid_after hB_v8; have hG := cell_grown cc1 (by go_grown) hB_v8; replace fcc1 := fl hG fcc1 cc1; replace cc1 := cl hG cc1; replace fcc2 := fl hG fcc2 cc2; replace cc2 := cl hG cc2; replace cc3 := cl hG cc3; replace cc4 := cl hG cc4; replace fcc5 := fl hG fcc5 cc5; replace cc5 := cl hG cc5; replace fcc6 := fl hG fcc6 cc6; replace cc6 := cl hG cc6; replace fcc7 := fl hG fcc7 cc7; replace cc7 := cl hG cc7; replace fcc8 := fl hG fcc8 cc8; replace cc8 := cl hG cc8; replace fcc9 := fl hG fcc9 cc9; replace cc9 := cl hG cc9; replace fcc10 := fl hG fcc10 cc10; replace cc10 := cl hG cc10; replace cc11 := cl hG cc11; replace cc12 := cl hG cc12; replace cc13 := cl hG cc13; have hs_v8 := hG.size; clear hG; replace hBW : Below w.heap.size w v8 := below_after (w := w) (by go_grown) hB_v8; have hn_v8 := an (nl cc1) (an (nl cc3) (an (nl cc5) (an (nl cc7) (an (nl cc9) (nl cc11))))); clear hB_v8)
  skip
  all_goals (
  go_wp2_with fail
  refine (law18_goes _).mono ?_
  rintro en v9 ⟨rfl, hB_v9⟩
  have hBW9 := below_after (w := w) (by go_grown) hB_v9
  go_wp2_with fail
  go_returns
  exact ⟨rfl, by go_grown⟩)))
/-- What is near: of two sizes. -/
theorem near_of (f : Int) (x y : Nat) (h0 : 0 ≤ f) (hf : f < 4) (hx : x < infC f) (h : y ≤ addB f 4 x x) (hxy : x ≤ y) : x ≤ y ∧ valC (precS f).toNat (unitB f KK) y ≤ valC (precS f).toNat (unitB f KK) x + valC (precS f).toNat (unitB f KK) x := ⟨hxy, twice_le f x y h0 hf hx h⟩
theorem walk_AddsubNear (f m : Int) (aft : Bool) (h l h' l' : Int) [hU : U8 f] [hM : U8 m] [U64 h] [U64 l] [U64 h'] [U64 l'] (w : World) [hLay : Laid w] :
    Calls Tryz.prog 6 #[.int .u8 f, .agg #[.int .u8 m, .bool aft], .agg #[.int .u64 (h), .int .u64 (l)], .agg #[.int .u64 (h'), .int .u64 (l')]] w fun en w' => en = .returned (.bool true) ∧ Below w.heap.size w w' := by
  have f0 := hU.ge
  have m0 := hM.ge
  haveI : U8 (m % 5) := ⟨by omega, by omega⟩
  have hm : m % 5 ≤ 4 := by omega
  by_cases hf : f < 4
  case neg => exact ar_nf f m h l h' l' aft w hf
  cases hx : finC f (cat h l)
  case false => exact ar_x1 f m h l h' l' aft w hf (Lib.hid hx)
  cases hy : finC f (cat h' l')
  case false => exact ar_x2 f m h l h' l' aft w hf (Lib.hid hx) (Lib.hid hy)
  have fx := (fin_dec hf).1 hx
  have fy := (fin_dec hf).1 hy
  obtain ⟨x1, x2, x3⟩ := size_fin f _ f0 hf fx
  have cx := sizeF_cat f (cat h l) f0
  have cy := sizeF_cat f (cat h' l') f0
  have ct := sizeF_cat f (turnF f (cat h' l')) f0
  have tt : cat (hi (turnF f (cat h' l'))) (lo (turnF f (cat h' l'))) = turnF f (cat h' l') := cat_small _ (makeF_lt _ _ _ _ f0)
  have ca : ∀ x, cat (hi (addB f 4 x x)) (lo (addB f 4 x x)) = addB f 4 x x := fun x => cat_small _ (addB_small f 4 x x f0)
  obtain ⟨u1, u2, u3⟩ := turn_code f (cat h' l') f0 hf
  -- what is needed of a second number b of the same sign
  have key : ∀ b, classF f b < 3 → sgnF f (cat h l) = sgnF f b → (sizeF f (cat h l) ≤ sizeF f b → sizeF f b ≤ addB f 4 (sizeF f (cat h l)) (sizeF f (cat h l)) → addFl f (m % 5) aft (cat h l) (subN f b) = 0) ∧ (sizeF f b ≤ sizeF f (cat h l) → sizeF f (cat h l) ≤ addB f 4 (sizeF f b) (sizeF f b) → addFl f (m % 5) aft (cat h l) (subN f b) = 0) := by
    intro b hb hs
    obtain ⟨b1, b2, b3⟩ := size_fin f b f0 hf hb
    constructor
    · intro h1 h2
      have hn := near_of f _ _ f0 hf x1 h2 h1
      rw [x3, b3] at hn
      exact sub_near f (m % 5) aft _ _ f0 hf hm fx hb hs (Or.inl hn)
    · intro h1 h2
      have hn := near_of f _ _ f0 hf b1 h2 h1
      rw [x3, b3] at hn
      exact sub_near f (m % 5) aft _ _ f0 hf hm fx hb hs (Or.inr hn)
  have hsort : ∀ b, cat (hi (sizeF f b)) (lo (sizeF f b)) = sizeF f b → sgnF f (cat h l) = sgnF f b → classF f b < 3 → ∀ bh bl : Int, [U64 bh] → [U64 bl] → cat bh bl = b →
      ((sgnF f (cat h' l') = sgnF f (cat h l) ∧ bh = h' ∧ bl = l') ∨ (sgnF f (cat h' l') = (!sgnF f (cat h l)) ∧ hi (turnF f (cat h' l')) = bh ∧ lo (turnF f (cat h' l')) = bl)) →
      Calls Tryz.prog 6 #[.int .u8 f, .agg #[.int .u8 m, .bool aft], .agg #[.int .u64 (h), .int .u64 (l)], .agg #[.int .u64 (h'), .int .u64 (l')]] w fun en w' => en = .returned (.bool true) ∧ Below w.heap.size w w' := by
    intro b cb hs hb bh bl _ _ hc hd
    obtain ⟨kl, kg⟩ := key b hb hs
    subst hc
    rcases Nat.lt_or_ge (sizeF f (cat bh bl)) (sizeF f (cat h l)) with hlt | hle
    · refine ar_ok f m h l h' l' _ _ bh bl _ _ _ _ _ _ _ _ _ _ _ _ _ _ _ _ aft _ _ w hf (Lib.hid hx) (Lib.hid hy) (Lib.hid rfl) (Lib.hid rfl) (Lib.hid rfl) (Lib.hid rfl) hd (Lib.hid rfl) (Lib.hid rfl) (Lib.hid rfl) (Lib.hid rfl) (Lib.hid rfl) (Or.inr ⟨by rw [cx, cb]; exact cmp_gt hlt, rfl, rfl, rfl, rfl⟩) (Lib.hid rfl) (Lib.hid rfl) (Lib.hid rfl) (Lib.hid rfl) (Lib.hid rfl) (Lib.hid rfl) (Lib.hid rfl) ?_
      rw [cx, cb, ca]
      cases hc : decide (cmpN (addB f 4 (sizeF f (cat bh bl)) (sizeF f (cat bh bl))) (sizeF f (cat h l)) < 0)
      · exact Or.inr ⟨rfl, kg (Nat.le_of_lt hlt) (cmp_lt'.2 hc)⟩
      · exact Or.inl rfl
    · refine ar_ok f m h l h' l' _ _ bh bl _ _ _ _ _ _ _ _ _ _ _ _ _ _ _ _ aft _ _ w hf (Lib.hid hx) (Lib.hid hy) (Lib.hid rfl) (Lib.hid rfl) (Lib.hid rfl) (Lib.hid rfl) hd (Lib.hid rfl) (Lib.hid rfl) (Lib.hid rfl) (Lib.hid rfl) (Lib.hid rfl) (Or.inl ⟨by rw [cx, cb]; exact (cmp_le hle).1, rfl, rfl, rfl, rfl⟩) (Lib.hid rfl) (Lib.hid rfl) (Lib.hid rfl) (Lib.hid rfl) (Lib.hid rfl) (Lib.hid rfl) (Lib.hid rfl) ?_
      rw [cx, cb, ca]
      cases hc : decide (cmpN (addB f 4 (sizeF f (cat h l)) (sizeF f (cat h l))) (sizeF f (cat bh bl)) < 0)
      · exact Or.inr ⟨rfl, kl hle (cmp_lt'.2 hc)⟩
      · exact Or.inl rfl
  by_cases hs : sgnF f (cat h' l') = sgnF f (cat h l)
  · exact hsort (cat h' l') cy hs.symm fy h' l' rfl (Or.inl ⟨hs, rfl, rfl⟩)
  · have hs2 : sgnF f (cat h' l') = !(sgnF f (cat h l)) := by revert hs; cases sgnF f (cat h' l') <;> cases sgnF f (cat h l) <;> decide
    exact hsort (turnF f (cat h' l')) ct (by rw [u2, hs2, Bool.not_not]) (by rw [u3]; exact fy) _ _ tt (Or.inr ⟨hs2, rfl, rfl⟩)
end Go.Proofs.YtkldkchkhblndaaGreatDoor
