/- AddsubExact: what is tiny is exact; differences; the walks by ways, joined. Condition: the listed table is laid. -/
import Derived.Test.YtkldkchkhblndaaGreatDoorLaw18f
set_option linter.unusedSimpArgs false
set_option linter.unusedVariables false
namespace Go.Proofs.YtkldkchkhblndaaGreatDoor
open Go.RowKit Go.Hb
set_option maxRecDepth 100000 in
set_option maxHeartbeats 8000000 in
theorem ax_nf (f m h l h' l' : Int) (aft : Bool) [hU : U8 f] [hM : U8 m] [U8 (m % 5)] [U64 h] [U64 l] [U64 h'] [U64 l'] (w : World) [hLay : Laid w] (hf : ¬ f < 4) :
    Calls Tryz.prog 5 #[.int .u8 f, .agg #[.int .u8 m, .bool aft], .agg #[.int .u64 (h), .int .u64 (l)], .agg #[.int .u64 (h'), .int .u64 (l')]] w fun en w' => en = .returned (.bool true) ∧ Below w.heap.size w w' := by
  have hfd : decide (f < 4) = false := decide_eq_false hf
  have hm0 := hM.ge
  have e0 : hi 0 = 0 := rfl
  have e1 : lo 0 = 0 := rfl
  have a1 : addB f (m % 5) (cat h l) (cat h' l') = 0 := by unfold addB; rw [if_neg (fun y => hf y.1)]
  have a2 : addFl f (m % 5) aft (cat h l) (cat h' l') = 0 := by unfold addFl; rw [if_neg (fun y => hf y.1)]
  have q := fun W a b c => eql_res_same W a b c
  clear hf
  go_enter Tryz.func5, Tryz.ntmps5
  skip
  skip
  (go_wp2_with fail; refine (format_Known_b _ _).mono ?_; rintro en v1 ⟨rfl, hB_v1⟩; have lay_v1 := laid_after hB_v1; obtain ⟨cc1, fcc1⟩ := pf hB_v1 (show World.cell? _ ⟨w.heap.size, 0, none⟩ = some (.int .u8 (m % 5)) by go_simp) (by go_simp); obtain ⟨cc2, fcc2⟩ := pf hB_v1 (show World.cell? _ ⟨w.heap.size, 1, none⟩ = some (.bool aft) by go_simp) (by go_simp); have cc3 := cl hB_v1 (show World.cell? _ ⟨w.heap.size + 1, 0, none⟩ = some (.int .u64 h) by go_simp); have cc4 := cl hB_v1 (show World.cell? _ ⟨w.heap.size + 1, 1, none⟩ = some (.int .u64 l) by go_simp); have cc5 := cl hB_v1 (show World.cell? _ ⟨w.heap.size + 1 + 1, 0, none⟩ = some (.int .u64 h') by go_simp); have cc6 := cl hB_v1 (show World.cell? _ ⟨w.heap.size + 1 + 1, 1, none⟩ = some (.int .u64 l') by go_simp); have hs_v1 := hB_v1.size; (try simp only [World.size_alloc, World.size_setCell, World.size_drew] at hs_v1); have hBW : Below w.heap.size w v1 := below_after (w := w) (by go_grown) hB_v1; have hn_v1 := an (nl cc1) (an (nl cc3) (nl cc5)); clear hB_v1)
  (go_wp2_with fail; refine (addsub_Add _ _ _ _ _ _ _ _).mono ?_; rw [a1, e0, e1, a2]; rintro en v2 ⟨rfl, hB_v2⟩; have lay_v2 := laid_after hB_v2; have hG := cell_grown cc1 (by go_grown) hB_v2; replace fcc1 := fl hG fcc1 cc1; replace cc1 := cl hG cc1; replace fcc2 := fl hG fcc2 cc2; replace cc2 := cl hG cc2; replace cc3 := cl hG cc3; replace cc4 := cl hG cc4; replace cc5 := cl hG cc5; replace cc6 := cl hG cc6; have hs_v2 := hG.size; clear hG; replace hBW : Below w.heap.size w v2 := below_after (w := w) (by go_grown) hB_v2; have hn_v2 := an (nl cc1) (an (nl cc3) (nl cc5)); clear hB_v2)
  (go_wp2_with fail; refine (law18_goes _).mono ?_; rintro en v3 ⟨rfl, hB_v3⟩; have lay_v3 := laid_after hB_v3; have hG := cell_grown cc1 (by go_grown) hB_v3; replace fcc1 := fl hG fcc1 cc1; replace cc1 := cl hG cc1; replace fcc2 := fl hG fcc2 cc2; replace cc2 := cl hG cc2; replace cc3 := cl hG cc3; replace cc4 := cl hG cc4; replace cc5 := cl hG cc5; replace cc6 := cl hG cc6; have hs_v3 := hG.size; clear hG; replace hBW : Below w.heap.size w v3 := below_after (w := w) (by go_grown) hB_v3; have hn_v3 := an (nl cc1) (an (nl cc3) (nl cc5)); clear hB_v3)
  go_wp2_with fail
  go_returns
  exact ⟨rfl, by go_grown⟩
set_option maxRecDepth 100000 in
set_option maxHeartbeats 8000000 in
theorem ax_x (f m h l h' l' : Int) (aft : Bool) [hU : U8 f] [hM : U8 m] [U8 (m % 5)] [U64 h] [U64 l] [U64 h'] [U64 l'] (w : World) [hLay : Laid w] (hf : f < 4) (f1 : Hid (finC f (cat h l) = false)) :
    Calls Tryz.prog 5 #[.int .u8 f, .agg #[.int .u8 m, .bool aft], .agg #[.int .u64 (h), .int .u64 (l)], .agg #[.int .u64 (h'), .int .u64 (l')]] w fun en w' => en = .returned (.bool true) ∧ Below w.heap.size w w' := by
  have hfd : decide (f < 4) = true := decide_eq_true hf
  have hm0 := hM.ge
  clear hf
  go_enter Tryz.func5, Tryz.ntmps5
  skip
  skip
  (go_wp2_with fail; refine (format_Known_b _ _).mono ?_; rintro en v1 ⟨rfl, hB_v1⟩; have lay_v1 := laid_after hB_v1; obtain ⟨cc1, fcc1⟩ := pf hB_v1 (show World.cell? _ ⟨w.heap.size, 0, none⟩ = some (.int .u8 (m % 5)) by go_simp) (by go_simp); obtain ⟨cc2, fcc2⟩ := pf hB_v1 (show World.cell? _ ⟨w.heap.size, 1, none⟩ = some (.bool aft) by go_simp) (by go_simp); have cc3 := cl hB_v1 (show World.cell? _ ⟨w.heap.size + 1, 0, none⟩ = some (.int .u64 h) by go_simp); have cc4 := cl hB_v1 (show World.cell? _ ⟨w.heap.size + 1, 1, none⟩ = some (.int .u64 l) by go_simp); have cc5 := cl hB_v1 (show World.cell? _ ⟨w.heap.size + 1 + 1, 0, none⟩ = some (.int .u64 h') by go_simp); have cc6 := cl hB_v1 (show World.cell? _ ⟨w.heap.size + 1 + 1, 1, none⟩ = some (.int .u64 l') by go_simp); have hs_v1 := hB_v1.size; (try simp only [World.size_alloc, World.size_setCell, World.size_drew] at hs_v1); have hBW : Below w.heap.size w v1 := below_after (w := w) (by go_grown) hB_v1; have hn_v1 := an (nl cc1) (an (nl cc3) (nl cc5)); clear hB_v1)
  (go_wp2_with fail; refine (class_Finite _ _ _ _).mono ?_; rw [f1.out]; rintro en v2 ⟨rfl, hB_v2⟩; have lay_v2 := laid_after hB_v2; have hG := cell_grown cc1 (by go_grown) hB_v2; replace fcc1 := fl hG fcc1 cc1; replace cc1 := cl hG cc1; replace fcc2 := fl hG fcc2 cc2; replace cc2 := cl hG cc2; replace cc3 := cl hG cc3; replace cc4 := cl hG cc4; replace cc5 := cl hG cc5; replace cc6 := cl hG cc6; have hs_v2 := hG.size; clear hG; replace hBW : Below w.heap.size w v2 := below_after (w := w) (by go_grown) hB_v2; have hn_v2 := an (nl cc1) (an (nl cc3) (nl cc5)); clear hB_v2)
  (go_wp2_with fail; refine (law18_goes _).mono ?_; rintro en v4 ⟨rfl, hB_v4⟩; have lay_v4 := laid_after hB_v4; have hG := cell_grown cc1 (by go_grown) hB_v4; replace fcc1 := fl hG fcc1 cc1; replace cc1 := cl hG cc1; replace fcc2 := fl hG fcc2 cc2; replace cc2 := cl hG cc2; replace cc3 := cl hG cc3; replace cc4 := cl hG cc4; replace cc5 := cl hG cc5; replace cc6 := cl hG cc6; have hs_v4 := hG.size; clear hG; replace hBW : Below w.heap.size w v4 := below_after (w := w) (by go_grown) hB_v4; have hn_v4 := an (nl cc1) (an (nl cc3) (nl cc5)); clear hB_v4)
  go_wp2_with fail
  go_returns
  exact ⟨rfl, by go_grown⟩
set_option maxRecDepth 100000 in
set_option maxHeartbeats 8000000 in
theorem ax_y (f m h l h' l' : Int) (aft : Bool) [hU : U8 f] [hM : U8 m] [U8 (m % 5)] [U64 h] [U64 l] [U64 h'] [U64 l'] (w : World) [hLay : Laid w] (hf : f < 4) (f1 : Hid (finC f (cat h l) = true)) (f2 : Hid (finC f (cat h' l') = false)) :
    Calls Tryz.prog 5 #[.int .u8 f, .agg #[.int .u8 m, .bool aft], .agg #[.int .u64 (h), .int .u64 (l)], .agg #[.int .u64 (h'), .int .u64 (l')]] w fun en w' => en = .returned (.bool true) ∧ Below w.heap.size w w' := by
  have hfd : decide (f < 4) = true := decide_eq_true hf
  have hm0 := hM.ge
  clear hf
  go_enter Tryz.func5, Tryz.ntmps5
  skip
  skip
  (go_wp2_with fail; refine (format_Known_b _ _).mono ?_; rintro en v1 ⟨rfl, hB_v1⟩; have lay_v1 := laid_after hB_v1; obtain ⟨cc1, fcc1⟩ := pf hB_v1 (show World.cell? _ ⟨w.heap.size, 0, none⟩ = some (.int .u8 (m % 5)) by go_simp) (by go_simp); obtain ⟨cc2, fcc2⟩ := pf hB_v1 (show World.cell? _ ⟨w.heap.size, 1, none⟩ = some (.bool aft) by go_simp) (by go_simp); have cc3 := cl hB_v1 (show World.cell? _ ⟨w.heap.size + 1, 0, none⟩ = some (.int .u64 h) by go_simp); have cc4 := cl hB_v1 (show World.cell? _ ⟨w.heap.size + 1, 1, none⟩ = some (.int .u64 l) by go_simp); have cc5 := cl hB_v1 (show World.cell? _ ⟨w.heap.size + 1 + 1, 0, none⟩ = some (.int .u64 h') by go_simp); have cc6 := cl hB_v1 (show World.cell? _ ⟨w.heap.size + 1 + 1, 1, none⟩ = some (.int .u64 l') by go_simp); have hs_v1 := hB_v1.size; (try simp only [World.size_alloc, World.size_setCell, World.size_drew] at hs_v1); have hBW : Below w.heap.size w v1 := below_after (w := w) (by go_grown) hB_v1; have hn_v1 := an (nl cc1) (an (nl cc3) (nl cc5)); clear hB_v1)
  (go_wp2_with fail; refine (class_Finite _ _ _ _).mono ?_; rw [f1.out]; rintro en v2 ⟨rfl, hB_v2⟩; have lay_v2 := laid_after hB_v2; have hG := cell_grown cc1 (by go_grown) hB_v2; replace fcc1 := fl hG fcc1 cc1; replace cc1 := cl hG cc1; replace fcc2 := fl hG fcc2 cc2; replace cc2 := cl hG cc2; replace cc3 := cl hG cc3; replace cc4 := cl hG cc4; replace cc5 := cl hG cc5; replace cc6 := cl hG cc6; have hs_v2 := hG.size; clear hG; replace hBW : Below w.heap.size w v2 := below_after (w := w) (by go_grown) hB_v2; have hn_v2 := an (nl cc1) (an (nl cc3) (nl cc5)); clear hB_v2)
  (go_wp2_with fail; refine (class_Finite _ _ _ _).mono ?_; rw [f2.out]; rintro en v3 ⟨rfl, hB_v3⟩; have lay_v3 := laid_after hB_v3; have hG := cell_grown cc1 (by go_grown) hB_v3; replace fcc1 := fl hG fcc1 cc1; replace cc1 := cl hG cc1; replace fcc2 := fl hG fcc2 cc2; replace cc2 := cl hG cc2; replace cc3 := cl hG cc3; replace cc4 := cl hG cc4; replace cc5 := cl hG cc5; replace cc6 := cl hG cc6; have hs_v3 := hG.size; clear hG; replace hBW : Below w.heap.size w v3 := below_after (w := w) (by go_grown) hB_v3; have hn_v3 := an (nl cc1) (an (nl cc3) (nl cc5)); clear hB_v3)
  (go_wp2_with fail; refine (law18_goes _).mono ?_; rintro en v4 ⟨rfl, hB_v4⟩; have lay_v4 := laid_after hB_v4; have hG := cell_grown cc1 (by go_grown) hB_v4; replace fcc1 := fl hG fcc1 cc1; replace cc1 := cl hG cc1; replace fcc2 := fl hG fcc2 cc2; replace cc2 := cl hG cc2; replace cc3 := cl hG cc3; replace cc4 := cl hG cc4; replace cc5 := cl hG cc5; replace cc6 := cl hG cc6; have hs_v4 := hG.size; clear hG; replace hBW : Below w.heap.size w v4 := below_after (w := w) (by go_grown) hB_v4; have hn_v4 := an (nl cc1) (an (nl cc3) (nl cc5)); clear hB_v4)
  go_wp2_with fail
  go_returns
  exact ⟨rfl, by go_grown⟩
set_option maxRecDepth 100000 in
set_option maxHeartbeats 8000000 in
theorem ax_ok (f m h l h' l' p0 p1 pz c z0 z1 s0 s1 sf g e e' ah al bh bl : Int) (aft cs gs es es' b3 sm : Bool) [hU : U8 f] [hM : U8 m] [U8 (m % 5)] [U64 h] [U64 l] [U64 h'] [U64 l'] [U64 p0] [U64 p1] [U64 z0] [U64 z1] [U64 s0] [U64 s1] [U64 ah] [U64 al] [U64 bh] [U64 bl] (w : World) [hLay : Laid w] (hf : f < 4) (f1 : Hid (finC f (cat h l) = true)) (f2 : Hid (finC f (cat h' l') = true))
    (a0 : Hid (hi (addB f (m % 5) (cat h l) (cat h' l')) = p0)) (a1 : Hid (lo (addB f (m % 5) (cat h l) (cat h' l')) = p1)) (a2 : Hid (addFl f (m % 5) aft (cat h l) (cat h' l') = pz))
    (g8 : bits BinOp.and IntKind.u8 pz 8 = 0) (g3 : bits BinOp.and IntKind.u8 pz 3 = 0)
    (c0 : Hid (classF f (cat p0 p1) = c)) (c1 : Hid (sgnF f (cat p0 p1) = cs))
    (hq : ((c == 0) = true ∧ pz = 0) ∨ ((c == 0) = false ∧ (c == 1) = true ∧ pz = 0) ∨ ((c == 0) = false ∧ (c == 1) = false))
    (y0 : Hid (hi (addB f (m % 5) (cat h l) (subN f (cat h l))) = z0)) (y1 : Hid (lo (addB f (m % 5) (cat h l) (subN f (cat h l))) = z1)) (y2 : Hid (addFl f (m % 5) aft (cat h l) (subN f (cat h l)) = 0))
    (d0 : Hid (classF f (cat z0 z1) = 0)) (d1 : Hid (sgnF f (cat z0 z1) = b3)) (h3 : (m % 5 == 3) = b3)
    (i0 : Hid (classF f (cat h l) = e)) (i1 : Hid (sgnF f (cat h l) = es)) (j0 : Hid (classF f (cat h' l') = e')) (j1 : Hid (sgnF f (cat h' l') = es'))
    (x0 : Hid (hi (addB f (m % 5) (cat h l) (subN f (cat h' l'))) = s0)) (x1 : Hid (lo (addB f (m % 5) (cat h l) (subN f (cat h' l'))) = s1)) (x2 : Hid (addFl f (m % 5) aft (cat h l) (subN f (cat h' l')) = sf))
    (u0 : Hid (classF f (cat s0 s1) = g)) (u1 : Hid (sgnF f (cat s0 s1) = gs)) (qg : (g == 0) = sm)
    (k0 : Hid (hi (lowN (cat h l) (widthS f)) = ah)) (k1 : Hid (lo (lowN (cat h l) (widthS f)) = al)) (k2 : Hid (hi (lowN (cat h' l') (widthS f)) = bh)) (k3 : Hid (lo (lowN (cat h' l') (widthS f)) = bl))
    (he : (decide (ah = bh ∧ al = bl) = true ∧ sm = true) ∨ (decide (ah = bh ∧ al = bl) = false ∧ (e == 0) = false ∧ sm = false) ∨ (decide (ah = bh ∧ al = bl) = false ∧ (e == 0) = true ∧ (e' == 0) = sm)) :
    Calls Tryz.prog 5 #[.int .u8 f, .agg #[.int .u8 m, .bool aft], .agg #[.int .u64 (h), .int .u64 (l)], .agg #[.int .u64 (h'), .int .u64 (l')]] w fun en w' => en = .returned (.bool true) ∧ Below w.heap.size w w' := by
  have hfd : decide (f < 4) = true := decide_eq_true hf
  have hm0 := hM.ge
  clear hf
  go_enter Tryz.func5, Tryz.ntmps5
  skip
  skip
  (go_wp2_with fail; refine (format_Known_b _ _).mono ?_; rintro en v1 ⟨rfl, hB_v1⟩; have lay_v1 := laid_after hB_v1; obtain ⟨cc1, fcc1⟩ := pf hB_v1 (show World.cell? _ ⟨w.heap.size, 0, none⟩ = some (.int .u8 (m % 5)) by go_simp) (by go_simp); obtain ⟨cc2, fcc2⟩ := pf hB_v1 (show World.cell? _ ⟨w.heap.size, 1, none⟩ = some (.bool aft) by go_simp) (by go_simp); have cc3 := cl hB_v1 (show World.cell? _ ⟨w.heap.size + 1, 0, none⟩ = some (.int .u64 h) by go_simp); have cc4 := cl hB_v1 (show World.cell? _ ⟨w.heap.size + 1, 1, none⟩ = some (.int .u64 l) by go_simp); have cc5 := cl hB_v1 (show World.cell? _ ⟨w.heap.size + 1 + 1, 0, none⟩ = some (.int .u64 h') by go_simp); have cc6 := cl hB_v1 (show World.cell? _ ⟨w.heap.size + 1 + 1, 1, none⟩ = some (.int .u64 l') by go_simp); have hs_v1 := hB_v1.size; (try simp only [World.size_alloc, World.size_setCell, World.size_drew] at hs_v1); have hBW : Below w.heap.size w v1 := below_after (w := w) (by go_grown) hB_v1; have hn_v1 := an (nl cc1) (an (nl cc3) (nl cc5)); clear hB_v1)
  (go_wp2_with fail; refine (class_Finite _ _ _ _).mono ?_; rw [f1.out]; rintro en v2 ⟨rfl, hB_v2⟩; have lay_v2 := laid_after hB_v2; have hG := cell_grown cc1 (by go_grown) hB_v2; replace fcc1 := fl hG fcc1 cc1; replace cc1 := cl hG cc1; replace fcc2 := fl hG fcc2 cc2; replace cc2 := cl hG cc2; replace cc3 := cl hG cc3; replace cc4 := cl hG cc4; replace cc5 := cl hG cc5; replace cc6 := cl hG cc6; have hs_v2 := hG.size; clear hG; replace hBW : Below w.heap.size w v2 := below_after (w := w) (by go_grown) hB_v2; have hn_v2 := an (nl cc1) (an (nl cc3) (nl cc5)); clear hB_v2)
  (go_wp2_with fail; refine (class_Finite _ _ _ _).mono ?_; rw [f2.out]; rintro en v3 ⟨rfl, hB_v3⟩; have lay_v3 := laid_after hB_v3; have hG := cell_grown cc1 (by go_grown) hB_v3; replace fcc1 := fl hG fcc1 cc1; replace cc1 := cl hG cc1; replace fcc2 := fl hG fcc2 cc2; replace cc2 := cl hG cc2; replace cc3 := cl hG cc3; replace cc4 := cl hG cc4; replace cc5 := cl hG cc5; replace cc6 := cl hG cc6; have hs_v3 := hG.size; clear hG; replace hBW : Below w.heap.size w v3 := below_after (w := w) (by go_grown) hB_v3; have hn_v3 := an (nl cc1) (an (nl cc3) (nl cc5)); clear hB_v3)
  (go_wp2_with fail; refine (addsub_Add _ _ _ _ _ _ _ _).mono ?_; rw [a0.out, a1.out, a2.out]; rintro en v4 ⟨rfl, hB_v4⟩; have lay_v4 := laid_after hB_v4; have hG := cell_grown cc1 (by go_grown) hB_v4; replace fcc1 := fl hG fcc1 cc1; replace cc1 := cl hG cc1; replace fcc2 := fl hG fcc2 cc2; replace cc2 := cl hG cc2; replace cc3 := cl hG cc3; replace cc4 := cl hG cc4; replace cc5 := cl hG cc5; replace cc6 := cl hG cc6; have hs_v4 := hG.size; clear hG; replace hBW : Below w.heap.size w v4 := below_after (w := w) (by go_grown) hB_v4; have hn_v4 := an (nl cc1) (an (nl cc3) (nl cc5)); clear hB_v4)
  (go_wp2_with fail; refine (class_Of _ _ _ _).mono ?_; rw [c0.out, c1.out]; rintro en v5 ⟨rfl, hB_v5⟩; have lay_v5 := laid_after hB_v5; have hG := cell_grown cc1 (by go_grown) hB_v5; replace fcc1 := fl hG fcc1 cc1; replace cc1 := cl hG cc1; replace fcc2 := fl hG fcc2 cc2; replace cc2 := cl hG cc2; replace cc3 := cl hG cc3; replace cc4 := cl hG cc4; replace cc5 := cl hG cc5; replace cc6 := cl hG cc6; have cc7 := cl hB_v5 (show World.cell? _ ⟨v4.heap.size, 0, none⟩ = some (.int .u64 p0) by go_simp); have cc8 := cl hB_v5 (show World.cell? _ ⟨v4.heap.size, 1, none⟩ = some (.int .u64 p1) by go_simp); have cc9 := cl hB_v5 (show World.cell? _ ⟨v4.heap.size, 2, none⟩ = some (.int .u8 pz) by go_simp); have hs_v5 := hG.size; clear hG; replace hBW : Below w.heap.size w v5 := below_after (w := w) (by go_grown) hB_v5; have hn_v5 := an (nl cc1) (an (nl cc3) (an (nl cc5) (nl cc7))); clear hB_v5)
  go_upto_region 10 with fail
  ((first | refine wp_rename ?_ | refine goal_rename ?_); intro W10 hw_W10; have hG := named cc1 W10 (by rw [hw_W10]; go_grown); replace fcc1 := fl hG fcc1 cc1; replace cc1 := cl hG cc1; replace fcc2 := fl hG fcc2 cc2; replace cc2 := cl hG cc2; replace cc3 := cl hG cc3; replace cc4 := cl hG cc4; replace cc5 := cl hG cc5; replace cc6 := cl hG cc6; replace cc7 := cl hG cc7; replace cc8 := cl hG cc8; replace cc9 := cl hG cc9; replace hBW := below_after hBW hG; have hs_W10 := hG.size; clear hG; have hn_W10 := an (nl cc1) (an (nl cc3) (an (nl cc5) (nl cc7))); have lay_W10 : Laid W10 := Laid.below (w := w) (by assumption) hBW; clear hw_W10)
  go_cut [83] (fun s83 wx => s83 = .bool false ∧ Below W10.heap.size W10 wx)
  case first =>
    rcases hq with ⟨q1, rfl⟩ | ⟨q1, q2, rfl⟩ | ⟨q1, q2⟩
    all_goals (go_wp2_with fail; go_meet)
    all_goals exact ⟨rfl, by go_grown⟩
  case rest =>
  obtain ⟨rfl, hb_X⟩ := hcut
  (first | refine wp_rename ?_ | refine goal_rename ?_); intro X hw_X; subst hw_X
  (replace fcc1 := fl hb_X fcc1 cc1; replace cc1 := cl hb_X cc1; replace fcc2 := fl hb_X fcc2 cc2; replace cc2 := cl hb_X cc2; replace cc3 := cl hb_X cc3; replace cc4 := cl hb_X cc4; replace cc5 := cl hb_X cc5; replace cc6 := cl hb_X cc6; replace cc7 := cl hb_X cc7; replace cc8 := cl hb_X cc8; replace cc9 := cl hb_X cc9; replace hBW := below_after hBW hb_X; have hsb_X := hb_X.size; have hn_X := an (nl cc1) (an (nl cc3) (an (nl cc5) (nl cc7))))
  have lay_X : Laid X := Laid.below lay_W10 hb_X
  (go_wp2_with fail; refine (addsub_Sub _ _ _ _ _ _ _ _).mono ?_; rw [y0.out, y1.out, y2.out]; rintro en v6 ⟨rfl, hB_v6⟩; have lay_v6 := laid_after hB_v6; have hG := cell_grown cc1 (by go_grown) hB_v6; replace fcc1 := fl hG fcc1 cc1; replace cc1 := cl hG cc1; replace fcc2 := fl hG fcc2 cc2; replace cc2 := cl hG cc2; replace cc3 := cl hG cc3; replace cc4 := cl hG cc4; replace cc5 := cl hG cc5; replace cc6 := cl hG cc6; replace cc7 := cl hG cc7; replace cc8 := cl hG cc8; replace cc9 := cl hG cc9; have hs_v6 := hG.size; clear hG; replace hBW : Below w.heap.size w v6 := below_after (w := w) (by go_grown) hB_v6; have hn_v6 := an (nl cc1) (an (nl cc3) (an (nl cc5) (nl cc7))); clear hB_v6)
  (go_wp2_with fail; refine (class_Of _ _ _ _).mono ?_; rw [d0.out, d1.out]; rintro en v7 ⟨rfl, hB_v7⟩; have lay_v7 := laid_after hB_v7; have hG := cell_grown cc1 (by go_grown) hB_v7; replace fcc1 := fl hG fcc1 cc1; replace cc1 := cl hG cc1; replace fcc2 := fl hG fcc2 cc2; replace cc2 := cl hG cc2; replace cc3 := cl hG cc3; replace cc4 := cl hG cc4; replace cc5 := cl hG cc5; replace cc6 := cl hG cc6; replace cc7 := cl hG cc7; replace cc8 := cl hG cc8; replace cc9 := cl hG cc9; have cc10 := cl hB_v7 (show World.cell? _ ⟨v6.heap.size, 0, none⟩ = some (.int .u64 z0) by go_simp); have cc11 := cl hB_v7 (show World.cell? _ ⟨v6.heap.size, 1, none⟩ = some (.int .u64 z1) by go_simp); have cc12 := cl hB_v7 (show World.cell? _ ⟨v6.heap.size, 2, none⟩ = some (.int .u8 0) by go_simp); have hs_v7 := hG.size; clear hG; replace hBW : Below w.heap.size w v7 := below_after (w := w) (by go_grown) hB_v7; have hn_v7 := an (nl cc1) (an (nl cc3) (an (nl cc5) (an (nl cc7) (nl cc10)))); clear hB_v7)
  (go_wp2_with fail; refine (class_Of _ _ _ _).mono ?_; rw [i0.out, i1.out]; rintro en v8 ⟨rfl, hB_v8⟩; have lay_v8 := laid_after hB_v8; have hG := cell_grown cc1 (by go_grown) hB_v8; replace fcc1 := fl hG fcc1 cc1; replace cc1 := cl hG cc1; replace fcc2 := fl hG fcc2 cc2; replace cc2 := cl hG cc2; replace cc3 := cl hG cc3; replace cc4 := cl hG cc4; replace cc5 := cl hG cc5; replace cc6 := cl hG cc6; replace cc7 := cl hG cc7; replace cc8 := cl hG cc8; replace cc9 := cl hG cc9; replace cc10 := cl hG cc10; replace cc11 := cl hG cc11; replace cc12 := cl hG cc12; have hs_v8 := hG.size; clear hG; replace hBW : Below w.heap.size w v8 := below_after (w := w) (by go_grown) hB_v8; have hn_v8 := an (nl cc1) (an (nl cc3) (an (nl cc5) (an (nl cc7) (nl cc10)))); clear hB_v8)
  (go_wp2_with fail; refine (addsub_Sub _ _ _ _ _ _ _ _).mono ?_; rw [x0.out, x1.out, x2.out]; rintro en v9 ⟨rfl, hB_v9⟩; have lay_v9 := laid_after hB_v9; have hG := cell_grown cc1 (by go_grown) hB_v9; replace fcc1 := fl hG fcc1 cc1; replace cc1 := cl hG cc1; replace fcc2 := fl hG fcc2 cc2; replace cc2 := cl hG cc2; replace cc3 := cl hG cc3; replace cc4 := cl hG cc4; replace cc5 := cl hG cc5; replace cc6 := cl hG cc6; replace cc7 := cl hG cc7; replace cc8 := cl hG cc8; replace cc9 := cl hG cc9; replace cc10 := cl hG cc10; replace cc11 := cl hG cc11; replace cc12 := cl hG cc12; have hs_v9 := hG.size; clear hG; replace hBW : Below w.heap.size w v9 := below_after (w := w) (by go_grown) hB_v9; have hn_v9 := an (nl cc1) (an (nl cc3) (an (nl cc5) (an (nl cc7) (nl cc10)))); clear hB_v9)
  (go_wp2_with fail; refine (class_Of _ _ _ _).mono ?_; rw [u0.out, u1.out]; rintro en v10 ⟨rfl, hB_v10⟩; have lay_v10 := laid_after hB_v10; have hG := cell_grown cc1 (by go_grown) hB_v10; replace fcc1 := fl hG fcc1 cc1; replace cc1 := cl hG cc1; replace fcc2 := fl hG fcc2 cc2; replace cc2 := cl hG cc2; replace cc3 := cl hG cc3; replace cc4 := cl hG cc4; replace cc5 := cl hG cc5; replace cc6 := cl hG cc6; replace cc7 := cl hG cc7; replace cc8 := cl hG cc8; replace cc9 := cl hG cc9; replace cc10 := cl hG cc10; replace cc11 := cl hG cc11; replace cc12 := cl hG cc12; have cc13 := cl hB_v10 (show World.cell? _ ⟨v9.heap.size, 0, none⟩ = some (.int .u64 s0) by go_simp); have cc14 := cl hB_v10 (show World.cell? _ ⟨v9.heap.size, 1, none⟩ = some (.int .u64 s1) by go_simp); have cc15 := cl hB_v10 (show World.cell? _ ⟨v9.heap.size, 2, none⟩ = some (.int .u8 sf) by go_simp); have hs_v10 := hG.size; clear hG; replace hBW : Below w.heap.size w v10 := below_after (w := w) (by go_grown) hB_v10; have hn_v10 := an (nl cc1) (an (nl cc3) (an (nl cc5) (an (nl cc7) (an (nl cc10) (nl cc13))))); clear hB_v10)
  (go_wp2_with fail; refine (class_Of _ _ _ _).mono ?_; rw [j0.out, j1.out]; rintro en v11 ⟨rfl, hB_v11⟩; have lay_v11 := laid_after hB_v11; have hG := cell_grown cc1 (by go_grown) hB_v11; replace fcc1 := fl hG fcc1 cc1; replace cc1 := cl hG cc1; replace fcc2 := fl hG fcc2 cc2; replace cc2 := cl hG cc2; replace cc3 := cl hG cc3; replace cc4 := cl hG cc4; replace cc5 := cl hG cc5; replace cc6 := cl hG cc6; replace cc7 := cl hG cc7; replace cc8 := cl hG cc8; replace cc9 := cl hG cc9; replace cc10 := cl hG cc10; replace cc11 := cl hG cc11; replace cc12 := cl hG cc12; replace cc13 := cl hG cc13; replace cc14 := cl hG cc14; replace cc15 := cl hG cc15; have hs_v11 := hG.size; clear hG; replace hBW : Below w.heap.size w v11 := below_after (w := w) (by go_grown) hB_v11; have hn_v11 := an (nl cc1) (an (nl cc3) (an (nl cc5) (an (nl cc7) (an (nl cc10) (nl cc13))))); clear hB_v11)
  go_upto_region 20 with fail
  ((first | refine wp_rename ?_ | refine goal_rename ?_); intro W20 hw_W20; have hG := named cc1 W20 (by rw [hw_W20]; go_grown); replace fcc1 := fl hG fcc1 cc1; replace cc1 := cl hG cc1; replace fcc2 := fl hG fcc2 cc2; replace cc2 := cl hG cc2; replace cc3 := cl hG cc3; replace cc4 := cl hG cc4; replace cc5 := cl hG cc5; replace cc6 := cl hG cc6; replace cc7 := cl hG cc7; replace cc8 := cl hG cc8; replace cc9 := cl hG cc9; replace cc10 := cl hG cc10; replace cc11 := cl hG cc11; replace cc12 := cl hG cc12; replace cc13 := cl hG cc13; replace cc14 := cl hG cc14; replace cc15 := cl hG cc15; replace hBW := below_after hBW hG; have hs_W20 := hG.size; clear hG; have hn_W20 := an (nl cc1) (an (nl cc3) (an (nl cc5) (an (nl cc7) (an (nl cc10) (nl cc13))))); have lay_W20 : Laid W20 := Laid.below (w := w) (by assumption) hBW; clear hw_W20)
  go_cut [22] (fun s22 wx => s22 = .bool sm ∧ Below W20.heap.size W20 wx)
  case first =>
    have heq := fun W => run_eql_bits W ah al bh bl
    rcases he with ⟨e1, e2⟩ | ⟨e1, e3, e2⟩ | ⟨e1, e3, e2⟩
    ·
      rw [e1] at heq
      refine Lin.wp_region_lin (by kernel_rfl) (by intro _ _ d _ _ h; cases d <;> exact h) (by kernel_rfl) (fun w' => Below W20.heap.size W20 w' ∧ w'.cell? ⟨w.heap.size + 1, 0, none⟩ = some (.int .u64 h) ∧ w'.cell? ⟨w.heap.size + 1, 1, none⟩ = some (.int .u64 l) ∧ w'.cell? ⟨w.heap.size + 1 + 1, 0, none⟩ = some (.int .u64 h') ∧ w'.cell? ⟨w.heap.size + 1 + 1, 1, none⟩ = some (.int .u64 l')) ⟨(Below.refl _ _).drew, by go_simp, by go_simp, by go_simp, by go_simp⟩ ?_
      simp only [List.length_cons, List.length_nil, Nat.reduceAdd]
      refine Lin.Blk.out ?_
      iterate 2 (refine Lin.bl_val rfl rfl rfl ?_; apply Exists.intro; refine ⟨fun w' hw' => ?_, ?_⟩; (focus (have hBw := hw'.1; have hSw := hw'.2; clear hw'; (try dsimp only at hBw hSw); go_simp; first | with_reducible exact Lin.lin_value | with_reducible exact Lin.lin_skip)); (try simp only [Act.put, List.setIfInBounds_toArray, List.set_cons_zero, List.set_cons_succ]))
      (refine Lin.bl_val rfl rfl rfl ?_; apply Exists.intro; refine ⟨fun w' hw' => ?_, ?_⟩; (focus (have hBw := hw'.1; have hSw := hw'.2; clear hw'; (try dsimp only at hBw hSw); have lay' : Laid w' := Laid.below lay_W20 hBw; go_simp; first | exact Lin.lin_ret (format_Cut _ _ _ _) (by rw [k0.out, k1.out]) | exact Lin.lin_ret (format_Cut _ _ _ _) (by rw [k2.out, k3.out]))); (try simp only [Act.put, List.setIfInBounds_toArray, List.set_cons_zero, List.set_cons_succ]))
      iterate 2 (refine Lin.bl_val rfl rfl rfl ?_; apply Exists.intro; refine ⟨fun w' hw' => ?_, ?_⟩; (focus (have hBw := hw'.1; have hSw := hw'.2; clear hw'; (try dsimp only at hBw hSw); go_simp; first | with_reducible exact Lin.lin_value | with_reducible exact Lin.lin_skip)); (try simp only [Act.put, List.setIfInBounds_toArray, List.set_cons_zero, List.set_cons_succ]))
      (refine Lin.bl_val rfl rfl rfl ?_; apply Exists.intro; refine ⟨fun w' hw' => ?_, ?_⟩; (focus (have hBw := hw'.1; have hSw := hw'.2; clear hw'; (try dsimp only at hBw hSw); have lay' : Laid w' := Laid.below lay_W20 hBw; go_simp; first | exact Lin.lin_ret (format_Cut _ _ _ _) (by rw [k0.out, k1.out]) | exact Lin.lin_ret (format_Cut _ _ _ _) (by rw [k2.out, k3.out]))); (try simp only [Act.put, List.setIfInBounds_toArray, List.set_cons_zero, List.set_cons_succ]))
      iterate 2 (refine Lin.bl_val rfl rfl rfl ?_; apply Exists.intro; refine ⟨fun w' hw' => ?_, ?_⟩; (focus (have hBw := hw'.1; have hSw := hw'.2; clear hw'; (try dsimp only at hBw hSw); go_simp; first | with_reducible exact Lin.lin_value | with_reducible exact Lin.lin_skip)); (try simp only [Act.put, List.setIfInBounds_toArray, List.set_cons_zero, List.set_cons_succ]))
      iterate 6 (refine Lin.bl_skip rfl (by kernel_rfl) ?_; (try simp only [Act.put, List.setIfInBounds_toArray, List.set_cons_zero, List.set_cons_succ]))
      (refine Lin.bl_val rfl rfl rfl ?_; apply Exists.intro; refine ⟨fun w' hw' => ?_, ?_⟩; (focus (have hBw := hw'.1; have hSw := hw'.2; clear hw'; (try dsimp only at hBw hSw); go_simp; first | with_reducible exact Lin.lin_value | with_reducible exact Lin.lin_skip)); (try simp only [Act.put, List.setIfInBounds_toArray, List.set_cons_zero, List.set_cons_succ]))
      refine Lin.bl_rest rfl ?_
      refine Lin.bl_end ?_
      refine Lin.fin0 (fun wa wb hc hb => ⟨hc.1.trans (hb.mono hc.1.size), cell_later hb hc.2.1, cell_later hb hc.2.2.1, cell_later hb hc.2.2.2.1, cell_later hb hc.2.2.2.2⟩) (by kernel_rfl) ?_
      intro Y hw_Y
      have hb_Y := hw_Y.1; clear hw_Y
      have lay_Y : Laid Y := Laid.below lay_W20 hb_Y
      (replace fcc1 := fl hb_Y fcc1 cc1; replace cc1 := cl hb_Y cc1; replace fcc2 := fl hb_Y fcc2 cc2; replace cc2 := cl hb_Y cc2; replace cc3 := cl hb_Y cc3; replace cc4 := cl hb_Y cc4; replace cc5 := cl hb_Y cc5; replace cc6 := cl hb_Y cc6; replace cc7 := cl hb_Y cc7; replace cc8 := cl hb_Y cc8; replace cc9 := cl hb_Y cc9; replace cc10 := cl hb_Y cc10; replace cc11 := cl hb_Y cc11; replace cc12 := cl hb_Y cc12; replace cc13 := cl hb_Y cc13; replace cc14 := cl hb_Y cc14; replace cc15 := cl hb_Y cc15; replace hBW := below_after hBW hb_Y; have hsb_Y := hb_Y.size; have hn_Y := an (nl cc1) (an (nl cc3) (an (nl cc5) (an (nl cc7) (an (nl cc10) (nl cc13))))))
      (refine wpAny_ready (rs := [15]) (by kernel_rfl) (by simp) ?_; refine AllReady.cons rfl (fun K hK => ?_) AllReady.nil; go_simp; refine hK _ _ ?_; clear hK K)
      refine wpAny_done (by kernel_rfl) ?_ _
      apply_assumption
      (first | refine wp_rename ?_ | refine goal_rename ?_); intro Y_ hw_Y; subst hw_Y
      go_wp2_with fail
      go_meet
      exact ⟨by rw [e2], by go_grown⟩
    ·
      rw [e1] at heq
      refine Lin.wp_region_lin (by kernel_rfl) (by intro _ _ d _ _ h; cases d <;> exact h) (by kernel_rfl) (fun w' => Below W20.heap.size W20 w' ∧ w'.cell? ⟨w.heap.size + 1, 0, none⟩ = some (.int .u64 h) ∧ w'.cell? ⟨w.heap.size + 1, 1, none⟩ = some (.int .u64 l) ∧ w'.cell? ⟨w.heap.size + 1 + 1, 0, none⟩ = some (.int .u64 h') ∧ w'.cell? ⟨w.heap.size + 1 + 1, 1, none⟩ = some (.int .u64 l')) ⟨(Below.refl _ _).drew, by go_simp, by go_simp, by go_simp, by go_simp⟩ ?_
      simp only [List.length_cons, List.length_nil, Nat.reduceAdd]
      refine Lin.Blk.out ?_
      iterate 2 (refine Lin.bl_val rfl rfl rfl ?_; apply Exists.intro; refine ⟨fun w' hw' => ?_, ?_⟩; (focus (have hBw := hw'.1; have hSw := hw'.2; clear hw'; (try dsimp only at hBw hSw); go_simp; first | with_reducible exact Lin.lin_value | with_reducible exact Lin.lin_skip)); (try simp only [Act.put, List.setIfInBounds_toArray, List.set_cons_zero, List.set_cons_succ]))
      (refine Lin.bl_val rfl rfl rfl ?_; apply Exists.intro; refine ⟨fun w' hw' => ?_, ?_⟩; (focus (have hBw := hw'.1; have hSw := hw'.2; clear hw'; (try dsimp only at hBw hSw); have lay' : Laid w' := Laid.below lay_W20 hBw; go_simp; first | exact Lin.lin_ret (format_Cut _ _ _ _) (by rw [k0.out, k1.out]) | exact Lin.lin_ret (format_Cut _ _ _ _) (by rw [k2.out, k3.out]))); (try simp only [Act.put, List.setIfInBounds_toArray, List.set_cons_zero, List.set_cons_succ]))
      iterate 2 (refine Lin.bl_val rfl rfl rfl ?_; apply Exists.intro; refine ⟨fun w' hw' => ?_, ?_⟩; (focus (have hBw := hw'.1; have hSw := hw'.2; clear hw'; (try dsimp only at hBw hSw); go_simp; first | with_reducible exact Lin.lin_value | with_reducible exact Lin.lin_skip)); (try simp only [Act.put, List.setIfInBounds_toArray, List.set_cons_zero, List.set_cons_succ]))
      (refine Lin.bl_val rfl rfl rfl ?_; apply Exists.intro; refine ⟨fun w' hw' => ?_, ?_⟩; (focus (have hBw := hw'.1; have hSw := hw'.2; clear hw'; (try dsimp only at hBw hSw); have lay' : Laid w' := Laid.below lay_W20 hBw; go_simp; first | exact Lin.lin_ret (format_Cut _ _ _ _) (by rw [k0.out, k1.out]) | exact Lin.lin_ret (format_Cut _ _ _ _) (by rw [k2.out, k3.out]))); (try simp only [Act.put, List.setIfInBounds_toArray, List.set_cons_zero, List.set_cons_succ]))
      iterate 2 (refine Lin.bl_val rfl rfl rfl ?_; apply Exists.intro; refine ⟨fun w' hw' => ?_, ?_⟩; (focus (have hBw := hw'.1; have hSw := hw'.2; clear hw'; (try dsimp only at hBw hSw); go_simp; first | with_reducible exact Lin.lin_value | with_reducible exact Lin.lin_skip)); (try simp only [Act.put, List.setIfInBounds_toArray, List.set_cons_zero, List.set_cons_succ]))
      iterate 3 (refine Lin.bl_val rfl rfl (by kernel_rfl) ?_; apply Exists.intro; refine ⟨fun w' hw' => ?_, ?_⟩; (focus (have hBw := hw'.1; have hSw := hw'.2; clear hw'; (try dsimp only at hBw hSw); go_simp; first | with_reducible exact Lin.lin_value | with_reducible exact Lin.lin_skip)); (try simp only [Act.put, List.setIfInBounds_toArray, List.set_cons_zero, List.set_cons_succ]))
      iterate 2 (refine Lin.bl_skip rfl (by kernel_rfl) ?_; (try simp only [Act.put, List.setIfInBounds_toArray, List.set_cons_zero, List.set_cons_succ]))
      (refine Lin.bl_val rfl rfl (by kernel_rfl) ?_; apply Exists.intro; refine ⟨fun w' hw' => ?_, ?_⟩; (focus (have hBw := hw'.1; have hSw := hw'.2; clear hw'; (try dsimp only at hBw hSw); go_simp; first | with_reducible exact Lin.lin_value | with_reducible exact Lin.lin_skip)); (try simp only [Act.put, List.setIfInBounds_toArray, List.set_cons_zero, List.set_cons_succ]))
      (refine Lin.bl_val rfl rfl rfl ?_; apply Exists.intro; refine ⟨fun w' hw' => ?_, ?_⟩; (focus (have hBw := hw'.1; have hSw := hw'.2; clear hw'; (try dsimp only at hBw hSw); go_simp; first | with_reducible exact Lin.lin_value | with_reducible exact Lin.lin_skip)); (try simp only [Act.put, List.setIfInBounds_toArray, List.set_cons_zero, List.set_cons_succ]))
      refine Lin.bl_rest rfl ?_
      refine Lin.bl_end ?_
      refine Lin.fin0 (fun wa wb hc hb => ⟨hc.1.trans (hb.mono hc.1.size), cell_later hb hc.2.1, cell_later hb hc.2.2.1, cell_later hb hc.2.2.2.1, cell_later hb hc.2.2.2.2⟩) (by kernel_rfl) ?_
      intro Y hw_Y
      have hb_Y := hw_Y.1; clear hw_Y
      have lay_Y : Laid Y := Laid.below lay_W20 hb_Y
      (replace fcc1 := fl hb_Y fcc1 cc1; replace cc1 := cl hb_Y cc1; replace fcc2 := fl hb_Y fcc2 cc2; replace cc2 := cl hb_Y cc2; replace cc3 := cl hb_Y cc3; replace cc4 := cl hb_Y cc4; replace cc5 := cl hb_Y cc5; replace cc6 := cl hb_Y cc6; replace cc7 := cl hb_Y cc7; replace cc8 := cl hb_Y cc8; replace cc9 := cl hb_Y cc9; replace cc10 := cl hb_Y cc10; replace cc11 := cl hb_Y cc11; replace cc12 := cl hb_Y cc12; replace cc13 := cl hb_Y cc13; replace cc14 := cl hb_Y cc14; replace cc15 := cl hb_Y cc15; replace hBW := below_after hBW hb_Y; have hsb_Y := hb_Y.size; have hn_Y := an (nl cc1) (an (nl cc3) (an (nl cc5) (an (nl cc7) (an (nl cc10) (nl cc13))))))
      (refine wpAny_ready (rs := [15]) (by kernel_rfl) (by simp) ?_; refine AllReady.cons rfl (fun K hK => ?_) AllReady.nil; go_simp; refine hK _ _ ?_; clear hK K)
      refine wpAny_done (by kernel_rfl) ?_ _
      apply_assumption
      (first | refine wp_rename ?_ | refine goal_rename ?_); intro Y_ hw_Y; subst hw_Y
      go_wp2_with fail
      go_meet
      exact ⟨by rw [e2], by go_grown⟩
    ·
      rw [e1] at heq
      refine Lin.wp_region_lin (by kernel_rfl) (by intro _ _ d _ _ h; cases d <;> exact h) (by kernel_rfl) (fun w' => Below W20.heap.size W20 w' ∧ w'.cell? ⟨w.heap.size + 1, 0, none⟩ = some (.int .u64 h) ∧ w'.cell? ⟨w.heap.size + 1, 1, none⟩ = some (.int .u64 l) ∧ w'.cell? ⟨w.heap.size + 1 + 1, 0, none⟩ = some (.int .u64 h') ∧ w'.cell? ⟨w.heap.size + 1 + 1, 1, none⟩ = some (.int .u64 l')) ⟨(Below.refl _ _).drew, by go_simp, by go_simp, by go_simp, by go_simp⟩ ?_
      simp only [List.length_cons, List.length_nil, Nat.reduceAdd]
      refine Lin.Blk.out ?_
      iterate 2 (refine Lin.bl_val rfl rfl rfl ?_; apply Exists.intro; refine ⟨fun w' hw' => ?_, ?_⟩; (focus (have hBw := hw'.1; have hSw := hw'.2; clear hw'; (try dsimp only at hBw hSw); go_simp; first | with_reducible exact Lin.lin_value | with_reducible exact Lin.lin_skip)); (try simp only [Act.put, List.setIfInBounds_toArray, List.set_cons_zero, List.set_cons_succ]))
      (refine Lin.bl_val rfl rfl rfl ?_; apply Exists.intro; refine ⟨fun w' hw' => ?_, ?_⟩; (focus (have hBw := hw'.1; have hSw := hw'.2; clear hw'; (try dsimp only at hBw hSw); have lay' : Laid w' := Laid.below lay_W20 hBw; go_simp; first | exact Lin.lin_ret (format_Cut _ _ _ _) (by rw [k0.out, k1.out]) | exact Lin.lin_ret (format_Cut _ _ _ _) (by rw [k2.out, k3.out]))); (try simp only [Act.put, List.setIfInBounds_toArray, List.set_cons_zero, List.set_cons_succ]))
      iterate 2 (refine Lin.bl_val rfl rfl rfl ?_; apply Exists.intro; refine ⟨fun w' hw' => ?_, ?_⟩; (focus (have hBw := hw'.1; have hSw := hw'.2; clear hw'; (try dsimp only at hBw hSw); go_simp; first | with_reducible exact Lin.lin_value | with_reducible exact Lin.lin_skip)); (try simp only [Act.put, List.setIfInBounds_toArray, List.set_cons_zero, List.set_cons_succ]))
      (refine Lin.bl_val rfl rfl rfl ?_; apply Exists.intro; refine ⟨fun w' hw' => ?_, ?_⟩; (focus (have hBw := hw'.1; have hSw := hw'.2; clear hw'; (try dsimp only at hBw hSw); have lay' : Laid w' := Laid.below lay_W20 hBw; go_simp; first | exact Lin.lin_ret (format_Cut _ _ _ _) (by rw [k0.out, k1.out]) | exact Lin.lin_ret (format_Cut _ _ _ _) (by rw [k2.out, k3.out]))); (try simp only [Act.put, List.setIfInBounds_toArray, List.set_cons_zero, List.set_cons_succ]))
      iterate 2 (refine Lin.bl_val rfl rfl rfl ?_; apply Exists.intro; refine ⟨fun w' hw' => ?_, ?_⟩; (focus (have hBw := hw'.1; have hSw := hw'.2; clear hw'; (try dsimp only at hBw hSw); go_simp; first | with_reducible exact Lin.lin_value | with_reducible exact Lin.lin_skip)); (try simp only [Act.put, List.setIfInBounds_toArray, List.set_cons_zero, List.set_cons_succ]))
      iterate 6 (refine Lin.bl_val rfl rfl (by kernel_rfl) ?_; apply Exists.intro; refine ⟨fun w' hw' => ?_, ?_⟩; (focus (have hBw := hw'.1; have hSw := hw'.2; clear hw'; (try dsimp only at hBw hSw); go_simp; first | with_reducible exact Lin.lin_value | with_reducible exact Lin.lin_skip)); (try simp only [Act.put, List.setIfInBounds_toArray, List.set_cons_zero, List.set_cons_succ]))
      (refine Lin.bl_val rfl rfl rfl ?_; apply Exists.intro; refine ⟨fun w' hw' => ?_, ?_⟩; (focus (have hBw := hw'.1; have hSw := hw'.2; clear hw'; (try dsimp only at hBw hSw); go_simp; first | with_reducible exact Lin.lin_value | with_reducible exact Lin.lin_skip)); (try simp only [Act.put, List.setIfInBounds_toArray, List.set_cons_zero, List.set_cons_succ]))
      refine Lin.bl_rest rfl ?_
      refine Lin.bl_end ?_
      refine Lin.fin0 (fun wa wb hc hb => ⟨hc.1.trans (hb.mono hc.1.size), cell_later hb hc.2.1, cell_later hb hc.2.2.1, cell_later hb hc.2.2.2.1, cell_later hb hc.2.2.2.2⟩) (by kernel_rfl) ?_
      intro Y hw_Y
      have hb_Y := hw_Y.1; clear hw_Y
      have lay_Y : Laid Y := Laid.below lay_W20 hb_Y
      (replace fcc1 := fl hb_Y fcc1 cc1; replace cc1 := cl hb_Y cc1; replace fcc2 := fl hb_Y fcc2 cc2; replace cc2 := cl hb_Y cc2; replace cc3 := cl hb_Y cc3; replace cc4 := cl hb_Y cc4; replace cc5 := cl hb_Y cc5; replace cc6 := cl hb_Y cc6; replace cc7 := cl hb_Y cc7; replace cc8 := cl hb_Y cc8; replace cc9 := cl hb_Y cc9; replace cc10 := cl hb_Y cc10; replace cc11 := cl hb_Y cc11; replace cc12 := cl hb_Y cc12; replace cc13 := cl hb_Y cc13; replace cc14 := cl hb_Y cc14; replace cc15 := cl hb_Y cc15; replace hBW := below_after hBW hb_Y; have hsb_Y := hb_Y.size; have hn_Y := an (nl cc1) (an (nl cc3) (an (nl cc5) (an (nl cc7) (an (nl cc10) (nl cc13))))))
      (refine wpAny_ready (rs := [15]) (by kernel_rfl) (by simp) ?_; refine AllReady.cons rfl (fun K hK => ?_) AllReady.nil; go_simp; refine hK _ _ ?_; clear hK K)
      refine wpAny_done (by kernel_rfl) ?_ _
      apply_assumption
      (first | refine wp_rename ?_ | refine goal_rename ?_); intro Y_ hw_Y; subst hw_Y
      go_wp2_with fail
      go_meet
      exact ⟨by first | rfl | rw [e2], by go_grown⟩
  case rest =>
  obtain ⟨rfl, hb_Z⟩ := hcut
  (first | refine wp_rename ?_ | refine goal_rename ?_); intro Z hw_Z; subst hw_Z
  (replace fcc1 := fl hb_Z fcc1 cc1; replace cc1 := cl hb_Z cc1; replace fcc2 := fl hb_Z fcc2 cc2; replace cc2 := cl hb_Z cc2; replace cc3 := cl hb_Z cc3; replace cc4 := cl hb_Z cc4; replace cc5 := cl hb_Z cc5; replace cc6 := cl hb_Z cc6; replace cc7 := cl hb_Z cc7; replace cc8 := cl hb_Z cc8; replace cc9 := cl hb_Z cc9; replace cc10 := cl hb_Z cc10; replace cc11 := cl hb_Z cc11; replace cc12 := cl hb_Z cc12; replace cc13 := cl hb_Z cc13; replace cc14 := cl hb_Z cc14; replace cc15 := cl hb_Z cc15; replace hBW := below_after hBW hb_Z; have hsb_Z := hb_Z.size; have hn_Z := an (nl cc1) (an (nl cc3) (an (nl cc5) (an (nl cc7) (an (nl cc10) (nl cc13))))))
  have lay_Z : Laid Z := Laid.below lay_W20 hb_Z
  (go_wp2_with fail; refine (law18_goes _).mono ?_; rintro en v12 ⟨rfl, hB_v12⟩; have lay_v12 := laid_after hB_v12; have hG := cell_grown cc1 (by go_grown) hB_v12; replace fcc1 := fl hG fcc1 cc1; replace cc1 := cl hG cc1; replace fcc2 := fl hG fcc2 cc2; replace cc2 := cl hG cc2; replace cc3 := cl hG cc3; replace cc4 := cl hG cc4; replace cc5 := cl hG cc5; replace cc6 := cl hG cc6; replace cc7 := cl hG cc7; replace cc8 := cl hG cc8; replace cc9 := cl hG cc9; replace cc10 := cl hG cc10; replace cc11 := cl hG cc11; replace cc12 := cl hG cc12; replace cc13 := cl hG cc13; replace cc14 := cl hG cc14; replace cc15 := cl hG cc15; have hs_v12 := hG.size; clear hG; replace hBW : Below w.heap.size w v12 := below_after (w := w) (by go_grown) hB_v12; have hn_v12 := an (nl cc1) (an (nl cc3) (an (nl cc5) (an (nl cc7) (an (nl cc10) (nl cc13))))); clear hB_v12)
  go_wp2_with fail
  go_returns
  exact ⟨rfl, by go_grown⟩
theorem bits_pf (x : Int) (h : x = 0 ∨ x = 16 ∨ x = 20) : bits BinOp.and IntKind.u8 x 8 = 0 ∧ bits BinOp.and IntKind.u8 x 3 = 0 := by
  rcases h with h | h | h <;> subst h <;> exact ⟨by decide +kernel, by decide +kernel⟩
theorem walk_AddsubExact (f m : Int) (aft : Bool) (h l h' l' : Int) [hU : U8 f] [hM : U8 m] [U64 h] [U64 l] [U64 h'] [U64 l'] (w : World) [hLay : Laid w] :
    Calls Tryz.prog 5 #[.int .u8 f, .agg #[.int .u8 m, .bool aft], .agg #[.int .u64 (h), .int .u64 (l)], .agg #[.int .u64 (h'), .int .u64 (l')]] w fun en w' => en = .returned (.bool true) ∧ Below w.heap.size w w' := by
  have f0 := hU.ge
  have m0 := hM.ge
  haveI : U8 (m % 5) := ⟨by omega, by omega⟩
  have hm : m % 5 ≤ 4 := by omega
  by_cases hf : f < 4
  case neg => exact ax_nf f m h l h' l' aft w hf
  cases hx : finC f (cat h l)
  case false => exact ax_x f m h l h' l' aft w hf (Lib.hid hx)
  cases hy : finC f (cat h' l')
  case false => exact ax_y f m h l h' l' aft w hf (Lib.hid hx) (Lib.hid hy)
  have fx := (fin_dec hf).1 hx
  have fy := (fin_dec hf).1 hy
  generalize hn : m % 5 = n at *
  have ca : cat (hi (addB f n (cat h l) (cat h' l'))) (lo (addB f n (cat h l) (cat h' l'))) = addB f n (cat h l) (cat h' l') := cat_small _ (addB_small f n _ _ f0)
  have cz : cat (hi (addB f n (cat h l) (subN f (cat h l)))) (lo (addB f n (cat h l) (subN f (cat h l)))) = addB f n (cat h l) (subN f (cat h l)) := cat_small _ (addB_small f n _ _ f0)
  have cs : cat (hi (addB f n (cat h l) (subN f (cat h' l')))) (lo (addB f n (cat h l) (subN f (cat h' l')))) = addB f n (cat h l) (subN f (cat h' l')) := cat_small _ (addB_small f n _ _ f0)
  obtain ⟨g8, g3⟩ := bits_pf _ (add_flags f n aft (cat h l) (cat h' l') f0 hf hm fx fy)
  have hlow := add_low f n aft (cat h l) (cat h' l') f0 hf hm fx fy
  obtain ⟨z1, z2, z3⟩ := sub_self f n aft (cat h l) f0 hf hm fx
  have hsz := sub_zero f n (cat h l) (cat h' l') f0 hf hm fx fy
  have ka : lowN (cat h l) (widthS f) < 2 ^ 128 := Nat.lt_of_le_of_lt (Nat.mod_le _ _) (cat_lt h l)
  have kb : lowN (cat h' l') (widthS f) < 2 ^ 128 := Nat.lt_of_le_of_lt (Nat.mod_le _ _) (cat_lt h' l')
  have hiff := hl_iff (lowN (cat h l) (widthS f)) (lowN (cat h' l') (widthS f)) ka kb
  subst hn
  refine ax_ok f m h l h' l' _ _ _ _ _ _ _ _ _ _ _ _ _ _ _ _ aft _ _ _ _ _ _ w hf (Lib.hid hx) (Lib.hid hy) (Lib.hid rfl) (Lib.hid rfl) (Lib.hid rfl) g8 g3 (Lib.hid rfl) (Lib.hid rfl) ?_ (Lib.hid rfl) (Lib.hid rfl) (Lib.hid z3) (Lib.hid (by rw [cz]; exact z1)) (Lib.hid (by rw [cz]; exact z2)) rfl (Lib.hid rfl) (Lib.hid rfl) (Lib.hid rfl) (Lib.hid rfl) (Lib.hid rfl) (Lib.hid rfl) (Lib.hid rfl) (Lib.hid rfl) (Lib.hid rfl) rfl (Lib.hid rfl) (Lib.hid rfl) (Lib.hid rfl) (Lib.hid rfl) ?_
  · rw [ca]
    by_cases h0 : classF f (addB f (m % 5) (cat h l) (cat h' l')) = 0
    · exact Or.inl ⟨beq_iff_eq.2 h0, hlow (Or.inl h0)⟩
    · by_cases h1 : classF f (addB f (m % 5) (cat h l) (cat h' l')) = 1
      · exact Or.inr (Or.inl ⟨beq_eq_false_iff_ne.2 h0, beq_iff_eq.2 h1, hlow (Or.inr h1)⟩)
      · exact Or.inr (Or.inr ⟨beq_eq_false_iff_ne.2 h0, beq_eq_false_iff_ne.2 h1⟩)
  · rw [cs]
    by_cases hd : lowN (cat h l) (widthS f) = lowN (cat h' l') (widthS f)
    · exact Or.inl ⟨decide_eq_true (hiff.2 hd), beq_iff_eq.2 (hsz.2 (Or.inl hd))⟩
    · have hd2 := decide_eq_false (fun x => hd (hiff.1 x))
      by_cases hz : classF f (cat h l) = 0
      · refine Or.inr (Or.inr ⟨hd2, beq_iff_eq.2 hz, ?_⟩)
        rw [Bool.eq_iff_iff, beq_iff_eq, beq_iff_eq]
        constructor
        · intro h2; exact hsz.2 (Or.inr ⟨hz, h2⟩)
        · intro h2
          rcases hsz.1 h2 with h3 | h3
          · exact absurd h3 hd
          · exact h3.2
      · refine Or.inr (Or.inl ⟨hd2, beq_eq_false_iff_ne.2 hz, beq_eq_false_iff_ne.2 (fun h2 => ?_)⟩)
        rcases hsz.1 h2 with h3 | h3
        · exact hd h3
        · exact hz h3.1
end Go.Proofs.YtkldkchkhblndaaGreatDoor
