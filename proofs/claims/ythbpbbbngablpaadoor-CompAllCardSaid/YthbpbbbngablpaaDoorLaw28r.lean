/- CompAll: the contract of the reference's Relation, the walk: for every input. Condition: the listed table is laid. -/
import Derived.Test.YthbpbbbngablpaaDoorLaw28c
import Derived.Test.YthbpbbbngablpaaDoorLaw28a
set_option linter.unusedSimpArgs false
set_option linter.unusedVariables false
namespace Go.Proofs.YthbpbbbngablpaaDoor
open Go.RowKit Go.Hb
theorem part_dl (f : Int) (a b : Nat) (h0 : 0 ≤ f) (hf : f < 4) : dl (mR f a * 2 ^ (eR f a - min (eR f a) (eR f b)).toNat) ≤ 100000 ∧ dl (mR f b * 2 ^ (eR f b - min (eR f a) (eR f b)).toNat) ≤ 100000 := by
  obtain ⟨e0, e1⟩ := eR_bd f a h0 hf
  obtain ⟨e2, e3⟩ := eR_bd f b h0 hf
  have la := lt_of_blen _ _ (mR_dl f a h0 hf).2
  have lb := lt_of_blen _ _ (mR_dl f b h0 hf).2
  have key : ∀ (M n : Nat), M < 2 ^ 200 → n ≤ 200000 → dl (M * 2 ^ n) ≤ 100000 := fun M n hM hn => by
    have h : M * 2 ^ n < 2 ^ (200 + n) := by rw [Nat.pow_add]; exact Nat.mul_lt_mul_of_pos_right hM (Nat.two_pow_pos n)
    exact dl_of _ _ h (by omega)
  exact ⟨key _ _ la (by omega), key _ _ lb (by omega)⟩
theorem ref28_Cmp (f h l h' l' : Int) [hU : U8 f] [U64 h] [U64 l] [U64 h'] [U64 l'] (w : World) [hLay : Laid w] (hf : f < 4) :
    Calls Tryd.prog 18 #[.int .u8 f, .agg #[.int .u64 (h), .int .u64 (l)], .agg #[.int .u64 (h'), .int .u64 (l')]] w fun en w' => en = .returned (.int .i64 (refC f (cat h l) (cat h' l'))) ∧ Below w.heap.size w w' := by
  by_cases h1 : endI (classF f (cat h l)) (sgnF f (cat h l)) ≠ 0 ∨ endI (classF f (cat h' l')) (sgnF f (cat h' l')) ≠ 0
  · have e : refC f (cat h l) (cat h' l') = lessI (endI (classF f (cat h l)) (sgnF f (cat h l))) (endI (classF f (cat h' l')) (sgnF f (cat h' l'))) := by unfold refC; rw [if_pos h1]
    rw [e]
    refine cmp_inf f h l h' l' _ _ _ _ _ w (Lib.hid rfl) (Lib.hid rfl) (Lib.hid rfl) (Lib.hid rfl) _ _ (Lib.hid rfl) (Lib.hid rfl) (Lib.hid rfl) ?_
    by_cases hx : endI (classF f (cat h l)) (sgnF f (cat h l)) = 0
    · right
      refine ⟨by rw [bne_eq_false_iff_eq]; exact hx, bne_iff_ne.2 ?_⟩
      rcases h1 with h1 | h1
      · exact absurd hx h1
      · exact h1
    · exact Or.inl (bne_iff_ne.2 hx)
  · have x0 : endI (classF f (cat h l)) (sgnF f (cat h l)) = 0 := Classical.byContradiction fun h => h1 (Or.inl h)
    have y0 : endI (classF f (cat h' l')) (sgnF f (cat h' l')) = 0 := Classical.byContradiction fun h => h1 (Or.inr h)
    obtain ⟨e0, e1⟩ := eR_bd f (cat h l) hU.ge hf
    obtain ⟨f0, f1⟩ := eR_bd f (cat h' l') hU.ge hf
    obtain ⟨l0, _⟩ := mR_dl f (cat h l) hU.ge hf
    obtain ⟨l1, _⟩ := mR_dl f (cat h' l') hU.ge hf
    obtain ⟨p0, p1⟩ := part_dl f (cat h l) (cat h' l') hU.ge hf
    refine cmp_fin f h l h' l' _ _ _ _ _ _ _ (cmpR (mR f (cat h l) * 2 ^ (eR f (cat h l) - min (eR f (cat h l)) (eR f (cat h' l'))).toNat) (mR f (cat h' l') * 2 ^ (eR f (cat h' l') - min (eR f (cat h l)) (eR f (cat h' l'))).toNat)) _ _ _ _ _ w hf (Lib.hid rfl) (Lib.hid rfl) (Lib.hid rfl) (Lib.hid rfl) (Lib.hid x0) (Lib.hid y0) (Lib.hid rfl) (Lib.hid rfl) (Lib.hid rfl) (Lib.hid rfl) rfl e0 e1 f0 f1 (by omega) (by omega) (Lib.hid rfl) (Lib.hid rfl) p0 p1 ?_
    unfold refC
    rw [if_neg h1]
    have bd : ∀ n s, -1 ≤ signI n s ∧ signI n s ≤ 1 := fun n s => by unfold signI; repeat' split <;> omega
    obtain ⟨s0, s1⟩ := bd (mR f (cat h l)) (sgnF f (cat h l))
    have cb : ∀ x y, -1 ≤ cmpR x y ∧ cmpR x y ≤ 1 := fun x y => by unfold cmpR; repeat' split <;> omega
    obtain ⟨c0, c1⟩ := cb (mR f (cat h l) * 2 ^ (eR f (cat h l) - min (eR f (cat h l)) (eR f (cat h' l'))).toNat) (mR f (cat h' l') * 2 ^ (eR f (cat h' l') - min (eR f (cat h l)) (eR f (cat h' l'))).toNat)
    generalize cmpR (mR f (cat h l) * 2 ^ (eR f (cat h l) - min (eR f (cat h l)) (eR f (cat h' l'))).toNat) (mR f (cat h' l') * 2 ^ (eR f (cat h' l') - min (eR f (cat h l)) (eR f (cat h' l'))).toNat) = kk at *
    generalize signI (mR f (cat h l)) (sgnF f (cat h l)) = X at *
    generalize signI (mR f (cat h' l')) (sgnF f (cat h' l')) = Y at *
    by_cases hxy : X = Y
    · by_cases hz : X = 0
      · rw [if_pos (Or.inr hz)]
        exact Or.inr (Or.inl ⟨bne_eq_false_iff_eq.2 hxy, beq_iff_eq.2 hz, Lib.hid rfl⟩)
      · rw [if_neg (fun h => by rcases h with h | h <;> contradiction)]
        refine Or.inr (Or.inr ⟨bne_eq_false_iff_eq.2 hxy, beq_eq_false_iff_ne.2 hz, Lib.hid rfl, ?_⟩)
        have : X = -1 ∨ X = 1 := by omega
        rcases this with rfl | rfl <;> exact IntWalk.i64_in _ (by omega)
    · rw [if_pos (Or.inl hxy)]
      exact Or.inl ⟨bne_iff_ne.2 hxy, Lib.hid rfl⟩
set_option maxRecDepth 100000 in
set_option maxHeartbeats 2000000 in
theorem rel_none (f h l h' l' : Int) (q : Bool) [hU : U8 f] (w : World) (hf : ¬ f < 4) :
    Calls Tryd.prog 6 #[.int .u8 f, .agg #[.int .u64 (h), .int .u64 (l)], .agg #[.int .u64 (h'), .int .u64 (l')], .bool q] w fun en w' => en = .returned (.tuple #[.int .u8 0, .int .u8 0]) ∧ Below w.heap.size w w' := by
  have q1 : decide (f > 3) = true := decide_eq_true (by omega)
  clear hf
  go_enter Tryd.func6, Tryd.ntmps6
  go_wp2_with fail
  go_returns
  exact ⟨rfl, by go_grown⟩
set_option maxRecDepth 100000 in
set_option maxHeartbeats 2000000 in
theorem rel_num (f h l h' l' r v : Int) (q : Bool) [hU : U8 f] [U64 h] [U64 l] [U64 h'] [U64 l'] (w : World) [hLay : Laid w] (hf : f < 4) (n1 : Hid (decide (4 ≤ classF f (cat h l)) = false)) (n2 : Hid (decide (4 ≤ classF f (cat h' l')) = false))
    (hr : Hid (refC f (cat h l) (cat h' l') = r)) (w1_ : IntKind.i64.wrap (1 + r) = v) (w2_ : IntKind.u8.wrap v = v) :
    Calls Tryd.prog 6 #[.int .u8 f, .agg #[.int .u64 (h), .int .u64 (l)], .agg #[.int .u64 (h'), .int .u64 (l')], .bool q] w fun en w' => en = .returned (.tuple #[.int .u8 v, .int .u8 0]) ∧ Below w.heap.size w w' := by
  have q1 : decide (f > 3) = false := decide_eq_false (by omega)
  go_enter Tryd.func6, Tryd.ntmps6
  skip
  (go_wp2_with fail; refine (ref_NaN f h l _).mono ?_; rw [n1.out]; rintro en v1 ⟨rfl, hB_v1⟩; have lay_v1 := laid_after hB_v1; have cc1 := cl hB_v1 (show World.cell? _ ⟨w.heap.size, 0, none⟩ = some (.int .u64 h) by go_simp); have cc2 := cl hB_v1 (show World.cell? _ ⟨w.heap.size, 1, none⟩ = some (.int .u64 l) by go_simp); have cc3 := cl hB_v1 (show World.cell? _ ⟨w.heap.size + 1, 0, none⟩ = some (.int .u64 h') by go_simp); have cc4 := cl hB_v1 (show World.cell? _ ⟨w.heap.size + 1, 1, none⟩ = some (.int .u64 l') by go_simp); have hs_v1 := hB_v1.size; (try simp only [World.size_alloc, World.size_setCell, World.size_drew] at hs_v1); have hBW : Below w.heap.size w v1 := below_after (w := w) (by go_grown) hB_v1; have hn_v1 := an (nl cc1) (nl cc3); clear hB_v1)
  (go_wp2_with fail; refine (ref_NaN f h' l' _).mono ?_; rw [n2.out]; rintro en v2 ⟨rfl, hB_v2⟩; have lay_v2 := laid_after hB_v2; have hG := cell_grown cc1 (by go_grown) hB_v2; replace cc1 := cl hG cc1; replace cc2 := cl hG cc2; replace cc3 := cl hG cc3; replace cc4 := cl hG cc4; have hs_v2 := hG.size; clear hG; replace hBW : Below w.heap.size w v2 := below_after (w := w) (by go_grown) hB_v2; have hn_v2 := an (nl cc1) (nl cc3); clear hB_v2)
  (go_wp2_with fail; refine (ref28_Cmp f h l h' l' _ hf).mono ?_; rw [hr.out]; rintro en v3 ⟨rfl, hB_v3⟩; have lay_v3 := laid_after hB_v3; have hG := cell_grown cc1 (by go_grown) hB_v3; replace cc1 := cl hG cc1; replace cc2 := cl hG cc2; replace cc3 := cl hG cc3; replace cc4 := cl hG cc4; have hs_v3 := hG.size; clear hG; replace hBW : Below w.heap.size w v3 := below_after (w := w) (by go_grown) hB_v3; have hn_v3 := an (nl cc1) (nl cc3); clear hB_v3)
  go_wp2_with fail
  go_returns
  exact ⟨rfl, by go_grown⟩
set_option maxRecDepth 100000 in
set_option maxHeartbeats 2000000 in
theorem rel_nan (f h l h' l' fg : Int) (q x y s t : Bool) [hU : U8 f] [U64 h] [U64 l] [U64 h'] [U64 l'] (w : World) [hLay : Laid w] (hf : f < 4) (n1 : Hid (decide (4 ≤ classF f (cat h l)) = x)) (n2 : Hid (decide (4 ≤ classF f (cat h' l')) = y)) (s1 : Hid (decide (classF f (cat h l) = 5) = s)) (s2 : Hid (decide (classF f (cat h' l') = 5) = t))
    (hx : x = true ∨ (x = false ∧ y = true)) (hq : (q = false ∧ fg = 1) ∨ (q = true ∧ s = true ∧ fg = 1) ∨ (q = true ∧ s = false ∧ t = true ∧ fg = 1) ∨ (q = true ∧ s = false ∧ t = false ∧ fg = 0)) :
    Calls Tryd.prog 6 #[.int .u8 f, .agg #[.int .u64 (h), .int .u64 (l)], .agg #[.int .u64 (h'), .int .u64 (l')], .bool q] w fun en w' => en = .returned (.tuple #[.int .u8 3, .int .u8 fg]) ∧ Below w.heap.size w w' := by
  have q1 : decide (f > 3) = false := decide_eq_false (by omega)
  rcases hx with rfl | ⟨rfl, rfl⟩
  · go_enter Tryd.func6, Tryd.ntmps6
    skip
    (go_wp2_with fail; refine (ref_NaN f h l _).mono ?_; rw [n1.out]; rintro en v1 ⟨rfl, hB_v1⟩; have lay_v1 := laid_after hB_v1; have cc1 := cl hB_v1 (show World.cell? _ ⟨w.heap.size, 0, none⟩ = some (.int .u64 h) by go_simp); have cc2 := cl hB_v1 (show World.cell? _ ⟨w.heap.size, 1, none⟩ = some (.int .u64 l) by go_simp); have cc3 := cl hB_v1 (show World.cell? _ ⟨w.heap.size + 1, 0, none⟩ = some (.int .u64 h') by go_simp); have cc4 := cl hB_v1 (show World.cell? _ ⟨w.heap.size + 1, 1, none⟩ = some (.int .u64 l') by go_simp); have hs_v1 := hB_v1.size; (try simp only [World.size_alloc, World.size_setCell, World.size_drew] at hs_v1); have hBW : Below w.heap.size w v1 := below_after (w := w) (by go_grown) hB_v1; have hn_v1 := an (nl cc1) (nl cc3); clear hB_v1)
    skip
    rcases hq with ⟨rfl, rfl⟩ | ⟨rfl, rfl, rfl⟩ | ⟨rfl, rfl, rfl, rfl⟩ | ⟨rfl, rfl, rfl, rfl⟩
    · go_wp2_with fail
      go_returns
      exact ⟨rfl, by go_grown⟩
    · skip
      (go_wp2_with fail; refine (ref_Signaling f h l _).mono ?_; rw [s1.out]; rintro en v3 ⟨rfl, hB_v3⟩; have lay_v3 := laid_after hB_v3; have hG := cell_grown cc1 (by go_grown) hB_v3; replace cc1 := cl hG cc1; replace cc2 := cl hG cc2; replace cc3 := cl hG cc3; replace cc4 := cl hG cc4; have hs_v3 := hG.size; clear hG; replace hBW : Below w.heap.size w v3 := below_after (w := w) (by go_grown) hB_v3; have hn_v3 := an (nl cc1) (nl cc3); clear hB_v3)
      go_wp2_with fail
      go_returns
      exact ⟨rfl, by go_grown⟩
    · skip
      (go_wp2_with fail; refine (ref_Signaling f h l _).mono ?_; rw [s1.out]; rintro en v3 ⟨rfl, hB_v3⟩; have lay_v3 := laid_after hB_v3; have hG := cell_grown cc1 (by go_grown) hB_v3; replace cc1 := cl hG cc1; replace cc2 := cl hG cc2; replace cc3 := cl hG cc3; replace cc4 := cl hG cc4; have hs_v3 := hG.size; clear hG; replace hBW : Below w.heap.size w v3 := below_after (w := w) (by go_grown) hB_v3; have hn_v3 := an (nl cc1) (nl cc3); clear hB_v3)
      (go_wp2_with fail; refine (ref_Signaling f h' l' _).mono ?_; rw [s2.out]; rintro en v4 ⟨rfl, hB_v4⟩; have lay_v4 := laid_after hB_v4; have hG := cell_grown cc1 (by go_grown) hB_v4; replace cc1 := cl hG cc1; replace cc2 := cl hG cc2; replace cc3 := cl hG cc3; replace cc4 := cl hG cc4; have hs_v4 := hG.size; clear hG; replace hBW : Below w.heap.size w v4 := below_after (w := w) (by go_grown) hB_v4; have hn_v4 := an (nl cc1) (nl cc3); clear hB_v4)
      go_wp2_with fail
      go_returns
      exact ⟨rfl, by go_grown⟩
    · skip
      (go_wp2_with fail; refine (ref_Signaling f h l _).mono ?_; rw [s1.out]; rintro en v3 ⟨rfl, hB_v3⟩; have lay_v3 := laid_after hB_v3; have hG := cell_grown cc1 (by go_grown) hB_v3; replace cc1 := cl hG cc1; replace cc2 := cl hG cc2; replace cc3 := cl hG cc3; replace cc4 := cl hG cc4; have hs_v3 := hG.size; clear hG; replace hBW : Below w.heap.size w v3 := below_after (w := w) (by go_grown) hB_v3; have hn_v3 := an (nl cc1) (nl cc3); clear hB_v3)
      (go_wp2_with fail; refine (ref_Signaling f h' l' _).mono ?_; rw [s2.out]; rintro en v4 ⟨rfl, hB_v4⟩; have lay_v4 := laid_after hB_v4; have hG := cell_grown cc1 (by go_grown) hB_v4; replace cc1 := cl hG cc1; replace cc2 := cl hG cc2; replace cc3 := cl hG cc3; replace cc4 := cl hG cc4; have hs_v4 := hG.size; clear hG; replace hBW : Below w.heap.size w v4 := below_after (w := w) (by go_grown) hB_v4; have hn_v4 := an (nl cc1) (nl cc3); clear hB_v4)
      go_wp2_with fail
      go_returns
      exact ⟨rfl, by go_grown⟩
  · go_enter Tryd.func6, Tryd.ntmps6
    skip
    (go_wp2_with fail; refine (ref_NaN f h l _).mono ?_; rw [n1.out]; rintro en v1 ⟨rfl, hB_v1⟩; have lay_v1 := laid_after hB_v1; have cc1 := cl hB_v1 (show World.cell? _ ⟨w.heap.size, 0, none⟩ = some (.int .u64 h) by go_simp); have cc2 := cl hB_v1 (show World.cell? _ ⟨w.heap.size, 1, none⟩ = some (.int .u64 l) by go_simp); have cc3 := cl hB_v1 (show World.cell? _ ⟨w.heap.size + 1, 0, none⟩ = some (.int .u64 h') by go_simp); have cc4 := cl hB_v1 (show World.cell? _ ⟨w.heap.size + 1, 1, none⟩ = some (.int .u64 l') by go_simp); have hs_v1 := hB_v1.size; (try simp only [World.size_alloc, World.size_setCell, World.size_drew] at hs_v1); have hBW : Below w.heap.size w v1 := below_after (w := w) (by go_grown) hB_v1; have hn_v1 := an (nl cc1) (nl cc3); clear hB_v1)
    (go_wp2_with fail; refine (ref_NaN f h' l' _).mono ?_; rw [n2.out]; rintro en v2 ⟨rfl, hB_v2⟩; have lay_v2 := laid_after hB_v2; have hG := cell_grown cc1 (by go_grown) hB_v2; replace cc1 := cl hG cc1; replace cc2 := cl hG cc2; replace cc3 := cl hG cc3; replace cc4 := cl hG cc4; have hs_v2 := hG.size; clear hG; replace hBW : Below w.heap.size w v2 := below_after (w := w) (by go_grown) hB_v2; have hn_v2 := an (nl cc1) (nl cc3); clear hB_v2)
    skip
    rcases hq with ⟨rfl, rfl⟩ | ⟨rfl, rfl, rfl⟩ | ⟨rfl, rfl, rfl, rfl⟩ | ⟨rfl, rfl, rfl, rfl⟩
    · go_wp2_with fail
      go_returns
      exact ⟨rfl, by go_grown⟩
    · skip
      (go_wp2_with fail; refine (ref_Signaling f h l _).mono ?_; rw [s1.out]; rintro en v3 ⟨rfl, hB_v3⟩; have lay_v3 := laid_after hB_v3; have hG := cell_grown cc1 (by go_grown) hB_v3; replace cc1 := cl hG cc1; replace cc2 := cl hG cc2; replace cc3 := cl hG cc3; replace cc4 := cl hG cc4; have hs_v3 := hG.size; clear hG; replace hBW : Below w.heap.size w v3 := below_after (w := w) (by go_grown) hB_v3; have hn_v3 := an (nl cc1) (nl cc3); clear hB_v3)
      go_wp2_with fail
      go_returns
      exact ⟨rfl, by go_grown⟩
    · skip
      (go_wp2_with fail; refine (ref_Signaling f h l _).mono ?_; rw [s1.out]; rintro en v3 ⟨rfl, hB_v3⟩; have lay_v3 := laid_after hB_v3; have hG := cell_grown cc1 (by go_grown) hB_v3; replace cc1 := cl hG cc1; replace cc2 := cl hG cc2; replace cc3 := cl hG cc3; replace cc4 := cl hG cc4; have hs_v3 := hG.size; clear hG; replace hBW : Below w.heap.size w v3 := below_after (w := w) (by go_grown) hB_v3; have hn_v3 := an (nl cc1) (nl cc3); clear hB_v3)
      (go_wp2_with fail; refine (ref_Signaling f h' l' _).mono ?_; rw [s2.out]; rintro en v4 ⟨rfl, hB_v4⟩; have lay_v4 := laid_after hB_v4; have hG := cell_grown cc1 (by go_grown) hB_v4; replace cc1 := cl hG cc1; replace cc2 := cl hG cc2; replace cc3 := cl hG cc3; replace cc4 := cl hG cc4; have hs_v4 := hG.size; clear hG; replace hBW : Below w.heap.size w v4 := below_after (w := w) (by go_grown) hB_v4; have hn_v4 := an (nl cc1) (nl cc3); clear hB_v4)
      go_wp2_with fail
      go_returns
      exact ⟨rfl, by go_grown⟩
    · skip
      (go_wp2_with fail; refine (ref_Signaling f h l _).mono ?_; rw [s1.out]; rintro en v3 ⟨rfl, hB_v3⟩; have lay_v3 := laid_after hB_v3; have hG := cell_grown cc1 (by go_grown) hB_v3; replace cc1 := cl hG cc1; replace cc2 := cl hG cc2; replace cc3 := cl hG cc3; replace cc4 := cl hG cc4; have hs_v3 := hG.size; clear hG; replace hBW : Below w.heap.size w v3 := below_after (w := w) (by go_grown) hB_v3; have hn_v3 := an (nl cc1) (nl cc3); clear hB_v3)
      (go_wp2_with fail; refine (ref_Signaling f h' l' _).mono ?_; rw [s2.out]; rintro en v4 ⟨rfl, hB_v4⟩; have lay_v4 := laid_after hB_v4; have hG := cell_grown cc1 (by go_grown) hB_v4; replace cc1 := cl hG cc1; replace cc2 := cl hG cc2; replace cc3 := cl hG cc3; replace cc4 := cl hG cc4; have hs_v4 := hG.size; clear hG; replace hBW : Below w.heap.size w v4 := below_after (w := w) (by go_grown) hB_v4; have hn_v4 := an (nl cc1) (nl cc3); clear hB_v4)
      go_wp2_with fail
      go_returns
      exact ⟨rfl, by go_grown⟩
theorem ref_Relation (f h l h' l' : Int) (q : Bool) [hU : U8 f] [U64 h] [U64 l] [U64 h'] [U64 l'] (w : World) [hLay : Laid w] :
    Calls Tryd.prog 6 #[.int .u8 f, .agg #[.int .u64 (h), .int .u64 (l)], .agg #[.int .u64 (h'), .int .u64 (l')], .bool q] w fun en w' => en = .returned (.tuple #[.int .u8 (qV f (cat h l) (cat h' l')), .int .u8 (if q then qF f (cat h l) (cat h' l') else sF f (cat h l) (cat h' l'))]) ∧ Below w.heap.size w w' := by
  have g1 : decide (classF f (cat h l) = 5) = sigB f (cat h l) := by
    unfold sigB; by_cases h : classF f (cat h l) = 5
    · rw [decide_eq_true h, h]; rfl
    · rw [decide_eq_false h]; exact (beq_eq_false_iff_ne.2 h).symm
  have g2 : decide (classF f (cat h' l') = 5) = sigB f (cat h' l') := by
    unfold sigB; by_cases h : classF f (cat h' l') = 5
    · rw [decide_eq_true h, h]; rfl
    · rw [decide_eq_false h]; exact (beq_eq_false_iff_ne.2 h).symm
  by_cases hf : f < 4
  · by_cases ha : 4 ≤ classF f (cat h l) ∨ 4 ≤ classF f (cat h' l')
    · have hn2 : nan2 f (cat h l) (cat h' l') = true := by
        unfold nan2 nanB
        rcases ha with ha | ha
        · rw [decide_eq_true ha, Bool.true_or]
        · rw [decide_eq_true ha, Bool.or_true]
      have e1 : qV f (cat h l) (cat h' l') = 3 := by unfold qV; rw [if_pos hf, hn2]; rfl
      have e2 : sF f (cat h l) (cat h' l') = 1 := by unfold sF; rw [if_pos ⟨hf, hn2⟩]
      have e3 : qF f (cat h l) (cat h' l') = (if sig2 f (cat h l) (cat h' l') = true then 1 else 0) := by
        unfold qF; rw [hn2]
        by_cases hs : sig2 f (cat h l) (cat h' l') = true
        · rw [if_pos ⟨hf, rfl, hs⟩, if_pos hs]
        · rw [if_neg (fun h => hs h.2.2), if_neg hs]
      rw [e1, e2, e3]
      refine rel_nan f h l h' l' _ q _ _ _ _ w hf (Lib.hid rfl) (Lib.hid rfl) (Lib.hid g1) (Lib.hid g2) ?_ ?_
      · by_cases h1 : 4 ≤ classF f (cat h l)
        · exact Or.inl (decide_eq_true h1)
        · refine Or.inr ⟨decide_eq_false h1, decide_eq_true ?_⟩
          rcases ha with h | h
          · exact absurd h h1
          · exact h
      · unfold sig2
        cases q <;> cases sigB f (cat h l) <;> cases sigB f (cat h' l') <;> simp
    · obtain ⟨k1, k2, k3⟩ := q_key f (cat h l) (cat h' l') hU.ge hf (fun h => ha (Or.inl h)) (fun h => ha (Or.inr h))
      have kk := refC_key f (cat h l) (cat h' l') hU.ge hf (fun h => ha (Or.inl h)) (fun h => ha (Or.inr h))
      have bd := sgn_bd (vkey f (cat h l) - vkey f (cat h' l'))
      have e2 : (if q = true then qF f (cat h l) (cat h' l') else sF f (cat h l) (cat h' l')) = 0 := by rw [k2, k3]; exact ite_self 0
      rw [k1, e2]
      generalize sgnI (vkey f (cat h l) - vkey f (cat h' l')) = r at *
      refine rel_num f h l h' l' r _ q w hf (Lib.hid (decide_eq_false (fun h => ha (Or.inl h)))) (Lib.hid (decide_eq_false (fun h => ha (Or.inr h)))) (Lib.hid kk) (IntWalk.i64_in _ (by omega)) ?_
      have : r = -1 ∨ r = 0 ∨ r = 1 := by omega
      rcases this with rfl | rfl | rfl <;> rfl
  · have e1 : qV f (cat h l) (cat h' l') = 0 := by unfold qV; rw [if_neg hf]
    have e2 : qF f (cat h l) (cat h' l') = 0 := by unfold qF; rw [if_neg (fun h => hf h.1)]
    have e3 : sF f (cat h l) (cat h' l') = 0 := by unfold sF; rw [if_neg (fun h => hf h.1)]
    rw [e1, e2, e3, ite_self]
    exact rel_none f h l h' l' q w hf
set_option maxRecDepth 100000 in
set_option maxHeartbeats 4000000 in
theorem all28_walk (f h l h' l' a b c d : Int) [hU : U8 f] [U64 h] [U64 l] [U64 h'] [U64 l'] (w : World) [hLay : Laid w] (a0 : Hid (qV f (cat h l) (cat h' l') = a)) (a1 : Hid (qF f (cat h l) (cat h' l') = b)) (a2 : Hid (sF f (cat h l) (cat h' l') = c)) (a3 : Hid (ordF f (cat h l) (cat h' l') = d)) :
    Calls Tryd.prog 3 #[.int .u8 f, .agg #[.int .u64 (h), .int .u64 (l)], .agg #[.int .u64 (h'), .int .u64 (l')]] w fun en w' => en = .returned (.bool true) ∧ Below w.heap.size w w' := by
  have r1 : ∀ W : World, Laid W → Calls Tryd.prog 6 #[.int .u8 f, .agg #[.int .u64 (h), .int .u64 (l)], .agg #[.int .u64 (h'), .int .u64 (l')], .bool true] W fun en w' => en = .returned (.tuple #[.int .u8 a, .int .u8 b]) ∧ Below W.heap.size W w' := fun W _ => by
    rw [← a0.out, ← a1.out]; exact ref_Relation f h l h' l' true W
  have r2 : ∀ W : World, Laid W → Calls Tryd.prog 6 #[.int .u8 f, .agg #[.int .u64 (h), .int .u64 (l)], .agg #[.int .u64 (h'), .int .u64 (l')], .bool false] W fun en w' => en = .returned (.tuple #[.int .u8 a, .int .u8 c]) ∧ Below W.heap.size W w' := fun W _ => by
    rw [← a0.out, ← a2.out]; exact ref_Relation f h l h' l' false W
  go_enter Tryd.func3, Tryd.ntmps3
  skip
  (go_wp2_with fail; refine (comp_Quiet f h l h' l' _).mono ?_; rw [a0.out, a1.out]; rintro en v1 ⟨rfl, hB_v1⟩; have lay_v1 := laid_after hB_v1; have cc1 := cl hB_v1 (show World.cell? _ ⟨w.heap.size, 0, none⟩ = some (.int .u64 h) by go_simp); have cc2 := cl hB_v1 (show World.cell? _ ⟨w.heap.size, 1, none⟩ = some (.int .u64 l) by go_simp); have cc3 := cl hB_v1 (show World.cell? _ ⟨w.heap.size + 1, 0, none⟩ = some (.int .u64 h') by go_simp); have cc4 := cl hB_v1 (show World.cell? _ ⟨w.heap.size + 1, 1, none⟩ = some (.int .u64 l') by go_simp); have hs_v1 := hB_v1.size; (try simp only [World.size_alloc, World.size_setCell, World.size_drew] at hs_v1); have hBW : Below w.heap.size w v1 := below_after (w := w) (by go_grown) hB_v1; have hn_v1 := an (nl cc1) (nl cc3); clear hB_v1)
  (go_wp2_with fail; refine (r1 _ (by first | assumption | infer_instance)).mono ?_; rintro en v2 ⟨rfl, hB_v2⟩; have lay_v2 := laid_after hB_v2; have hG := cell_grown cc1 (by go_grown) hB_v2; replace cc1 := cl hG cc1; replace cc2 := cl hG cc2; replace cc3 := cl hG cc3; replace cc4 := cl hG cc4; have hs_v2 := hG.size; clear hG; replace hBW : Below w.heap.size w v2 := below_after (w := w) (by go_grown) hB_v2; have hn_v2 := an (nl cc1) (nl cc3); clear hB_v2)
  (go_wp2_with fail; refine (comp_Signaling f h l h' l' _).mono ?_; rw [a0.out, a2.out]; rintro en v3 ⟨rfl, hB_v3⟩; have lay_v3 := laid_after hB_v3; have hG := cell_grown cc1 (by go_grown) hB_v3; replace cc1 := cl hG cc1; replace cc2 := cl hG cc2; replace cc3 := cl hG cc3; replace cc4 := cl hG cc4; have hs_v3 := hG.size; clear hG; replace hBW : Below w.heap.size w v3 := below_after (w := w) (by go_grown) hB_v3; have hn_v3 := an (nl cc1) (nl cc3); clear hB_v3)
  (go_wp2_with fail; refine (r2 _ (by first | assumption | infer_instance)).mono ?_; rintro en v4 ⟨rfl, hB_v4⟩; have lay_v4 := laid_after hB_v4; have hG := cell_grown cc1 (by go_grown) hB_v4; replace cc1 := cl hG cc1; replace cc2 := cl hG cc2; replace cc3 := cl hG cc3; replace cc4 := cl hG cc4; have hs_v4 := hG.size; clear hG; replace hBW : Below w.heap.size w v4 := below_after (w := w) (by go_grown) hB_v4; have hn_v4 := an (nl cc1) (nl cc3); clear hB_v4)
  go_upto_region 5 with fail
  ((first | refine wp_rename ?_ | refine goal_rename ?_); intro W5 hw_W5; have hG := named cc1 W5 (by rw [hw_W5]; first | with_reducible exact drewN_below (Below.refl _ _) _ | go_grown); replace cc1 := cl hG cc1; replace cc2 := cl hG cc2; replace cc3 := cl hG cc3; replace cc4 := cl hG cc4; replace hBW := below_after hBW hG; have hs_W5 := hG.size; clear hG; have hn_W5 := an (nl cc1) (nl cc3); have lay_W5 : Laid W5 := Laid.below (w := w) (by assumption) hBW; clear hw_W5)
  refine Lin.wp_region_lin (by kernel_rfl) (by intro _ _ d _ _ h; cases d <;> exact h) (by kernel_rfl) (fun w' => Below W5.heap.size W5 w' ∧ w'.cell? ⟨w.heap.size, 0, none⟩ = some (.int .u64 h) ∧ w'.cell? ⟨w.heap.size, 1, none⟩ = some (.int .u64 l) ∧ w'.cell? ⟨w.heap.size + 1, 0, none⟩ = some (.int .u64 h') ∧ w'.cell? ⟨w.heap.size + 1, 1, none⟩ = some (.int .u64 l')) ⟨(Below.refl _ _).drew, by go_simp, by go_simp, by go_simp, by go_simp⟩ ?_
  simp only [List.length_cons, List.length_nil, Nat.reduceAdd]
  refine Lin.Blk.out ?_
  iterate 4 (refine Lin.bl_val rfl rfl rfl ?_; apply Exists.intro; refine ⟨fun w' hw' => ?_, ?_⟩; (focus (have hBw := hw'.1; have hSw := hw'.2; clear hw'; (try dsimp only at hBw hSw); go_simp; first | with_reducible exact Lin.lin_value | with_reducible exact Lin.lin_skip)); (try simp only [Act.put, List.setIfInBounds_toArray, List.set_cons_zero, List.set_cons_succ]))
  iterate 3 (refine Lin.bl_val rfl rfl (by kernel_rfl) ?_; apply Exists.intro; refine ⟨fun w' hw' => ?_, ?_⟩; (focus (have hBw := hw'.1; have hSw := hw'.2; clear hw'; (try dsimp only at hBw hSw); go_simp; first | with_reducible exact Lin.lin_value | with_reducible exact Lin.lin_skip)); (try simp only [Act.put, List.setIfInBounds_toArray, List.set_cons_zero, List.set_cons_succ]))
  iterate 2 (refine Lin.bl_val rfl rfl rfl ?_; apply Exists.intro; refine ⟨fun w' hw' => ?_, ?_⟩; (focus (have hBw := hw'.1; have hSw := hw'.2; clear hw'; (try dsimp only at hBw hSw); go_simp; first | with_reducible exact Lin.lin_value | with_reducible exact Lin.lin_skip)); (try simp only [Act.put, List.setIfInBounds_toArray, List.set_cons_zero, List.set_cons_succ]))
  iterate 3 (refine Lin.bl_val rfl rfl (by kernel_rfl) ?_; apply Exists.intro; refine ⟨fun w' hw' => ?_, ?_⟩; (focus (have hBw := hw'.1; have hSw := hw'.2; clear hw'; (try dsimp only at hBw hSw); go_simp; first | with_reducible exact Lin.lin_value | with_reducible exact Lin.lin_skip)); (try simp only [Act.put, List.setIfInBounds_toArray, List.set_cons_zero, List.set_cons_succ]))
  iterate 2 (refine Lin.bl_val rfl rfl rfl ?_; apply Exists.intro; refine ⟨fun w' hw' => ?_, ?_⟩; (focus (have hBw := hw'.1; have hSw := hw'.2; clear hw'; (try dsimp only at hBw hSw); go_simp; first | with_reducible exact Lin.lin_value | with_reducible exact Lin.lin_skip)); (try simp only [Act.put, List.setIfInBounds_toArray, List.set_cons_zero, List.set_cons_succ]))
  iterate 3 (refine Lin.bl_val rfl rfl (by kernel_rfl) ?_; apply Exists.intro; refine ⟨fun w' hw' => ?_, ?_⟩; (focus (have hBw := hw'.1; have hSw := hw'.2; clear hw'; (try dsimp only at hBw hSw); go_simp; first | with_reducible exact Lin.lin_value | with_reducible exact Lin.lin_skip)); (try simp only [Act.put, List.setIfInBounds_toArray, List.set_cons_zero, List.set_cons_succ]))
  iterate 2 (refine Lin.bl_val rfl rfl rfl ?_; apply Exists.intro; refine ⟨fun w' hw' => ?_, ?_⟩; (focus (have hBw := hw'.1; have hSw := hw'.2; clear hw'; (try dsimp only at hBw hSw); go_simp; first | with_reducible exact Lin.lin_value | with_reducible exact Lin.lin_skip)); (try simp only [Act.put, List.setIfInBounds_toArray, List.set_cons_zero, List.set_cons_succ]))
  iterate 3 (refine Lin.bl_val rfl rfl (by kernel_rfl) ?_; apply Exists.intro; refine ⟨fun w' hw' => ?_, ?_⟩; (focus (have hBw := hw'.1; have hSw := hw'.2; clear hw'; (try dsimp only at hBw hSw); go_simp; first | with_reducible exact Lin.lin_value | with_reducible exact Lin.lin_skip)); (try simp only [Act.put, List.setIfInBounds_toArray, List.set_cons_zero, List.set_cons_succ]))
  (refine Lin.bl_val rfl rfl (by kernel_rfl) ?_; apply Exists.intro; refine ⟨fun w' hw' => ?_, ?_⟩; (focus (have hBw := hw'.1; have hSw := hw'.2; clear hw'; (try dsimp only at hBw hSw); have lay' : Laid w' := Laid.below lay_W5 hBw; go_simp; first | exact Lin.lin_ret (comp_Order f h l h' l' _) (by rw [a3.out]) | exact Lin.lin_ret (ref_Order f h l h' l' _) (by rw [a3.out]) | exact Lin.lin_ret (law28_goes _) rfl)); (try simp only [Act.put, List.setIfInBounds_toArray, List.set_cons_zero, List.set_cons_succ]))
  iterate 3 (refine Lin.bl_val rfl rfl (by kernel_rfl) ?_; apply Exists.intro; refine ⟨fun w' hw' => ?_, ?_⟩; (focus (have hBw := hw'.1; have hSw := hw'.2; clear hw'; (try dsimp only at hBw hSw); go_simp; first | with_reducible exact Lin.lin_value | with_reducible exact Lin.lin_skip)); (try simp only [Act.put, List.setIfInBounds_toArray, List.set_cons_zero, List.set_cons_succ]))
  (refine Lin.bl_val rfl rfl (by kernel_rfl) ?_; apply Exists.intro; refine ⟨fun w' hw' => ?_, ?_⟩; (focus (have hBw := hw'.1; have hSw := hw'.2; clear hw'; (try dsimp only at hBw hSw); have lay' : Laid w' := Laid.below lay_W5 hBw; go_simp; first | exact Lin.lin_ret (comp_Order f h l h' l' _) (by rw [a3.out]) | exact Lin.lin_ret (ref_Order f h l h' l' _) (by rw [a3.out]) | exact Lin.lin_ret (law28_goes _) rfl)); (try simp only [Act.put, List.setIfInBounds_toArray, List.set_cons_zero, List.set_cons_succ]))
  (refine Lin.bl_val rfl rfl (by kernel_rfl) ?_; apply Exists.intro; refine ⟨fun w' hw' => ?_, ?_⟩; (focus (have hBw := hw'.1; have hSw := hw'.2; clear hw'; (try dsimp only at hBw hSw); go_simp; first | with_reducible exact Lin.lin_value | with_reducible exact Lin.lin_skip)); (try simp only [Act.put, List.setIfInBounds_toArray, List.set_cons_zero, List.set_cons_succ]))
  iterate 2 (refine Lin.bl_val rfl rfl rfl ?_; apply Exists.intro; refine ⟨fun w' hw' => ?_, ?_⟩; (focus (have hBw := hw'.1; have hSw := hw'.2; clear hw'; (try dsimp only at hBw hSw); go_simp; first | with_reducible exact Lin.lin_value | with_reducible exact Lin.lin_skip)); (try simp only [Act.put, List.setIfInBounds_toArray, List.set_cons_zero, List.set_cons_succ]))
  (refine Lin.bl_val rfl rfl (by kernel_rfl) ?_; apply Exists.intro; refine ⟨fun w' hw' => ?_, ?_⟩; (focus (have hBw := hw'.1; have hSw := hw'.2; clear hw'; (try dsimp only at hBw hSw); have lay' : Laid w' := Laid.below lay_W5 hBw; go_simp; first | exact Lin.lin_ret (comp_Order f h l h' l' _) (by rw [a3.out]) | exact Lin.lin_ret (ref_Order f h l h' l' _) (by rw [a3.out]) | exact Lin.lin_ret (law28_goes _) rfl)); (try simp only [Act.put, List.setIfInBounds_toArray, List.set_cons_zero, List.set_cons_succ]))
  (refine Lin.bl_val rfl rfl rfl ?_; apply Exists.intro; refine ⟨fun w' hw' => ?_, ?_⟩; (focus (have hBw := hw'.1; have hSw := hw'.2; clear hw'; (try dsimp only at hBw hSw); go_simp; first | with_reducible exact Lin.lin_value | with_reducible exact Lin.lin_skip)); (try simp only [Act.put, List.setIfInBounds_toArray, List.set_cons_zero, List.set_cons_succ]))
  refine Lin.bl_rest rfl ?_
  refine Lin.bl_end ?_
  refine Lin.fin0 (fun wa wb hc hb => ⟨hc.1.trans (hb.mono hc.1.size), cell_later hb hc.2.1, cell_later hb hc.2.2.1, cell_later hb hc.2.2.2.1, cell_later hb hc.2.2.2.2⟩) (by kernel_rfl) ?_
  intro X hw_X
  have hb_X := hw_X.1; clear hw_X
  have lay_X : Laid X := Laid.below lay_W5 hb_X
  (replace cc1 := cl hb_X cc1; replace cc2 := cl hb_X cc2; replace cc3 := cl hb_X cc3; replace cc4 := cl hb_X cc4; replace hBW := below_after hBW hb_X; have hsb_X := hb_X.size; have hn_X := an (nl cc1) (nl cc3))
  (refine wpAny_ready (rs := [32]) (by kernel_rfl) (by simp) ?_; refine AllReady.cons rfl (fun K hK => ?_) AllReady.nil; go_simp; refine hK _ _ ?_; clear hK K)
  refine wpAny_done (by kernel_rfl) ?_ _
  apply_assumption
  (first | refine wp_rename ?_ | refine goal_rename ?_); intro X_ hw_X; subst hw_X
  go_wp2_with fail
  go_returns
  exact ⟨rfl, by go_grown⟩
theorem walk_CompAll (f h l h' l' : Int) [hU : U8 f] [U64 h] [U64 l] [U64 h'] [U64 l'] (w : World) [hLay : Laid w] :
    Calls Tryd.prog 3 #[.int .u8 f, .agg #[.int .u64 (h), .int .u64 (l)], .agg #[.int .u64 (h'), .int .u64 (l')]] w fun en w' => en = .returned (.bool true) ∧ Below w.heap.size w w' :=
  all28_walk f h l h' l' _ _ _ _ w (Lib.hid rfl) (Lib.hid rfl) (Lib.hid rfl) (Lib.hid rfl)
end Go.Proofs.YthbpbbbngablpaaDoor
