/- The reference's Add is the program's: for every input. Condition: the listed table is laid. -/
import Derived.Test.YtkpjeceofcfnkaaGreatDoorRef18
import Derived.Test.YtkpjeceofcfnkaaGreatDoorRef10
set_option maxRecDepth 100000
set_option maxHeartbeats 8000000
set_option linter.unusedSimpArgs false
set_option linter.unusedVariables false
namespace Go.Proofs.YtkpjeceofcfnkaaGreatDoor
open Go.RowKit Go.Hb
theorem add18_none (f m h l h' l' : Int) (aft q : Bool) [hU : U8 f] [hM : U8 m] (w : World) (hk : ¬ (f < 4 ∧ m ≤ 4)) :
    Calls Tryz.prog 13 #[.int .u8 f, .agg #[.int .u8 m, .bool aft], .agg #[.int .u64 (h), .int .u64 (l)], .agg #[.int .u64 (h'), .int .u64 (l')], .bool q] w fun en w' => en = .returned (.agg #[.int .u64 0, .int .u64 0, .int .u8 0]) ∧ Below w.heap.size w w' := by
  by_cases hf : f < 4
  · have q1 : decide (f > 3) = false := decide_eq_false (by omega)
    have q2 : decide (m > 4) = true := decide_eq_true (by omega)
    clear hk
    go_enter Tryz.func13, Tryz.ntmps13
    go_wp2_with fail
    refine bodyPost_ret (by simp [results, Tryz.results13, go_sem]; try rfl) rfl ?_
    exact ⟨rfl, by go_grown⟩
  · have q1 : decide (f > 3) = true := decide_eq_true (by omega)
    clear hk
    go_enter Tryz.func13, Tryz.ntmps13
    go_wp2_with fail
    refine bodyPost_ret (by simp [results, Tryz.results13, go_sem]; try rfl) rfl ?_
    exact ⟨rfl, by go_grown⟩
def HPick (f h l h' l' p0 p1 pz : Int) (inv ok : Bool) : Prop := ∀ (W : World) (b : Nat), Laid W → W.cell? ⟨b, 0, none⟩ = some (.int .u64 h) → W.cell? ⟨b, 1, none⟩ = some (.int .u64 l) → W.cell? ⟨b, 2, none⟩ = some (.int .u64 h') → W.cell? ⟨b, 3, none⟩ = some (.int .u64 l') → Calls Tryz.prog 36 #[.int .u8 f, .bool inv, .slice (some ⟨b, 0, none⟩) 2 2] W fun en w' => en = .returned (.tuple #[.agg #[.int .u64 p0, .int .u64 p1, .int .u8 pz], .bool ok]) ∧ Below W.heap.size W w'
theorem add18_pick (f m h l h' l' c d p0 p1 pz : Int) (aft q s t0 t inv : Bool) [hU : U8 f] [hM : U8 m] [U64 h] [U64 l] [U64 h'] [U64 l'] (w : World) [hLay : Laid w] (hf : f < 4) (hm : m ≤ 4) (hc : Hid (classF f (cat h l) = c)) (hd : Hid (classF f (cat h' l') = d)) (hs : Hid (sgnF f (cat h l) = s)) (ht : Hid (sgnF f (cat h' l') = t0)) (hty : (!(t0 == q)) = t)
    (HP : HPick f h l h' l' p0 p1 pz inv true) (hq : ((c == 3) = false ∧ inv = false) ∨ ((c == 3) = true ∧ (d == 3) = false ∧ inv = false) ∨ ((c == 3) = true ∧ (d == 3) = true ∧ (!(s == t)) = inv)) :
    Calls Tryz.prog 13 #[.int .u8 f, .agg #[.int .u8 m, .bool aft], .agg #[.int .u64 (h), .int .u64 (l)], .agg #[.int .u64 (h'), .int .u64 (l')], .bool q] w fun en w' => en = .returned (.agg #[.int .u64 p0, .int .u64 p1, .int .u8 pz]) ∧ Below w.heap.size w w' := by
  have q1 : decide (f > 3) = false := decide_eq_false (by omega)
  have q2 : decide (m > 4) = false := decide_eq_false (by omega)
  unfold HPick at HP
  go_enter Tryz.func13, Tryz.ntmps13
  skip
  (go_wp2_with fail; refine (ref_Of f h l _).mono ?_; rw [hc.out, hs.out]; rintro en v1 ⟨rfl, hB_v1⟩; have lay_v1 := laid_after hB_v1; have cc1 := cl hB_v1 (show World.cell? _ ⟨w.heap.size, 0, none⟩ = some (.int .u8 m) by go_simp); have cc2 := cl hB_v1 (show World.cell? _ ⟨w.heap.size, 1, none⟩ = some (.bool aft) by go_simp); have cc3 := cl hB_v1 (show World.cell? _ ⟨w.heap.size + 1, 0, none⟩ = some (.int .u64 h) by go_simp); have cc4 := cl hB_v1 (show World.cell? _ ⟨w.heap.size + 1, 1, none⟩ = some (.int .u64 l) by go_simp); have cc5 := cl hB_v1 (show World.cell? _ ⟨w.heap.size + 1 + 1, 0, none⟩ = some (.int .u64 h') by go_simp); have cc6 := cl hB_v1 (show World.cell? _ ⟨w.heap.size + 1 + 1, 1, none⟩ = some (.int .u64 l') by go_simp); obtain ⟨cc7, fcc7⟩ := pf hB_v1 (show World.cell? _ ⟨w.heap.size + 1 + 1 + 1, 0, none⟩ = some (.int .u64 0) by go_simp) (by go_simp); obtain ⟨cc8, fcc8⟩ := pf hB_v1 (show World.cell? _ ⟨w.heap.size + 1 + 1 + 1, 1, none⟩ = some (.int .u64 0) by go_simp) (by go_simp); obtain ⟨cc9, fcc9⟩ := pf hB_v1 (show World.cell? _ ⟨w.heap.size + 1 + 1 + 1, 2, none⟩ = some (.int .u8 0) by go_simp) (by go_simp); have hs_v1 := hB_v1.size; (try simp only [World.size_alloc, World.size_setCell, World.size_drew] at hs_v1); have hBW : Below w.heap.size w v1 := below_after (w := w) (by go_grown) hB_v1; have hn_v1 := an (nl cc1) (an (nl cc3) (an (nl cc5) (nl cc7))); clear hB_v1)
  (go_wp2_with fail; refine (ref_Of f h' l' _).mono ?_; rw [hd.out, ht.out]; rintro en v2 ⟨rfl, hB_v2⟩; have lay_v2 := laid_after hB_v2; have hG := cell_grown cc1 (by go_grown) hB_v2; replace cc1 := cl hG cc1; replace cc2 := cl hG cc2; replace cc3 := cl hG cc3; replace cc4 := cl hG cc4; replace cc5 := cl hG cc5; replace cc6 := cl hG cc6; replace fcc7 := fl hG fcc7 cc7; replace cc7 := cl hG cc7; replace fcc8 := fl hG fcc8 cc8; replace cc8 := cl hG cc8; replace fcc9 := fl hG fcc9 cc9; replace cc9 := cl hG cc9; replace hBW := below_after hBW hG; have hs_v2 := hG.size; clear hG; have hn_v2 := an (nl cc1) (an (nl cc3) (an (nl cc5) (nl cc7))); clear hB_v2)
  skip
  rcases hq with ⟨k1, rfl⟩ | ⟨k1, k2, rfl⟩ | ⟨k1, k2, k3⟩
  · (go_wp2_with fail; refine (HP _ _ (by first | assumption | infer_instance) (by first | assumption | go_simp) (by first | assumption | go_simp) (by first | assumption | go_simp) (by first | assumption | go_simp)).mono ?_; rintro en v3 ⟨rfl, hB_v3⟩; have lay_v3 := laid_after hB_v3; have hG := cell_grown cc1 (by go_grown) hB_v3; replace cc1 := cl hG cc1; replace cc2 := cl hG cc2; replace cc3 := cl hG cc3; replace cc4 := cl hG cc4; replace cc5 := cl hG cc5; replace cc6 := cl hG cc6; replace fcc7 := fl hG fcc7 cc7; replace cc7 := cl hG cc7; replace fcc8 := fl hG fcc8 cc8; replace cc8 := cl hG cc8; replace fcc9 := fl hG fcc9 cc9; replace cc9 := cl hG cc9; replace hBW := below_after hBW hG; have hs_v3 := hG.size; clear hG; have hn_v3 := an (nl cc1) (an (nl cc3) (an (nl cc5) (nl cc7))); clear hB_v3)
    go_upto_region 7 with fail
    ((first | refine wp_rename ?_ | refine goal_rename ?_); intro W7 hw_W7; have hG := named cc1 W7 (by rw [hw_W7]; first | with_reducible exact drewN_below (Below.refl _ _) _ | go_grown); replace cc1 := cl hG cc1; replace cc2 := cl hG cc2; replace cc3 := cl hG cc3; replace cc4 := cl hG cc4; replace cc5 := cl hG cc5; replace cc6 := cl hG cc6; replace fcc7 := fl hG fcc7 cc7; replace cc7 := cl hG cc7; replace fcc8 := fl hG fcc8 cc8; replace cc8 := cl hG cc8; replace fcc9 := fl hG fcc9 cc9; replace cc9 := cl hG cc9; have cc10 : W7.cell? ⟨v3.heap.size, 0, none⟩ = some (.int .u64 p0) := (by rw [hw_W7]; go_simp); have cc11 : W7.cell? ⟨v3.heap.size, 1, none⟩ = some (.int .u64 p1) := (by rw [hw_W7]; go_simp); have cc12 : W7.cell? ⟨v3.heap.size, 2, none⟩ = some (.int .u8 pz) := (by rw [hw_W7]; go_simp); replace hBW := below_after hBW hG; have hs_W7 := hG.size; clear hG; have hn_W7 := an (nl cc1) (an (nl cc3) (an (nl cc5) (an (nl cc7) (nl cc10)))); have lay_W7 : Laid W7 := Laid.below (w := w) (by assumption) hBW; clear hw_W7)
    go_wp2_with fail
    refine bodyPost_ret (by simp [results, Tryz.results13, go_sem, cc7, cc8, cc9]; try rfl) rfl ?_
    exact ⟨rfl, by go_grown⟩
  · skip
    (go_wp2_with fail; refine (HP _ _ (by first | assumption | infer_instance) (by first | assumption | go_simp) (by first | assumption | go_simp) (by first | assumption | go_simp) (by first | assumption | go_simp)).mono ?_; rintro en v3 ⟨rfl, hB_v3⟩; have lay_v3 := laid_after hB_v3; have hG := cell_grown cc1 (by go_grown) hB_v3; replace cc1 := cl hG cc1; replace cc2 := cl hG cc2; replace cc3 := cl hG cc3; replace cc4 := cl hG cc4; replace cc5 := cl hG cc5; replace cc6 := cl hG cc6; replace fcc7 := fl hG fcc7 cc7; replace cc7 := cl hG cc7; replace fcc8 := fl hG fcc8 cc8; replace cc8 := cl hG cc8; replace fcc9 := fl hG fcc9 cc9; replace cc9 := cl hG cc9; replace hBW := below_after hBW hG; have hs_v3 := hG.size; clear hG; have hn_v3 := an (nl cc1) (an (nl cc3) (an (nl cc5) (nl cc7))); clear hB_v3)
    go_upto_region 7 with fail
    ((first | refine wp_rename ?_ | refine goal_rename ?_); intro W7 hw_W7; have hG := named cc1 W7 (by rw [hw_W7]; first | with_reducible exact drewN_below (Below.refl _ _) _ | go_grown); replace cc1 := cl hG cc1; replace cc2 := cl hG cc2; replace cc3 := cl hG cc3; replace cc4 := cl hG cc4; replace cc5 := cl hG cc5; replace cc6 := cl hG cc6; replace fcc7 := fl hG fcc7 cc7; replace cc7 := cl hG cc7; replace fcc8 := fl hG fcc8 cc8; replace cc8 := cl hG cc8; replace fcc9 := fl hG fcc9 cc9; replace cc9 := cl hG cc9; have cc13 : W7.cell? ⟨v3.heap.size, 0, none⟩ = some (.int .u64 p0) := (by rw [hw_W7]; go_simp); have cc14 : W7.cell? ⟨v3.heap.size, 1, none⟩ = some (.int .u64 p1) := (by rw [hw_W7]; go_simp); have cc15 : W7.cell? ⟨v3.heap.size, 2, none⟩ = some (.int .u8 pz) := (by rw [hw_W7]; go_simp); replace hBW := below_after hBW hG; have hs_W7 := hG.size; clear hG; have hn_W7 := an (nl cc1) (an (nl cc3) (an (nl cc5) (an (nl cc7) (nl cc13)))); have lay_W7 : Laid W7 := Laid.below (w := w) (by assumption) hBW; clear hw_W7)
    go_wp2_with fail
    refine bodyPost_ret (by simp [results, Tryz.results13, go_sem, cc7, cc8, cc9]; try rfl) rfl ?_
    exact ⟨rfl, by go_grown⟩
  · skip
    (go_wp2_with fail; refine (HP _ _ (by first | assumption | infer_instance) (by first | assumption | go_simp) (by first | assumption | go_simp) (by first | assumption | go_simp) (by first | assumption | go_simp)).mono ?_; rintro en v3 ⟨rfl, hB_v3⟩; have lay_v3 := laid_after hB_v3; have hG := cell_grown cc1 (by go_grown) hB_v3; replace cc1 := cl hG cc1; replace cc2 := cl hG cc2; replace cc3 := cl hG cc3; replace cc4 := cl hG cc4; replace cc5 := cl hG cc5; replace cc6 := cl hG cc6; replace fcc7 := fl hG fcc7 cc7; replace cc7 := cl hG cc7; replace fcc8 := fl hG fcc8 cc8; replace cc8 := cl hG cc8; replace fcc9 := fl hG fcc9 cc9; replace cc9 := cl hG cc9; replace hBW := below_after hBW hG; have hs_v3 := hG.size; clear hG; have hn_v3 := an (nl cc1) (an (nl cc3) (an (nl cc5) (nl cc7))); clear hB_v3)
    go_upto_region 7 with fail
    ((first | refine wp_rename ?_ | refine goal_rename ?_); intro W7 hw_W7; have hG := named cc1 W7 (by rw [hw_W7]; first | with_reducible exact drewN_below (Below.refl _ _) _ | go_grown); replace cc1 := cl hG cc1; replace cc2 := cl hG cc2; replace cc3 := cl hG cc3; replace cc4 := cl hG cc4; replace cc5 := cl hG cc5; replace cc6 := cl hG cc6; replace fcc7 := fl hG fcc7 cc7; replace cc7 := cl hG cc7; replace fcc8 := fl hG fcc8 cc8; replace cc8 := cl hG cc8; replace fcc9 := fl hG fcc9 cc9; replace cc9 := cl hG cc9; have cc16 : W7.cell? ⟨v3.heap.size, 0, none⟩ = some (.int .u64 p0) := (by rw [hw_W7]; go_simp); have cc17 : W7.cell? ⟨v3.heap.size, 1, none⟩ = some (.int .u64 p1) := (by rw [hw_W7]; go_simp); have cc18 : W7.cell? ⟨v3.heap.size, 2, none⟩ = some (.int .u8 pz) := (by rw [hw_W7]; go_simp); replace hBW := below_after hBW hG; have hs_W7 := hG.size; clear hG; have hn_W7 := an (nl cc1) (an (nl cc3) (an (nl cc5) (an (nl cc7) (nl cc16)))); have lay_W7 : Laid W7 := Laid.below (w := w) (by assumption) hBW; clear hw_W7)
    go_wp2_with fail
    refine bodyPost_ret (by simp [results, Tryz.results13, go_sem, cc7, cc8, cc9]; try rfl) rfl ?_
    exact ⟨rfl, by go_grown⟩
theorem add18_inf (f m h l h' l' c d r0 r1 : Int) (aft q s t0 t g : Bool) [hU : U8 f] [hM : U8 m] [U64 h] [U64 l] [U64 h'] [U64 l'] (w : World) [hLay : Laid w] (hf : f < 4) (hm : m ≤ 4) (hc : Hid (classF f (cat h l) = c)) (hd : Hid (classF f (cat h' l') = d)) (hs : Hid (sgnF f (cat h l) = s)) (ht : Hid (sgnF f (cat h' l') = t0)) (hty : (!(t0 == q)) = t)
    (HP : HPick f h l h' l' 0 0 0 false false) (h0 : Hid (hi (makeF f g (2 * emaxS f + 1) 0) = r0)) (h1 : Hid (lo (makeF f g (2 * emaxS f + 1) 0) = r1)) (hq : ((c == 3) = false ∧ (d == 3) = true ∧ t = g) ∨ ((c == 3) = true ∧ (d == 3) = false ∧ s = g) ∨ ((c == 3) = true ∧ (d == 3) = true ∧ (!(s == t)) = false ∧ s = g)) :
    Calls Tryz.prog 13 #[.int .u8 f, .agg #[.int .u8 m, .bool aft], .agg #[.int .u64 (h), .int .u64 (l)], .agg #[.int .u64 (h'), .int .u64 (l')], .bool q] w fun en w' => en = .returned (.agg #[.int .u64 r0, .int .u64 r1, .int .u8 0]) ∧ Below w.heap.size w w' := by
  have q1 : decide (f > 3) = false := decide_eq_false (by omega)
  have q2 : decide (m > 4) = false := decide_eq_false (by omega)
  unfold HPick at HP
  go_enter Tryz.func13, Tryz.ntmps13
  skip
  (go_wp2_with fail; refine (ref_Of f h l _).mono ?_; rw [hc.out, hs.out]; rintro en v1 ⟨rfl, hB_v1⟩; have lay_v1 := laid_after hB_v1; have cc1 := cl hB_v1 (show World.cell? _ ⟨w.heap.size, 0, none⟩ = some (.int .u8 m) by go_simp); have cc2 := cl hB_v1 (show World.cell? _ ⟨w.heap.size, 1, none⟩ = some (.bool aft) by go_simp); have cc3 := cl hB_v1 (show World.cell? _ ⟨w.heap.size + 1, 0, none⟩ = some (.int .u64 h) by go_simp); have cc4 := cl hB_v1 (show World.cell? _ ⟨w.heap.size + 1, 1, none⟩ = some (.int .u64 l) by go_simp); have cc5 := cl hB_v1 (show World.cell? _ ⟨w.heap.size + 1 + 1, 0, none⟩ = some (.int .u64 h') by go_simp); have cc6 := cl hB_v1 (show World.cell? _ ⟨w.heap.size + 1 + 1, 1, none⟩ = some (.int .u64 l') by go_simp); obtain ⟨cc7, fcc7⟩ := pf hB_v1 (show World.cell? _ ⟨w.heap.size + 1 + 1 + 1, 0, none⟩ = some (.int .u64 0) by go_simp) (by go_simp); obtain ⟨cc8, fcc8⟩ := pf hB_v1 (show World.cell? _ ⟨w.heap.size + 1 + 1 + 1, 1, none⟩ = some (.int .u64 0) by go_simp) (by go_simp); obtain ⟨cc9, fcc9⟩ := pf hB_v1 (show World.cell? _ ⟨w.heap.size + 1 + 1 + 1, 2, none⟩ = some (.int .u8 0) by go_simp) (by go_simp); have hs_v1 := hB_v1.size; (try simp only [World.size_alloc, World.size_setCell, World.size_drew] at hs_v1); have hBW : Below w.heap.size w v1 := below_after (w := w) (by go_grown) hB_v1; have hn_v1 := an (nl cc1) (an (nl cc3) (an (nl cc5) (nl cc7))); clear hB_v1)
  (go_wp2_with fail; refine (ref_Of f h' l' _).mono ?_; rw [hd.out, ht.out]; rintro en v2 ⟨rfl, hB_v2⟩; have lay_v2 := laid_after hB_v2; have hG := cell_grown cc1 (by go_grown) hB_v2; replace cc1 := cl hG cc1; replace cc2 := cl hG cc2; replace cc3 := cl hG cc3; replace cc4 := cl hG cc4; replace cc5 := cl hG cc5; replace cc6 := cl hG cc6; replace fcc7 := fl hG fcc7 cc7; replace cc7 := cl hG cc7; replace fcc8 := fl hG fcc8 cc8; replace cc8 := cl hG cc8; replace fcc9 := fl hG fcc9 cc9; replace cc9 := cl hG cc9; replace hBW := below_after hBW hG; have hs_v2 := hG.size; clear hG; have hn_v2 := an (nl cc1) (an (nl cc3) (an (nl cc5) (nl cc7))); clear hB_v2)
  skip
  rcases hq with ⟨k1, k2, rfl⟩ | ⟨k1, k2, rfl⟩ | ⟨k1, k2, k3, rfl⟩
  · (go_wp2_with fail; refine (HP _ _ (by first | assumption | infer_instance) (by first | assumption | go_simp) (by first | assumption | go_simp) (by first | assumption | go_simp) (by first | assumption | go_simp)).mono ?_; rintro en v3 ⟨rfl, hB_v3⟩; have lay_v3 := laid_after hB_v3; have hG := cell_grown cc1 (by go_grown) hB_v3; replace cc1 := cl hG cc1; replace cc2 := cl hG cc2; replace cc3 := cl hG cc3; replace cc4 := cl hG cc4; replace cc5 := cl hG cc5; replace cc6 := cl hG cc6; replace fcc7 := fl hG fcc7 cc7; replace cc7 := cl hG cc7; replace fcc8 := fl hG fcc8 cc8; replace cc8 := cl hG cc8; replace fcc9 := fl hG fcc9 cc9; replace cc9 := cl hG cc9; replace hBW := below_after hBW hG; have hs_v3 := hG.size; clear hG; have hn_v3 := an (nl cc1) (an (nl cc3) (an (nl cc5) (nl cc7))); clear hB_v3)
    (go_wp2_with fail; refine (ref_Inf f t _ hf).mono ?_; rw [h0.out, h1.out]; rintro en v4 ⟨rfl, hB_v4⟩; have lay_v4 := laid_after hB_v4; have hG := cell_grown cc1 (by go_grown) hB_v4; replace cc1 := cl hG cc1; replace cc2 := cl hG cc2; replace cc3 := cl hG cc3; replace cc4 := cl hG cc4; replace cc5 := cl hG cc5; replace cc6 := cl hG cc6; replace fcc7 := fl hG fcc7 cc7; replace cc7 := cl hG cc7; replace fcc8 := fl hG fcc8 cc8; replace cc8 := cl hG cc8; replace fcc9 := fl hG fcc9 cc9; replace cc9 := cl hG cc9; have cc10 := cl hB_v4 (show World.cell? _ ⟨v3.heap.size, 0, none⟩ = some (.int .u64 0) by go_simp); have cc11 := cl hB_v4 (show World.cell? _ ⟨v3.heap.size, 1, none⟩ = some (.int .u64 0) by go_simp); have cc12 := cl hB_v4 (show World.cell? _ ⟨v3.heap.size, 2, none⟩ = some (.int .u8 0) by go_simp); replace hBW := below_after hBW hG; have hs_v4 := hG.size; clear hG; have hn_v4 := an (nl cc1) (an (nl cc3) (an (nl cc5) (an (nl cc7) (nl cc10)))); clear hB_v4)
    go_wp2_with fail
    refine bodyPost_ret (by simp [results, Tryz.results13, go_sem, cc7, cc8, cc9]; try rfl) rfl ?_
    exact ⟨rfl, by go_grown⟩
  · skip
    (go_wp2_with fail; refine (HP _ _ (by first | assumption | infer_instance) (by first | assumption | go_simp) (by first | assumption | go_simp) (by first | assumption | go_simp) (by first | assumption | go_simp)).mono ?_; rintro en v3 ⟨rfl, hB_v3⟩; have lay_v3 := laid_after hB_v3; have hG := cell_grown cc1 (by go_grown) hB_v3; replace cc1 := cl hG cc1; replace cc2 := cl hG cc2; replace cc3 := cl hG cc3; replace cc4 := cl hG cc4; replace cc5 := cl hG cc5; replace cc6 := cl hG cc6; replace fcc7 := fl hG fcc7 cc7; replace cc7 := cl hG cc7; replace fcc8 := fl hG fcc8 cc8; replace cc8 := cl hG cc8; replace fcc9 := fl hG fcc9 cc9; replace cc9 := cl hG cc9; replace hBW := below_after hBW hG; have hs_v3 := hG.size; clear hG; have hn_v3 := an (nl cc1) (an (nl cc3) (an (nl cc5) (nl cc7))); clear hB_v3)
    (go_wp2_with fail; refine (ref_Inf f s _ hf).mono ?_; rw [h0.out, h1.out]; rintro en v4 ⟨rfl, hB_v4⟩; have lay_v4 := laid_after hB_v4; have hG := cell_grown cc1 (by go_grown) hB_v4; replace cc1 := cl hG cc1; replace cc2 := cl hG cc2; replace cc3 := cl hG cc3; replace cc4 := cl hG cc4; replace cc5 := cl hG cc5; replace cc6 := cl hG cc6; replace fcc7 := fl hG fcc7 cc7; replace cc7 := cl hG cc7; replace fcc8 := fl hG fcc8 cc8; replace cc8 := cl hG cc8; replace fcc9 := fl hG fcc9 cc9; replace cc9 := cl hG cc9; have cc13 := cl hB_v4 (show World.cell? _ ⟨v3.heap.size, 0, none⟩ = some (.int .u64 0) by go_simp); have cc14 := cl hB_v4 (show World.cell? _ ⟨v3.heap.size, 1, none⟩ = some (.int .u64 0) by go_simp); have cc15 := cl hB_v4 (show World.cell? _ ⟨v3.heap.size, 2, none⟩ = some (.int .u8 0) by go_simp); replace hBW := below_after hBW hG; have hs_v4 := hG.size; clear hG; have hn_v4 := an (nl cc1) (an (nl cc3) (an (nl cc5) (an (nl cc7) (nl cc13)))); clear hB_v4)
    go_wp2_with fail
    refine bodyPost_ret (by simp [results, Tryz.results13, go_sem, cc7, cc8, cc9]; try rfl) rfl ?_
    exact ⟨rfl, by go_grown⟩
  · skip
    (go_wp2_with fail; refine (HP _ _ (by first | assumption | infer_instance) (by first | assumption | go_simp) (by first | assumption | go_simp) (by first | assumption | go_simp) (by first | assumption | go_simp)).mono ?_; rintro en v3 ⟨rfl, hB_v3⟩; have lay_v3 := laid_after hB_v3; have hG := cell_grown cc1 (by go_grown) hB_v3; replace cc1 := cl hG cc1; replace cc2 := cl hG cc2; replace cc3 := cl hG cc3; replace cc4 := cl hG cc4; replace cc5 := cl hG cc5; replace cc6 := cl hG cc6; replace fcc7 := fl hG fcc7 cc7; replace cc7 := cl hG cc7; replace fcc8 := fl hG fcc8 cc8; replace cc8 := cl hG cc8; replace fcc9 := fl hG fcc9 cc9; replace cc9 := cl hG cc9; replace hBW := below_after hBW hG; have hs_v3 := hG.size; clear hG; have hn_v3 := an (nl cc1) (an (nl cc3) (an (nl cc5) (nl cc7))); clear hB_v3)
    (go_wp2_with fail; refine (ref_Inf f s _ hf).mono ?_; rw [h0.out, h1.out]; rintro en v4 ⟨rfl, hB_v4⟩; have lay_v4 := laid_after hB_v4; have hG := cell_grown cc1 (by go_grown) hB_v4; replace cc1 := cl hG cc1; replace cc2 := cl hG cc2; replace cc3 := cl hG cc3; replace cc4 := cl hG cc4; replace cc5 := cl hG cc5; replace cc6 := cl hG cc6; replace fcc7 := fl hG fcc7 cc7; replace cc7 := cl hG cc7; replace fcc8 := fl hG fcc8 cc8; replace cc8 := cl hG cc8; replace fcc9 := fl hG fcc9 cc9; replace cc9 := cl hG cc9; have cc16 := cl hB_v4 (show World.cell? _ ⟨v3.heap.size, 0, none⟩ = some (.int .u64 0) by go_simp); have cc17 := cl hB_v4 (show World.cell? _ ⟨v3.heap.size, 1, none⟩ = some (.int .u64 0) by go_simp); have cc18 := cl hB_v4 (show World.cell? _ ⟨v3.heap.size, 2, none⟩ = some (.int .u8 0) by go_simp); replace hBW := below_after hBW hG; have hs_v4 := hG.size; clear hG; have hn_v4 := an (nl cc1) (an (nl cc3) (an (nl cc5) (an (nl cc7) (nl cc16)))); clear hB_v4)
    go_wp2_with fail
    refine bodyPost_ret (by simp [results, Tryz.results13, go_sem, cc7, cc8, cc9]; try rfl) rfl ?_
    exact ⟨rfl, by go_grown⟩
theorem add18_fin (f m h l h' l' c d E F r0 r1 ry : Int) (aft q s t0 t : Bool) (M N : Nat) [hU : U8 f] [hM : U8 m] [U64 h] [U64 l] [U64 h'] [U64 l'] (w : World) [hLay : Laid w] (hf : f < 4) (hm : m ≤ 4) (hc : Hid (classF f (cat h l) = c)) (hd : Hid (classF f (cat h' l') = d)) (hs : Hid (sgnF f (cat h l) = s)) (ht : Hid (sgnF f (cat h' l') = t0)) (hty : (!(t0 == q)) = t)
    (HP : HPick f h l h' l' 0 0 0 false false) (k1 : (c == 3) = false) (k2 : (d == 3) = false) (hM_ : Hid (mR f (cat h l) = M)) (hN_ : Hid (mR f (cat h' l') = N)) (hE : Hid (eR f (cat h l) = E)) (hF : Hid (eR f (cat h' l') = F))
    (HS : ∀ (W : World) (u v : Option Addr × Nat), Laid W → RN W (.slice u.1 (dl M) u.2) M → RN W (.slice v.1 (dl N) v.2) N → Calls Tryz.prog 42 #[.int .u8 f, .agg #[.int .u8 m, .bool aft], .agg #[.bool s, .slice u.1 (dl M) u.2, .int .i64 E], .agg #[.bool t, .slice v.1 (dl N) v.2, .int .i64 F]] W fun en w' => en = .returned (.agg #[.int .u64 r0, .int .u64 r1, .int .u8 ry]) ∧ Below W.heap.size W w') :
    Calls Tryz.prog 13 #[.int .u8 f, .agg #[.int .u8 m, .bool aft], .agg #[.int .u64 (h), .int .u64 (l)], .agg #[.int .u64 (h'), .int .u64 (l')], .bool q] w fun en w' => en = .returned (.agg #[.int .u64 r0, .int .u64 r1, .int .u8 ry]) ∧ Below w.heap.size w w' := by
  have q1 : decide (f > 3) = false := decide_eq_false (by omega)
  have q2 : decide (m > 4) = false := decide_eq_false (by omega)
  unfold HPick at HP
  go_enter Tryz.func13, Tryz.ntmps13
  skip
  (go_wp2_with fail; refine (ref_Of f h l _).mono ?_; rw [hc.out, hs.out]; rintro en v1 ⟨rfl, hB_v1⟩; have lay_v1 := laid_after hB_v1; have cc1 := cl hB_v1 (show World.cell? _ ⟨w.heap.size, 0, none⟩ = some (.int .u8 m) by go_simp); have cc2 := cl hB_v1 (show World.cell? _ ⟨w.heap.size, 1, none⟩ = some (.bool aft) by go_simp); have cc3 := cl hB_v1 (show World.cell? _ ⟨w.heap.size + 1, 0, none⟩ = some (.int .u64 h) by go_simp); have cc4 := cl hB_v1 (show World.cell? _ ⟨w.heap.size + 1, 1, none⟩ = some (.int .u64 l) by go_simp); have cc5 := cl hB_v1 (show World.cell? _ ⟨w.heap.size + 1 + 1, 0, none⟩ = some (.int .u64 h') by go_simp); have cc6 := cl hB_v1 (show World.cell? _ ⟨w.heap.size + 1 + 1, 1, none⟩ = some (.int .u64 l') by go_simp); obtain ⟨cc7, fcc7⟩ := pf hB_v1 (show World.cell? _ ⟨w.heap.size + 1 + 1 + 1, 0, none⟩ = some (.int .u64 0) by go_simp) (by go_simp); obtain ⟨cc8, fcc8⟩ := pf hB_v1 (show World.cell? _ ⟨w.heap.size + 1 + 1 + 1, 1, none⟩ = some (.int .u64 0) by go_simp) (by go_simp); obtain ⟨cc9, fcc9⟩ := pf hB_v1 (show World.cell? _ ⟨w.heap.size + 1 + 1 + 1, 2, none⟩ = some (.int .u8 0) by go_simp) (by go_simp); have hs_v1 := hB_v1.size; (try simp only [World.size_alloc, World.size_setCell, World.size_drew] at hs_v1); have hBW : Below w.heap.size w v1 := below_after (w := w) (by go_grown) hB_v1; have hn_v1 := an (nl cc1) (an (nl cc3) (an (nl cc5) (nl cc7))); clear hB_v1)
  (go_wp2_with fail; refine (ref_Of f h' l' _).mono ?_; rw [hd.out, ht.out]; rintro en v2 ⟨rfl, hB_v2⟩; have lay_v2 := laid_after hB_v2; have hG := cell_grown cc1 (by go_grown) hB_v2; replace cc1 := cl hG cc1; replace cc2 := cl hG cc2; replace cc3 := cl hG cc3; replace cc4 := cl hG cc4; replace cc5 := cl hG cc5; replace cc6 := cl hG cc6; replace fcc7 := fl hG fcc7 cc7; replace cc7 := cl hG cc7; replace fcc8 := fl hG fcc8 cc8; replace cc8 := cl hG cc8; replace fcc9 := fl hG fcc9 cc9; replace cc9 := cl hG cc9; replace hBW := below_after hBW hG; have hs_v2 := hG.size; clear hG; have hn_v2 := an (nl cc1) (an (nl cc3) (an (nl cc5) (nl cc7))); clear hB_v2)
  (go_wp2_with fail; refine (HP _ _ (by first | assumption | infer_instance) (by first | assumption | go_simp) (by first | assumption | go_simp) (by first | assumption | go_simp) (by first | assumption | go_simp)).mono ?_; rintro en v3 ⟨rfl, hB_v3⟩; have lay_v3 := laid_after hB_v3; have hG := cell_grown cc1 (by go_grown) hB_v3; replace cc1 := cl hG cc1; replace cc2 := cl hG cc2; replace cc3 := cl hG cc3; replace cc4 := cl hG cc4; replace cc5 := cl hG cc5; replace cc6 := cl hG cc6; replace fcc7 := fl hG fcc7 cc7; replace cc7 := cl hG cc7; replace fcc8 := fl hG fcc8 cc8; replace cc8 := cl hG cc8; replace fcc9 := fl hG fcc9 cc9; replace cc9 := cl hG cc9; replace hBW := below_after hBW hG; have hs_v3 := hG.size; clear hG; have hn_v3 := an (nl cc1) (an (nl cc3) (an (nl cc5) (nl cc7))); clear hB_v3)
  go_upto_region 13 with fail
  ((first | refine wp_rename ?_ | refine goal_rename ?_); intro W13 hw_W13; have hG := named cc1 W13 (by rw [hw_W13]; first | with_reducible exact drewN_below (Below.refl _ _) _ | go_grown); replace cc1 := cl hG cc1; replace cc2 := cl hG cc2; replace cc3 := cl hG cc3; replace cc4 := cl hG cc4; replace cc5 := cl hG cc5; replace cc6 := cl hG cc6; replace fcc7 := fl hG fcc7 cc7; replace cc7 := cl hG cc7; replace fcc8 := fl hG fcc8 cc8; replace cc8 := cl hG cc8; replace fcc9 := fl hG fcc9 cc9; replace cc9 := cl hG cc9; have cc10 : W13.cell? ⟨v3.heap.size, 0, none⟩ = some (.int .u64 0) := (by rw [hw_W13]; go_simp); have cc11 : W13.cell? ⟨v3.heap.size, 1, none⟩ = some (.int .u64 0) := (by rw [hw_W13]; go_simp); have cc12 : W13.cell? ⟨v3.heap.size, 2, none⟩ = some (.int .u8 0) := (by rw [hw_W13]; go_simp); replace hBW := below_after hBW hG; have hs_W13 := hG.size; clear hG; have hn_W13 := an (nl cc1) (an (nl cc3) (an (nl cc5) (an (nl cc7) (nl cc10)))); have lay_W13 : Laid W13 := Laid.below (w := w) (by assumption) hBW; clear hw_W13)
  refine LinW.wp_region_lin (by kernel_rfl) (by intro _ _ d _ _ h; cases d <;> exact h) (by kernel_rfl) (fun w' => Below W13.heap.size W13 w' ∧ w'.cell? ⟨w.heap.size + 1, 0, none⟩ = some (.int .u64 h) ∧ w'.cell? ⟨w.heap.size + 1, 1, none⟩ = some (.int .u64 l) ∧ w'.cell? ⟨w.heap.size + 1 + 1, 0, none⟩ = some (.int .u64 h') ∧ w'.cell? ⟨w.heap.size + 1 + 1, 1, none⟩ = some (.int .u64 l')) ⟨(Below.refl _ _).drew, by go_simp, by go_simp, by go_simp, by go_simp⟩ ?_
  simp only [List.length_cons, List.length_nil, Nat.reduceAdd]
  refine Lin.Blk.out ?_
  iterate 2 (refine LinW.bl_val rfl rfl rfl ?_; apply Exists.intro; refine ⟨fun w' hw' => ?_, ?_⟩; (focus (have hBw := hw'.1; have hSw := hw'.2; clear hw'; (try dsimp only at hBw hSw); go_simp; first | with_reducible exact Lin.lin_value | with_reducible exact Lin.lin_skip)); (try simp only [Act.put, List.setIfInBounds_toArray, List.set_cons_zero, List.set_cons_succ]))
  refine LinW.bl_rest rfl ?_
  iterate 2 (refine LinW.bl_val rfl rfl rfl ?_; apply Exists.intro; refine ⟨fun w' hw' => ?_, ?_⟩; (focus (have hBw := hw'.1; have hSw := hw'.2; clear hw'; (try dsimp only at hBw hSw); go_simp; first | with_reducible exact Lin.lin_value | with_reducible exact Lin.lin_skip)); (try simp only [Act.put, List.setIfInBounds_toArray, List.set_cons_zero, List.set_cons_succ]))
  refine LinW.bl_rest rfl ?_
  refine LinW.bl_rest rfl ?_
  refine LinW.bl_rest rfl ?_
  refine LinW.bl_rest rfl ?_
  refine LinW.bl_rest rfl ?_
  refine LinW.bl_end ?_
  refine LinW.fin22 W13.heap.size (fun wa wb hc hb => ⟨hc.1.trans (hb.mono hc.1.size), cell_later hb hc.2.1, cell_later hb hc.2.2.1, cell_later hb hc.2.2.2.1, cell_later hb hc.2.2.2.2⟩) (fun wa hc => hc.1.size) 2 5 6 7 _ _ _ _ rfl rfl rfl rfl (by decide) (by decide) (by decide) (by decide) (by decide) (by decide) (by kernel_rfl) rfl rfl rfl rfl (by kernel_rfl) (by kernel_rfl) (by kernel_rfl) (by kernel_rfl) (by kernel_rfl) (by kernel_rfl) (by kernel_rfl) (by kernel_rfl) (by kernel_rfl) (by kernel_rfl) (by kernel_rfl) (fun u => .agg #[.bool (s), .slice u.1 (dl M) u.2, .int .i64 (E)]) (fun u => .agg #[.bool (t0), .slice u.1 (dl N) u.2, .int .i64 (F)]) (fun u w' => RN w' (.slice u.1 (dl M) u.2) (M)) (fun u w' => RN w' (.slice u.1 (dl N) u.2) (N)) (fun _ _ _ h hb => RN.later h hb) (fun _ _ _ h hb => RN.later h hb) (fun w' hw' => by (have hBw := hw'.1; have hSw := hw'.2; clear hw'; (try dsimp only at hBw hSw); have lay' : Laid w' := Laid.below lay_W13 hBw; go_simp; exact LinW.call_ret (ref_Nine_l f h l _ hf s M _ E hs hM_ hE rfl))) (fun w' hw' => by (have hBw := hw'.1; have hSw := hw'.2; clear hw'; (try dsimp only at hBw hSw); have lay' : Laid w' := Laid.below lay_W13 hBw; go_simp; exact LinW.call_ret (ref_Nine_l f h' l' _ hf t0 N _ F ht hN_ hF rfl))) _ _ (Go.Lin.run_new (z := (.agg #[.bool false, .slice none 0 0, .int .i64 0])) rfl (by intro t ht; cases ht <;> (intro w; kernel_rfl))) (Go.Lin.run_new (z := (.agg #[.bool false, .slice none 0 0, .int .i64 0])) rfl (by intro t ht; cases ht <;> (intro w; kernel_rfl))) ?_
  intro u v g k Y hw_Y hR_u hR_v lo_g lo_k ne_g_k ho_g ho_k
  have nf_k_g : k ≠ g := Ne.symm ne_g_k
  have hb_Y := hw_Y.1; clear hw_Y
  have lay_Y : Laid Y := Laid.below lay_W13 hb_Y
  (replace cc1 := cl hb_Y cc1; replace cc2 := cl hb_Y cc2; replace cc3 := cl hb_Y cc3; replace cc4 := cl hb_Y cc4; replace cc5 := cl hb_Y cc5; replace cc6 := cl hb_Y cc6; replace fcc7 := fl hb_Y fcc7 cc7; replace cc7 := cl hb_Y cc7; replace fcc8 := fl hb_Y fcc8 cc8; replace cc8 := cl hb_Y cc8; replace fcc9 := fl hb_Y fcc9 cc9; replace cc9 := cl hb_Y cc9; replace cc10 := cl hb_Y cc10; replace cc11 := cl hb_Y cc11; replace cc12 := cl hb_Y cc12; replace hBW := below_after hBW hb_Y; have hsb_Y := hb_Y.size; have hn_Y := an (nl cc1) (an (nl cc3) (an (nl cc5) (an (nl cc7) (nl cc10)))))
  have hi_g := Go.Lin.heap_lt ho_g
  have cc13 : Y.cell? ⟨g, 0, none⟩ = some (.bool false) := Go.Lin.heap_cell ho_g rfl; have fcc13 : Y.frozen? ⟨g, 0, none⟩ = false := Go.Lin.heap_free ho_g
  have cc14 : Y.cell? ⟨g, 1, none⟩ = some (.slice none 0 0) := Go.Lin.heap_cell ho_g rfl; have fcc14 : Y.frozen? ⟨g, 1, none⟩ = false := Go.Lin.heap_free ho_g
  have cc15 : Y.cell? ⟨g, 2, none⟩ = some (.int .i64 0) := Go.Lin.heap_cell ho_g rfl; have fcc15 : Y.frozen? ⟨g, 2, none⟩ = false := Go.Lin.heap_free ho_g
  clear ho_g
  have hi_k := Go.Lin.heap_lt ho_k
  have cc16 : Y.cell? ⟨k, 0, none⟩ = some (.bool false) := Go.Lin.heap_cell ho_k rfl; have fcc16 : Y.frozen? ⟨k, 0, none⟩ = false := Go.Lin.heap_free ho_k
  have cc17 : Y.cell? ⟨k, 1, none⟩ = some (.slice none 0 0) := Go.Lin.heap_cell ho_k rfl; have fcc17 : Y.frozen? ⟨k, 1, none⟩ = false := Go.Lin.heap_free ho_k
  have cc18 : Y.cell? ⟨k, 2, none⟩ = some (.int .i64 0) := Go.Lin.heap_cell ho_k rfl; have fcc18 : Y.frozen? ⟨k, 2, none⟩ = false := Go.Lin.heap_free ho_k
  clear ho_k
  have hN_Y : g ≠ Y.heap.size ∧ Y.heap.size ≠ g ∧ w.heap.size ≤ g ∧ k ≠ Y.heap.size ∧ Y.heap.size ≠ k ∧ w.heap.size ≤ k := (by omega)
  unfold Go.Lin.ptrOf
  (try simp only [Act.put, List.setIfInBounds_toArray, List.set_cons_zero, List.set_cons_succ])
  have hM_Y : w.heap.size ≠ g ∧ g ≠ w.heap.size ∧ w.heap.size ≠ k ∧ k ≠ w.heap.size ∧ w.heap.size + 1 ≠ g ∧ g ≠ w.heap.size + 1 ∧ w.heap.size + 1 ≠ k ∧ k ≠ w.heap.size + 1 ∧ w.heap.size + 1 + 1 ≠ g ∧ g ≠ w.heap.size + 1 + 1 ∧ w.heap.size + 1 + 1 ≠ k ∧ k ≠ w.heap.size + 1 + 1 ∧ w.heap.size + 1 + 1 + 1 ≠ g ∧ g ≠ w.heap.size + 1 + 1 + 1 ∧ w.heap.size + 1 + 1 + 1 ≠ k ∧ k ≠ w.heap.size + 1 + 1 + 1 ∧ v3.heap.size ≠ g ∧ g ≠ v3.heap.size ∧ v3.heap.size ≠ k ∧ k ≠ v3.heap.size := (by omega)
  (refine wpAny_ready (rs := [8]) (by kernel_rfl) (by simp) ?_; refine AllReady.cons rfl (fun K hK => ?_) AllReady.nil; go_simp; refine hK _ _ ?_; clear hK K)
  (refine wpAny_ready (rs := [9]) (by kernel_rfl) (by simp) ?_; refine AllReady.cons rfl (fun K hK => ?_) AllReady.nil; go_simp; refine hK _ _ ?_; clear hK K)
  refine wpAny_done (by kernel_rfl) ?_ _
  apply_assumption
  ((first | refine wp_rename ?_ | refine goal_rename ?_); intro Ys hw_Ys; replace hR_u : RN Ys (.slice u.1 (dl M) u.2) (M) := (by rw [hw_Ys]; (repeat (refine RN.put ?_ (by intro k; go_simp))); exact hR_u); replace hR_v : RN Ys (.slice v.1 (dl N) v.2) (N) := (by rw [hw_Ys]; (repeat (refine RN.put ?_ (by intro k; go_simp))); exact hR_v); replace cc1 := rn hw_Ys cc1 (by go_simp); replace cc2 := rn hw_Ys cc2 (by go_simp); replace cc3 := rn hw_Ys cc3 (by go_simp); replace cc4 := rn hw_Ys cc4 (by go_simp); replace cc5 := rn hw_Ys cc5 (by go_simp); replace cc6 := rn hw_Ys cc6 (by go_simp); replace cc7 := rn hw_Ys cc7 (by go_simp); replace fcc7 := rf hw_Ys fcc7 (by go_simp); replace cc8 := rn hw_Ys cc8 (by go_simp); replace fcc8 := rf hw_Ys fcc8 (by go_simp); replace cc9 := rn hw_Ys cc9 (by go_simp); replace fcc9 := rf hw_Ys fcc9 (by go_simp); replace cc10 := rn hw_Ys cc10 (by go_simp); replace cc11 := rn hw_Ys cc11 (by go_simp); replace cc12 := rn hw_Ys cc12 (by go_simp); replace cc13 : Ys.cell? ⟨g, 0, none⟩ = some (.bool (s)) := (by rw [hw_Ys]; go_simp); replace fcc13 := rf hw_Ys fcc13 (by go_simp); replace cc14 : Ys.cell? ⟨g, 1, none⟩ = some (.slice u.1 (dl M) u.2) := (by rw [hw_Ys]; go_simp); replace fcc14 := rf hw_Ys fcc14 (by go_simp); replace cc15 : Ys.cell? ⟨g, 2, none⟩ = some (.int .i64 (E)) := (by rw [hw_Ys]; go_simp); replace fcc15 := rf hw_Ys fcc15 (by go_simp); replace cc16 : Ys.cell? ⟨k, 0, none⟩ = some (.bool (t0)) := (by rw [hw_Ys]; go_simp); replace fcc16 := rf hw_Ys fcc16 (by go_simp); replace cc17 : Ys.cell? ⟨k, 1, none⟩ = some (.slice v.1 (dl N) v.2) := (by rw [hw_Ys]; go_simp); replace fcc17 := rf hw_Ys fcc17 (by go_simp); replace cc18 : Ys.cell? ⟨k, 2, none⟩ = some (.int .i64 (F)) := (by rw [hw_Ys]; go_simp); replace fcc18 := rf hw_Ys fcc18 (by go_simp); replace hBW : Below w.heap.size w Ys := (by rw [hw_Ys]; (first | with_reducible exact drewN_below (by assumption) _ | go_grown)); have hn_Ys := an (nl cc1) (an (nl cc3) (an (nl cc5) (an (nl cc7) (an (nl cc10) (an (nl cc13) (nl cc16)))))); have lay_Ys : Laid Ys := Laid.below (w := w) (by assumption) hBW; clear hw_Ys)
  go_upto_region 14 with fail
  ((first | refine wp_rename ?_ | refine goal_rename ?_); intro W14 hw_W14; have hG := named cc1 W14 (by rw [hw_W14]; first | with_reducible exact drewN_below (Below.refl _ _) _ | go_grown); replace cc1 := cl hG cc1; replace cc2 := cl hG cc2; replace cc3 := cl hG cc3; replace cc4 := cl hG cc4; replace cc5 := cl hG cc5; replace cc6 := cl hG cc6; replace fcc7 := fl hG fcc7 cc7; replace cc7 := cl hG cc7; replace fcc8 := fl hG fcc8 cc8; replace cc8 := cl hG cc8; replace fcc9 := fl hG fcc9 cc9; replace cc9 := cl hG cc9; replace cc10 := cl hG cc10; replace cc11 := cl hG cc11; replace cc12 := cl hG cc12; replace fcc13 := fl hG fcc13 cc13; replace cc13 := cl hG cc13; replace fcc14 := fl hG fcc14 cc14; replace cc14 := cl hG cc14; replace fcc15 := fl hG fcc15 cc15; replace cc15 := cl hG cc15; replace fcc16 := fl hG fcc16 cc16; replace cc16 := cl hG cc16; replace fcc17 := fl hG fcc17 cc17; replace cc17 := cl hG cc17; replace fcc18 := fl hG fcc18 cc18; replace cc18 := cl hG cc18; replace hR_u := RN.later hR_u (w' := W14) (by rw [hw_W14]; first | with_reducible exact drewN_below (Below.refl _ _) _ | go_grown); replace hR_v := RN.later hR_v (w' := W14) (by rw [hw_W14]; first | with_reducible exact drewN_below (Below.refl _ _) _ | go_grown); replace hBW := below_after hBW hG; have hs_W14 := hG.size; clear hG; have hn_W14 := an (nl cc1) (an (nl cc3) (an (nl cc5) (an (nl cc7) (an (nl cc10) (an (nl cc13) (nl cc16)))))); have lay_W14 : Laid W14 := Laid.below (w := w) (by assumption) hBW; clear hw_W14)
  skip
  go_upto_region 15 with fail
  ((first | refine wp_rename ?_ | refine goal_rename ?_); intro W15 hw_W15; replace hR_u := RN.put1 hR_u hw_W15 (by assumption) (fun k hk => by cases hk); replace hR_v := RN.put1 hR_v hw_W15 (by assumption) (fun k hk => by cases hk); replace cc1 := rn hw_W15 cc1 (by go_simp); replace cc2 := rn hw_W15 cc2 (by go_simp); replace cc3 := rn hw_W15 cc3 (by go_simp); replace cc4 := rn hw_W15 cc4 (by go_simp); replace cc5 := rn hw_W15 cc5 (by go_simp); replace cc6 := rn hw_W15 cc6 (by go_simp); replace cc7 := rn hw_W15 cc7 (by go_simp); replace fcc7 := rf hw_W15 fcc7 (by go_simp); replace cc8 := rn hw_W15 cc8 (by go_simp); replace fcc8 := rf hw_W15 fcc8 (by go_simp); replace cc9 := rn hw_W15 cc9 (by go_simp); replace fcc9 := rf hw_W15 fcc9 (by go_simp); replace cc10 := rn hw_W15 cc10 (by go_simp); replace cc11 := rn hw_W15 cc11 (by go_simp); replace cc12 := rn hw_W15 cc12 (by go_simp); replace cc13 := rn hw_W15 cc13 (by go_simp); replace fcc13 := rf hw_W15 fcc13 (by go_simp); replace cc14 := rn hw_W15 cc14 (by go_simp); replace fcc14 := rf hw_W15 fcc14 (by go_simp); replace cc15 := rn hw_W15 cc15 (by go_simp); replace fcc15 := rf hw_W15 fcc15 (by go_simp); replace cc16 : W15.cell? ⟨k, 0, none⟩ = some (.bool t) := (by rw [hw_W15]; go_simp); replace fcc16 := rf hw_W15 fcc16 (by go_simp); replace cc17 := rn hw_W15 cc17 (by go_simp); replace fcc17 := rf hw_W15 fcc17 (by go_simp); replace cc18 := rn hw_W15 cc18 (by go_simp); replace fcc18 := rf hw_W15 fcc18 (by go_simp); replace hBW : Below w.heap.size w W15 := (by rw [hw_W15]; (first | with_reducible exact drewN_below (by assumption) _ | go_grown)); have hn_W15 := an (nl cc1) (an (nl cc3) (an (nl cc5) (an (nl cc7) (an (nl cc10) (an (nl cc13) (nl cc16)))))); have lay_W15 : Laid W15 := Laid.below (w := w) (by assumption) hBW; clear hw_W15)
  (go_wp2_with fail; refine (HS _ u v (by first | assumption | infer_instance) hR_u hR_v).mono ?_; rintro en v9 ⟨rfl, hB_v9⟩; have lay_v9 := laid_after hB_v9; replace hR_u := RN.later hR_u (below_after (by go_grown) hB_v9); replace hR_v := RN.later hR_v (below_after (by go_grown) hB_v9); have hG := cell_grown cc1 (by go_grown) hB_v9; replace cc1 := cl hG cc1; replace cc2 := cl hG cc2; replace cc3 := cl hG cc3; replace cc4 := cl hG cc4; replace cc5 := cl hG cc5; replace cc6 := cl hG cc6; replace fcc7 := fl hG fcc7 cc7; replace cc7 := cl hG cc7; replace fcc8 := fl hG fcc8 cc8; replace cc8 := cl hG cc8; replace fcc9 := fl hG fcc9 cc9; replace cc9 := cl hG cc9; replace cc10 := cl hG cc10; replace cc11 := cl hG cc11; replace cc12 := cl hG cc12; replace fcc13 := fl hG fcc13 cc13; replace cc13 := cl hG cc13; replace fcc14 := fl hG fcc14 cc14; replace cc14 := cl hG cc14; replace fcc15 := fl hG fcc15 cc15; replace cc15 := cl hG cc15; replace fcc16 := fl hG fcc16 cc16; replace cc16 := cl hG cc16; replace fcc17 := fl hG fcc17 cc17; replace cc17 := cl hG cc17; replace fcc18 := fl hG fcc18 cc18; replace cc18 := cl hG cc18; replace hBW := below_after hBW hG; have hs_v9 := hG.size; clear hG; have hn_v9 := an (nl cc1) (an (nl cc3) (an (nl cc5) (an (nl cc7) (an (nl cc10) (an (nl cc13) (nl cc16)))))); clear hB_v9)
  go_wp2_with fail
  refine bodyPost_ret (by simp [results, Tryz.results13, go_sem, cc7, cc8, cc9]; try rfl) rfl ?_
  exact ⟨rfl, by go_grown⟩
end Go.Proofs.YtkpjeceofcfnkaaGreatDoor
namespace Go.Proofs.YtkpjeceofcfnkaaGreatDoor
open Go.RowKit Go.Hb
theorem parts_dl (f : Int) (a b : Nat) (s t : Bool) (h0 : 0 ≤ f) (hf : f < 4) : dl (mR f a * 2 ^ (eR f a - min (eR f a) (eR f b)).toNat) ≤ 100000 ∧ dl (mR f b * 2 ^ (eR f b - min (eR f a) (eR f b)).toNat) ≤ 100000 ∧ dl (exactX s t (mR f a * 2 ^ (eR f a - min (eR f a) (eR f b)).toNat) (mR f b * 2 ^ (eR f b - min (eR f a) (eR f b)).toNat)) ≤ 30000 := by
  obtain ⟨e0, e1⟩ := eR_bd f a h0 hf
  obtain ⟨e2, e3⟩ := eR_bd f b h0 hf
  have la := lt_of_blen _ _ (mR_dl f a h0 hf).2
  have lb := lt_of_blen _ _ (mR_dl f b h0 hf).2
  have hK : ∃ K : Nat, K = 200200 := ⟨_, rfl⟩
  obtain ⟨K, hK⟩ := hK
  have key : ∀ (M n : Nat), M < 2 ^ 200 → n ≤ 200000 → M * 2 ^ n < 2 ^ K := fun M n hM hn => by
    have h : M * 2 ^ n < 2 ^ (200 + n) := by rw [Nat.pow_add]; exact Nat.mul_lt_mul_of_pos_right hM (Nat.two_pow_pos n)
    exact Nat.lt_of_lt_of_le h (Nat.pow_le_pow_right (by decide) (by omega))
  have ha := key _ (eR f a - min (eR f a) (eR f b)).toNat la (by omega)
  have hb := key _ (eR f b - min (eR f a) (eR f b)).toNat lb (by omega)
  generalize mR f a * 2 ^ (eR f a - min (eR f a) (eR f b)).toNat = x at *
  generalize mR f b * 2 ^ (eR f b - min (eR f a) (eR f b)).toNat = y at *
  refine ⟨dl_of _ K ha (by omega), dl_of _ K hb (by omega), ?_⟩
  have hx : exactX s t x y ≤ x + y := by unfold exactX; split <;> omega
  have h2 : exactX s t x y < 2 ^ (K + 1) := by rw [Nat.pow_succ]; omega
  have h3 := blen_le_of _ _ h2
  unfold dl
  omega
theorem dl_nil_iff (n : Nat) : (n = 0 ∧ dl n = 0) ∨ (n ≠ 0 ∧ (((dl n : Nat) : Int) == 0) = false) := by
  by_cases h : n = 0
  · exact Or.inl ⟨h, by rw [h, dl_zero]⟩
  · exact Or.inr ⟨h, dl_ne n h⟩
/-- The reference's rounded sum of two numbers. -/
theorem signed_all (f m : Int) (aft : Bool) (a b : Nat) [hU : U8 f] [hM : U8 m] (hf : f < 4) (hm : m ≤ 4) (ha : classF f a < 3) (hb : classF f b < 3) (W : World) (u v : Option Addr × Nat) (hW : Laid W) (hu : RN W (.slice u.1 (dl (mR f a)) u.2) (mR f a)) (hv : RN W (.slice v.1 (dl (mR f b)) v.2) (mR f b)) :
    Calls Tryz.prog 42 #[.int .u8 f, .agg #[.int .u8 m, .bool aft], .agg #[.bool (sgnF f a), .slice u.1 (dl (mR f a)) u.2, .int .i64 (eR f a)], .agg #[.bool (sgnF f b), .slice v.1 (dl (mR f b)) v.2, .int .i64 (eR f b)]] W fun en w' => en = .returned (.agg #[.int .u64 (hi (addB f m a b)), .int .u64 (lo (addB f m a b)), .int .u8 (addFl f m aft a b)]) ∧ Below W.heap.size W w' := by
  obtain ⟨e0, e1⟩ := eR_bd f a hU.ge hf
  obtain ⟨e2, e3⟩ := eR_bd f b hU.ge hf
  obtain ⟨d1, d2, d3⟩ := parts_dl f a b (sgnF f a) (sgnF f b) hU.ge hf
  obtain ⟨l1, _⟩ := mR_dl f a hU.ge hf
  obtain ⟨l2, _⟩ := mR_dl f b hU.ge hf
  obtain ⟨r1, r2⟩ := refs_add f m aft a b hU.ge hf hm ha hb
  have hs := refs_sign f m a b hU.ge hf
  rw [← r1, ← r2]
  have hE : minE f a b = min (eR f a) (eR f b) := rfl
  have hN : sumN f a b = exactX (sgnF f a) (sgnF f b) (mR f a * 2 ^ (eR f a - min (eR f a) (eR f b)).toNat) (mR f b * 2 ^ (eR f b - min (eR f a) (eR f b)).toNat) := rfl
  rw [hE, hN] at hs ⊢
  refine signed_walk f m (min (eR f a) (eR f b)) (eR f a) (eR f b) _ _ _ aft (sgnF f a) (sgnF f b) (sumG f m a b) (sgnW (sgnF f a) (sgnF f b) (mR f a * 2 ^ (eR f a - min (eR f a) (eR f b)).toNat) (mR f b * 2 ^ (eR f b - min (eR f a) (eR f b)).toNat)) (m == 3) _ _ _ _ _ _ u v W hu hv (fun W' hW' hu' hv' => ref_Sum (sgnF f a) (sgnF f b) (eR f a) (eR f b) _ _ _ _ _ u v W' hu' hv' e0 e1 e2 e3 (by omega) (by omega) d1 d2 rfl) (by omega) (by omega) d3 rfl (Lib.hid rfl) (Lib.hid rfl) (Lib.hid rfl) ?_
  rw [hs]
  generalize mR f a * 2 ^ (eR f a - min (eR f a) (eR f b)).toNat = x at *
  generalize mR f b * 2 ^ (eR f b - min (eR f a) (eR f b)).toNat = y at *
  generalize exactX (sgnF f a) (sgnF f b) x y = n at *
  rcases dl_nil_iff n with ⟨h1, h2⟩ | ⟨h1, h2⟩
  · rw [if_pos h1, h2]
    unfold nouB
    cases sgnF f a <;> cases sgnF f b <;> simp
  · left
    rw [if_neg h1]
    exact ⟨h2, rfl⟩
theorem sig_of (f : Int) {v u : Nat} (h : classF f v = classF f u) : nanB f v = nanB f u ∧ sigB f v = sigB f u := by unfold nanB sigB; rw [h]; exact ⟨rfl, rfl⟩
theorem sig_no (f : Int) {v : Nat} (h : nanB f v = false) : sigB f v = false := by
  have h4 : ¬ 4 ≤ classF f v := of_decide_eq_false h
  unfold sigB
  rw [beq_eq_false_iff_ne]
  omega
theorem ref18_all (f m h l h' l' : Int) (aft q : Bool) (b' : Nat) [hU : U8 f] [hM : U8 m] [U64 h] [U64 l] [U64 h'] [U64 l'] (w : World) [hLay : Laid w]
    (hb1 : f < 4 → classF f b' = classF f (cat h' l')) (hb2 : nanB f (cat h' l') = true → b' = cat h' l') (hb3 : f < 4 → nanB f (cat h' l') = false → sgnF f b' = (!(sgnF f (cat h' l') == q)) ∧ mR f b' = mR f (cat h' l') ∧ eR f b' = eR f (cat h' l')) :
    Calls Tryz.prog 13 #[.int .u8 f, .agg #[.int .u8 m, .bool aft], .agg #[.int .u64 (h), .int .u64 (l)], .agg #[.int .u64 (h'), .int .u64 (l')], .bool q] w fun en w' => en = .returned (.agg #[.int .u64 (hi (addB f m (cat h l) b')), .int .u64 (lo (addB f m (cat h l) b')), .int .u8 (addFl f m aft (cat h l) b')]) ∧ Below w.heap.size w w' := by
  by_cases hk : f < 4 ∧ m ≤ 4
  · have hk' := hk
    obtain ⟨hf, hm⟩ := hk
    have hcl := hb1 hf
    obtain ⟨g1, g2⟩ := sig_of f hcl
    have c3 : ∀ v, nanB f v = true → (classF f v == 3) = false := fun v hv => by
      have h4 : 4 ≤ classF f v := of_decide_eq_true hv
      rw [beq_eq_false_iff_ne]; omega
    have c4 : ∀ v, nanB f v = false → classF f v < 4 := fun v hv => by
      have h4 : ¬ 4 ≤ classF f v := of_decide_eq_false hv
      omega
    by_cases hn : (nanB f (cat h l) || nanB f (cat h' l')) = true
    · have hv : pickV f false (cat h l) (cat h' l') = addB f m (cat h l) b' := by
        unfold pickV addB
        rw [if_pos hk', g1]
        cases h1 : nanB f (cat h l)
        · rw [h1, Bool.false_or] at hn
          rw [hn, if_neg (by decide), if_pos rfl, if_neg (by decide), if_pos rfl, hb2 hn]
        · rw [if_pos rfl, if_pos rfl]
      have hx : pickFl f false (cat h l) (cat h' l') = addFl f m aft (cat h l) b' := by
        unfold pickFl addFl
        rw [if_pos hk', g1, g2, if_pos hn, Bool.or_false]
      have hok : pickK f false (cat h l) (cat h' l') = true := by unfold pickK; rw [hn]; rfl
      rw [← hv, ← hx]
      refine add18_pick f m h l h' l' _ _ _ _ _ aft q _ _ _ false w hf hm (Lib.hid rfl) (Lib.hid rfl) (Lib.hid rfl) (Lib.hid rfl) rfl (fun W b hW d0 d1 d2 d3 => ?_) ?_
      · have hp := ref_Pick2 f h l h' l' false b W d0 d1 d2 d3 hf (fun h => by cases h)
        rw [hok] at hp
        exact hp
      · cases h1 : nanB f (cat h l)
        · rw [h1, Bool.false_or] at hn
          by_cases h3 : classF f (cat h l) = 3
          · exact Or.inr (Or.inl ⟨beq_iff_eq.2 h3, c3 _ hn, rfl⟩)
          · exact Or.inl ⟨beq_eq_false_iff_ne.2 h3, rfl⟩
        · exact Or.inl ⟨c3 _ h1, rfl⟩
    · have n1 : nanB f (cat h l) = false := by cases h1 : nanB f (cat h l); rfl; rw [h1] at hn; exact absurd rfl hn
      have n2 : nanB f (cat h' l') = false := by cases h1 : nanB f (cat h' l'); rfl; rw [h1, Bool.or_true] at hn; exact absurd rfl hn
      obtain ⟨b1, b2, b3⟩ := hb3 hf n2
      have y1 := c4 _ n1
      have y2 := c4 _ n2
      have hp0 : HPick f h l h' l' 0 0 0 false false := fun W b hW d0 d1 d2 d3 => by
        have hp := ref_Pick2 f h l h' l' false b W d0 d1 d2 d3 hf (fun h => by cases h)
        have v1 : pickV f false (cat h l) (cat h' l') = 0 := by unfold pickV; rw [n1, n2]; simp only [Bool.false_eq_true, if_false]
        have v2 : pickFl f false (cat h l) (cat h' l') = 0 := by unfold pickFl; rw [sig_no f n1, sig_no f n2]; simp only [Bool.false_eq_true, if_false, Bool.or_false]
        have v3 : pickK f false (cat h l) (cat h' l') = false := by unfold pickK; rw [n1, n2, Bool.or_false, Bool.or_false]
        rw [v1, v2, v3] at hp
        exact hp
      have eB : ∀ X, (if nanB f (cat h l) then quietF f (cat h l) else if nanB f b' then quietF f b' else X) = X := fun X => by rw [g1, n1, n2]; simp only [Bool.false_eq_true, if_false]
      have eF : ∀ X : Int, (if (nanB f (cat h l) || nanB f b') = true then (if (sigB f (cat h l) || sigB f b') = true then 1 else 0) else X) = X := fun X => by rw [g1, n1, n2]; simp only [Bool.false_eq_true, if_false, Bool.or_false]
      by_cases h3 : classF f (cat h l) = 3
      · by_cases h4 : classF f (cat h' l') = 3
        · by_cases hst : sgnF f b' = sgnF f (cat h l)
          · have e1 : addB f m (cat h l) b' = makeF f (sgnF f (cat h l)) (2 * emaxS f + 1) 0 := by
              unfold addB; rw [if_pos hk', eB, if_pos h3, if_neg (fun h => h.2 hst)]
            have e2 : addFl f m aft (cat h l) b' = 0 := by
              unfold addFl; rw [if_pos hk', eF, if_pos h3, if_neg (fun h => h.2 hst)]
            rw [e1, e2]
            refine add18_inf f m h l h' l' _ _ _ _ aft q _ _ _ _ w hf hm (Lib.hid rfl) (Lib.hid rfl) (Lib.hid rfl) (Lib.hid rfl) rfl hp0 (Lib.hid rfl) (Lib.hid rfl) (Or.inr (Or.inr ⟨beq_iff_eq.2 h3, beq_iff_eq.2 h4, ?_, rfl⟩))
            rw [← b1, hst]
            simp
          · have e1 : addB f m (cat h l) b' = pickV f true (cat h l) (cat h' l') := by
              unfold addB pickV; rw [if_pos hk', eB, if_pos h3, if_pos (show classF f b' = 3 ∧ sgnF f b' ≠ sgnF f (cat h l) from ⟨hcl.trans h4, hst⟩), n1, n2]; simp only [Bool.false_eq_true, if_false, if_true]
            have e2 : addFl f m aft (cat h l) b' = pickFl f true (cat h l) (cat h' l') := by
              unfold addFl pickFl; rw [if_pos hk', eF, if_pos h3, if_pos (show classF f b' = 3 ∧ sgnF f b' ≠ sgnF f (cat h l) from ⟨hcl.trans h4, hst⟩), Bool.or_true, if_pos rfl]
            have hok : pickK f true (cat h l) (cat h' l') = true := by unfold pickK; rw [Bool.or_true]
            rw [e1, e2]
            refine add18_pick f m h l h' l' _ _ _ _ _ aft q _ _ _ true w hf hm (Lib.hid rfl) (Lib.hid rfl) (Lib.hid rfl) (Lib.hid rfl) rfl (fun W b hW d0 d1 d2 d3 => ?_) (Or.inr (Or.inr ⟨beq_iff_eq.2 h3, beq_iff_eq.2 h4, ?_⟩))
            · have hp := ref_Pick2 f h l h' l' true b W d0 d1 d2 d3 hf (fun _ => ⟨n1, n2⟩)
              rw [hok] at hp
              exact hp
            · rw [← b1]
              cases hx : sgnF f b' <;> cases hy : sgnF f (cat h l) <;> simp_all
        · have e1 : addB f m (cat h l) b' = makeF f (sgnF f (cat h l)) (2 * emaxS f + 1) 0 := by
            unfold addB; rw [if_pos hk', eB, if_pos h3, if_neg (fun h => h4 (hcl.symm.trans h.1))]
          have e2 : addFl f m aft (cat h l) b' = 0 := by
            unfold addFl; rw [if_pos hk', eF, if_pos h3, if_neg (fun h => h4 (hcl.symm.trans h.1))]
          rw [e1, e2]
          exact add18_inf f m h l h' l' _ _ _ _ aft q _ _ _ _ w hf hm (Lib.hid rfl) (Lib.hid rfl) (Lib.hid rfl) (Lib.hid rfl) rfl hp0 (Lib.hid rfl) (Lib.hid rfl) (Or.inr (Or.inl ⟨beq_iff_eq.2 h3, beq_eq_false_iff_ne.2 h4, rfl⟩))
      · by_cases h4 : classF f (cat h' l') = 3
        · have e1 : addB f m (cat h l) b' = makeF f (sgnF f b') (2 * emaxS f + 1) 0 := by
            unfold addB; rw [if_pos hk', eB, if_neg h3, if_pos (hcl.trans h4)]
          have e2 : addFl f m aft (cat h l) b' = 0 := by
            unfold addFl; rw [if_pos hk', eF, if_neg h3, if_pos (hcl.trans h4)]
          rw [e1, e2]
          exact add18_inf f m h l h' l' _ _ _ _ aft q _ _ _ _ w hf hm (Lib.hid rfl) (Lib.hid rfl) (Lib.hid rfl) (Lib.hid rfl) rfl hp0 (Lib.hid rfl) (Lib.hid rfl) (Or.inl ⟨beq_eq_false_iff_ne.2 h3, beq_iff_eq.2 h4, b1.symm⟩)
        · refine add18_fin f m h l h' l' _ _ _ _ _ _ _ aft q _ _ _ _ _ w hf hm (Lib.hid rfl) (Lib.hid rfl) (Lib.hid rfl) (Lib.hid rfl) rfl hp0 (beq_eq_false_iff_ne.2 h3) (beq_eq_false_iff_ne.2 h4) (Lib.hid rfl) (Lib.hid rfl) (Lib.hid rfl) (Lib.hid rfl) (fun W u v hW hu hv => ?_)
          have hS := signed_all f m aft (cat h l) b' hf hm (by omega) (by omega) W u v hW hu (by rw [b2]; exact hv)
          rw [b1, b2, b3] at hS
          exact hS
  · have e1 : addB f m (cat h l) b' = 0 := by unfold addB; rw [if_neg hk]
    have e2 : addFl f m aft (cat h l) b' = 0 := by unfold addFl; rw [if_neg hk]
    rw [e1, e2]
    exact add18_none f m h l h' l' aft q w hk
theorem ref18_Add (f m h l h' l' : Int) (aft : Bool) [hU : U8 f] [hM : U8 m] [U64 h] [U64 l] [U64 h'] [U64 l'] (w : World) [hLay : Laid w] :
    Calls Tryz.prog 13 #[.int .u8 f, .agg #[.int .u8 m, .bool aft], .agg #[.int .u64 (h), .int .u64 (l)], .agg #[.int .u64 (h'), .int .u64 (l')], .bool false] w fun en w' => en = .returned (.agg #[.int .u64 (hi (addB f m (cat h l) (cat h' l'))), .int .u64 (lo (addB f m (cat h l) (cat h' l'))), .int .u8 (addFl f m aft (cat h l) (cat h' l'))]) ∧ Below w.heap.size w w' :=
  ref18_all f m h l h' l' aft false (cat h' l') w (fun _ => rfl) (fun _ => rfl) (fun _ _ => ⟨by cases sgnF f (cat h' l') <;> rfl, rfl, rfl⟩)
end Go.Proofs.YtkpjeceofcfnkaaGreatDoor
