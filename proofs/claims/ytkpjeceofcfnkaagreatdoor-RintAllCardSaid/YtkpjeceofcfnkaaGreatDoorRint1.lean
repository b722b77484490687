/- The contracts of package rint (whole, Rint, Whole): for every input. Condition: the listed table is laid. -/
import Derived.Test.YtkpjeceofcfnkaaGreatDoorNan2
import Derived.Test.YtkpjeceofcfnkaaGreatDoorPack6
import Derived.Test.YtkpjeceofcfnkaaGreatDoorMode
import Derived.Test.YtkpjeceofcfnkaaGreatDoorTurn
import Derived.Test.YtkpjeceofcfnkaaGreatDoorWholes
set_option linter.unusedSimpArgs false
set_option linter.unusedVariables false
namespace Go.Proofs.YtkpjeceofcfnkaaGreatDoor
open Go.RowKit Go.Hb
set_option maxRecDepth 100000 in
set_option maxHeartbeats 4000000 in
theorem kept_n (c e h l j0 j1 j2 j3 : Int) (neg : Bool) (b : Nat) [U64 h] [U64 l] [U64 j0] [U64 j1] [U64 j2] [U64 j3] (w : World) [hLay : Laid w] (he : e < 0) (he2 : -100000 ≤ e)
    (c0 : w.cell? ⟨b, 0, none⟩ = some (.bool neg)) (c1 : w.cell? ⟨b, 1, none⟩ = some (.int .u8 c)) (c2 : w.cell? ⟨b, 2, none⟩ = some (.int .i64 e)) (c3 : w.cell? ⟨b, 3, none⟩ = some (.int .u64 h)) (c4 : w.cell? ⟨b, 4, none⟩ = some (.int .u64 l))
    (x0 : Hid (lo (jamS (cat4 0 0 l h) (-e - 1)) = j0)) (x1 : Hid (w1 (jamS (cat4 0 0 l h) (-e - 1)) = j1)) (x2 : Hid (w2 (jamS (cat4 0 0 l h) (-e - 1)) = j2)) (x3 : Hid (w3 (jamS (cat4 0 0 l h) (-e - 1)) = j3)) :
    Calls Tryz.prog 75 #[.pointer (some ⟨b, 0, none⟩)] w fun en w' => en = .returned (.tuple #[.agg #[.int .u64 (j0), .int .u64 (j1), .int .u64 (j2), .int .u64 (j3)], .int .i64 0]) ∧ Below w.heap.size w w' := by
  have sb : b < w.heap.size := World.block_lt_of_cell? w _ c0
  have hd : decide (e < 0) = true := decide_eq_true he
  have hw1 : IntKind.i64.wrap (-e) = -e := wrap_in _ (by omega) (by omega)
  have hw2 : IntKind.i64.wrap (-e - 1) = -e - 1 := wrap_in _ (by omega) (by omega)
  clear he he2
  go_enter Tryz.func75, Tryz.ntmps75
  skip
  (go_wp2_with fail; refine (wide_Join _ _ _ _ _).mono ?_; rintro en v1 ⟨rfl, hB_v1⟩; have lay_v1 := laid_after hB_v1; have cc1 := cl hB_v1 (show World.cell? _ ⟨b, 0, none⟩ = some (.bool neg) by go_simp); have cc2 := cl hB_v1 (show World.cell? _ ⟨b, 1, none⟩ = some (.int .u8 c) by go_simp); have cc3 := cl hB_v1 (show World.cell? _ ⟨b, 2, none⟩ = some (.int .i64 e) by go_simp); have cc4 := cl hB_v1 (show World.cell? _ ⟨b, 3, none⟩ = some (.int .u64 h) by go_simp); have cc5 := cl hB_v1 (show World.cell? _ ⟨b, 4, none⟩ = some (.int .u64 l) by go_simp); obtain ⟨cc6, fcc6⟩ := pf hB_v1 (show World.cell? _ ⟨w.heap.size, 0, none⟩ = some (.int .u64 0) by go_simp) (by go_simp); obtain ⟨cc7, fcc7⟩ := pf hB_v1 (show World.cell? _ ⟨w.heap.size, 1, none⟩ = some (.int .u64 0) by go_simp) (by go_simp); obtain ⟨cc8, fcc8⟩ := pf hB_v1 (show World.cell? _ ⟨w.heap.size, 2, none⟩ = some (.int .u64 0) by go_simp) (by go_simp); obtain ⟨cc9, fcc9⟩ := pf hB_v1 (show World.cell? _ ⟨w.heap.size, 3, none⟩ = some (.int .u64 0) by go_simp) (by go_simp); have hs_v1 := hB_v1.size; (try simp only [World.size_alloc, World.size_setCell, World.size_drew] at hs_v1); have hBW : Below w.heap.size w v1 := below_after (w := w) (by go_grown) hB_v1; have hn_v1 := an (nl cc1) (nl cc6); clear hB_v1)
  (go_wp2_with fail; refine (shift_WideJam _ _ _ _ _ _).mono ?_; rw [x0.out, x1.out, x2.out, x3.out]; rintro en v2 ⟨rfl, hB_v2⟩; have lay_v2 := laid_after hB_v2; have hG := cell_grown cc1 (by go_grown) hB_v2; replace cc1 := cl hG cc1; replace cc2 := cl hG cc2; replace cc3 := cl hG cc3; replace cc4 := cl hG cc4; replace cc5 := cl hG cc5; replace fcc6 := fl hG fcc6 cc6; replace cc6 := cl hG cc6; replace fcc7 := fl hG fcc7 cc7; replace cc7 := cl hG cc7; replace fcc8 := fl hG fcc8 cc8; replace cc8 := cl hG cc8; replace fcc9 := fl hG fcc9 cc9; replace cc9 := cl hG cc9; have cc10 := cl hB_v2 (show World.cell? _ ⟨v1.heap.size, 0, none⟩ = some (.int .u64 0) by go_simp); have cc11 := cl hB_v2 (show World.cell? _ ⟨v1.heap.size, 1, none⟩ = some (.int .u64 0) by go_simp); have cc12 := cl hB_v2 (show World.cell? _ ⟨v1.heap.size, 2, none⟩ = some (.int .u64 l) by go_simp); have cc13 := cl hB_v2 (show World.cell? _ ⟨v1.heap.size, 3, none⟩ = some (.int .u64 h) by go_simp); have hs_v2 := hG.size; clear hG; replace hBW : Below w.heap.size w v2 := below_after (w := w) (by go_grown) hB_v2; have hn_v2 := an (nl cc1) (an (nl cc6) (nl cc10)); clear hB_v2)
  go_wp2_with fail
  refine bodyPost_ret (by simp [results, Tryz.results75, go_sem, cc6, cc7, cc8, cc9]; try rfl) rfl ?_
  exact ⟨rfl, by go_grown⟩
set_option maxRecDepth 100000 in
set_option maxHeartbeats 4000000 in
theorem kept_p (c e h l : Int) (neg : Bool) (b : Nat) [U64 h] [U64 l] (w : World) [hLay : Laid w] (he : ¬ e < 0) (he2 : e ≤ 100000)
    (c0 : w.cell? ⟨b, 0, none⟩ = some (.bool neg)) (c1 : w.cell? ⟨b, 1, none⟩ = some (.int .u8 c)) (c2 : w.cell? ⟨b, 2, none⟩ = some (.int .i64 e)) (c3 : w.cell? ⟨b, 3, none⟩ = some (.int .u64 h)) (c4 : w.cell? ⟨b, 4, none⟩ = some (.int .u64 l)) :
    Calls Tryz.prog 75 #[.pointer (some ⟨b, 0, none⟩)] w fun en w' => en = .returned (.tuple #[.agg #[.int .u64 (0), .int .u64 (0), .int .u64 (l), .int .u64 (h)], .int .i64 (e + 1)]) ∧ Below w.heap.size w w' := by
  have sb : b < w.heap.size := World.block_lt_of_cell? w _ c0
  have hd : decide (e < 0) = false := decide_eq_false he
  have hw1 : IntKind.i64.wrap (e + 1) = e + 1 := wrap_in _ (by omega) (by omega)
  clear he he2
  go_enter Tryz.func75, Tryz.ntmps75
  skip
  (go_wp2_with fail; refine (wide_Join _ _ _ _ _).mono ?_; rintro en v1 ⟨rfl, hB_v1⟩; have lay_v1 := laid_after hB_v1; have cc1 := cl hB_v1 (show World.cell? _ ⟨b, 0, none⟩ = some (.bool neg) by go_simp); have cc2 := cl hB_v1 (show World.cell? _ ⟨b, 1, none⟩ = some (.int .u8 c) by go_simp); have cc3 := cl hB_v1 (show World.cell? _ ⟨b, 2, none⟩ = some (.int .i64 e) by go_simp); have cc4 := cl hB_v1 (show World.cell? _ ⟨b, 3, none⟩ = some (.int .u64 h) by go_simp); have cc5 := cl hB_v1 (show World.cell? _ ⟨b, 4, none⟩ = some (.int .u64 l) by go_simp); obtain ⟨cc6, fcc6⟩ := pf hB_v1 (show World.cell? _ ⟨w.heap.size, 0, none⟩ = some (.int .u64 0) by go_simp) (by go_simp); obtain ⟨cc7, fcc7⟩ := pf hB_v1 (show World.cell? _ ⟨w.heap.size, 1, none⟩ = some (.int .u64 0) by go_simp) (by go_simp); obtain ⟨cc8, fcc8⟩ := pf hB_v1 (show World.cell? _ ⟨w.heap.size, 2, none⟩ = some (.int .u64 0) by go_simp) (by go_simp); obtain ⟨cc9, fcc9⟩ := pf hB_v1 (show World.cell? _ ⟨w.heap.size, 3, none⟩ = some (.int .u64 0) by go_simp) (by go_simp); have hs_v1 := hB_v1.size; (try simp only [World.size_alloc, World.size_setCell, World.size_drew] at hs_v1); have hBW : Below w.heap.size w v1 := below_after (w := w) (by go_grown) hB_v1; have hn_v1 := an (nl cc1) (nl cc6); clear hB_v1)
  go_upto_region 4 with fail
  ((first | refine wp_rename ?_ | refine goal_rename ?_); intro W4 hw_W4; have hG := named cc1 W4 (by rw [hw_W4]; first | with_reducible exact drewN_below (Below.refl _ _) _ | go_grown); replace cc1 := cl hG cc1; replace cc2 := cl hG cc2; replace cc3 := cl hG cc3; replace cc4 := cl hG cc4; replace cc5 := cl hG cc5; replace fcc6 := fl hG fcc6 cc6; replace cc6 := cl hG cc6; replace fcc7 := fl hG fcc7 cc7; replace cc7 := cl hG cc7; replace fcc8 := fl hG fcc8 cc8; replace cc8 := cl hG cc8; replace fcc9 := fl hG fcc9 cc9; replace cc9 := cl hG cc9; have cc10 : W4.cell? ⟨v1.heap.size, 0, none⟩ = some (.int .u64 0) := (by rw [hw_W4]; go_simp); have cc11 : W4.cell? ⟨v1.heap.size, 1, none⟩ = some (.int .u64 0) := (by rw [hw_W4]; go_simp); have cc12 : W4.cell? ⟨v1.heap.size, 2, none⟩ = some (.int .u64 l) := (by rw [hw_W4]; go_simp); have cc13 : W4.cell? ⟨v1.heap.size, 3, none⟩ = some (.int .u64 h) := (by rw [hw_W4]; go_simp); replace hBW := below_after hBW hG; have hs_W4 := hG.size; clear hG; have hn_W4 := an (nl cc1) (an (nl cc6) (nl cc10)); have lay_W4 : Laid W4 := Laid.below (w := w) (by assumption) hBW; clear hw_W4)
  go_region
  skip
  skip
  skip
  skip
  all_goals ((first | refine wp_rename ?_ | refine goal_rename ?_); intro W5 hw_W5; replace cc1 := rn hw_W5 cc1 (by go_simp); replace cc2 := rn hw_W5 cc2 (by go_simp); replace cc3 := rn hw_W5 cc3 (by go_simp); replace cc4 := rn hw_W5 cc4 (by go_simp); replace cc5 := rn hw_W5 cc5 (by go_simp); replace cc6 : W5.cell? ⟨w.heap.size, 0, none⟩ = some (.int .u64 0) := (by rw [hw_W5]; go_simp); replace fcc6 := rf hw_W5 fcc6 (by go_simp); replace cc7 : W5.cell? ⟨w.heap.size, 1, none⟩ = some (.int .u64 0) := (by rw [hw_W5]; go_simp); replace fcc7 := rf hw_W5 fcc7 (by go_simp); replace cc8 : W5.cell? ⟨w.heap.size, 2, none⟩ = some (.int .u64 l) := (by rw [hw_W5]; go_simp); replace fcc8 := rf hw_W5 fcc8 (by go_simp); replace cc9 : W5.cell? ⟨w.heap.size, 3, none⟩ = some (.int .u64 h) := (by rw [hw_W5]; go_simp); replace fcc9 := rf hw_W5 fcc9 (by go_simp); replace cc10 := rn hw_W5 cc10 (by go_simp); replace cc11 := rn hw_W5 cc11 (by go_simp); replace cc12 := rn hw_W5 cc12 (by go_simp); replace cc13 := rn hw_W5 cc13 (by go_simp); replace hBW : Below w.heap.size w W5 := (by rw [hw_W5]; (first | with_reducible exact drewN_below (by assumption) _ | go_grown)); have hn_W5 := an (nl cc1) (an (nl cc6) (nl cc10)); have lay_W5 : Laid W5 := Laid.below (w := w) (by assumption) hBW; clear hw_W5)
  all_goals go_wp2_with fail
  all_goals refine bodyPost_ret (by simp [results, Tryz.results75, go_sem, cc6, cc7, cc8, cc9]; try rfl) rfl ?_
  all_goals exact ⟨rfl, by go_grown⟩
set_option maxRecDepth 100000 in
set_option maxHeartbeats 4000000 in
theorem rwhole_n (c e h l m n0 n1 j0 j1 j2 j3 : Int) (neg io : Bool) [U64 h] [U64 l] [U64 j0] [U64 j1] [U64 j2] [U64 j3] (w : World) [hLay : Laid w] (he : e < 0) (he2 : -100000 ≤ e) (m0 : 0 ≤ m) (m1 : m ≤ 4)
    (x0 : Hid (lo (jamS (cat4 0 0 l h) (-e - 1)) = j0)) (x1 : Hid (w1 (jamS (cat4 0 0 l h) (-e - 1)) = j1)) (x2 : Hid (w2 (jamS (cat4 0 0 l h) (-e - 1)) = j2)) (x3 : Hid (w3 (jamS (cat4 0 0 l h) (-e - 1)) = j3))
    (e1 : Hid (hi (cutS (cat4 j0 j1 j2 j3) 0 m neg) = n1)) (e2 : Hid (lo (cutS (cat4 j0 j1 j2 j3) 0 m neg) = n0)) (e3 : Hid (inexS (cat4 j0 j1 j2 j3) 0 = io)) :
    Calls Tryz.prog 33 #[.agg #[.bool neg, .int .u8 c, .int .i64 e, .int .u64 h, .int .u64 l], .int .u8 m] w fun en w' => en = .returned (.tuple #[.agg #[.int .u64 (n1), .int .u64 (n0)], .bool io]) ∧ Below w.heap.size w w' := by
  go_enter Tryz.func33, Tryz.ntmps33
  skip
  go_upto_region 2 with fail
  ((first | refine wp_rename ?_ | refine goal_rename ?_); intro W2 hw_W2; have cc1 : W2.cell? ⟨w.heap.size, 0, none⟩ = some (.bool neg) := (by rw [hw_W2]; go_simp); have cc2 : W2.cell? ⟨w.heap.size, 1, none⟩ = some (.int .u8 c) := (by rw [hw_W2]; go_simp); have cc3 : W2.cell? ⟨w.heap.size, 2, none⟩ = some (.int .i64 e) := (by rw [hw_W2]; go_simp); have cc4 : W2.cell? ⟨w.heap.size, 3, none⟩ = some (.int .u64 h) := (by rw [hw_W2]; go_simp); have cc5 : W2.cell? ⟨w.heap.size, 4, none⟩ = some (.int .u64 l) := (by rw [hw_W2]; go_simp); have cc6 : W2.cell? ⟨w.heap.size + 1, 0, none⟩ = some (.int .u64 0) := (by rw [hw_W2]; go_simp); have fcc6 : W2.frozen? ⟨w.heap.size + 1, 0, none⟩ = false := (by rw [hw_W2]; go_simp); have cc7 : W2.cell? ⟨w.heap.size + 1, 1, none⟩ = some (.int .u64 0) := (by rw [hw_W2]; go_simp); have fcc7 : W2.frozen? ⟨w.heap.size + 1, 1, none⟩ = false := (by rw [hw_W2]; go_simp); have hBW : Below w.heap.size w W2 := (by rw [hw_W2]; (first | with_reducible exact drewN_below (by assumption) _ | go_grown)); have hn_W2 := an (nl cc1) (nl cc6); have lay_W2 : Laid W2 := Laid.below (w := w) (by assumption) hBW; clear hw_W2)
  (go_wp2_with fail; refine (kept_n c e h l _ _ _ _ neg w.heap.size _ he he2 (by assumption) (by assumption) (by assumption) (by assumption) (by assumption) x0 x1 x2 x3).mono ?_; rintro en v1 ⟨rfl, hB_v1⟩; have lay_v1 := laid_after hB_v1; have hG := cell_grown cc1 (by go_grown) hB_v1; replace cc1 := cl hG cc1; replace cc2 := cl hG cc2; replace cc3 := cl hG cc3; replace cc4 := cl hG cc4; replace cc5 := cl hG cc5; replace fcc6 := fl hG fcc6 cc6; replace cc6 := cl hG cc6; replace fcc7 := fl hG fcc7 cc7; replace cc7 := cl hG cc7; have hs_v1 := hG.size; clear hG; replace hBW : Below w.heap.size w v1 := below_after (w := w) (by go_grown) hB_v1; have hn_v1 := an (nl cc1) (nl cc6); clear hB_v1)
  (go_wp2_with fail; refine (round_Cut _ _ _ _ _ _ _ _ (by decide) (by decide) m0 m1).mono ?_; rw [e1.out, e2.out, e3.out]; rintro en v2 ⟨rfl, hB_v2⟩; have lay_v2 := laid_after hB_v2; have hG := cell_grown cc1 (by go_grown) hB_v2; replace cc1 := cl hG cc1; replace cc2 := cl hG cc2; replace cc3 := cl hG cc3; replace cc4 := cl hG cc4; replace cc5 := cl hG cc5; replace fcc6 := fl hG fcc6 cc6; replace cc6 := cl hG cc6; replace fcc7 := fl hG fcc7 cc7; replace cc7 := cl hG cc7; have cc8 := cl hB_v2 (show World.cell? _ ⟨v1.heap.size, 0, none⟩ = some (.int .u64 j0) by go_simp); have cc9 := cl hB_v2 (show World.cell? _ ⟨v1.heap.size, 1, none⟩ = some (.int .u64 j1) by go_simp); have cc10 := cl hB_v2 (show World.cell? _ ⟨v1.heap.size, 2, none⟩ = some (.int .u64 j2) by go_simp); have cc11 := cl hB_v2 (show World.cell? _ ⟨v1.heap.size, 3, none⟩ = some (.int .u64 j3) by go_simp); have hs_v2 := hG.size; clear hG; replace hBW : Below w.heap.size w v2 := below_after (w := w) (by go_grown) hB_v2; have hn_v2 := an (nl cc1) (an (nl cc6) (nl cc8)); clear hB_v2)
  go_wp2_with fail
  refine bodyPost_ret (by simp [results, Tryz.results33, go_sem, cc6, cc7]; try rfl) rfl ?_
  exact ⟨rfl, by go_grown⟩
set_option maxRecDepth 100000 in
set_option maxHeartbeats 4000000 in
theorem rwhole_p (c e h l m n0 n1 : Int) (neg io : Bool) [U64 h] [U64 l] (w : World) [hLay : Laid w] (he : ¬ e < 0) (he2 : e ≤ 126) (m0 : 0 ≤ m) (m1 : m ≤ 4)
    (e1 : Hid (hi (cutS (cat4 0 0 l h) (e + 1) m neg) = n1)) (e2 : Hid (lo (cutS (cat4 0 0 l h) (e + 1) m neg) = n0)) (e3 : Hid (inexS (cat4 0 0 l h) (e + 1) = io)) :
    Calls Tryz.prog 33 #[.agg #[.bool neg, .int .u8 c, .int .i64 e, .int .u64 h, .int .u64 l], .int .u8 m] w fun en w' => en = .returned (.tuple #[.agg #[.int .u64 (n1), .int .u64 (n0)], .bool io]) ∧ Below w.heap.size w w' := by
  have q0 : 0 ≤ e + 1 := by omega
  have q1 : e + 1 ≤ 127 := by omega
  have q2 : e ≤ 100000 := by omega
  clear he2
  go_enter Tryz.func33, Tryz.ntmps33
  skip
  go_upto_region 2 with fail
  ((first | refine wp_rename ?_ | refine goal_rename ?_); intro W2 hw_W2; have cc1 : W2.cell? ⟨w.heap.size, 0, none⟩ = some (.bool neg) := (by rw [hw_W2]; go_simp); have cc2 : W2.cell? ⟨w.heap.size, 1, none⟩ = some (.int .u8 c) := (by rw [hw_W2]; go_simp); have cc3 : W2.cell? ⟨w.heap.size, 2, none⟩ = some (.int .i64 e) := (by rw [hw_W2]; go_simp); have cc4 : W2.cell? ⟨w.heap.size, 3, none⟩ = some (.int .u64 h) := (by rw [hw_W2]; go_simp); have cc5 : W2.cell? ⟨w.heap.size, 4, none⟩ = some (.int .u64 l) := (by rw [hw_W2]; go_simp); have cc6 : W2.cell? ⟨w.heap.size + 1, 0, none⟩ = some (.int .u64 0) := (by rw [hw_W2]; go_simp); have fcc6 : W2.frozen? ⟨w.heap.size + 1, 0, none⟩ = false := (by rw [hw_W2]; go_simp); have cc7 : W2.cell? ⟨w.heap.size + 1, 1, none⟩ = some (.int .u64 0) := (by rw [hw_W2]; go_simp); have fcc7 : W2.frozen? ⟨w.heap.size + 1, 1, none⟩ = false := (by rw [hw_W2]; go_simp); have hBW : Below w.heap.size w W2 := (by rw [hw_W2]; (first | with_reducible exact drewN_below (by assumption) _ | go_grown)); have hn_W2 := an (nl cc1) (nl cc6); have lay_W2 : Laid W2 := Laid.below (w := w) (by assumption) hBW; clear hw_W2)
  (go_wp2_with fail; refine (kept_p c e h l neg w.heap.size _ (by omega) q2 (by assumption) (by assumption) (by assumption) (by assumption) (by assumption)).mono ?_; rintro en v1 ⟨rfl, hB_v1⟩; have lay_v1 := laid_after hB_v1; have hG := cell_grown cc1 (by go_grown) hB_v1; replace cc1 := cl hG cc1; replace cc2 := cl hG cc2; replace cc3 := cl hG cc3; replace cc4 := cl hG cc4; replace cc5 := cl hG cc5; replace fcc6 := fl hG fcc6 cc6; replace cc6 := cl hG cc6; replace fcc7 := fl hG fcc7 cc7; replace cc7 := cl hG cc7; have hs_v1 := hG.size; clear hG; replace hBW : Below w.heap.size w v1 := below_after (w := w) (by go_grown) hB_v1; have hn_v1 := an (nl cc1) (nl cc6); clear hB_v1)
  (go_wp2_with fail; refine (round_Cut _ _ _ _ _ _ _ _ q0 q1 m0 m1).mono ?_; rw [e1.out, e2.out, e3.out]; rintro en v2 ⟨rfl, hB_v2⟩; have lay_v2 := laid_after hB_v2; have hG := cell_grown cc1 (by go_grown) hB_v2; replace cc1 := cl hG cc1; replace cc2 := cl hG cc2; replace cc3 := cl hG cc3; replace cc4 := cl hG cc4; replace cc5 := cl hG cc5; replace fcc6 := fl hG fcc6 cc6; replace cc6 := cl hG cc6; replace fcc7 := fl hG fcc7 cc7; replace cc7 := cl hG cc7; have cc8 := cl hB_v2 (show World.cell? _ ⟨v1.heap.size, 0, none⟩ = some (.int .u64 0) by go_simp); have cc9 := cl hB_v2 (show World.cell? _ ⟨v1.heap.size, 1, none⟩ = some (.int .u64 0) by go_simp); have cc10 := cl hB_v2 (show World.cell? _ ⟨v1.heap.size, 2, none⟩ = some (.int .u64 l) by go_simp); have cc11 := cl hB_v2 (show World.cell? _ ⟨v1.heap.size, 3, none⟩ = some (.int .u64 h) by go_simp); have hs_v2 := hG.size; clear hG; replace hBW : Below w.heap.size w v2 := below_after (w := w) (by go_grown) hB_v2; have hn_v2 := an (nl cc1) (an (nl cc6) (nl cc8)); clear hB_v2)
  go_wp2_with fail
  refine bodyPost_ret (by simp [results, Tryz.results33, go_sem, cc6, cc7]; try rfl) rfl ?_
  exact ⟨rfl, by go_grown⟩
theorem rint_whole (c e h l m : Int) (neg : Bool) [U64 h] [U64 l] (w : World) [hLay : Laid w] (he : -100000 ≤ e) (he2 : e ≤ 126) (m0 : 0 ≤ m) (m1 : m ≤ 4) :
    Calls Tryz.prog 33 #[.agg #[.bool neg, .int .u8 c, .int .i64 e, .int .u64 h, .int .u64 l], .int .u8 m] w fun en w' => en = .returned (.tuple #[.agg #[.int .u64 (hi (whN e m neg (cat h l))), .int .u64 (lo (whN e m neg (cat h l)))], .bool (whI e (cat h l))]) ∧ Below w.heap.size w w' := by
  have hv : cat h l * 2 ^ 128 < 2 ^ 256 := up128_lt (cat h l) (by rw [two128]; exact cat_lt h l)
  have hj : cat4 0 0 l h = cat h l * 2 ^ 128 := cat4_join h l
  by_cases hn : e < 0
  · have e1 : whN e m neg (cat h l) = cutS (jamS (cat h l * 2 ^ 128) (-e - 1)) 0 m neg := by unfold whN; rw [if_pos hn]
    have e2 : whI e (cat h l) = inexS (jamS (cat h l * 2 ^ 128) (-e - 1)) 0 := by unfold whI; rw [if_pos hn]
    have hc := jamS_cat (cat h l * 2 ^ 128) (-e - 1) hv
    rw [e1, e2]
    exact rwhole_n c e h l m _ _ _ _ _ _ neg _ w hn he m0 m1 (Lib.hid rfl) (Lib.hid rfl) (Lib.hid rfl) (Lib.hid rfl) (Lib.hid (by rw [hj, hc])) (Lib.hid (by rw [hj, hc])) (Lib.hid (by rw [hj, hc]))
  · have e1 : whN e m neg (cat h l) = cutS (cat h l * 2 ^ 128) (e + 1) m neg := by unfold whN; rw [if_neg hn]
    have e2 : whI e (cat h l) = inexS (cat h l * 2 ^ 128) (e + 1) := by unfold whI; rw [if_neg hn]
    rw [e1, e2]
    exact rwhole_p c e h l m _ _ neg _ w hn he2 m0 m1 (Lib.hid (by rw [hj])) (Lib.hid (by rw [hj])) (Lib.hid (by rw [hj]))
end Go.Proofs.YtkpjeceofcfnkaaGreatDoor
