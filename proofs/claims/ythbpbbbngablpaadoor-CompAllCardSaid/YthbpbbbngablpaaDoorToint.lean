/- The contracts of package toint: for every input. Condition: the listed tables are laid. -/
import Derived.Test.YthbpbbbngablpaaDoorUnpack
import Derived.Test.YthbpbbbngablpaaDoorRound
import Derived.Test.YthbpbbbngablpaaDoorMode
import Derived.Test.YthbpbbbngablpaaDoorLin
import Derived.Test.YthbpbbbngablpaaDoorRdef
import Derived.Test.YthbpbbbngablpaaDoorWholes
set_option linter.unusedSimpArgs false
set_option linter.unusedVariables false
namespace Go.Proofs.YthbpbbbngablpaaDoor
open Go.RowKit Go.Hb
class LaidE (w : World) : Prop where
  c0 : w.cell? ⟨0, 0, none⟩ = some (.int .u64 2147483648)
  c1 : w.cell? ⟨0, 1, none⟩ = some (.int .u64 2147483647)
  c2 : w.cell? ⟨0, 2, none⟩ = some (.int .u64 0)
  c3 : w.cell? ⟨0, 3, none⟩ = some (.int .u64 4294967295)
  c4 : w.cell? ⟨0, 4, none⟩ = some (.int .u64 9223372036854775808)
  c5 : w.cell? ⟨0, 5, none⟩ = some (.int .u64 9223372036854775807)
  c6 : w.cell? ⟨0, 6, none⟩ = some (.int .u64 0)
  c7 : w.cell? ⟨0, 7, none⟩ = some (.int .u64 18446744073709551615)
theorem LaidE.below {w w' : World} (h : LaidE w) (hb : Below w.heap.size w w') : LaidE w' :=
  ⟨cell_later hb h.c0, cell_later hb h.c1, cell_later hb h.c2, cell_later hb h.c3, cell_later hb h.c4, cell_later hb h.c5, cell_later hb h.c6, cell_later hb h.c7⟩
instance laidE_alloc (w : World) (o : Obj) [h : LaidE w] : LaidE (w.alloc o) := h.below ((Below.refl _ _).alloc (Nat.le_refl _) _)
instance laidE_drew (w : World) [h : LaidE w] : LaidE w.drew := h.below (Below.refl _ _).drew
theorem laidE_after {W w1 : World} [h : LaidE W] (hB : Below W.heap.size W w1) : LaidE w1 := h.below hB
def leastK (k : Int) : Int := if k = 0 then 2147483648 else if k = 2 then 9223372036854775808 else 0
def mostK (k : Int) : Int := if k = 0 then 2147483647 else if k = 1 then 4294967295 else if k = 2 then 9223372036854775807 else if k = 3 then 18446744073709551615 else 0
instance u64_leastK (k : Int) : U64 (leastK k) := by constructor <;> (unfold leastK; repeat' split) <;> omega
instance u64_mostK (k : Int) : U64 (mostK k) := by constructor <;> (unfold mostK; repeat' split) <;> omega
theorem toint_KnownE (k : Int) [h : U8 k] (w : World) :
    Calls Tryd.prog 33 #[.int .u8 k] w fun e w' => e = .returned (.bool (decide (k < 4))) ∧ Below w.heap.size w w' := by
  have h0 := h.ge
  have h1 := h.le
  go_enter Tryd.func33, Tryd.ntmps33
  go_wp2
  go_returns
  exact ⟨ret_bool rfl, by go_grown⟩
@[go_sem] theorem sizes0 (a b : Int) (W : World) : (Instr.field 70 (.agg #[.int .u64 a, .int .u64 b]) 0).run Tryd.prog W = .ok (.int .u64 a) W := by kernel_rfl
@[go_sem] theorem sizes1 (a b : Int) (W : World) : (Instr.field 70 (.agg #[.int .u64 a, .int .u64 b]) 1).run Tryd.prog W = .ok (.int .u64 b) W := by kernel_rfl
set_option maxRecDepth 100000 in
theorem toint_of (k : Int) [h : U8 k] (w : World) [hLay : Laid w] [hL : LaidE w] :
    Calls Tryd.prog 36 #[.int .u8 k] w fun e w' => e = .returned (.agg #[.int .u64 (leastK k), .int .u64 (mostK k)]) ∧ Below w.heap.size w w' := by
  have h0 := h.ge
  have hz : 0 < w.heap.size := World.block_lt_of_cell? w _ hL.c0
  have := hL.c0; have := hL.c1; have := hL.c2; have := hL.c3; have := hL.c4; have := hL.c5; have := hL.c6; have := hL.c7
  have : 4 ≤ k ∨ k = 0 ∨ k = 1 ∨ k = 2 ∨ k = 3 := by omega
  rcases this with hm | rfl | rfl | rfl | rfl
  · have hd : decide (k < 4) = false := by simp; omega
    have e1 : leastK k = 0 := by unfold leastK; rw [if_neg (by omega), if_neg (by omega)]
    have e2 : mostK k = 0 := by unfold mostK; rw [if_neg (by omega), if_neg (by omega), if_neg (by omega), if_neg (by omega)]
    rw [e1, e2]
    go_enter Tryd.func36, Tryd.ntmps36
    skip
    (go_wp2_with fail; refine (toint_KnownE _ _).mono ?_; rintro en v1 ⟨rfl, hB_v1⟩; have lay_v1 := laid_after hB_v1; (try have layE_v1 := laidE_after hB_v1); obtain ⟨cc1, fcc1⟩ := pf hB_v1 (show World.cell? _ ⟨w.heap.size, 0, none⟩ = some (.int .u64 0) by go_simp) (by go_simp); obtain ⟨cc2, fcc2⟩ := pf hB_v1 (show World.cell? _ ⟨w.heap.size, 1, none⟩ = some (.int .u64 0) by go_simp) (by go_simp); have hs_v1 := hB_v1.size; (try simp only [World.size_alloc, World.size_setCell, World.size_drew] at hs_v1); have hBW : Below w.heap.size w v1 := below_after (w := w) (by go_grown) hB_v1; have hn_v1 := nl cc1; clear hB_v1)
    go_wp2_with fail
    refine bodyPost_ret (by simp [results, Tryd.results36, go_sem, cc1, cc2]; try rfl) rfl ?_
    exact ⟨rfl, by go_grown⟩
  all_goals go_enter Tryd.func36, Tryd.ntmps36
  all_goals skip
  all_goals (go_wp2_with fail; refine (toint_KnownE _ _).mono ?_; rintro en v2 ⟨rfl, hB_v2⟩; have lay_v2 := laid_after hB_v2; (try have layE_v2 := laidE_after hB_v2); obtain ⟨cc1, fcc1⟩ := pf hB_v2 (show World.cell? _ ⟨w.heap.size, 0, none⟩ = some (.int .u64 0) by go_simp) (by go_simp); obtain ⟨cc2, fcc2⟩ := pf hB_v2 (show World.cell? _ ⟨w.heap.size, 1, none⟩ = some (.int .u64 0) by go_simp) (by go_simp); have hs_v2 := hB_v2.size; (try simp only [World.size_alloc, World.size_setCell, World.size_drew] at hs_v2); have hBW : Below w.heap.size w v2 := below_after (w := w) (by go_grown) hB_v2; have hn_v2 := nl cc1; clear hB_v2)
  all_goals (have l0 := layE_v2.c0; have l1 := layE_v2.c1; have l2 := layE_v2.c2; have l3 := layE_v2.c3; have l4 := layE_v2.c4; have l5 := layE_v2.c5; have l6 := layE_v2.c6; have l7 := layE_v2.c7)
  all_goals go_wp2_with fail
  all_goals refine bodyPost_ret (by simp [results, Tryd.results36, go_sem, cc1, cc2]; try rfl) rfl ?_
  all_goals exact ⟨rfl, by go_grown⟩
set_option maxRecDepth 100000 in
theorem toint_Most (k : Int) [h : U8 k] (w : World) [hLay : Laid w] [hL : LaidE w] :
    Calls Tryd.prog 32 #[.int .u8 k] w fun e w' => e = .returned (.int .u64 (mostK k)) ∧ Below w.heap.size w w' := by
  go_enter Tryd.func32, Tryd.ntmps32
  (go_wp2_with fail; refine (toint_of _ _).mono ?_; rintro en v1 ⟨rfl, hB_v1⟩)
  go_wp2_with fail
  go_returns
  exact ⟨rfl, by go_grown⟩
set_option maxRecDepth 100000 in
set_option maxHeartbeats 2000000 in
theorem whole_far (c e h l m : Int) (neg : Bool) [U64 h] [U64 l] (w : World) [hLay : Laid w] (hk : c = 3 ∨ 64 < e) :
    Calls Tryd.prog 37 #[.agg #[.bool neg, .int .u8 c, .int .i64 e, .int .u64 h, .int .u64 l], .int .u8 m] w fun en w' => en = .returned (.tuple #[.agg #[.int .u64 (0), .int .u64 (0)], .bool false, .bool false]) ∧ Below w.heap.size w w' := by
  by_cases h3 : c = 3
  · subst h3
    clear hk
    go_enter Tryd.func37, Tryd.ntmps37
    skip
    (go_wp2_with fail; refine (wide_Join _ _ _ _ _).mono ?_; rintro en v1 ⟨rfl, hB_v1⟩; have lay_v1 := laid_after hB_v1; (try have layE_v1 := laidE_after hB_v1); have cc1 := cl hB_v1 (show World.cell? _ ⟨w.heap.size, 0, none⟩ = some (.bool neg) by go_simp); have cc2 := cl hB_v1 (show World.cell? _ ⟨w.heap.size, 1, none⟩ = some (.int .u8 3) by go_simp); have cc3 := cl hB_v1 (show World.cell? _ ⟨w.heap.size, 2, none⟩ = some (.int .i64 e) by go_simp); have cc4 := cl hB_v1 (show World.cell? _ ⟨w.heap.size, 3, none⟩ = some (.int .u64 h) by go_simp); have cc5 := cl hB_v1 (show World.cell? _ ⟨w.heap.size, 4, none⟩ = some (.int .u64 l) by go_simp); obtain ⟨cc6, fcc6⟩ := pf hB_v1 (show World.cell? _ ⟨w.heap.size + 1, 0, none⟩ = some (.int .u64 0) by go_simp) (by go_simp); obtain ⟨cc7, fcc7⟩ := pf hB_v1 (show World.cell? _ ⟨w.heap.size + 1, 1, none⟩ = some (.int .u64 0) by go_simp) (by go_simp); have hs_v1 := hB_v1.size; (try simp only [World.size_alloc, World.size_setCell, World.size_drew] at hs_v1); have hBW : Below w.heap.size w v1 := below_after (w := w) (by go_grown) hB_v1; have hn_v1 := an (nl cc1) (nl cc6); clear hB_v1)
    go_upto_region 3 with fail
    ((first | refine wp_rename ?_ | refine goal_rename ?_); intro W3 hw_W3; have hG := named cc1 W3 (by rw [hw_W3]; first | with_reducible exact drewN_below (Below.refl _ _) _ | go_grown); replace cc1 := cl hG cc1; replace cc2 := cl hG cc2; replace cc3 := cl hG cc3; replace cc4 := cl hG cc4; replace cc5 := cl hG cc5; replace fcc6 := fl hG fcc6 cc6; replace cc6 := cl hG cc6; replace fcc7 := fl hG fcc7 cc7; replace cc7 := cl hG cc7; have cc8 : W3.cell? ⟨v1.heap.size, 0, none⟩ = some (.int .u64 0) := (by rw [hw_W3]; go_simp); have cc9 : W3.cell? ⟨v1.heap.size, 1, none⟩ = some (.int .u64 0) := (by rw [hw_W3]; go_simp); have cc10 : W3.cell? ⟨v1.heap.size, 2, none⟩ = some (.int .u64 l) := (by rw [hw_W3]; go_simp); have cc11 : W3.cell? ⟨v1.heap.size, 3, none⟩ = some (.int .u64 h) := (by rw [hw_W3]; go_simp); replace hBW := below_after hBW hG; have hs_W3 := hG.size; clear hG; have hn_W3 := an (nl cc1) (an (nl cc6) (nl cc8)); have lay_W3 : Laid W3 := Laid.below (w := w) (by assumption) hBW; (try have layE_W3 : LaidE W3 := LaidE.below (w := w) (by assumption) hBW); clear hw_W3)
    go_wp2_with fail
    refine bodyPost_ret (by simp [results, Tryd.results37, go_sem, cc6, cc7]; try rfl) rfl ?_
    exact ⟨rfl, by go_grown⟩
  · have he : decide (e > 64) = true := decide_eq_true (by omega)
    have hc : (c == 3) = false := by simp; exact h3
    clear hk
    go_enter Tryd.func37, Tryd.ntmps37
    skip
    (go_wp2_with fail; refine (wide_Join _ _ _ _ _).mono ?_; rintro en v1 ⟨rfl, hB_v1⟩; have lay_v1 := laid_after hB_v1; (try have layE_v1 := laidE_after hB_v1); have cc1 := cl hB_v1 (show World.cell? _ ⟨w.heap.size, 0, none⟩ = some (.bool neg) by go_simp); have cc2 := cl hB_v1 (show World.cell? _ ⟨w.heap.size, 1, none⟩ = some (.int .u8 c) by go_simp); have cc3 := cl hB_v1 (show World.cell? _ ⟨w.heap.size, 2, none⟩ = some (.int .i64 e) by go_simp); have cc4 := cl hB_v1 (show World.cell? _ ⟨w.heap.size, 3, none⟩ = some (.int .u64 h) by go_simp); have cc5 := cl hB_v1 (show World.cell? _ ⟨w.heap.size, 4, none⟩ = some (.int .u64 l) by go_simp); obtain ⟨cc6, fcc6⟩ := pf hB_v1 (show World.cell? _ ⟨w.heap.size + 1, 0, none⟩ = some (.int .u64 0) by go_simp) (by go_simp); obtain ⟨cc7, fcc7⟩ := pf hB_v1 (show World.cell? _ ⟨w.heap.size + 1, 1, none⟩ = some (.int .u64 0) by go_simp) (by go_simp); have hs_v1 := hB_v1.size; (try simp only [World.size_alloc, World.size_setCell, World.size_drew] at hs_v1); have hBW : Below w.heap.size w v1 := below_after (w := w) (by go_grown) hB_v1; have hn_v1 := an (nl cc1) (nl cc6); clear hB_v1)
    go_upto_region 3 with fail
    ((first | refine wp_rename ?_ | refine goal_rename ?_); intro W3 hw_W3; have hG := named cc1 W3 (by rw [hw_W3]; first | with_reducible exact drewN_below (Below.refl _ _) _ | go_grown); replace cc1 := cl hG cc1; replace cc2 := cl hG cc2; replace cc3 := cl hG cc3; replace cc4 := cl hG cc4; replace cc5 := cl hG cc5; replace fcc6 := fl hG fcc6 cc6; replace cc6 := cl hG cc6; replace fcc7 := fl hG fcc7 cc7; replace cc7 := cl hG cc7; have cc8 : W3.cell? ⟨v1.heap.size, 0, none⟩ = some (.int .u64 0) := (by rw [hw_W3]; go_simp); have cc9 : W3.cell? ⟨v1.heap.size, 1, none⟩ = some (.int .u64 0) := (by rw [hw_W3]; go_simp); have cc10 : W3.cell? ⟨v1.heap.size, 2, none⟩ = some (.int .u64 l) := (by rw [hw_W3]; go_simp); have cc11 : W3.cell? ⟨v1.heap.size, 3, none⟩ = some (.int .u64 h) := (by rw [hw_W3]; go_simp); replace hBW := below_after hBW hG; have hs_W3 := hG.size; clear hG; have hn_W3 := an (nl cc1) (an (nl cc6) (nl cc8)); have lay_W3 : Laid W3 := Laid.below (w := w) (by assumption) hBW; (try have layE_W3 : LaidE W3 := LaidE.below (w := w) (by assumption) hBW); clear hw_W3)
    go_wp2_with fail
    refine bodyPost_ret (by simp [results, Tryd.results37, go_sem, cc6, cc7]; try rfl) rfl ?_
    exact ⟨rfl, by go_grown⟩
set_option maxRecDepth 100000 in
set_option maxHeartbeats 2000000 in
theorem whole_low (c e h l m n0 n1 j0 j1 j2 j3 : Int) (neg io : Bool) [U64 h] [U64 l] [U64 j0] [U64 j1] [U64 j2] [U64 j3] (w : World) [hLay : Laid w] (hk : c ≠ 3) (he : e < 0) (he2 : -100000 ≤ e) (m0 : 0 ≤ m) (m1 : m ≤ 4)
    (x0 : Hid (lo (jamS (cat4 0 0 l h) (-e - 1)) = j0)) (x1 : Hid (w1 (jamS (cat4 0 0 l h) (-e - 1)) = j1)) (x2 : Hid (w2 (jamS (cat4 0 0 l h) (-e - 1)) = j2)) (x3 : Hid (w3 (jamS (cat4 0 0 l h) (-e - 1)) = j3))
    (e1 : Hid (hi (cutS (cat4 j0 j1 j2 j3) 0 m neg) = n1)) (e2 : Hid (lo (cutS (cat4 j0 j1 j2 j3) 0 m neg) = n0)) (e3 : Hid (inexS (cat4 j0 j1 j2 j3) 0 = io)) :
    Calls Tryd.prog 37 #[.agg #[.bool neg, .int .u8 c, .int .i64 e, .int .u64 h, .int .u64 l], .int .u8 m] w fun en w' => en = .returned (.tuple #[.agg #[.int .u64 (n1), .int .u64 (n0)], .bool io, .bool true]) ∧ Below w.heap.size w w' := by
  have hc : (c == 3) = false := by simp; exact hk
  have hd : decide (e < 0) = true := decide_eq_true he
  have hg : decide (e > 64) = false := decide_eq_false (by omega)
  have hw1 : IntKind.i64.wrap (-e) = -e := wrap_in _ (by omega) (by omega)
  have hw2 : IntKind.i64.wrap (-e - 1) = -e - 1 := wrap_in _ (by omega) (by omega)
  clear hk
  go_enter Tryd.func37, Tryd.ntmps37
  skip
  (go_wp2_with fail; refine (wide_Join _ _ _ _ _).mono ?_; rintro en v1 ⟨rfl, hB_v1⟩; have lay_v1 := laid_after hB_v1; (try have layE_v1 := laidE_after hB_v1); have cc1 := cl hB_v1 (show World.cell? _ ⟨w.heap.size, 0, none⟩ = some (.bool neg) by go_simp); have cc2 := cl hB_v1 (show World.cell? _ ⟨w.heap.size, 1, none⟩ = some (.int .u8 c) by go_simp); have cc3 := cl hB_v1 (show World.cell? _ ⟨w.heap.size, 2, none⟩ = some (.int .i64 e) by go_simp); have cc4 := cl hB_v1 (show World.cell? _ ⟨w.heap.size, 3, none⟩ = some (.int .u64 h) by go_simp); have cc5 := cl hB_v1 (show World.cell? _ ⟨w.heap.size, 4, none⟩ = some (.int .u64 l) by go_simp); obtain ⟨cc6, fcc6⟩ := pf hB_v1 (show World.cell? _ ⟨w.heap.size + 1, 0, none⟩ = some (.int .u64 0) by go_simp) (by go_simp); obtain ⟨cc7, fcc7⟩ := pf hB_v1 (show World.cell? _ ⟨w.heap.size + 1, 1, none⟩ = some (.int .u64 0) by go_simp) (by go_simp); have hs_v1 := hB_v1.size; (try simp only [World.size_alloc, World.size_setCell, World.size_drew] at hs_v1); have hBW : Below w.heap.size w v1 := below_after (w := w) (by go_grown) hB_v1; have hn_v1 := an (nl cc1) (nl cc6); clear hB_v1)
  go_upto_region 5 with fail
  ((first | refine wp_rename ?_ | refine goal_rename ?_); intro W5 hw_W5; have hG := named cc1 W5 (by rw [hw_W5]; first | with_reducible exact drewN_below (Below.refl _ _) _ | go_grown); replace cc1 := cl hG cc1; replace cc2 := cl hG cc2; replace cc3 := cl hG cc3; replace cc4 := cl hG cc4; replace cc5 := cl hG cc5; replace fcc6 := fl hG fcc6 cc6; replace cc6 := cl hG cc6; replace fcc7 := fl hG fcc7 cc7; replace cc7 := cl hG cc7; have cc8 : W5.cell? ⟨v1.heap.size, 0, none⟩ = some (.int .u64 0) := (by rw [hw_W5]; go_simp); have cc9 : W5.cell? ⟨v1.heap.size, 1, none⟩ = some (.int .u64 0) := (by rw [hw_W5]; go_simp); have cc10 : W5.cell? ⟨v1.heap.size, 2, none⟩ = some (.int .u64 l) := (by rw [hw_W5]; go_simp); have cc11 : W5.cell? ⟨v1.heap.size, 3, none⟩ = some (.int .u64 h) := (by rw [hw_W5]; go_simp); replace hBW := below_after hBW hG; have hs_W5 := hG.size; clear hG; have hn_W5 := an (nl cc1) (an (nl cc6) (nl cc8)); have lay_W5 : Laid W5 := Laid.below (w := w) (by assumption) hBW; (try have layE_W5 : LaidE W5 := LaidE.below (w := w) (by assumption) hBW); clear hw_W5)
  refine Lin.wp_region_lin (by kernel_rfl) (by intro _ _ d _ _ h; cases d <;> exact h) (by kernel_rfl) (fun w' => Below W5.heap.size W5 w' ∧ w'.cell? ⟨w.heap.size, 0, none⟩ = some (.bool neg) ∧ w'.cell? ⟨w.heap.size, 1, none⟩ = some (.int .u8 c) ∧ w'.cell? ⟨w.heap.size, 2, none⟩ = some (.int .i64 e) ∧ w'.cell? ⟨w.heap.size, 3, none⟩ = some (.int .u64 h) ∧ w'.cell? ⟨w.heap.size, 4, none⟩ = some (.int .u64 l) ∧ w'.cell? ⟨v1.heap.size, 0, none⟩ = some (.int .u64 0) ∧ w'.cell? ⟨v1.heap.size, 1, none⟩ = some (.int .u64 0) ∧ w'.cell? ⟨v1.heap.size, 2, none⟩ = some (.int .u64 l) ∧ w'.cell? ⟨v1.heap.size, 3, none⟩ = some (.int .u64 h)) ⟨(Below.refl _ _).drew, by go_simp, by go_simp, by go_simp, by go_simp, by go_simp, by go_simp, by go_simp, by go_simp, by go_simp⟩ ?_
  simp only [List.length_cons, List.length_nil, Nat.reduceAdd]
  iterate 5 (refine Lin.lex_val rfl rfl rfl ?_; apply Exists.intro; refine ⟨fun w' hw' => ?_, ?_⟩; (focus (have hBw := hw'.1; have hSw := hw'.2; clear hw'; (try dsimp only at hBw hSw); go_simp; first | with_reducible exact Lin.lin_value | with_reducible exact Lin.lin_skip)); (try simp only [Act.put, List.setIfInBounds_toArray, List.set_cons_zero, List.set_cons_succ]))
  (refine Lin.lex_val rfl rfl rfl ?_; apply Exists.intro; refine ⟨fun w' hw' => ?_, ?_⟩; (focus (have hBw := hw'.1; have hSw := hw'.2; clear hw'; (try dsimp only at hBw hSw); have lay' : Laid w' := Laid.below lay_W5 hBw; (try have layE' : LaidE w' := LaidE.below layE_W5 hBw); go_simp; first | exact Lin.lin_ret (shift_WideJam _ _ _ _ _ _) (by rw [x0.out, x1.out, x2.out, x3.out]) | exact Lin.lin_ret (round_Cut _ _ _ _ _ _ _ _ (by decide) (by decide) m0 m1) (by rw [e1.out, e2.out, e3.out]))); (try simp only [Act.put, List.setIfInBounds_toArray, List.set_cons_zero, List.set_cons_succ]))
  iterate 3 (refine Lin.lex_val rfl rfl rfl ?_; apply Exists.intro; refine ⟨fun w' hw' => ?_, ?_⟩; (focus (have hBw := hw'.1; have hSw := hw'.2; clear hw'; (try dsimp only at hBw hSw); go_simp; first | with_reducible exact Lin.lin_value | with_reducible exact Lin.lin_skip)); (try simp only [Act.put, List.setIfInBounds_toArray, List.set_cons_zero, List.set_cons_succ]))
  (refine Lin.lex_val rfl rfl rfl ?_; apply Exists.intro; refine ⟨fun w' hw' => ?_, ?_⟩; (focus (have hBw := hw'.1; have hSw := hw'.2; clear hw'; (try dsimp only at hBw hSw); have lay' : Laid w' := Laid.below lay_W5 hBw; (try have layE' : LaidE w' := LaidE.below layE_W5 hBw); go_simp; first | exact Lin.lin_ret (shift_WideJam _ _ _ _ _ _) (by rw [x0.out, x1.out, x2.out, x3.out]) | exact Lin.lin_ret (round_Cut _ _ _ _ _ _ _ _ (by decide) (by decide) m0 m1) (by rw [e1.out, e2.out, e3.out]))); (try simp only [Act.put, List.setIfInBounds_toArray, List.set_cons_zero, List.set_cons_succ]))
  (refine Lin.lex_val rfl rfl rfl ?_; apply Exists.intro; refine ⟨fun w' hw' => ?_, ?_⟩; (focus (have hBw := hw'.1; have hSw := hw'.2; clear hw'; (try dsimp only at hBw hSw); go_simp; first | with_reducible exact Lin.lin_value | with_reducible exact Lin.lin_skip)); (try simp only [Act.put, List.setIfInBounds_toArray, List.set_cons_zero, List.set_cons_succ]))
  iterate 2 (refine Lin.lex_loose rfl rfl rfl ?_; apply Exists.intro; refine ⟨fun w' => ?_, ?_⟩; (focus (go_simp; try with_reducible rfl)); (try simp only [Act.put, List.setIfInBounds_toArray, List.set_cons_zero, List.set_cons_succ]))
  refine Lin.lex_rest rfl ?_
  refine Lin.lex_rest rfl ?_
  refine Lin.lex_rest rfl ?_
  refine Lin.lex_end ?_
  refine Lin.new1 W5.heap.size (fun wa wb hc hb => ⟨hc.1.trans (hb.mono hc.1.size), cell_later hb hc.2.1, cell_later hb hc.2.2.1, cell_later hb hc.2.2.2.1, cell_later hb hc.2.2.2.2.1, cell_later hb hc.2.2.2.2.2.1, cell_later hb hc.2.2.2.2.2.2.1, cell_later hb hc.2.2.2.2.2.2.2.1, cell_later hb hc.2.2.2.2.2.2.2.2.1, cell_later hb hc.2.2.2.2.2.2.2.2.2⟩) (fun wa hc => hc.1.size) 13 _ rfl rfl (by kernel_rfl) (by kernel_rfl) rfl (.agg #[.int .u64 0, .int .u64 0]) (by intro t ht; cases ht <;> (intro w; kernel_rfl)) ?_
  intro g X hw_X lo_g ho_g
  have hb_X := hw_X.1; clear hw_X
  have lay_X : Laid X := Laid.below lay_W5 hb_X; (try have layE_X : LaidE X := LaidE.below layE_W5 hb_X)
  (replace cc1 := cl hb_X cc1; replace cc2 := cl hb_X cc2; replace cc3 := cl hb_X cc3; replace cc4 := cl hb_X cc4; replace cc5 := cl hb_X cc5; replace fcc6 := fl hb_X fcc6 cc6; replace cc6 := cl hb_X cc6; replace fcc7 := fl hb_X fcc7 cc7; replace cc7 := cl hb_X cc7; replace cc8 := cl hb_X cc8; replace cc9 := cl hb_X cc9; replace cc10 := cl hb_X cc10; replace cc11 := cl hb_X cc11; replace hBW := below_after hBW hb_X; have hsb_X := hb_X.size; have hn_X := an (nl cc1) (an (nl cc6) (nl cc8)))
  have hi_g := Lin.heap_lt ho_g
  have cc12 : X.cell? ⟨g, 0, none⟩ = some (.int .u64 0) := Lin.heap_cell ho_g rfl; have fcc12 : X.frozen? ⟨g, 0, none⟩ = false := Lin.heap_free ho_g
  have cc13 : X.cell? ⟨g, 1, none⟩ = some (.int .u64 0) := Lin.heap_cell ho_g rfl; have fcc13 : X.frozen? ⟨g, 1, none⟩ = false := Lin.heap_free ho_g
  clear ho_g
  have hN_X : g ≠ X.heap.size ∧ X.heap.size ≠ g ∧ w.heap.size ≤ g := (by omega)
  unfold Lin.ptrOf
  (try simp only [Act.put, List.setIfInBounds_toArray, List.set_cons_zero, List.set_cons_succ])
  have hM_X : w.heap.size ≠ g ∧ g ≠ w.heap.size ∧ w.heap.size + 1 ≠ g ∧ g ≠ w.heap.size + 1 ∧ v1.heap.size ≠ g ∧ g ≠ v1.heap.size := (by omega)
  (refine wpAny_ready (rs := [14]) (by kernel_rfl) (by simp) ?_; refine AllReady.cons rfl (fun K hK => ?_) AllReady.nil; go_simp; refine hK _ _ ?_; clear hK K)
  (refine wpAny_ready (rs := [15]) (by kernel_rfl) (by simp) ?_; refine AllReady.cons rfl (fun K hK => ?_) AllReady.nil; go_simp; refine hK _ _ ?_; clear hK K)
  refine wpAny_done (by kernel_rfl) ?_ _
  apply_assumption
  ((first | refine wp_rename ?_ | refine goal_rename ?_); intro Xs hw_Xs; replace cc1 := rn hw_Xs cc1 (by go_simp); replace cc2 := rn hw_Xs cc2 (by go_simp); replace cc3 := rn hw_Xs cc3 (by go_simp); replace cc4 := rn hw_Xs cc4 (by go_simp); replace cc5 := rn hw_Xs cc5 (by go_simp); replace cc6 := rn hw_Xs cc6 (by go_simp); replace fcc6 := rf hw_Xs fcc6 (by go_simp); replace cc7 := rn hw_Xs cc7 (by go_simp); replace fcc7 := rf hw_Xs fcc7 (by go_simp); replace cc8 := rn hw_Xs cc8 (by go_simp); replace cc9 := rn hw_Xs cc9 (by go_simp); replace cc10 := rn hw_Xs cc10 (by go_simp); replace cc11 := rn hw_Xs cc11 (by go_simp); replace cc12 : Xs.cell? ⟨g, 0, none⟩ = some (.int .u64 n1) := (by rw [hw_Xs]; go_simp); replace fcc12 := rf hw_Xs fcc12 (by go_simp); replace cc13 : Xs.cell? ⟨g, 1, none⟩ = some (.int .u64 n0) := (by rw [hw_Xs]; go_simp); replace fcc13 := rf hw_Xs fcc13 (by go_simp); replace hBW : Below w.heap.size w Xs := (by rw [hw_Xs]; (first | with_reducible exact drewN_below (by assumption) _ | go_grown)); have hn_Xs := an (nl cc1) (an (nl cc6) (an (nl cc8) (nl cc12))); have lay_Xs : Laid Xs := Laid.below (w := w) (by assumption) hBW; (try have layE_Xs : LaidE Xs := LaidE.below (w := w) (by assumption) hBW); clear hw_Xs)
  go_wp2_with fail
  refine bodyPost_ret (by simp [results, Tryd.results37, go_sem, cc6, cc7]; try rfl) rfl ?_
  exact ⟨rfl, by go_grown⟩
set_option maxRecDepth 100000 in
set_option maxHeartbeats 2000000 in
theorem whole_top (c e h l m n0 n1 : Int) (neg io : Bool) [U64 h] [U64 l] (w : World) [hLay : Laid w] (hk : c ≠ 3) (he : ¬ e < 0) (he2 : e ≤ 64) (m0 : 0 ≤ m) (m1 : m ≤ 4)
    (e1 : Hid (hi (cutS (cat4 0 0 l h) (e + 1) m neg) = n1)) (e2 : Hid (lo (cutS (cat4 0 0 l h) (e + 1) m neg) = n0)) (e3 : Hid (inexS (cat4 0 0 l h) (e + 1) = io)) :
    Calls Tryd.prog 37 #[.agg #[.bool neg, .int .u8 c, .int .i64 e, .int .u64 h, .int .u64 l], .int .u8 m] w fun en w' => en = .returned (.tuple #[.agg #[.int .u64 (n1), .int .u64 (n0)], .bool io, .bool true]) ∧ Below w.heap.size w w' := by
  have hc : (c == 3) = false := by simp; exact hk
  have hd : decide (e < 0) = false := decide_eq_false he
  have hg : decide (e > 64) = false := decide_eq_false (by omega)
  have hw1 : IntKind.i64.wrap (e + 1) = e + 1 := wrap_in _ (by omega) (by omega)
  have q0 : 0 ≤ e + 1 := by omega
  have q1 : e + 1 ≤ 127 := by omega
  clear hk
  go_enter Tryd.func37, Tryd.ntmps37
  skip
  (go_wp2_with fail; refine (wide_Join _ _ _ _ _).mono ?_; rintro en v1 ⟨rfl, hB_v1⟩; have lay_v1 := laid_after hB_v1; (try have layE_v1 := laidE_after hB_v1); have cc1 := cl hB_v1 (show World.cell? _ ⟨w.heap.size, 0, none⟩ = some (.bool neg) by go_simp); have cc2 := cl hB_v1 (show World.cell? _ ⟨w.heap.size, 1, none⟩ = some (.int .u8 c) by go_simp); have cc3 := cl hB_v1 (show World.cell? _ ⟨w.heap.size, 2, none⟩ = some (.int .i64 e) by go_simp); have cc4 := cl hB_v1 (show World.cell? _ ⟨w.heap.size, 3, none⟩ = some (.int .u64 h) by go_simp); have cc5 := cl hB_v1 (show World.cell? _ ⟨w.heap.size, 4, none⟩ = some (.int .u64 l) by go_simp); obtain ⟨cc6, fcc6⟩ := pf hB_v1 (show World.cell? _ ⟨w.heap.size + 1, 0, none⟩ = some (.int .u64 0) by go_simp) (by go_simp); obtain ⟨cc7, fcc7⟩ := pf hB_v1 (show World.cell? _ ⟨w.heap.size + 1, 1, none⟩ = some (.int .u64 0) by go_simp) (by go_simp); have hs_v1 := hB_v1.size; (try simp only [World.size_alloc, World.size_setCell, World.size_drew] at hs_v1); have hBW : Below w.heap.size w v1 := below_after (w := w) (by go_grown) hB_v1; have hn_v1 := an (nl cc1) (nl cc6); clear hB_v1)
  (go_wp2_with fail; refine (round_Cut _ _ _ _ _ _ _ _ q0 q1 m0 m1).mono ?_; rw [e1.out, e2.out, e3.out]; rintro en v2 ⟨rfl, hB_v2⟩; have lay_v2 := laid_after hB_v2; (try have layE_v2 := laidE_after hB_v2); have hG := cell_grown cc1 (by go_grown) hB_v2; replace cc1 := cl hG cc1; replace cc2 := cl hG cc2; replace cc3 := cl hG cc3; replace cc4 := cl hG cc4; replace cc5 := cl hG cc5; replace fcc6 := fl hG fcc6 cc6; replace cc6 := cl hG cc6; replace fcc7 := fl hG fcc7 cc7; replace cc7 := cl hG cc7; have cc8 := cl hB_v2 (show World.cell? _ ⟨v1.heap.size, 0, none⟩ = some (.int .u64 0) by go_simp); have cc9 := cl hB_v2 (show World.cell? _ ⟨v1.heap.size, 1, none⟩ = some (.int .u64 0) by go_simp); have cc10 := cl hB_v2 (show World.cell? _ ⟨v1.heap.size, 2, none⟩ = some (.int .u64 l) by go_simp); have cc11 := cl hB_v2 (show World.cell? _ ⟨v1.heap.size, 3, none⟩ = some (.int .u64 h) by go_simp); have hs_v2 := hG.size; clear hG; replace hBW : Below w.heap.size w v2 := below_after (w := w) (by go_grown) hB_v2; have hn_v2 := an (nl cc1) (an (nl cc6) (nl cc8)); clear hB_v2)
  go_upto_region 8 with fail
  ((first | refine wp_rename ?_ | refine goal_rename ?_); intro W8 hw_W8; have hG := named cc1 W8 (by rw [hw_W8]; first | with_reducible exact drewN_below (Below.refl _ _) _ | go_grown); replace cc1 := cl hG cc1; replace cc2 := cl hG cc2; replace cc3 := cl hG cc3; replace cc4 := cl hG cc4; replace cc5 := cl hG cc5; replace fcc6 := fl hG fcc6 cc6; replace cc6 := cl hG cc6; replace fcc7 := fl hG fcc7 cc7; replace cc7 := cl hG cc7; replace cc8 := cl hG cc8; replace cc9 := cl hG cc9; replace cc10 := cl hG cc10; replace cc11 := cl hG cc11; have cc12 : W8.cell? ⟨v2.heap.size, 0, none⟩ = some (.int .u64 n1) := (by rw [hw_W8]; go_simp); have cc13 : W8.cell? ⟨v2.heap.size, 1, none⟩ = some (.int .u64 n0) := (by rw [hw_W8]; go_simp); replace hBW := below_after hBW hG; have hs_W8 := hG.size; clear hG; have hn_W8 := an (nl cc1) (an (nl cc6) (an (nl cc8) (nl cc12))); have lay_W8 : Laid W8 := Laid.below (w := w) (by assumption) hBW; (try have layE_W8 : LaidE W8 := LaidE.below (w := w) (by assumption) hBW); clear hw_W8)
  go_wp2_with fail
  refine bodyPost_ret (by simp [results, Tryd.results37, go_sem, cc6, cc7]; try rfl) rfl ?_
  exact ⟨rfl, by go_grown⟩
end Go.Proofs.YthbpbbbngablpaaDoor
