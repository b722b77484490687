/- The contract of class.Any over three numbers: for every input. Condition: the listed table is laid. -/
import Derived.Test.YtkldkchkhblndaaGreatDoorAny
set_option linter.unusedSimpArgs false
set_option linter.unusedVariables false
namespace Go.Proofs.YtkldkchkhblndaaGreatDoor
open Go.RowKit Go.Hb
def idxThree (a b c : Bool) : Int := if a then 0 else if b then 1 else if c then 2 else -1
theorem idxThree_ge (a b c : Bool) : decide (idxThree a b c ≥ 0) = (a || b || c) := by cases a <;> cases b <;> cases c <;> rfl
set_option maxRecDepth 100000 in
set_option maxHeartbeats 4000000 in
theorem any_index3N (f h l h' l' h2 l2 : Int) [hU : U8 f] (b bi bf : Nat) [U64 h] [U64 l] [U64 h'] [U64 l'] [U64 h2] [U64 l2] (w : World) [hLay : Laid w] (ci : w.cell? ⟨bi, 0, none⟩ = some (.func (.func 15) #[] #[])) (cf : w.cell? ⟨bf, 0, none⟩ = some (.int .u8 f))
    (c0 : w.cell? ⟨b, 0, none⟩ = some (.int .u64 h)) (c1 : w.cell? ⟨b, 1, none⟩ = some (.int .u64 l)) (c2 : w.cell? ⟨b, 2, none⟩ = some (.int .u64 h')) (c3 : w.cell? ⟨b, 3, none⟩ = some (.int .u64 l')) (c4 : w.cell? ⟨b, 4, none⟩ = some (.int .u64 h2)) (c5 : w.cell? ⟨b, 5, none⟩ = some (.int .u64 l2)) :
    Calls Tryz.prog 77 #[.slice (some ⟨b, 0, none⟩) 3 3, .func (.func 55) #[] #[.pointer (some ⟨bi, 0, none⟩), .pointer (some ⟨bf, 0, none⟩)]] w fun en w' => en = .returned (.int .i64 (idxThree (nanB f (cat h l)) (nanB f (cat h' l')) (nanB f (cat h2 l2)))) ∧ Below w.heap.size w w' := by
  cases hn0 : nanB f (cat h l)
  case true =>
    go_enter Tryz.func77, Tryz.ntmps77
    go_wp2
    refine wp_loop_rounds 4 ?_
    rw [rounds_succ]
    go_wp2_with fail
    refine (any_isN f _ _ bi bf _ ci cf).mono ?_
    rw [hn0]
    rintro en v0 ⟨rfl, hB0⟩
    have hb0 : Below w.heap.size w v0 := below_after (w := w) (by go_grown) hB0
    have lay0 : Laid v0 := laid_after hB0
    go_wp2
    go_returns
    exact ⟨rfl, by go_grown⟩
  cases hn1 : nanB f (cat h' l')
  case true =>
    go_enter Tryz.func77, Tryz.ntmps77
    go_wp2
    refine wp_loop_rounds 4 ?_
    rw [rounds_succ]
    go_wp2_with fail
    refine (any_isN f _ _ bi bf _ ci cf).mono ?_
    rw [hn0]
    rintro en v0 ⟨rfl, hB0⟩
    have hb0 : Below w.heap.size w v0 := below_after (w := w) (by go_grown) hB0
    have lay0 : Laid v0 := laid_after hB0
    replace c0 := cell_later hB0 c0; replace c1 := cell_later hB0 c1; replace c2 := cell_later hB0 c2; replace c3 := cell_later hB0 c3; replace c4 := cell_later hB0 c4; replace c5 := cell_later hB0 c5; replace ci := cell_later hB0 ci; replace cf := cell_later hB0 cf
    go_wp2_with fail
    rw [rounds_succ]
    go_wp2_with fail
    refine (any_isN f _ _ bi bf _ ci cf).mono ?_
    rw [hn1]
    rintro en v1 ⟨rfl, hB1⟩
    have hb1 : Below w.heap.size w v1 := below_after (w := w) hb0 hB1
    have lay1 : Laid v1 := laid_after hB1
    go_wp2
    go_returns
    exact ⟨rfl, by go_grown⟩
  cases hn2 : nanB f (cat h2 l2)
  case true =>
    go_enter Tryz.func77, Tryz.ntmps77
    go_wp2
    refine wp_loop_rounds 4 ?_
    rw [rounds_succ]
    go_wp2_with fail
    refine (any_isN f _ _ bi bf _ ci cf).mono ?_
    rw [hn0]
    rintro en v0 ⟨rfl, hB0⟩
    have hb0 : Below w.heap.size w v0 := below_after (w := w) (by go_grown) hB0
    have lay0 : Laid v0 := laid_after hB0
    replace c0 := cell_later hB0 c0; replace c1 := cell_later hB0 c1; replace c2 := cell_later hB0 c2; replace c3 := cell_later hB0 c3; replace c4 := cell_later hB0 c4; replace c5 := cell_later hB0 c5; replace ci := cell_later hB0 ci; replace cf := cell_later hB0 cf
    go_wp2_with fail
    rw [rounds_succ]
    go_wp2_with fail
    refine (any_isN f _ _ bi bf _ ci cf).mono ?_
    rw [hn1]
    rintro en v1 ⟨rfl, hB1⟩
    have hb1 : Below w.heap.size w v1 := below_after (w := w) hb0 hB1
    have lay1 : Laid v1 := laid_after hB1
    replace c0 := cell_later hB1 c0; replace c1 := cell_later hB1 c1; replace c2 := cell_later hB1 c2; replace c3 := cell_later hB1 c3; replace c4 := cell_later hB1 c4; replace c5 := cell_later hB1 c5; replace ci := cell_later hB1 ci; replace cf := cell_later hB1 cf
    go_wp2_with fail
    rw [rounds_succ]
    go_wp2_with fail
    refine (any_isN f _ _ bi bf _ ci cf).mono ?_
    rw [hn2]
    rintro en v2 ⟨rfl, hB2⟩
    have hb2 : Below w.heap.size w v2 := below_after (w := w) hb1 hB2
    have lay2 : Laid v2 := laid_after hB2
    go_wp2
    go_returns
    exact ⟨rfl, by go_grown⟩
  go_enter Tryz.func77, Tryz.ntmps77
  go_wp2
  refine wp_loop_rounds 4 ?_
  rw [rounds_succ]
  go_wp2_with fail
  refine (any_isN f _ _ bi bf _ ci cf).mono ?_
  rw [hn0]
  rintro en v0 ⟨rfl, hB0⟩
  have hb0 : Below w.heap.size w v0 := below_after (w := w) (by go_grown) hB0
  have lay0 : Laid v0 := laid_after hB0
  replace c0 := cell_later hB0 c0; replace c1 := cell_later hB0 c1; replace c2 := cell_later hB0 c2; replace c3 := cell_later hB0 c3; replace c4 := cell_later hB0 c4; replace c5 := cell_later hB0 c5; replace ci := cell_later hB0 ci; replace cf := cell_later hB0 cf
  go_wp2_with fail
  rw [rounds_succ]
  go_wp2_with fail
  refine (any_isN f _ _ bi bf _ ci cf).mono ?_
  rw [hn1]
  rintro en v1 ⟨rfl, hB1⟩
  have hb1 : Below w.heap.size w v1 := below_after (w := w) hb0 hB1
  have lay1 : Laid v1 := laid_after hB1
  replace c0 := cell_later hB1 c0; replace c1 := cell_later hB1 c1; replace c2 := cell_later hB1 c2; replace c3 := cell_later hB1 c3; replace c4 := cell_later hB1 c4; replace c5 := cell_later hB1 c5; replace ci := cell_later hB1 ci; replace cf := cell_later hB1 cf
  go_wp2_with fail
  rw [rounds_succ]
  go_wp2_with fail
  refine (any_isN f _ _ bi bf _ ci cf).mono ?_
  rw [hn2]
  rintro en v2 ⟨rfl, hB2⟩
  have hb2 : Below w.heap.size w v2 := below_after (w := w) hb1 hB2
  have lay2 : Laid v2 := laid_after hB2
  replace c0 := cell_later hB2 c0; replace c1 := cell_later hB2 c1; replace c2 := cell_later hB2 c2; replace c3 := cell_later hB2 c3; replace c4 := cell_later hB2 c4; replace c5 := cell_later hB2 c5; replace ci := cell_later hB2 ci; replace cf := cell_later hB2 cf
  go_wp2
  rw [rounds_succ]
  go_wp2
  go_returns
  exact ⟨rfl, by go_grown⟩
set_option maxRecDepth 100000 in
set_option maxHeartbeats 4000000 in
theorem any_contains3N (f h l h' l' h2 l2 : Int) [hU : U8 f] (b bi bf : Nat) [U64 h] [U64 l] [U64 h'] [U64 l'] [U64 h2] [U64 l2] (w : World) [hLay : Laid w] (ci : w.cell? ⟨bi, 0, none⟩ = some (.func (.func 15) #[] #[])) (cf : w.cell? ⟨bf, 0, none⟩ = some (.int .u8 f))
    (c0 : w.cell? ⟨b, 0, none⟩ = some (.int .u64 h)) (c1 : w.cell? ⟨b, 1, none⟩ = some (.int .u64 l)) (c2 : w.cell? ⟨b, 2, none⟩ = some (.int .u64 h')) (c3 : w.cell? ⟨b, 3, none⟩ = some (.int .u64 l')) (c4 : w.cell? ⟨b, 4, none⟩ = some (.int .u64 h2)) (c5 : w.cell? ⟨b, 5, none⟩ = some (.int .u64 l2)) :
    Calls Tryz.prog 54 #[.slice (some ⟨b, 0, none⟩) 3 3, .func (.func 55) #[] #[.pointer (some ⟨bi, 0, none⟩), .pointer (some ⟨bf, 0, none⟩)]] w fun en w' => en = .returned (.bool (nanB f (cat h l) || nanB f (cat h' l') || nanB f (cat h2 l2))) ∧ Below w.heap.size w w' := by
  have hi := idxThree_ge (nanB f (cat h l)) (nanB f (cat h' l')) (nanB f (cat h2 l2))
  go_enter Tryz.func54, Tryz.ntmps54
  go_wp2_with fail
  refine (any_index3N f h l h' l' h2 l2 b bi bf _ ci cf c0 c1 c2 c3 c4 c5).mono ?_
  rintro en v1 ⟨rfl, hB1⟩
  go_wp2_with fail
  go_returns
  exact ⟨rfl, by go_grown⟩
set_option maxRecDepth 100000 in
set_option maxHeartbeats 4000000 in
theorem class_AnyNaN3 (f h l h' l' h2 l2 : Int) [hU : U8 f] (b : Nat) [U64 h] [U64 l] [U64 h'] [U64 l'] [U64 h2] [U64 l2] (w : World) [hLay : Laid w]
    (c0 : w.cell? ⟨b, 0, none⟩ = some (.int .u64 h)) (c1 : w.cell? ⟨b, 1, none⟩ = some (.int .u64 l)) (c2 : w.cell? ⟨b, 2, none⟩ = some (.int .u64 h')) (c3 : w.cell? ⟨b, 3, none⟩ = some (.int .u64 l')) (c4 : w.cell? ⟨b, 4, none⟩ = some (.int .u64 h2)) (c5 : w.cell? ⟨b, 5, none⟩ = some (.int .u64 l2)) :
    Calls Tryz.prog 28 #[.int .u8 f, .func (.func 15) #[] #[], .slice (some ⟨b, 0, none⟩) 3 3] w fun en w' => en = .returned (.bool (nanB f (cat h l) || nanB f (cat h' l') || nanB f (cat h2 l2))) ∧ Below w.heap.size w w' := by
  have hb : b < w.heap.size := World.block_lt_of_cell? w _ c0
  have hnn := fun W => neq_nilFuncN W
  go_enter Tryz.func28, Tryz.ntmps28
  skip
  go_upto_region 1 with fail
  ((first | refine wp_rename ?_ | refine goal_rename ?_); intro W1 hw_W1; have cc1 : W1.cell? ⟨b, 0, none⟩ = some (.int .u64 h) := (by rw [hw_W1]; go_simp); have cc2 : W1.cell? ⟨b, 1, none⟩ = some (.int .u64 l) := (by rw [hw_W1]; go_simp); have cc3 : W1.cell? ⟨b, 2, none⟩ = some (.int .u64 h') := (by rw [hw_W1]; go_simp); have cc4 : W1.cell? ⟨b, 3, none⟩ = some (.int .u64 l') := (by rw [hw_W1]; go_simp); have cc5 : W1.cell? ⟨b, 4, none⟩ = some (.int .u64 h2) := (by rw [hw_W1]; go_simp); have cc6 : W1.cell? ⟨b, 5, none⟩ = some (.int .u64 l2) := (by rw [hw_W1]; go_simp); have cc7 : W1.cell? ⟨w.heap.size, 0, none⟩ = some (.int .u8 f) := (by rw [hw_W1]; go_simp); have cc8 : W1.cell? ⟨w.heap.size + 1, 0, none⟩ = some (.func (.func 15) #[] #[]) := (by rw [hw_W1]; go_simp); have hBW : Below w.heap.size w W1 := (by rw [hw_W1]; (first | with_reducible exact drewN_below (by assumption) _ | go_grown)); have hn_W1 := an (nl cc1) (an (nl cc7) (nl cc8)); have lay_W1 : Laid W1 := Laid.below (w := w) (by assumption) hBW; clear hw_W1)
  go_wp2_with fail
  refine (any_contains3N f h l h' l' h2 l2 b _ _ _ (by assumption) (by assumption) (by assumption) (by assumption) (by assumption) (by assumption) (by assumption) (by assumption)).mono ?_
  rintro en v1 ⟨rfl, hB1⟩
  have hb1 : Below w.heap.size w v1 := below_after hBW hB1
  go_wp2_with fail
  go_returns
  exact ⟨rfl, by go_grown⟩
end Go.Proofs.YtkldkchkhblndaaGreatDoor
