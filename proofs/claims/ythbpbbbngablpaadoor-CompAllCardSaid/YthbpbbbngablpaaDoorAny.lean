/- The contract of class.Any over two and three numbers: for every input. Condition: the listed table is laid. -/
import Derived.Test.YthbpbbbngablpaaDoorNan
set_option linter.unusedSimpArgs false
set_option linter.unusedVariables false
namespace Go.Proofs.YthbpbbbngablpaaDoor
open Go.RowKit Go.Hb
def idxTwo (a b : Bool) : Int := if a then 0 else if b then 1 else -1
theorem idxTwo_ge (a b : Bool) : decide (idxTwo a b ≥ 0) = (a || b) := by cases a <;> cases b <;> rfl
theorem neq_nilFuncN (W : World) : (binOp .neq 47 (.func (.func 20) #[] #[]) .nilFunc).run Tryd.prog W = .ok (.bool true) W := by kernel_rfl
set_option maxRecDepth 100000 in
theorem any_isN (f h l : Int) [hU : U8 f] (bi bf : Nat) [U64 h] [U64 l] (w : World) [hLay : Laid w] (ci : w.cell? ⟨bi, 0, none⟩ = some (.func (.func 20) #[] #[])) (cf : w.cell? ⟨bf, 0, none⟩ = some (.int .u8 f)) :
    Calls Tryd.prog 86 #[.agg #[.int .u64 (h), .int .u64 (l)], .pointer (some ⟨bi, 0, none⟩), .pointer (some ⟨bf, 0, none⟩)] w fun en w' => en = .returned (.bool (nanB f (cat h l))) ∧ Below w.heap.size w w' := by
  have sbi : bi < w.heap.size := World.block_lt_of_cell? w _ ci
  have sbf : bf < w.heap.size := World.block_lt_of_cell? w _ cf
  go_enter Tryd.func86, Tryd.ntmps86
  skip
  go_upto_region 1 with fail
  ((first | refine wp_rename ?_ | refine goal_rename ?_); intro W1 hw_W1; have cc1 : W1.cell? ⟨bi, 0, none⟩ = some (.func (.func 20) #[] #[]) := (by rw [hw_W1]; go_simp); have cc2 : W1.cell? ⟨bf, 0, none⟩ = some (.int .u8 f) := (by rw [hw_W1]; go_simp); have cc3 : W1.cell? ⟨w.heap.size, 0, none⟩ = some (.int .u64 h) := (by rw [hw_W1]; go_simp); have cc4 : W1.cell? ⟨w.heap.size, 1, none⟩ = some (.int .u64 l) := (by rw [hw_W1]; go_simp); have hBW : Below w.heap.size w W1 := (by rw [hw_W1]; (first | with_reducible exact drewN_below (by assumption) _ | go_grown)); have hn_W1 := an (nl cc1) (an (nl cc2) (nl cc3)); have lay_W1 : Laid W1 := Laid.below (w := w) (by assumption) hBW; clear hw_W1)
  go_wp2_with fail
  refine (class_NaN _ _ _ _).mono ?_
  rintro en v1 ⟨rfl, hB1⟩
  have hb1 : Below w.heap.size w v1 := below_after hBW hB1
  go_wp2_with fail
  go_returns
  exact ⟨rfl, by go_grown⟩
set_option maxRecDepth 100000 in
set_option maxHeartbeats 4000000 in
theorem any_index2N (f h l h' l' : Int) [hU : U8 f] (b bi bf : Nat) [U64 h] [U64 l] [U64 h'] [U64 l'] (w : World) [hLay : Laid w] (ci : w.cell? ⟨bi, 0, none⟩ = some (.func (.func 20) #[] #[])) (cf : w.cell? ⟨bf, 0, none⟩ = some (.int .u8 f))
    (c0 : w.cell? ⟨b, 0, none⟩ = some (.int .u64 h)) (c1 : w.cell? ⟨b, 1, none⟩ = some (.int .u64 l)) (c2 : w.cell? ⟨b, 2, none⟩ = some (.int .u64 h')) (c3 : w.cell? ⟨b, 3, none⟩ = some (.int .u64 l')) :
    Calls Tryd.prog 119 #[.slice (some ⟨b, 0, none⟩) 2 2, .func (.func 86) #[] #[.pointer (some ⟨bi, 0, none⟩), .pointer (some ⟨bf, 0, none⟩)]] w fun en w' => en = .returned (.int .i64 (idxTwo (nanB f (cat h l)) (nanB f (cat h' l')))) ∧ Below w.heap.size w w' := by
  cases hn : nanB f (cat h l)
  · cases hn' : nanB f (cat h' l')
    · go_enter Tryd.func119, Tryd.ntmps119
      go_wp2
      refine wp_loop_rounds 3 ?_
      rw [rounds_succ]
      go_wp2_with fail
      refine (any_isN f _ _ bi bf _ ci cf).mono ?_
      rw [hn]
      rintro en v1 ⟨rfl, hB1⟩
      have lay1 : Laid v1 := laid_after hB1
      replace c0 := cell_later hB1 c0; replace c1 := cell_later hB1 c1; replace c2 := cell_later hB1 c2; replace c3 := cell_later hB1 c3; replace ci := cell_later hB1 ci; replace cf := cell_later hB1 cf
      go_wp2_with fail
      rw [rounds_succ]
      go_wp2_with fail
      refine (any_isN f _ _ bi bf _ ci cf).mono ?_
      rw [hn']
      rintro en v2 ⟨rfl, hB2⟩
      have hb2 : Below w.heap.size w v2 := below_after (w := w) hB1 hB2
      go_wp2
      rw [rounds_succ]
      go_wp2
      go_returns
      exact ⟨rfl, by go_grown⟩
    · go_enter Tryd.func119, Tryd.ntmps119
      go_wp2
      refine wp_loop_rounds 3 ?_
      rw [rounds_succ]
      go_wp2_with fail
      refine (any_isN f _ _ bi bf _ ci cf).mono ?_
      rw [hn]
      rintro en v1 ⟨rfl, hB1⟩
      have lay1 : Laid v1 := laid_after hB1
      replace c0 := cell_later hB1 c0; replace c1 := cell_later hB1 c1; replace c2 := cell_later hB1 c2; replace c3 := cell_later hB1 c3; replace ci := cell_later hB1 ci; replace cf := cell_later hB1 cf
      go_wp2_with fail
      rw [rounds_succ]
      go_wp2_with fail
      refine (any_isN f _ _ bi bf _ ci cf).mono ?_
      rw [hn']
      rintro en v2 ⟨rfl, hB2⟩
      have hb2 : Below w.heap.size w v2 := below_after (w := w) hB1 hB2
      go_wp2
      go_returns
      exact ⟨rfl, by go_grown⟩
  · go_enter Tryd.func119, Tryd.ntmps119
    go_wp2
    refine wp_loop_rounds 3 ?_
    rw [rounds_succ]
    go_wp2_with fail
    refine (any_isN f _ _ bi bf _ ci cf).mono ?_
    rw [hn]
    rintro en v1 ⟨rfl, hB1⟩
    have hb1 : Below w.heap.size w v1 := below_after (w := w) (by go_grown) hB1
    go_wp2
    go_returns
    exact ⟨rfl, by go_grown⟩
set_option maxRecDepth 100000 in
set_option maxHeartbeats 4000000 in
theorem any_contains2N (f h l h' l' : Int) [hU : U8 f] (b bi bf : Nat) [U64 h] [U64 l] [U64 h'] [U64 l'] (w : World) [hLay : Laid w] (ci : w.cell? ⟨bi, 0, none⟩ = some (.func (.func 20) #[] #[])) (cf : w.cell? ⟨bf, 0, none⟩ = some (.int .u8 f))
    (c0 : w.cell? ⟨b, 0, none⟩ = some (.int .u64 h)) (c1 : w.cell? ⟨b, 1, none⟩ = some (.int .u64 l)) (c2 : w.cell? ⟨b, 2, none⟩ = some (.int .u64 h')) (c3 : w.cell? ⟨b, 3, none⟩ = some (.int .u64 l')) :
    Calls Tryd.prog 85 #[.slice (some ⟨b, 0, none⟩) 2 2, .func (.func 86) #[] #[.pointer (some ⟨bi, 0, none⟩), .pointer (some ⟨bf, 0, none⟩)]] w fun en w' => en = .returned (.bool (nanB f (cat h l) || nanB f (cat h' l'))) ∧ Below w.heap.size w w' := by
  have hi := idxTwo_ge (nanB f (cat h l)) (nanB f (cat h' l'))
  go_enter Tryd.func85, Tryd.ntmps85
  go_wp2_with fail
  refine (any_index2N f h l h' l' b bi bf _ ci cf c0 c1 c2 c3).mono ?_
  rintro en v1 ⟨rfl, hB1⟩
  go_wp2_with fail
  go_returns
  exact ⟨rfl, by go_grown⟩
set_option maxRecDepth 100000 in
set_option maxHeartbeats 4000000 in
theorem class_AnyNaN (f h l h' l' : Int) [hU : U8 f] (b : Nat) [U64 h] [U64 l] [U64 h'] [U64 l'] (w : World) [hLay : Laid w]
    (c0 : w.cell? ⟨b, 0, none⟩ = some (.int .u64 h)) (c1 : w.cell? ⟨b, 1, none⟩ = some (.int .u64 l)) (c2 : w.cell? ⟨b, 2, none⟩ = some (.int .u64 h')) (c3 : w.cell? ⟨b, 3, none⟩ = some (.int .u64 l')) :
    Calls Tryd.prog 43 #[.int .u8 f, .func (.func 20) #[] #[], .slice (some ⟨b, 0, none⟩) 2 2] w fun en w' => en = .returned (.bool (nanB f (cat h l) || nanB f (cat h' l'))) ∧ Below w.heap.size w w' := by
  have hb : b < w.heap.size := World.block_lt_of_cell? w _ c0
  have hnn := fun W => neq_nilFuncN W
  go_enter Tryd.func43, Tryd.ntmps43
  skip
  go_upto_region 1 with fail
  ((first | refine wp_rename ?_ | refine goal_rename ?_); intro W1 hw_W1; have cc1 : W1.cell? ⟨b, 0, none⟩ = some (.int .u64 h) := (by rw [hw_W1]; go_simp); have cc2 : W1.cell? ⟨b, 1, none⟩ = some (.int .u64 l) := (by rw [hw_W1]; go_simp); have cc3 : W1.cell? ⟨b, 2, none⟩ = some (.int .u64 h') := (by rw [hw_W1]; go_simp); have cc4 : W1.cell? ⟨b, 3, none⟩ = some (.int .u64 l') := (by rw [hw_W1]; go_simp); have cc5 : W1.cell? ⟨w.heap.size, 0, none⟩ = some (.int .u8 f) := (by rw [hw_W1]; go_simp); have cc6 : W1.cell? ⟨w.heap.size + 1, 0, none⟩ = some (.func (.func 20) #[] #[]) := (by rw [hw_W1]; go_simp); have hBW : Below w.heap.size w W1 := (by rw [hw_W1]; (first | with_reducible exact drewN_below (by assumption) _ | go_grown)); have hn_W1 := an (nl cc1) (an (nl cc5) (nl cc6)); have lay_W1 : Laid W1 := Laid.below (w := w) (by assumption) hBW; clear hw_W1)
  go_wp2_with fail
  refine (any_contains2N f h l h' l' b _ _ _ (by assumption) (by assumption) (by assumption) (by assumption) (by assumption) (by assumption)).mono ?_
  rintro en v1 ⟨rfl, hB1⟩
  have hb1 : Below w.heap.size w v1 := below_after hBW hB1
  go_wp2_with fail
  go_returns
  exact ⟨rfl, by go_grown⟩
theorem neq_nilFuncS (W : World) : (binOp .neq 47 (.func (.func 16) #[] #[]) .nilFunc).run Tryd.prog W = .ok (.bool true) W := by kernel_rfl
set_option maxRecDepth 100000 in
theorem any_isS (f h l : Int) [hU : U8 f] (bi bf : Nat) [U64 h] [U64 l] (w : World) [hLay : Laid w] (ci : w.cell? ⟨bi, 0, none⟩ = some (.func (.func 16) #[] #[])) (cf : w.cell? ⟨bf, 0, none⟩ = some (.int .u8 f)) :
    Calls Tryd.prog 86 #[.agg #[.int .u64 (h), .int .u64 (l)], .pointer (some ⟨bi, 0, none⟩), .pointer (some ⟨bf, 0, none⟩)] w fun en w' => en = .returned (.bool (sigB f (cat h l))) ∧ Below w.heap.size w w' := by
  have sbi : bi < w.heap.size := World.block_lt_of_cell? w _ ci
  have sbf : bf < w.heap.size := World.block_lt_of_cell? w _ cf
  go_enter Tryd.func86, Tryd.ntmps86
  skip
  go_upto_region 1 with fail
  ((first | refine wp_rename ?_ | refine goal_rename ?_); intro W1 hw_W1; have cc1 : W1.cell? ⟨bi, 0, none⟩ = some (.func (.func 16) #[] #[]) := (by rw [hw_W1]; go_simp); have cc2 : W1.cell? ⟨bf, 0, none⟩ = some (.int .u8 f) := (by rw [hw_W1]; go_simp); have cc3 : W1.cell? ⟨w.heap.size, 0, none⟩ = some (.int .u64 h) := (by rw [hw_W1]; go_simp); have cc4 : W1.cell? ⟨w.heap.size, 1, none⟩ = some (.int .u64 l) := (by rw [hw_W1]; go_simp); have hBW : Below w.heap.size w W1 := (by rw [hw_W1]; (first | with_reducible exact drewN_below (by assumption) _ | go_grown)); have hn_W1 := an (nl cc1) (an (nl cc2) (nl cc3)); have lay_W1 : Laid W1 := Laid.below (w := w) (by assumption) hBW; clear hw_W1)
  go_wp2_with fail
  refine (class_Signaling _ _ _ _).mono ?_
  rintro en v1 ⟨rfl, hB1⟩
  have hb1 : Below w.heap.size w v1 := below_after hBW hB1
  go_wp2_with fail
  go_returns
  exact ⟨rfl, by go_grown⟩
set_option maxRecDepth 100000 in
set_option maxHeartbeats 4000000 in
theorem any_index2S (f h l h' l' : Int) [hU : U8 f] (b bi bf : Nat) [U64 h] [U64 l] [U64 h'] [U64 l'] (w : World) [hLay : Laid w] (ci : w.cell? ⟨bi, 0, none⟩ = some (.func (.func 16) #[] #[])) (cf : w.cell? ⟨bf, 0, none⟩ = some (.int .u8 f))
    (c0 : w.cell? ⟨b, 0, none⟩ = some (.int .u64 h)) (c1 : w.cell? ⟨b, 1, none⟩ = some (.int .u64 l)) (c2 : w.cell? ⟨b, 2, none⟩ = some (.int .u64 h')) (c3 : w.cell? ⟨b, 3, none⟩ = some (.int .u64 l')) :
    Calls Tryd.prog 119 #[.slice (some ⟨b, 0, none⟩) 2 2, .func (.func 86) #[] #[.pointer (some ⟨bi, 0, none⟩), .pointer (some ⟨bf, 0, none⟩)]] w fun en w' => en = .returned (.int .i64 (idxTwo (sigB f (cat h l)) (sigB f (cat h' l')))) ∧ Below w.heap.size w w' := by
  cases hn : sigB f (cat h l)
  · cases hn' : sigB f (cat h' l')
    · go_enter Tryd.func119, Tryd.ntmps119
      go_wp2
      refine wp_loop_rounds 3 ?_
      rw [rounds_succ]
      go_wp2_with fail
      refine (any_isS f _ _ bi bf _ ci cf).mono ?_
      rw [hn]
      rintro en v1 ⟨rfl, hB1⟩
      have lay1 : Laid v1 := laid_after hB1
      replace c0 := cell_later hB1 c0; replace c1 := cell_later hB1 c1; replace c2 := cell_later hB1 c2; replace c3 := cell_later hB1 c3; replace ci := cell_later hB1 ci; replace cf := cell_later hB1 cf
      go_wp2_with fail
      rw [rounds_succ]
      go_wp2_with fail
      refine (any_isS f _ _ bi bf _ ci cf).mono ?_
      rw [hn']
      rintro en v2 ⟨rfl, hB2⟩
      have hb2 : Below w.heap.size w v2 := below_after (w := w) hB1 hB2
      go_wp2
      rw [rounds_succ]
      go_wp2
      go_returns
      exact ⟨rfl, by go_grown⟩
    · go_enter Tryd.func119, Tryd.ntmps119
      go_wp2
      refine wp_loop_rounds 3 ?_
      rw [rounds_succ]
      go_wp2_with fail
      refine (any_isS f _ _ bi bf _ ci cf).mono ?_
      rw [hn]
      rintro en v1 ⟨rfl, hB1⟩
      have lay1 : Laid v1 := laid_after hB1
      replace c0 := cell_later hB1 c0; replace c1 := cell_later hB1 c1; replace c2 := cell_later hB1 c2; replace c3 := cell_later hB1 c3; replace ci := cell_later hB1 ci; replace cf := cell_later hB1 cf
      go_wp2_with fail
      rw [rounds_succ]
      go_wp2_with fail
      refine (any_isS f _ _ bi bf _ ci cf).mono ?_
      rw [hn']
      rintro en v2 ⟨rfl, hB2⟩
      have hb2 : Below w.heap.size w v2 := below_after (w := w) hB1 hB2
      go_wp2
      go_returns
      exact ⟨rfl, by go_grown⟩
  · go_enter Tryd.func119, Tryd.ntmps119
    go_wp2
    refine wp_loop_rounds 3 ?_
    rw [rounds_succ]
    go_wp2_with fail
    refine (any_isS f _ _ bi bf _ ci cf).mono ?_
    rw [hn]
    rintro en v1 ⟨rfl, hB1⟩
    have hb1 : Below w.heap.size w v1 := below_after (w := w) (by go_grown) hB1
    go_wp2
    go_returns
    exact ⟨rfl, by go_grown⟩
set_option maxRecDepth 100000 in
set_option maxHeartbeats 4000000 in
theorem any_contains2S (f h l h' l' : Int) [hU : U8 f] (b bi bf : Nat) [U64 h] [U64 l] [U64 h'] [U64 l'] (w : World) [hLay : Laid w] (ci : w.cell? ⟨bi, 0, none⟩ = some (.func (.func 16) #[] #[])) (cf : w.cell? ⟨bf, 0, none⟩ = some (.int .u8 f))
    (c0 : w.cell? ⟨b, 0, none⟩ = some (.int .u64 h)) (c1 : w.cell? ⟨b, 1, none⟩ = some (.int .u64 l)) (c2 : w.cell? ⟨b, 2, none⟩ = some (.int .u64 h')) (c3 : w.cell? ⟨b, 3, none⟩ = some (.int .u64 l')) :
    Calls Tryd.prog 85 #[.slice (some ⟨b, 0, none⟩) 2 2, .func (.func 86) #[] #[.pointer (some ⟨bi, 0, none⟩), .pointer (some ⟨bf, 0, none⟩)]] w fun en w' => en = .returned (.bool (sigB f (cat h l) || sigB f (cat h' l'))) ∧ Below w.heap.size w w' := by
  have hi := idxTwo_ge (sigB f (cat h l)) (sigB f (cat h' l'))
  go_enter Tryd.func85, Tryd.ntmps85
  go_wp2_with fail
  refine (any_index2S f h l h' l' b bi bf _ ci cf c0 c1 c2 c3).mono ?_
  rintro en v1 ⟨rfl, hB1⟩
  go_wp2_with fail
  go_returns
  exact ⟨rfl, by go_grown⟩
set_option maxRecDepth 100000 in
set_option maxHeartbeats 4000000 in
theorem class_AnySig (f h l h' l' : Int) [hU : U8 f] (b : Nat) [U64 h] [U64 l] [U64 h'] [U64 l'] (w : World) [hLay : Laid w]
    (c0 : w.cell? ⟨b, 0, none⟩ = some (.int .u64 h)) (c1 : w.cell? ⟨b, 1, none⟩ = some (.int .u64 l)) (c2 : w.cell? ⟨b, 2, none⟩ = some (.int .u64 h')) (c3 : w.cell? ⟨b, 3, none⟩ = some (.int .u64 l')) :
    Calls Tryd.prog 43 #[.int .u8 f, .func (.func 16) #[] #[], .slice (some ⟨b, 0, none⟩) 2 2] w fun en w' => en = .returned (.bool (sigB f (cat h l) || sigB f (cat h' l'))) ∧ Below w.heap.size w w' := by
  have hb : b < w.heap.size := World.block_lt_of_cell? w _ c0
  have hnn := fun W => neq_nilFuncS W
  go_enter Tryd.func43, Tryd.ntmps43
  skip
  go_upto_region 1 with fail
  ((first | refine wp_rename ?_ | refine goal_rename ?_); intro W1 hw_W1; have cc1 : W1.cell? ⟨b, 0, none⟩ = some (.int .u64 h) := (by rw [hw_W1]; go_simp); have cc2 : W1.cell? ⟨b, 1, none⟩ = some (.int .u64 l) := (by rw [hw_W1]; go_simp); have cc3 : W1.cell? ⟨b, 2, none⟩ = some (.int .u64 h') := (by rw [hw_W1]; go_simp); have cc4 : W1.cell? ⟨b, 3, none⟩ = some (.int .u64 l') := (by rw [hw_W1]; go_simp); have cc5 : W1.cell? ⟨w.heap.size, 0, none⟩ = some (.int .u8 f) := (by rw [hw_W1]; go_simp); have cc6 : W1.cell? ⟨w.heap.size + 1, 0, none⟩ = some (.func (.func 16) #[] #[]) := (by rw [hw_W1]; go_simp); have hBW : Below w.heap.size w W1 := (by rw [hw_W1]; (first | with_reducible exact drewN_below (by assumption) _ | go_grown)); have hn_W1 := an (nl cc1) (an (nl cc5) (nl cc6)); have lay_W1 : Laid W1 := Laid.below (w := w) (by assumption) hBW; clear hw_W1)
  go_wp2_with fail
  refine (any_contains2S f h l h' l' b _ _ _ (by assumption) (by assumption) (by assumption) (by assumption) (by assumption) (by assumption)).mono ?_
  rintro en v1 ⟨rfl, hB1⟩
  have hb1 : Below w.heap.size w v1 := below_after hBW hB1
  go_wp2_with fail
  go_returns
  exact ⟨rfl, by go_grown⟩
end Go.Proofs.YthbpbbbngablpaaDoor
