/- The contract of class.Any over two and three numbers: for every input. Condition: the listed table is laid. -/
import Derived.Test.YtkpjeceofcfnkaaGreatDoorOver
import Derived.Test.YtkpjeceofcfnkaaGreatDoorFields
import Derived.Laws.EntriesVeiled
set_option maxRecDepth 100000
set_option maxHeartbeats 4000000
set_option linter.unusedSimpArgs false
set_option linter.unusedVariables false
namespace Go.Proofs.YtkpjeceofcfnkaaGreatDoor
open Go.RowKit Go.Hb
def nanB (f : Int) (v : Nat) : Bool := decide (4 ≤ classF f v)
def sigB (f : Int) (v : Nat) : Bool := classF f v == 5
theorem class_NaN (f h l : Int) [hU : U8 f] [U64 h] [U64 l] (w : World) [hLay : Laid w] :
    Calls Tryz.prog 52 #[.int .u8 f, .agg #[.int .u64 (h), .int .u64 (l)]] w fun en w' => en = .returned (.bool (nanB f (cat h l))) ∧ Below w.heap.size w w' := by
  go_enter Tryz.func52, Tryz.ntmps52
  skip
  (go_wp2_with fail; refine (class_Of _ _ _ _).mono ?_; rintro en v1 ⟨rfl, hB_v1⟩; have lay_v1 := laid_after hB_v1; have cc1 := cl hB_v1 (show World.cell? _ ⟨w.heap.size, 0, none⟩ = some (.int .u64 h) by go_simp); have cc2 := cl hB_v1 (show World.cell? _ ⟨w.heap.size, 1, none⟩ = some (.int .u64 l) by go_simp); have hs_v1 := hB_v1.size; (try simp only [World.size_alloc, World.size_setCell, World.size_drew] at hs_v1); have hBW : Below w.heap.size w v1 := below_after (w := w) (by go_grown) hB_v1; have hn_v1 := nl cc1; clear hB_v1)
  go_wp2_with fail
  go_returns
  exact ⟨rfl, by go_grown⟩
theorem class_Signaling (f h l : Int) [hU : U8 f] [U64 h] [U64 l] (w : World) [hLay : Laid w] :
    Calls Tryz.prog 64 #[.int .u8 f, .agg #[.int .u64 (h), .int .u64 (l)]] w fun en w' => en = .returned (.bool (sigB f (cat h l))) ∧ Below w.heap.size w w' := by
  go_enter Tryz.func64, Tryz.ntmps64
  skip
  (go_wp2_with fail; refine (class_Of _ _ _ _).mono ?_; rintro en v1 ⟨rfl, hB_v1⟩; have lay_v1 := laid_after hB_v1; have cc1 := cl hB_v1 (show World.cell? _ ⟨w.heap.size, 0, none⟩ = some (.int .u64 h) by go_simp); have cc2 := cl hB_v1 (show World.cell? _ ⟨w.heap.size, 1, none⟩ = some (.int .u64 l) by go_simp); have hs_v1 := hB_v1.size; (try simp only [World.size_alloc, World.size_setCell, World.size_drew] at hs_v1); have hBW : Below w.heap.size w v1 := below_after (w := w) (by go_grown) hB_v1; have hn_v1 := nl cc1; clear hB_v1)
  go_wp2_with fail
  go_returns
  exact ⟨rfl, by go_grown⟩
theorem pick_is (f h l : Int) (bf : Nat) [hU : U8 f] [U64 h] [U64 l] (w : World) [hLay : Laid w] (cf : w.cell? ⟨bf, 0, none⟩ = some (.int .u8 f)) (sf : bf < w.heap.size) :
    Calls Tryz.prog 60 #[.agg #[.int .u64 (h), .int .u64 (l)], .pointer (some ⟨bf, 0, none⟩)] w fun en w' => en = .returned (.bool (nanB f (cat h l))) ∧ Below w.heap.size w w' := by
  go_enter Tryz.func60, Tryz.ntmps60
  skip
  (go_wp2_with fail; refine (class_NaN _ _ _ _).mono ?_; rintro en v1 ⟨rfl, hB_v1⟩; have lay_v1 := laid_after hB_v1; have cc1 := cl hB_v1 (show World.cell? _ ⟨w.heap.size, 0, none⟩ = some (.int .u64 h) by go_simp); have cc2 := cl hB_v1 (show World.cell? _ ⟨w.heap.size, 1, none⟩ = some (.int .u64 l) by go_simp); have hs_v1 := hB_v1.size; (try simp only [World.size_alloc, World.size_setCell, World.size_drew] at hs_v1); have hBW : Below w.heap.size w v1 := below_after (w := w) (by go_grown) hB_v1; have hn_v1 := nl cc1; clear hB_v1)
  go_wp2_with fail
  go_returns
  exact ⟨rfl, by go_grown⟩
def idx1 (a : Bool) : Int := if a then 0 else -1
def idx2 (a b : Bool) : Int := if a then 0 else if b then 1 else -1
theorem pick_index1 (f h l : Int) (b bf : Nat) [hU : U8 f] [U64 h] [U64 l] (w : World) [hLay : Laid w] (cf : w.cell? ⟨bf, 0, none⟩ = some (.int .u8 f)) (sf : bf < w.heap.size)
    (c0 : w.cell? ⟨b, 0, none⟩ = some (.int .u64 h)) (c1 : w.cell? ⟨b, 1, none⟩ = some (.int .u64 l)) :
    Calls Tryz.prog 59 #[.slice (some ⟨b, 0, none⟩) 1 1, .func (.func 60) #[] #[.pointer (some ⟨bf, 0, none⟩)]] w fun en w' => en = .returned (.int .i64 (idx1 (nanB f (cat h l)))) ∧ Below w.heap.size w w' := by
  cases hn : nanB f (cat h l)
  · go_enter Tryz.func59, Tryz.ntmps59
    go_wp2
    refine wp_loop_rounds 2 ?_
    rw [rounds_succ]
    go_wp2_with fail
    refine (pick_is _ _ _ _ _ cf sf).mono ?_
    rw [hn]
    rintro en v1 ⟨rfl, hB1⟩
    have hb1 : Below w.heap.size w v1 := below_after (w := w) (by go_grown) hB1
    go_wp2
    rw [rounds_succ]
    go_wp2
    go_returns
    exact ⟨rfl, by go_grown⟩
  · go_enter Tryz.func59, Tryz.ntmps59
    go_wp2
    refine wp_loop_rounds 2 ?_
    rw [rounds_succ]
    go_wp2_with fail
    refine (pick_is _ _ _ _ _ cf sf).mono ?_
    rw [hn]
    rintro en v1 ⟨rfl, hB1⟩
    have hb1 : Below w.heap.size w v1 := below_after (w := w) (by go_grown) hB1
    go_wp2
    go_returns
    exact ⟨rfl, by go_grown⟩
end Go.Proofs.YtkpjeceofcfnkaaGreatDoor
namespace Go.Proofs.YtkpjeceofcfnkaaGreatDoor
open Go.RowKit Go.Hb
def idxTwo (a b : Bool) : Int := if a then 0 else if b then 1 else -1
theorem idxTwo_ge (a b : Bool) : decide (idxTwo a b ≥ 0) = (a || b) := by cases a <;> cases b <;> rfl
theorem neq_nilFuncS (W : World) : (binOp .neq 38 (.func (.func 64) #[] #[]) .nilFunc).run Tryz.prog W = .ok (.bool true) W := by kernel_rfl
theorem any_isS (f h l : Int) [hU : U8 f] (bi bf : Nat) [U64 h] [U64 l] (w : World) [hLay : Laid w] (ci : w.cell? ⟨bi, 0, none⟩ = some (.func (.func 64) #[] #[])) (cf : w.cell? ⟨bf, 0, none⟩ = some (.int .u8 f)) :
    Calls Tryz.prog 99 #[.agg #[.int .u64 (h), .int .u64 (l)], .pointer (some ⟨bi, 0, none⟩), .pointer (some ⟨bf, 0, none⟩)] w fun en w' => en = .returned (.bool (sigB f (cat h l))) ∧ Below w.heap.size w w' := by
  have sbi : bi < w.heap.size := World.block_lt_of_cell? w _ ci
  have sbf : bf < w.heap.size := World.block_lt_of_cell? w _ cf
  go_enter Tryz.func99, Tryz.ntmps99
  skip
  go_upto_region 1 with fail
  ((first | refine wp_rename ?_ | refine goal_rename ?_); intro W1 hw_W1; have cc1 : W1.cell? ⟨bi, 0, none⟩ = some (.func (.func 64) #[] #[]) := (by rw [hw_W1]; go_simp); have cc2 : W1.cell? ⟨bf, 0, none⟩ = some (.int .u8 f) := (by rw [hw_W1]; go_simp); have cc3 : W1.cell? ⟨w.heap.size, 0, none⟩ = some (.int .u64 h) := (by rw [hw_W1]; go_simp); have cc4 : W1.cell? ⟨w.heap.size, 1, none⟩ = some (.int .u64 l) := (by rw [hw_W1]; go_simp); have hBW : Below w.heap.size w W1 := (by rw [hw_W1]; (first | with_reducible exact drewN_below (by assumption) _ | go_grown)); have hn_W1 := an (nl cc1) (an (nl cc2) (nl cc3)); have lay_W1 : Laid W1 := Laid.below (w := w) (by assumption) hBW; clear hw_W1)
  go_wp2_with fail
  refine (class_Signaling _ _ _ _).mono ?_
  rintro en v1 ⟨rfl, hB1⟩
  have hb1 : Below w.heap.size w v1 := below_after hBW hB1
  go_wp2_with fail
  go_returns
  exact ⟨rfl, by go_grown⟩
theorem any_index2S (f h l h' l' : Int) [hU : U8 f] (b bi bf : Nat) [U64 h] [U64 l] [U64 h'] [U64 l'] (w : World) [hLay : Laid w] (ci : w.cell? ⟨bi, 0, none⟩ = some (.func (.func 64) #[] #[])) (cf : w.cell? ⟨bf, 0, none⟩ = some (.int .u8 f))
    (c0 : w.cell? ⟨b, 0, none⟩ = some (.int .u64 h)) (c1 : w.cell? ⟨b, 1, none⟩ = some (.int .u64 l)) (c2 : w.cell? ⟨b, 2, none⟩ = some (.int .u64 h')) (c3 : w.cell? ⟨b, 3, none⟩ = some (.int .u64 l')) :
    Calls Tryz.prog 59 #[.slice (some ⟨b, 0, none⟩) 2 2, .func (.func 99) #[] #[.pointer (some ⟨bi, 0, none⟩), .pointer (some ⟨bf, 0, none⟩)]] w fun en w' => en = .returned (.int .i64 (idxTwo (sigB f (cat h l)) (sigB f (cat h' l')))) ∧ Below w.heap.size w w' := by
  cases hn : sigB f (cat h l)
  · cases hn' : sigB f (cat h' l')
    · go_enter Tryz.func59, Tryz.ntmps59
      go_wp2
      refine wp_loop_rounds 3 ?_
      rw [rounds_succ]
      go_wp2_with fail
      refine (any_isS f _ _ bi bf _ ci cf).mono ?_
      rw [hn]
      rintro en v1 ⟨rfl, hB1⟩
      have lay1 : Laid v1 := laid_after hB1
      replace c0 := cell_later hB1 c0; replace c1 := cell_later hB1 c1; replace c2 := cell_later hB1 c2; replace c3 := cell_later hB1 c3; replace ci := cell_later hB1 ci; replace cf := cell_later hB1 cf
      go_wp2_with fail
      rw [rounds_succ]
      go_wp2_with fail
      refine (any_isS f _ _ bi bf _ ci cf).mono ?_
      rw [hn']
      rintro en v2 ⟨rfl, hB2⟩
      have hb2 : Below w.heap.size w v2 := below_after (w := w) hB1 hB2
      go_wp2
      rw [rounds_succ]
      go_wp2
      go_returns
      exact ⟨rfl, by go_grown⟩
    · go_enter Tryz.func59, Tryz.ntmps59
      go_wp2
      refine wp_loop_rounds 3 ?_
      rw [rounds_succ]
      go_wp2_with fail
      refine (any_isS f _ _ bi bf _ ci cf).mono ?_
      rw [hn]
      rintro en v1 ⟨rfl, hB1⟩
      have lay1 : Laid v1 := laid_after hB1
      replace c0 := cell_later hB1 c0; replace c1 := cell_later hB1 c1; replace c2 := cell_later hB1 c2; replace c3 := cell_later hB1 c3; replace ci := cell_later hB1 ci; replace cf := cell_later hB1 cf
      go_wp2_with fail
      rw [rounds_succ]
      go_wp2_with fail
      refine (any_isS f _ _ bi bf _ ci cf).mono ?_
      rw [hn']
      rintro en v2 ⟨rfl, hB2⟩
      have hb2 : Below w.heap.size w v2 := below_after (w := w) hB1 hB2
      go_wp2
      go_returns
      exact ⟨rfl, by go_grown⟩
  · go_enter Tryz.func59, Tryz.ntmps59
    go_wp2
    refine wp_loop_rounds 3 ?_
    rw [rounds_succ]
    go_wp2_with fail
    refine (any_isS f _ _ bi bf _ ci cf).mono ?_
    rw [hn]
    rintro en v1 ⟨rfl, hB1⟩
    have hb1 : Below w.heap.size w v1 := below_after (w := w) (by go_grown) hB1
    go_wp2
    go_returns
    exact ⟨rfl, by go_grown⟩
theorem any_contains2S (f h l h' l' : Int) [hU : U8 f] (b bi bf : Nat) [U64 h] [U64 l] [U64 h'] [U64 l'] (w : World) [hLay : Laid w] (ci : w.cell? ⟨bi, 0, none⟩ = some (.func (.func 64) #[] #[])) (cf : w.cell? ⟨bf, 0, none⟩ = some (.int .u8 f))
    (c0 : w.cell? ⟨b, 0, none⟩ = some (.int .u64 h)) (c1 : w.cell? ⟨b, 1, none⟩ = some (.int .u64 l)) (c2 : w.cell? ⟨b, 2, none⟩ = some (.int .u64 h')) (c3 : w.cell? ⟨b, 3, none⟩ = some (.int .u64 l')) :
    Calls Tryz.prog 98 #[.slice (some ⟨b, 0, none⟩) 2 2, .func (.func 99) #[] #[.pointer (some ⟨bi, 0, none⟩), .pointer (some ⟨bf, 0, none⟩)]] w fun en w' => en = .returned (.bool (sigB f (cat h l) || sigB f (cat h' l'))) ∧ Below w.heap.size w w' := by
  have hi := idxTwo_ge (sigB f (cat h l)) (sigB f (cat h' l'))
  go_enter Tryz.func98, Tryz.ntmps98
  go_wp2_with fail
  refine (any_index2S f h l h' l' b bi bf _ ci cf c0 c1 c2 c3).mono ?_
  rintro en v1 ⟨rfl, hB1⟩
  go_wp2_with fail
  go_returns
  exact ⟨rfl, by go_grown⟩
theorem class_AnySig (f h l h' l' : Int) [hU : U8 f] (b : Nat) [U64 h] [U64 l] [U64 h'] [U64 l'] (w : World) [hLay : Laid w]
    (c0 : w.cell? ⟨b, 0, none⟩ = some (.int .u64 h)) (c1 : w.cell? ⟨b, 1, none⟩ = some (.int .u64 l)) (c2 : w.cell? ⟨b, 2, none⟩ = some (.int .u64 h')) (c3 : w.cell? ⟨b, 3, none⟩ = some (.int .u64 l')) :
    Calls Tryz.prog 63 #[.int .u8 f, .func (.func 64) #[] #[], .slice (some ⟨b, 0, none⟩) 2 2] w fun en w' => en = .returned (.bool (sigB f (cat h l) || sigB f (cat h' l'))) ∧ Below w.heap.size w w' := by
  have hb : b < w.heap.size := World.block_lt_of_cell? w _ c0
  have hnn := fun W => neq_nilFuncS W
  go_enter Tryz.func63, Tryz.ntmps63
  skip
  go_upto_region 1 with fail
  ((first | refine wp_rename ?_ | refine goal_rename ?_); intro W1 hw_W1; have cc1 : W1.cell? ⟨b, 0, none⟩ = some (.int .u64 h) := (by rw [hw_W1]; go_simp); have cc2 : W1.cell? ⟨b, 1, none⟩ = some (.int .u64 l) := (by rw [hw_W1]; go_simp); have cc3 : W1.cell? ⟨b, 2, none⟩ = some (.int .u64 h') := (by rw [hw_W1]; go_simp); have cc4 : W1.cell? ⟨b, 3, none⟩ = some (.int .u64 l') := (by rw [hw_W1]; go_simp); have cc5 : W1.cell? ⟨w.heap.size, 0, none⟩ = some (.int .u8 f) := (by rw [hw_W1]; go_simp); have cc6 : W1.cell? ⟨w.heap.size + 1, 0, none⟩ = some (.func (.func 64) #[] #[]) := (by rw [hw_W1]; go_simp); have hBW : Below w.heap.size w W1 := (by rw [hw_W1]; (first | with_reducible exact drewN_below (by assumption) _ | go_grown)); have hn_W1 := an (nl cc1) (an (nl cc5) (nl cc6)); have lay_W1 : Laid W1 := Laid.below (w := w) (by assumption) hBW; clear hw_W1)
  go_wp2_with fail
  refine (any_contains2S f h l h' l' b _ _ _ (by assumption) (by assumption) (by assumption) (by assumption) (by assumption) (by assumption)).mono ?_
  rintro en v1 ⟨rfl, hB1⟩
  have hb1 : Below w.heap.size w v1 := below_after hBW hB1
  go_wp2_with fail
  go_returns
  exact ⟨rfl, by go_grown⟩
end Go.Proofs.YtkpjeceofcfnkaaGreatDoor
