/- The contracts of packages class (NaN, Signaling, Any) and nan: for every input. Condition: the listed table is laid. -/
import Derived.Test.YtkpjeceofcfnkaaGreatDoorOver
import Derived.Test.YtkpjeceofcfnkaaGreatDoorFields
import Derived.Laws.EntriesVeiled
set_option linter.unusedSimpArgs false
set_option linter.unusedVariables false
namespace Go.Proofs.YtkpjeceofcfnkaaGreatDoor
open Go.RowKit Go.Hb
def nanB (f : Int) (v : Nat) : Bool := decide (4 ≤ classF f v)
def sigB (f : Int) (v : Nat) : Bool := classF f v == 5
set_option maxRecDepth 100000 in
theorem class_NaN (f h l : Int) [hU : U8 f] [U64 h] [U64 l] (w : World) [hLay : Laid w] :
    Calls Tryz.prog 52 #[.int .u8 f, .agg #[.int .u64 (h), .int .u64 (l)]] w fun en w' => en = .returned (.bool (nanB f (cat h l))) ∧ Below w.heap.size w w' := by
  go_enter Tryz.func52, Tryz.ntmps52
  skip
  (go_wp2_with fail; refine (class_Of _ _ _ _).mono ?_; rintro en v1 ⟨rfl, hB_v1⟩; have lay_v1 := laid_after hB_v1; have cc1 := cl hB_v1 (show World.cell? _ ⟨w.heap.size, 0, none⟩ = some (.int .u64 h) by go_simp); have cc2 := cl hB_v1 (show World.cell? _ ⟨w.heap.size, 1, none⟩ = some (.int .u64 l) by go_simp); have hs_v1 := hB_v1.size; (try simp only [World.size_alloc, World.size_setCell, World.size_drew] at hs_v1); have hBW : Below w.heap.size w v1 := below_after (w := w) (by go_grown) hB_v1; have hn_v1 := nl cc1; clear hB_v1)
  go_wp2_with fail
  go_returns
  exact ⟨rfl, by go_grown⟩
set_option maxRecDepth 100000 in
theorem class_Signaling (f h l : Int) [hU : U8 f] [U64 h] [U64 l] (w : World) [hLay : Laid w] :
    Calls Tryz.prog 64 #[.int .u8 f, .agg #[.int .u64 (h), .int .u64 (l)]] w fun en w' => en = .returned (.bool (sigB f (cat h l))) ∧ Below w.heap.size w w' := by
  go_enter Tryz.func64, Tryz.ntmps64
  skip
  (go_wp2_with fail; refine (class_Of _ _ _ _).mono ?_; rintro en v1 ⟨rfl, hB_v1⟩; have lay_v1 := laid_after hB_v1; have cc1 := cl hB_v1 (show World.cell? _ ⟨w.heap.size, 0, none⟩ = some (.int .u64 h) by go_simp); have cc2 := cl hB_v1 (show World.cell? _ ⟨w.heap.size, 1, none⟩ = some (.int .u64 l) by go_simp); have hs_v1 := hB_v1.size; (try simp only [World.size_alloc, World.size_setCell, World.size_drew] at hs_v1); have hBW : Below w.heap.size w v1 := below_after (w := w) (by go_grown) hB_v1; have hn_v1 := nl cc1; clear hB_v1)
  go_wp2_with fail
  go_returns
  exact ⟨rfl, by go_grown⟩
set_option maxRecDepth 100000 in
theorem pick_is (f h l : Int) (bf : Nat) [hU : U8 f] [U64 h] [U64 l] (w : World) [hLay : Laid w] (cf : w.cell? ⟨bf, 0, none⟩ = some (.int .u8 f)) (sf : bf < w.heap.size) :
    Calls Tryz.prog 60 #[.agg #[.int .u64 (h), .int .u64 (l)], .pointer (some ⟨bf, 0, none⟩)] w fun en w' => en = .returned (.bool (nanB f (cat h l))) ∧ Below w.heap.size w w' := by
  go_enter Tryz.func60, Tryz.ntmps60
  skip
  (go_wp2_with fail; refine (class_NaN _ _ _ _).mono ?_; rintro en v1 ⟨rfl, hB_v1⟩; have lay_v1 := laid_after hB_v1; have cc1 := cl hB_v1 (show World.cell? _ ⟨w.heap.size, 0, none⟩ = some (.int .u64 h) by go_simp); have cc2 := cl hB_v1 (show World.cell? _ ⟨w.heap.size, 1, none⟩ = some (.int .u64 l) by go_simp); have hs_v1 := hB_v1.size; (try simp only [World.size_alloc, World.size_setCell, World.size_drew] at hs_v1); have hBW : Below w.heap.size w v1 := below_after (w := w) (by go_grown) hB_v1; have hn_v1 := nl cc1; clear hB_v1)
  go_wp2_with fail
  go_returns
  exact ⟨rfl, by go_grown⟩
def idx1 (a : Bool) : Int := if a then 0 else -1
def idx2 (a b : Bool) : Int := if a then 0 else if b then 1 else -1
set_option maxRecDepth 100000 in
set_option maxHeartbeats 4000000 in
theorem pick_index1 (f h l : Int) (b bf : Nat) [hU : U8 f] [U64 h] [U64 l] (w : World) [hLay : Laid w] (cf : w.cell? ⟨bf, 0, none⟩ = some (.int .u8 f)) (sf : bf < w.heap.size)
    (c0 : w.cell? ⟨b, 0, none⟩ = some (.int .u64 h)) (c1 : w.cell? ⟨b, 1, none⟩ = some (.int .u64 l)) :
    Calls Tryz.prog 59 #[.slice (some ⟨b, 0, none⟩) 1 1, .func (.func 60) #[] #[.pointer (some ⟨bf, 0, none⟩)]] w fun en w' => en = .returned (.int .i64 (idx1 (nanB f (cat h l)))) ∧ Below w.heap.size w w' := by
  cases hn : nanB f (cat h l)
  · go_enter Tryz.func59, Tryz.ntmps59
    go_wp2
    refine wp_loop_rounds 2 ?_
    rw [rounds_succ]
    go_wp2_with fail
    refine (pick_is _ _ _ _ _ cf sf).mono ?_
    rw [hn]
    rintro en v1 ⟨rfl, hB1⟩
    have hb1 : Below w.heap.size w v1 := below_after (w := w) (by go_grown) hB1
    go_wp2
    rw [rounds_succ]
    go_wp2
    go_returns
    exact ⟨rfl, by go_grown⟩
  · go_enter Tryz.func59, Tryz.ntmps59
    go_wp2
    refine wp_loop_rounds 2 ?_
    rw [rounds_succ]
    go_wp2_with fail
    refine (pick_is _ _ _ _ _ cf sf).mono ?_
    rw [hn]
    rintro en v1 ⟨rfl, hB1⟩
    have hb1 : Below w.heap.size w v1 := below_after (w := w) (by go_grown) hB1
    go_wp2
    go_returns
    exact ⟨rfl, by go_grown⟩
end Go.Proofs.YtkpjeceofcfnkaaGreatDoor
