/- The contracts of package shift: shifts of 256 bits: for every input. -/
import Derived.Test.YtgdbdbjegiaifaaDoorShift
set_option linter.unusedSimpArgs false
set_option linter.unusedVariables false
namespace Go.Proofs.YtgdbdbjegiaifaaDoor
open Go.RowKit Go.Hb
set_option maxRecDepth 100000 in
theorem shift_four (b c : Nat) (x0 x1 x2 x3 : Int) (w : World) (h0 : w.cell? ⟨b, 0, none⟩ = some (.int .u64 x0)) (h1 : w.cell? ⟨b, 1, none⟩ = some (.int .u64 x1)) (h2 : w.cell? ⟨b, 2, none⟩ = some (.int .u64 x2)) (h3 : w.cell? ⟨b, 3, none⟩ = some (.int .u64 x3)) :
    Calls Tryd.prog 91 #[.slice (some ⟨b, 0, none⟩) 4 c] w fun e w' => e = .returned (.agg #[.int .u64 (x0), .int .u64 (x1), .int .u64 (x2), .int .u64 (x3)]) ∧ Below w.heap.size w w' := by
  have hb : b < w.heap.size := World.block_lt_of_cell? w _ h0
  have har : ∀ W, (Instr.arrayAt 28 (Value.slice (some ⟨b, 0, none⟩) 4 c)).run Tryd.prog W = .ok (.pointer (some ⟨b, 0, none⟩)) W := fun W => by kernel_rfl
  go_enter Tryd.func91, Tryd.ntmps91
  go_wp2
  go_returns
  exact ⟨rfl, by go_grown⟩
theorem part4 (bl b c : Nat) (x0 x1 x2 x3 i : Int) [U64 x0] [U64 x1] [U64 x2] [U64 x3] (w : World) (hl : w.cell? ⟨bl, 0, none⟩ = some (.slice (some ⟨b, 0, none⟩) 4 c)) (h0 : w.cell? ⟨b, 0, none⟩ = some (.int .u64 x0)) (h1 : w.cell? ⟨b, 1, none⟩ = some (.int .u64 x1)) (h2 : w.cell? ⟨b, 2, none⟩ = some (.int .u64 x2)) (h3 : w.cell? ⟨b, 3, none⟩ = some (.int .u64 x3)) :
    Calls Tryd.prog 109 #[.int .i64 i, .pointer (some ⟨bl, 0, none⟩)] w fun e w' => e = .returned (.int .u64 (dig (cat4 x0 x1 x2 x3) i)) ∧ w = w' := by
  have hL := Lib.hid (cat4_lt x0 x1 x2 x3)
  have hP := Lib.hid (parts_cat4 x0 x1 x2 x3)
  have : i < 0 ∨ 4 ≤ i ∨ i = 0 ∨ i = 1 ∨ i = 2 ∨ i = 3 := by omega
  rcases this with hi | hi | rfl | rfl | rfl | rfl
  · go_enter Tryd.func109, Tryd.ntmps109
    go_wp2
    go_returns
    exact ⟨ret_int (dig_neg _ _ hi).symm, rfl⟩
  · go_enter Tryd.func109, Tryd.ntmps109
    go_wp2
    go_returns
    exact ⟨ret_int (dig_big _ _ 4 hL.out (by omega)).symm, rfl⟩
  · go_enter Tryd.func109, Tryd.ntmps109
    go_wp2
    go_returns
    exact ⟨ret_int (by rw [dig0, hP.out.1]), rfl⟩
  · go_enter Tryd.func109, Tryd.ntmps109
    go_wp2
    go_returns
    exact ⟨ret_int (by rw [dig1, hP.out.2.1]), rfl⟩
  · go_enter Tryd.func109, Tryd.ntmps109
    go_wp2
    go_returns
    exact ⟨ret_int (by rw [dig2, hP.out.2.2.1]), rfl⟩
  · go_enter Tryd.func109, Tryd.ntmps109
    go_wp2
    go_returns
    exact ⟨ret_int (by rw [dig3, hP.out.2.2.2]), rfl⟩
theorem shift_four_new (n c : Nat) (x0 x1 x2 x3 : Int) (t : TypeId) (w : World) (hn : n = w.heap.size) :
    Calls Tryd.prog 91 #[.slice (some ⟨n, 0, none⟩) 4 c] (w.alloc (.cells #[.int .u64 x0, .int .u64 x1, .int .u64 x2, .int .u64 x3] t)) fun e w' => e = .returned (.agg #[.int .u64 (x0), .int .u64 (x1), .int .u64 (x2), .int .u64 (x3)]) ∧ Below (w.alloc (.cells #[.int .u64 x0, .int .u64 x1, .int .u64 x2, .int .u64 x3] t)).heap.size (w.alloc (.cells #[.int .u64 x0, .int .u64 x1, .int .u64 x2, .int .u64 x3] t)) w' :=
  shift_four n c x0 x1 x2 x3 _ (World.cell?_alloc_at _ _ _ _ hn) (World.cell?_alloc_at _ _ _ _ hn) (World.cell?_alloc_at _ _ _ _ hn) (World.cell?_alloc_at _ _ _ _ hn)
end Go.Proofs.YtgdbdbjegiaifaaDoor
