/- The contracts of package wide (but for sums and differences): for every input. -/
import Derived.Test.YtkpjeceofcfnkaaGreatDoorWord
set_option maxRecDepth 100000
set_option maxHeartbeats 1000000
set_option linter.unusedSimpArgs false
set_option linter.unusedVariables false
namespace Go.Proofs.YtkpjeceofcfnkaaGreatDoor
open Go.RowKit Go.Hb
theorem wide_High (x0 x1 x2 x3 : Int) (w : World) :
    Calls Tryz.prog 109 #[.agg #[.int .u64 (x0), .int .u64 (x1), .int .u64 (x2), .int .u64 (x3)]] w fun e w' => e = .returned (.agg #[.int .u64 (x3), .int .u64 (x2)]) ∧ Below w.heap.size w w' := by
  go_enter Tryz.func109, Tryz.ntmps109
  go_wp2
  go_returns
  exact ⟨rfl, by go_grown⟩
theorem wide_Low (x0 x1 x2 x3 : Int) (w : World) :
    Calls Tryz.prog 112 #[.agg #[.int .u64 (x0), .int .u64 (x1), .int .u64 (x2), .int .u64 (x3)]] w fun e w' => e = .returned (.agg #[.int .u64 (x1), .int .u64 (x0)]) ∧ Below w.heap.size w w' := by
  go_enter Tryz.func112, Tryz.ntmps112
  go_wp2
  go_returns
  exact ⟨rfl, by go_grown⟩
theorem wide_Join (ah al bh bl : Int) (w : World) :
    Calls Tryz.prog 76 #[.agg #[.int .u64 (ah), .int .u64 (al)], .agg #[.int .u64 (bh), .int .u64 (bl)]] w fun e w' => e = .returned (.agg #[.int .u64 (bl), .int .u64 (bh), .int .u64 (al), .int .u64 (ah)]) ∧ Below w.heap.size w w' := by
  go_enter Tryz.func76, Tryz.ntmps76
  go_wp2
  go_returns
  exact ⟨rfl, by go_grown⟩
theorem wide_Of (ah al : Int) (w : World) :
    Calls Tryz.prog 35 #[.agg #[.int .u64 (ah), .int .u64 (al)]] w fun e w' => e = .returned (.agg #[.int .u64 (al), .int .u64 (ah), .int .u64 (0), .int .u64 (0)]) ∧ Below w.heap.size w w' := by
  go_enter Tryz.func35, Tryz.ntmps35
  go_wp2
  go_returns
  exact ⟨rfl, by go_grown⟩
theorem eqIn4 (W : World) (x0 x1 x2 x3 y0 y1 y2 y3 : Int) :
    (Op.equalIn 10000 72 (.agg #[.int .u64 x0, .int .u64 x1, .int .u64 x2, .int .u64 x3]) (.agg #[.int .u64 y0, .int .u64 y1, .int .u64 y2, .int .u64 y3])).run Tryz.prog W = .ok (decide (x0 = y0 ∧ x1 = y1 ∧ x2 = y2 ∧ x3 = y3)) W := by
  have hi : ∀ (a b : Int) W, (Op.equalIn 9999 24 (.int .u64 a) (.int .u64 b)).run Tryz.prog W = .ok (a == b) W := fun a b W => run_equalIn_int W 9998 24 .u64 .u64 a b Tryz.underlying24
  have hs : ∀ W, (sizeOf 24).run Tryz.prog W = .ok 1 W := fun W => by kernel_rfl
  have p0 : ∀ (a b c d : Int) W, (part 24 #[.int .u64 a, .int .u64 b, .int .u64 c, .int .u64 d] 0).run Tryz.prog W = .ok (.int .u64 a) W := fun a b c d W => by kernel_rfl
  have p1 : ∀ (a b c d : Int) W, (part 24 #[.int .u64 a, .int .u64 b, .int .u64 c, .int .u64 d] 1).run Tryz.prog W = .ok (.int .u64 b) W := fun a b c d W => by kernel_rfl
  have p2 : ∀ (a b c d : Int) W, (part 24 #[.int .u64 a, .int .u64 b, .int .u64 c, .int .u64 d] 2).run Tryz.prog W = .ok (.int .u64 c) W := fun a b c d W => by kernel_rfl
  have p3 : ∀ (a b c d : Int) W, (part 24 #[.int .u64 a, .int .u64 b, .int .u64 c, .int .u64 d] 3).run Tryz.prog W = .ok (.int .u64 d) W := fun a b c d W => by kernel_rfl
  rw [Op.equalIn]
  simp only [Sem.run_bind, run_underlying Tryz.underlying72, Result.andThen, hs]
  by_cases h0 : x0 = y0 <;> by_cases h1 : x1 = y1 <;> by_cases h2 : x2 = y2 <;> by_cases h3 : x3 = y3 <;>
    simp [Std.Legacy.Range.forIn_eq_forIn_range', List.range', Std.Legacy.Range.size, Sem.run_bind, p0, p1, p2, p3, hi, Result.andThen, h0, h1, h2, h3]
theorem run_eql_wide (W : World) (x0 x1 x2 x3 y0 y1 y2 y3 : Int) :
    (binOp .eql 72 (.agg #[.int .u64 x0, .int .u64 x1, .int .u64 x2, .int .u64 x3]) (.agg #[.int .u64 y0, .int .u64 y1, .int .u64 y2, .int .u64 y3])).run Tryz.prog W = .ok (.bool (decide (x0 = y0 ∧ x1 = y1 ∧ x2 = y2 ∧ x3 = y3))) W := by
  rw [run_eql_struct, eqIn4]; rfl
theorem run_neq_wide (W : World) (x0 x1 x2 x3 y0 y1 y2 y3 : Int) :
    (binOp .neq 72 (.agg #[.int .u64 x0, .int .u64 x1, .int .u64 x2, .int .u64 x3]) (.agg #[.int .u64 y0, .int .u64 y1, .int .u64 y2, .int .u64 y3])).run Tryz.prog W = .ok (.bool (!decide (x0 = y0 ∧ x1 = y1 ∧ x2 = y2 ∧ x3 = y3))) W := by
  rw [run_neq_struct, eqIn4]; rfl
theorem wide_Zero (x0 x1 x2 x3 : Int) [h0 : U64 x0] [h1 : U64 x1] [h2 : U64 x2] [h3 : U64 x3] (w : World) :
    Calls Tryz.prog 91 #[.agg #[.int .u64 (x0), .int .u64 (x1), .int .u64 (x2), .int .u64 (x3)]] w fun e w' => e = .returned (.bool (decide (cat4 x0 x1 x2 x3 = 0))) ∧ Below w.heap.size w w' := by
  have he := fun W => run_eql_wide W x0 x1 x2 x3 0 0 0 0
  go_enter Tryz.func91, Tryz.ntmps91
  go_wp2
  all_goals go_returns
  all_goals refine ⟨ret_bool ?_, by go_grown⟩
  all_goals (have := h0.ge; have := h1.ge; have := h2.ge; have := h3.ge; unfold cat4; rw [Bool.eq_iff_iff]; simp; omega)
end Go.Proofs.YtkpjeceofcfnkaaGreatDoor
