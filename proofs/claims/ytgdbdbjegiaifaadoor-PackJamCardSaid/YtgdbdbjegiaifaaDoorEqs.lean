/- Equality of small structs: 128 bits; a result. No condition. -/
import Derived.Test.YtgdbdbjegiaifaaDoorKit
set_option linter.unusedSimpArgs false
set_option linter.unusedVariables false
namespace Go.Proofs.YtgdbdbjegiaifaaDoor
open Go.RowKit Go.Hb
theorem eqIn_u64 (d : Nat) (a b : Int) (W : World) : (Op.equalIn (d + 1) 26 (.int .u64 a) (.int .u64 b)).run Tryd.prog W = .ok (a == b) W := run_equalIn_int W d 26 .u64 .u64 a b Tryd.underlying26
set_option maxHeartbeats 1000000 in
@[go_sem] theorem eqIn_bits (d : Nat) (a b a' b' : Int) (W : World) : (Op.equalIn (d + 1 + 1) 30 (.agg #[.int .u64 a, .int .u64 b]) (.agg #[.int .u64 a', .int .u64 b'])).run Tryd.prog W = .ok (decide (a = a' ∧ b = b')) W := by
  have p0 : ∀ (a b : Int) W, (part 26 #[.int .u64 a, .int .u64 b] 0).run Tryd.prog W = .ok (.int .u64 a) W := fun a b W => by kernel_rfl
  have p1 : ∀ (a b : Int) W, (part 26 #[.int .u64 a, .int .u64 b] 1).run Tryd.prog W = .ok (.int .u64 b) W := fun a b W => by kernel_rfl
  rw [run_equalIn_struct W (d + 1) 30 _ _ (by kernel_rfl) (by kernel_rfl)]
  simp only [Program.fieldsOf, Tryd.underlying30]
  by_cases h0 : a = a' <;> by_cases h1 : b = b' <;> simp [Op.eqFields, Sem.run_bind, Result.andThen, p0, p1, eqIn_u64, h0, h1]
set_option maxHeartbeats 1000000 in
@[go_sem] theorem eqIn_res (d : Nat) (a b c a' b' c' : Int) (W : World) : (Op.equalIn (d + 1 + 1 + 1) 33 (.agg #[.int .u64 a, .int .u64 b, .int .u8 c]) (.agg #[.int .u64 a', .int .u64 b', .int .u8 c'])).run Tryd.prog W = .ok (decide ((a = a' ∧ b = b') ∧ c = c')) W := by
  have p0 : ∀ (a b c : Int) W, (part 30 #[.int .u64 a, .int .u64 b, .int .u8 c] 0).run Tryd.prog W = .ok (.agg #[.int .u64 a, .int .u64 b]) W := fun a b c W => by kernel_rfl
  have p1 : ∀ (a b c : Int) W, (part 31 #[.int .u64 a, .int .u64 b, .int .u8 c] 2).run Tryd.prog W = .ok (.int .u8 c) W := fun a b c W => by kernel_rfl
  have e8 : ∀ d (a b : Int) W, (Op.equalIn (d + 1) 31 (.int .u8 a) (.int .u8 b)).run Tryd.prog W = .ok (a == b) W := fun d a b W => run_equalIn_int W d 31 .u8 .u8 a b Tryd.underlying31
  rw [run_equalIn_struct W (d + 1 + 1) 33 _ _ (by kernel_rfl) (by kernel_rfl)]
  simp only [Program.fieldsOf, Tryd.underlying33]
  by_cases h0 : a = a' ∧ b = b' <;> by_cases h1 : c = c' <;> simp [Op.eqFields, Sem.run_bind, Result.andThen, p0, p1, eqIn_bits, e8, h0, h1]
@[go_sem] theorem res_field0 (a b c : Int) (W : World) : (Instr.field 33 (.agg #[.int .u64 a, .int .u64 b, .int .u8 c]) 0).run Tryd.prog W = .ok (.agg #[.int .u64 a, .int .u64 b]) W := by kernel_rfl
@[go_sem] theorem res_field1 (a b c : Int) (W : World) : (Instr.field 33 (.agg #[.int .u64 a, .int .u64 b, .int .u8 c]) 1).run Tryd.prog W = .ok (.int .u8 c) W := by kernel_rfl
end Go.Proofs.YtgdbdbjegiaifaaDoor
