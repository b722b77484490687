/- Equality of results and of bits, as a drawn region asks it. No condition. -/
import Derived.Test.YtgdbdbjegiaifaaDoorEqs
set_option linter.unusedSimpArgs false
set_option linter.unusedVariables false
namespace Go.Proofs.YtgdbdbjegiaifaaDoor
open Go.RowKit Go.Hb
theorem run_eql_res (W : World) (a b c a' b' c' : Int) : (binOp .eql 33 (.agg #[.int .u64 a, .int .u64 b, .int .u8 c]) (.agg #[.int .u64 a', .int .u64 b', .int .u8 c'])).run Tryd.prog W = .ok (.bool (decide ((a = a' ∧ b = b') ∧ c = c'))) W := by
  rw [run_eql_struct, eqIn_res 9997]; rfl
theorem run_neq_res (W : World) (a b c a' b' c' : Int) : (binOp .neq 33 (.agg #[.int .u64 a, .int .u64 b, .int .u8 c]) (.agg #[.int .u64 a', .int .u64 b', .int .u8 c'])).run Tryd.prog W = .ok (.bool (!decide ((a = a' ∧ b = b') ∧ c = c'))) W := by
  rw [run_neq_struct, eqIn_res 9997]; rfl
theorem run_eql_bits (W : World) (a b a' b' : Int) : (binOp .eql 30 (.agg #[.int .u64 a, .int .u64 b]) (.agg #[.int .u64 a', .int .u64 b'])).run Tryd.prog W = .ok (.bool (decide (a = a' ∧ b = b'))) W := by
  rw [run_eql_struct, eqIn_bits 9998]; rfl
theorem run_neq_bits (W : World) (a b a' b' : Int) : (binOp .neq 30 (.agg #[.int .u64 a, .int .u64 b]) (.agg #[.int .u64 a', .int .u64 b'])).run Tryd.prog W = .ok (.bool (!decide (a = a' ∧ b = b'))) W := by
  rw [run_neq_struct, eqIn_bits 9998]; rfl
theorem eql_res_same (W : World) (a b c : Int) : (binOp .eql 33 (.agg #[.int .u64 a, .int .u64 b, .int .u8 c]) (.agg #[.int .u64 a, .int .u64 b, .int .u8 c])).run Tryd.prog W = .ok (.bool true) W := by
  rw [run_eql_res]; simp
theorem neq_res_same (W : World) (a b c : Int) : (binOp .neq 33 (.agg #[.int .u64 a, .int .u64 b, .int .u8 c]) (.agg #[.int .u64 a, .int .u64 b, .int .u8 c])).run Tryd.prog W = .ok (.bool false) W := by
  rw [run_neq_res]; simp
theorem eql_bits_same (W : World) (a b : Int) : (binOp .eql 30 (.agg #[.int .u64 a, .int .u64 b]) (.agg #[.int .u64 a, .int .u64 b])).run Tryd.prog W = .ok (.bool true) W := by
  rw [run_eql_bits]; simp
theorem neq_bits_same (W : World) (a b : Int) : (binOp .neq 30 (.agg #[.int .u64 a, .int .u64 b]) (.agg #[.int .u64 a, .int .u64 b])).run Tryd.prog W = .ok (.bool false) W := by
  rw [run_neq_bits]; simp
/-- Two numbers' bits: equal just if the numbers are, below 2^128. -/
theorem hl_iff (x y : Nat) (hx : x < 2 ^ 128) (hy : y < 2 ^ 128) : (hi x = hi y ∧ lo x = lo y) ↔ x = y := by
  have e : (2 : Nat) ^ 128 = 340282366920938463463374607431768211456 := rfl
  rw [e] at hx hy
  constructor
  · intro h; rw [← cat_hl x hx, ← cat_hl y hy, h.1, h.2]
  · intro h; rw [h]; exact ⟨rfl, rfl⟩
theorem eql_bits_nat (W : World) (x y : Nat) (hx : x < 2 ^ 128) (hy : y < 2 ^ 128) : (binOp .eql 30 (.agg #[.int .u64 (hi (x)), .int .u64 (lo (x))]) (.agg #[.int .u64 (hi (y)), .int .u64 (lo (y))])).run Tryd.prog W = .ok (.bool (decide (x = y))) W := by
  rw [run_eql_bits]; congr 2; rw [decide_eq_decide]; exact hl_iff x y hx hy
theorem neq_bits_nat (W : World) (x y : Nat) (hx : x < 2 ^ 128) (hy : y < 2 ^ 128) : (binOp .neq 30 (.agg #[.int .u64 (hi (x)), .int .u64 (lo (x))]) (.agg #[.int .u64 (hi (y)), .int .u64 (lo (y))])).run Tryd.prog W = .ok (.bool (!decide (x = y))) W := by
  rw [run_neq_bits]; congr 3; rw [decide_eq_decide]; exact hl_iff x y hx hy
end Go.Proofs.YtgdbdbjegiaifaaDoor
