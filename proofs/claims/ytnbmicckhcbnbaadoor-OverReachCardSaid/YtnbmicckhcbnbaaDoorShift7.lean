/- The contracts of package shift: Lost, Jam, WideJam: for every input. -/
import Derived.Test.YtnbmicckhcbnbaaDoorShift6
set_option linter.unusedSimpArgs false
set_option linter.unusedVariables false
namespace Go.Hb
theorem or_one (x : Nat) : x ||| 1 = 2 * (x / 2) + 1 := by
  apply Nat.eq_of_testBit_eq
  intro i
  rw [Nat.testBit_or]
  cases i with
  | zero => simp
  | succ i =>
    rw [Nat.testBit_succ, Nat.testBit_succ, Nat.testBit_succ, show (2 * (x / 2) + 1) / 2 = x / 2 by omega]
    simp
theorem or_one_parts (x : Nat) : Go.bits BinOp.or IntKind.u64 (lo x) 1 = lo (x ||| 1) ∧ w1 x = w1 (x ||| 1) ∧ w2 x = w2 (x ||| 1) ∧ w3 x = w3 (x ||| 1) := by
  have e := (bits_nat .u64 64 (by decide) (fun n h1 h2 => by rw [IntKind.wrap_u64]; omega) (x % 18446744073709551616) 1 (by omega) (by decide)).2
  refine ⟨?_, ?_, ?_, ?_⟩
  · show Go.bits BinOp.or IntKind.u64 ((x % 18446744073709551616 : Nat) : Int) ((1 : Nat) : Int) = _
    rw [e, or_one, or_one]; unfold lo; omega
  · rw [or_one]; unfold w1; omega
  · rw [or_one]; unfold w2; omega
  · rw [or_one]; unfold w3; omega
end Go.Hb
namespace Go.Proofs.YtnbmicckhcbnbaaDoor
open Go.RowKit Go.Hb
/-- Down, the lowest bit 1 if something fell off. -/
def jamS (v : Nat) (n : Int) : Nat := if lostS v n then rsh v n ||| 1 else rsh v n
end Go.Proofs.YtnbmicckhcbnbaaDoor
