/- What a raised number is less than (toward pack.Round where the number is not nought). -/
import Derived.Test.YtgdbdbjegiaifaaDoorPack4
set_option linter.unusedSimpArgs false
set_option linter.unusedVariables false
namespace Go.Proofs.YtgdbdbjegiaifaaDoor
open Go.RowKit Go.Hb
theorem raise_lt (v : Nat) (h : v < 2 ^ 256) : raiseS v < 2 ^ 256 := by
  obtain ⟨b0, b1⟩ := byS_bd v h
  have hl := blen_lt v
  by_cases h0 : v = 0
  · unfold raiseS lsh; rw [h0, Nat.zero_mul]; exact Nat.two_pow_pos _
  · have e : (byS v).toNat + blen v = 256 := by unfold byS at *; rw [if_neg h0] at *; omega
    have h2 := Nat.mul_lt_mul_of_pos_right hl (Nat.two_pow_pos (byS v).toNat)
    rw [← Nat.pow_add, Nat.add_comm, e] at h2
    exact h2
end Go.Proofs.YtgdbdbjegiaifaaDoor
