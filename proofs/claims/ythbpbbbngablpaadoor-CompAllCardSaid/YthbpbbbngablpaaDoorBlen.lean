/- How many bits a natural number has. No condition, no program in sight. -/
import Derived.Test.YthbpbbbngablpaaDoorMath
set_option linter.unusedSimpArgs false
set_option linter.unusedVariables false
namespace Go.Hb
/-- How many bits. -/
def blen (n : Nat) : Nat := if n = 0 then 0 else n.log2 + 1
theorem blen_zero : blen 0 = 0 := rfl
theorem blen_pos (n : Nat) (h : n ≠ 0) : blen n = n.log2 + 1 := by simp [blen, h]
theorem blen_unique {n k : Nat} (h1 : n < 2 ^ k) (h2 : k = 0 ∨ 2 ^ (k - 1) ≤ n) : blen n = k := by
  rcases Nat.eq_zero_or_pos k with rfl | hk
  · have : n = 0 := by simpa using h1
    simp [this, blen]
  · have h2 := h2.resolve_left (by omega)
    have hp : 0 < 2 ^ (k - 1) := Nat.two_pow_pos _
    have hn : n ≠ 0 := by omega
    rw [blen_pos n hn, (Nat.log2_eq_iff hn).2 ⟨h2, by rw [show k - 1 + 1 = k by omega]; exact h1⟩]
    omega
theorem blen_lt (n : Nat) : n < 2 ^ blen n := by
  unfold blen; split
  · omega
  · exact Nat.lt_log2_self
theorem blen_le (n : Nat) (h : n ≠ 0) : 2 ^ (blen n - 1) ≤ n := by
  rw [blen_pos n h]; exact Nat.log2_self_le h
theorem blen_ne (v : Nat) (h : v ≠ 0) : 1 ≤ blen v := by rw [blen_pos _ h]; omega
end Go.Hb
