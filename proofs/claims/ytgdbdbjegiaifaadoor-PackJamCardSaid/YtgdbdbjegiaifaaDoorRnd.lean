/- Rests and jams of natural numbers. -/
import Derived.Test.YtgdbdbjegiaifaaDoorShift7
set_option linter.unusedSimpArgs false
set_option linter.unusedVariables false
namespace Go.Hb
/-- The rest of a number beyond its s lowest bits' floor: 0 none, 1 less than a half, 2 a half, 3 more. -/
def restN (v s : Nat) : Int := if s = 0 then 0 else if v.testBit (s - 1) then (if v % 2 ^ (s - 1) = 0 then 2 else 3) else (if v % 2 ^ (s - 1) = 0 then 0 else 1)
def jamN (v k : Nat) : Nat := if v % 2 ^ k = 0 then v / 2 ^ k else v / 2 ^ k ||| 1
theorem or_one' (x : Nat) : x ||| 1 = 2 * (x / 2) + 1 := or_one x
theorem jamN_half (v k : Nat) : jamN v k / 2 = v / 2 ^ k / 2 := by
  unfold jamN; split
  · rfl
  · rw [or_one']; omega
theorem jam_floor (v k s : Nat) (hs : 1 ≤ s) : jamN v k / 2 ^ s = v / 2 ^ (k + s) := by
  have e : 2 ^ s = 2 * 2 ^ (s - 1) := by rw [← Nat.pow_succ']; congr 1; omega
  rw [e, ← Nat.div_div_eq_div_mul, jamN_half, Nat.div_div_eq_div_mul, Nat.div_div_eq_div_mul, ← e, ← Nat.pow_add]
theorem jam_bit (v k j : Nat) (hj : 1 ≤ j) : (jamN v k).testBit j = v.testBit (k + j) := by
  obtain ⟨i, rfl⟩ : ∃ i, j = i + 1 := ⟨j - 1, by omega⟩
  rw [Nat.testBit_succ, jamN_half, ← Nat.testBit_succ, ← Nat.shiftRight_eq_div_pow, Nat.testBit_shiftRight]
theorem jam_low (v k j : Nat) (hj : 1 ≤ j) : jamN v k % 2 ^ j = 0 ↔ v % 2 ^ (k + j) = 0 := by
  have hp : v % 2 ^ (k + j) = v % 2 ^ k + 2 ^ k * (v / 2 ^ k % 2 ^ j) := by rw [Nat.pow_add, Nat.mod_mul]
  have hk : 0 < 2 ^ k := Nat.two_pow_pos k
  unfold jamN; split
  · rename_i h
    rw [hp, h, Nat.zero_add]
    constructor
    · intro h2; rw [h2, Nat.mul_zero]
    · intro h2; exact (Nat.mul_eq_zero.1 h2).resolve_left (by omega)
  · rename_i h
    constructor
    · intro h2
      exfalso
      have : (v / 2 ^ k ||| 1) % 2 = 0 := by
        have hd : 2 ∣ 2 ^ j := ⟨2 ^ (j - 1), by rw [← Nat.pow_succ']; congr 1; omega⟩
        exact Nat.mod_eq_zero_of_dvd (Nat.dvd_trans hd (Nat.dvd_of_mod_eq_zero h2))
      rw [or_one'] at this; omega
    · intro h2; rw [hp] at h2; omega
theorem jam_rest (v k s : Nat) (hs : 2 ≤ s) : restN (jamN v k) s = restN v (k + s) := by
  have h0 : ¬ s = 0 := by omega
  have h1 : ¬ k + s = 0 := by omega
  unfold restN
  rw [if_neg h0, if_neg h1, jam_bit _ _ _ (by omega), show k + (s - 1) = k + s - 1 by omega]
  have := jam_low v k (s - 1) (by omega)
  rw [show k + (s - 1) = k + s - 1 by omega] at this
  by_cases h : v % 2 ^ (k + s - 1) = 0
  · rw [if_pos (this.2 h), if_pos (this.2 h), if_pos h, if_pos h]
  · rw [if_neg (fun e => h (this.1 e)), if_neg (fun e => h (this.1 e)), if_neg h, if_neg h]
/-- Raised numbers: the bits that come in below are noughts. -/
theorem restN_up (v k s : Nat) (hs : 1 ≤ s) : restN (v * 2 ^ k) (s + k) = restN v s := by
  have h0 : ¬ s = 0 := by omega
  have h1' : ¬ s + k = 0 := by omega
  unfold restN
  rw [if_neg h1', if_neg h0, ← Nat.shiftLeft_eq, Nat.testBit_shiftLeft, Nat.shiftLeft_eq, show s + k - 1 - k = s - 1 by omega, show s + k - 1 = (s - 1) + k by omega, Nat.pow_add, Nat.mul_mod_mul_right]
  have h1 : decide (s - 1 + k ≥ k) = true := by simp
  rw [h1, Bool.true_and]
  have h2 : v % 2 ^ (s - 1) * 2 ^ k = 0 ↔ v % 2 ^ (s - 1) = 0 := by
    have := Nat.two_pow_pos k
    constructor
    · intro h; exact (Nat.mul_eq_zero.1 h).resolve_right (by omega)
    · intro h; rw [h, Nat.zero_mul]
  simp only [h2]
theorem floor_up (v k s : Nat) : v * 2 ^ k / 2 ^ (s + k) = v / 2 ^ s := by
  rw [Nat.pow_add, Nat.mul_div_mul_right _ _ (Nat.two_pow_pos k)]
end Go.Hb
