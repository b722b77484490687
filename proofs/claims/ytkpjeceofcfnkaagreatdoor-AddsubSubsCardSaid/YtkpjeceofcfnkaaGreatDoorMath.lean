/- Plain numbers: how 64-bit words stand for a natural number. No condition. A word that is an int. No condition. -/
import Derived.WalkKit
set_option linter.unusedSimpArgs false
set_option linter.unusedVariables false
namespace Go.Hb
open Go.RowKit

/-- A word of 64 bits. -/
class U64 (x : Int) : Prop where
  ge : 0 ≤ x
  lt : x < 18446744073709551616

/-- A byte. -/
class U8 (x : Int) : Prop where
  ge : 0 ≤ x
  le : x ≤ 255
instance : U8 0 := ⟨by omega, by omega⟩
instance : U8 1 := ⟨by omega, by omega⟩
instance : U8 2 := ⟨by omega, by omega⟩
instance : U8 3 := ⟨by omega, by omega⟩
instance : U8 4 := ⟨by omega, by omega⟩
instance : U8 5 := ⟨by omega, by omega⟩

def hi (n : Nat) : Int := ((n / 18446744073709551616 % 18446744073709551616 : Nat) : Int)
def lo (n : Nat) : Int := ((n % 18446744073709551616 : Nat) : Int)
def cat (h l : Int) : Nat := h.toNat * 18446744073709551616 + l.toNat

instance (n : Nat) : U64 (hi n) := ⟨by unfold hi; omega, by unfold hi; omega⟩
instance (n : Nat) : U64 (lo n) := ⟨by unfold lo; omega, by unfold lo; omega⟩
instance : U64 0 := ⟨by omega, by omega⟩
instance : U64 1 := ⟨by omega, by omega⟩

theorem cat_lt (h l : Int) [hh : U64 h] [hl : U64 l] : cat h l < 340282366920938463463374607431768211456 := by
  have := hh.ge; have := hh.lt; have := hl.ge; have := hl.lt
  unfold cat; omega
theorem hi_cat (h l : Int) [hh : U64 h] [hl : U64 l] : hi (cat h l) = h := by
  have := hh.ge; have := hh.lt; have := hl.ge; have := hl.lt
  unfold hi cat; omega
theorem lo_cat (h l : Int) [hh : U64 h] [hl : U64 l] : lo (cat h l) = l := by
  have := hh.ge; have := hh.lt; have := hl.ge; have := hl.lt
  unfold lo cat; omega
theorem cat_hl (n : Nat) (hn : n < 340282366920938463463374607431768211456) : cat (hi n) (lo n) = n := by
  unfold cat hi lo; omega
theorem hl_eq {h l : Int} {n : Nat} [hh : U64 h] [hl : U64 l] (e : cat h l = n) : h = hi n ∧ l = lo n := by
  subst e; exact ⟨(hi_cat h l).symm, (lo_cat h l).symm⟩

def w1 (n : Nat) : Int := ((n / 18446744073709551616 % 18446744073709551616 : Nat) : Int)
def w2 (n : Nat) : Int := ((n / 340282366920938463463374607431768211456 % 18446744073709551616 : Nat) : Int)
def w3 (n : Nat) : Int := ((n / 6277101735386680763835789423207666416102355444464034512896 % 18446744073709551616 : Nat) : Int)
def cat4 (a b c d : Int) : Nat := a.toNat + b.toNat * 18446744073709551616 + c.toNat * 340282366920938463463374607431768211456 + d.toNat * 6277101735386680763835789423207666416102355444464034512896
instance (n : Nat) : U64 (w1 n) := ⟨by unfold w1; omega, by unfold w1; omega⟩
instance (n : Nat) : U64 (w2 n) := ⟨by unfold w2; omega, by unfold w2; omega⟩
instance (n : Nat) : U64 (w3 n) := ⟨by unfold w3; omega, by unfold w3; omega⟩
theorem cat4_lt (a b c d : Int) [ha : U64 a] [hb : U64 b] [hc : U64 c] [hd : U64 d] : cat4 a b c d < 115792089237316195423570985008687907853269984665640564039457584007913129639936 := by
  have := ha.ge; have := ha.lt; have := hb.ge; have := hb.lt; have := hc.ge; have := hc.lt; have := hd.ge; have := hd.lt
  unfold cat4; omega
theorem cat4_parts (n : Nat) (hn : n < 115792089237316195423570985008687907853269984665640564039457584007913129639936) : cat4 (lo n) (w1 n) (w2 n) (w3 n) = n := by
  unfold cat4 lo w1 w2 w3; omega
theorem parts_cat4 (a b c d : Int) [ha : U64 a] [hb : U64 b] [hc : U64 c] [hd : U64 d] : lo (cat4 a b c d) = a ∧ w1 (cat4 a b c d) = b ∧ w2 (cat4 a b c d) = c ∧ w3 (cat4 a b c d) = d := by
  have := ha.ge; have := ha.lt; have := hb.ge; have := hb.lt; have := hc.ge; have := hc.lt; have := hd.ge; have := hd.lt
  unfold cat4 lo w1 w2 w3; omega


/-- The i-th word of a number; 0 below. -/
def dig (v : Nat) (i : Int) : Int := if i < 0 then 0 else ((v / 2 ^ (64 * i.toNat) % 18446744073709551616 : Nat) : Int)
instance (v : Nat) (i : Int) : U64 (dig v i) := by
  unfold dig; constructor <;> split <;> omega
theorem dig_neg (v : Nat) (i : Int) (h : i < 0) : dig v i = 0 := by simp [dig, h]
theorem dig_big (v : Nat) (i : Int) (k : Nat) (hv : v < 2 ^ (64 * k)) (h : (k : Int) ≤ i) : dig v i = 0 := by
  unfold dig
  rw [if_neg (by omega)]
  have : v / 2 ^ (64 * i.toNat) = 0 := by
    apply Nat.div_eq_of_lt
    exact Nat.lt_of_lt_of_le hv (Nat.pow_le_pow_right (by omega) (by omega))
  simp [this]
theorem dig0 (v : Nat) : dig v 0 = lo v := by unfold dig lo; simp
theorem dig1 (v : Nat) : dig v 1 = w1 v := by unfold dig w1; simp
theorem dig2 (v : Nat) : dig v 2 = w2 v := by unfold dig w2; simp
theorem dig3 (v : Nat) : dig v 3 = w3 v := by unfold dig w3; simp
theorem hi_w1 (v : Nat) : hi v = w1 v := rfl
/-- A number, n bits up; down, where n is negative. -/
def shI (v : Nat) (n : Int) : Nat := if 0 ≤ n then v * 2 ^ n.toNat else v / 2 ^ (-n).toNat
theorem shI_bit (v : Nat) (n : Int) (k : Nat) : (shI v n).testBit k = (decide (0 ≤ (k : Int) - n) && v.testBit ((k : Int) - n).toNat) := by
  unfold shI
  split
  · rw [← Nat.shiftLeft_eq, Nat.testBit_shiftLeft]
    by_cases h : n.toNat ≤ k
    · have : ((k : Int) - n).toNat = k - n.toNat := by omega
      simp [h, this]; omega
    · have : ¬ (0 ≤ (k : Int) - n) := by omega
      simp [h]; omega
  · rw [← Nat.shiftRight_eq_div_pow, Nat.testBit_shiftRight]
    have : ((k : Int) - n).toNat = (-n).toNat + k := by omega
    rw [this]
    have : (0 ≤ (k : Int) - n) := by omega
    rw [decide_eq_true this]; simp
def digN (v : Nat) (i : Int) : Nat := if i < 0 then 0 else v / 2 ^ (64 * i.toNat) % 18446744073709551616
theorem dig_N (v : Nat) (i : Int) : dig v i = (digN v i : Int) := by unfold dig digN; split <;> simp
theorem digN_bit (v : Nat) (i : Int) (k : Nat) : (digN v i).testBit k = (decide (0 ≤ i) && decide (k < 64) && v.testBit (64 * i + k).toNat) := by
  unfold digN
  split
  · rename_i h; have : ¬ 0 ≤ i := by omega
    simp [this]
  · rw [show (18446744073709551616 : Nat) = 2 ^ 64 from rfl, Nat.testBit_mod_two_pow, ← Nat.shiftRight_eq_div_pow, Nat.testBit_shiftRight]
    have : (64 * i + k).toNat = 64 * i.toNat + k := by omega
    rw [this]
    have : 0 ≤ i := by omega
    simp [this]
def mvd (v : Nat) (q r i : Int) : Int := bits BinOp.or IntKind.u64 (IntKind.u64.wrap (dig v (i - q) * 2 ^ r.toNat)) (dig v (i - q - 1) / 2 / 2 ^ (63 - r).toNat)
theorem or_u64_nat (a b : Nat) (ha : a < 2 ^ 64) (hb : b < 2 ^ 64) : Go.bits BinOp.or IntKind.u64 (a : Int) (b : Int) = ((a ||| b : Nat) : Int) :=
  (bits_nat .u64 64 (by decide) (fun n h1 h2 => by rw [IntKind.wrap_u64]; omega) a b ha hb).2
theorem and_i64_63 (n : Int) : Go.bits BinOp.and IntKind.i64 n 63 = n % 64 := by
  have e : ((BitVec.ofInt 64 n) &&& (BitVec.ofInt 64 63)).toNat = (n % 64).toNat := by
    rw [BitVec.toNat_and, BitVec.toNat_ofInt, BitVec.toNat_ofInt]
    rw [show ((63 : Int) % ((2 ^ 64 : Nat) : Int)).toNat = 2 ^ 6 - 1 by decide, Nat.and_two_pow_sub_one_eq_mod]
    omega
  show IntKind.i64.wrap (((BitVec.ofInt 64 n) &&& (BitVec.ofInt 64 63)).toNat : Int) = _
  rw [e, IntKind.wrap_i64]
  omega
theorem mvd_eq (v : Nat) (n i : Int) (hi : 0 ≤ i) : mvd v (n / 64) (n % 64) i = dig (shI v n) i := by
  unfold mvd
  simp only [dig_N]
  rw [IntKind.wrap_u64]
  have e1 : (digN v (i - n / 64) : Int) * 2 ^ (n % 64).toNat % 18446744073709551616 = ((digN v (i - n / 64) <<< (n % 64).toNat % 2 ^ 64 : Nat) : Int) := by
    rw [Nat.shiftLeft_eq]; simp
  have e2 : (digN v (i - n / 64 - 1) : Int) / 2 / 2 ^ (63 - n % 64).toNat = ((digN v (i - n / 64 - 1) >>> (64 - (n % 64).toNat) : Nat) : Int) := by
    rw [Nat.shiftRight_eq_div_pow, show 64 - (n % 64).toNat = 1 + (63 - n % 64).toNat by omega, Nat.pow_add, ← Nat.div_div_eq_div_mul]
    simp
  rw [e1, e2, or_u64_nat _ _ (Nat.mod_lt _ (by decide)) (Nat.lt_of_le_of_lt (Nat.shiftRight_le _ _) (by unfold digN; split <;> omega))]
  congr 1
  apply Nat.eq_of_testBit_eq
  intro k
  rw [Nat.testBit_or, Nat.testBit_mod_two_pow, Nat.testBit_shiftLeft, Nat.testBit_shiftRight, digN_bit, digN_bit, digN_bit, shI_bit]
  have hr0 : 0 ≤ n % 64 := by omega
  have hr1 : n % 64 < 64 := by omega
  have hn : n = 64 * (n / 64) + n % 64 := by omega
  generalize n / 64 = q at *
  generalize n % 64 = r at *
  subst hn
  by_cases hk : k < 64
  · by_cases hrk : r.toNat ≤ k
    · have h2 : ¬ (64 - r.toNat + k < 64) := by omega
      by_cases h0 : 0 ≤ i - q
      · have h3 : 0 ≤ ((64 * i + (k : Int)).toNat : Int) - (64 * q + r) := by omega
        have h4 : (64 * (i - q) + ((k - r.toNat : Nat) : Int)).toNat = (((64 * i + (k : Int)).toNat : Int) - (64 * q + r)).toNat := by omega
        have h5 : k - r.toNat < 64 := by omega
        have h6 : (k ≥ r.toNat) := hrk
        simp only [hk, h6, h2, h0, h3, h4, h5, hi, decide_true, decide_false, Bool.false_and, Bool.and_false, Bool.or_false, Bool.true_and]
      · have h3 : ¬ 0 ≤ ((64 * i + (k : Int)).toNat : Int) - (64 * q + r) := by omega
        simp only [h2, h0, h3, decide_false, Bool.false_and, Bool.and_false, Bool.or_false]
    · have h2 : (64 - r.toNat + k < 64) := by omega
      have h6 : ¬ (k ≥ r.toNat) := by omega
      by_cases h0 : 0 ≤ i - q - 1
      · have h3 : 0 ≤ ((64 * i + (k : Int)).toNat : Int) - (64 * q + r) := by omega
        have h4 : (64 * (i - q - 1) + ((64 - r.toNat + k : Nat) : Int)).toNat = (((64 * i + (k : Int)).toNat : Int) - (64 * q + r)).toNat := by omega
        simp only [hk, h6, h2, h0, h3, h4, hi, decide_true, decide_false, Bool.false_and, Bool.and_false, Bool.false_or, Bool.true_and]
      · have h3 : ¬ 0 ≤ ((64 * i + (k : Int)).toNat : Int) - (64 * q + r) := by omega
        simp only [h6, h0, h3, decide_false, Bool.false_and, Bool.and_false, Bool.or_false]
  · have h2 : ¬ (64 - r.toNat + k < 64) := by omega
    simp only [hk, h2, decide_false, Bool.false_and, Bool.and_false, Bool.or_false]

theorem mvd_up (v : Nat) (n i : Int) (k : Nat) (hi : 0 ≤ i) (hik : i < k) (hn : (64 * k : Int) ≤ n) : mvd v k 0 i = dig (shI v n) i := by
  have e := mvd_eq v (64 * k) i hi
  rw [show ((64 * k : Int)) / 64 = k by omega, show ((64 * k : Int)) % 64 = 0 by omega] at e
  rw [e, dig_N, dig_N]
  congr 1
  apply Nat.eq_of_testBit_eq
  intro j
  rw [digN_bit, digN_bit, shI_bit, shI_bit]
  by_cases hj : j < 64
  · have h1 : ¬ 0 ≤ (((64 * i + (j : Int)).toNat : Nat) : Int) - 64 * k := by omega
    have h2 : ¬ 0 ≤ (((64 * i + (j : Int)).toNat : Nat) : Int) - n := by omega
    simp only [h1, h2, decide_false, Bool.false_and]
  · simp only [hj, decide_false, Bool.false_and, Bool.and_false]
theorem mvd_down (v : Nat) (n i : Int) (k : Nat) (hi : 0 ≤ i) (hv : v < 2 ^ (64 * k)) (hn : n ≤ -(64 * k : Int)) : mvd v (-k) 0 i = dig (shI v n) i := by
  have e := mvd_eq v (-(64 * k)) i hi
  rw [show (-(64 * k : Int)) / 64 = -k by omega, show (-(64 * k : Int)) % 64 = 0 by omega] at e
  rw [e]
  have z : ∀ m : Int, m ≤ -(64 * k : Int) → shI v m = 0 := by
    intro m hm
    unfold shI
    split
    · have : k = 0 := by omega
      subst this
      simp at hv
      simp [hv]
    · exact Nat.div_eq_of_lt (Nat.lt_of_lt_of_le hv (Nat.pow_le_pow_right (by omega) (by omega)))
  rw [z _ (Int.le_refl _), z _ hn]
end Go.Hb

namespace Go.Hb
/-- An int. -/
class I64 (x : Int) : Prop where
  ge : -9223372036854775808 ≤ x
  le : x ≤ 9223372036854775807
end Go.Hb
namespace Go.Hb
/-- How many bits. -/
def blen (n : Nat) : Nat := if n = 0 then 0 else n.log2 + 1
theorem blen_zero : blen 0 = 0 := rfl
theorem blen_pos (n : Nat) (h : n ≠ 0) : blen n = n.log2 + 1 := by simp [blen, h]
theorem blen_unique {n k : Nat} (h1 : n < 2 ^ k) (h2 : k = 0 ∨ 2 ^ (k - 1) ≤ n) : blen n = k := by
  rcases Nat.eq_zero_or_pos k with rfl | hk
  · have : n = 0 := by simpa using h1
    simp [this, blen]
  · have h2 := h2.resolve_left (by omega)
    have hp : 0 < 2 ^ (k - 1) := Nat.two_pow_pos _
    have hn : n ≠ 0 := by omega
    rw [blen_pos n hn, (Nat.log2_eq_iff hn).2 ⟨h2, by rw [show k - 1 + 1 = k by omega]; exact h1⟩]
    omega
theorem blen_lt (n : Nat) : n < 2 ^ blen n := by
  unfold blen; split
  · omega
  · exact Nat.lt_log2_self
theorem blen_le (n : Nat) (h : n ≠ 0) : 2 ^ (blen n - 1) ≤ n := by
  rw [blen_pos n h]; exact Nat.log2_self_le h
theorem blen_ne (v : Nat) (h : v ≠ 0) : 1 ≤ blen v := by rw [blen_pos _ h]; omega
end Go.Hb
