/- Natural numbers by digits of 32 bits, and the contracts of the reference's numbers (chapter 1): Trim, Add, Sub, Shl, Shr, Of, Cut, Full, Big, Bits, Bit, Len, Cmp: for every number that is not too long. -/
import Derived.Test.YtkpjeceofcfnkaaGreatDoorMath
import Derived.Test.YtkpjeceofcfnkaaGreatDoorKit
import Derived.WalkKit
import Derived.LoopTactic
set_option maxRecDepth 100000
set_option maxHeartbeats 1000000
set_option linter.unusedSimpArgs false
set_option linter.unusedVariables false
namespace Go.Hb
/-- A digit of 32 bits. -/
def d32 (n i : Nat) : Nat := n / 2 ^ (32 * i) % 4294967296
/-- How many digits. -/
def dl (n : Nat) : Nat := (blen n + 31) / 32
theorem d32_lt (n i : Nat) : d32 n i < 4294967296 := Nat.mod_lt _ (by decide)
theorem blen_le_of (n k : Nat) (h : n < 2 ^ k) : blen n ≤ k := by
  by_cases h0 : n = 0
  · subst h0; exact Nat.zero_le _
  · have h1 := blen_le n h0
    have h2 : blen n - 1 < k := (Nat.pow_lt_pow_iff_right (by decide)).1 (Nat.lt_of_le_of_lt h1 h)
    omega
theorem lt_of_blen (n k : Nat) (h : blen n ≤ k) : n < 2 ^ k := Nat.lt_of_lt_of_le (blen_lt n) (Nat.pow_le_pow_right (by decide) h)
theorem blen_mono {a b : Nat} (h : a ≤ b) : blen a ≤ blen b := blen_le_of _ _ (Nat.lt_of_le_of_lt h (blen_lt b))
theorem dl_lt (n : Nat) : n < 2 ^ (32 * dl n) := lt_of_blen _ _ (by unfold dl; omega)
theorem dl_le (n L : Nat) (h : n < 2 ^ (32 * L)) : dl n ≤ L := by
  have := blen_le_of _ _ h
  unfold dl; omega
theorem dl_zero : dl 0 = 0 := by unfold dl; rw [blen_zero]
theorem dl_pos (n : Nat) (h : n ≠ 0) : 1 ≤ dl n := by have := blen_ne n h; unfold dl; omega
theorem d32_big (n L i : Nat) (h : n < 2 ^ (32 * L)) (hi : L ≤ i) : d32 n i = 0 := by
  unfold d32
  rw [Nat.div_eq_of_lt (Nat.lt_of_lt_of_le h (Nat.pow_le_pow_right (by decide) (by omega)))]
theorem d32_out (n i : Nat) (hi : dl n ≤ i) : d32 n i = 0 := d32_big n (dl n) i (dl_lt n) hi
theorem pow32 (L : Nat) : 2 ^ (32 * (L + 1)) = 2 ^ (32 * L) * 4294967296 := by rw [Nat.mul_add, Nat.pow_add]
/-- The highest digit of a number, and what lies below. -/
theorem mod_succ32 (n L : Nat) : n % 2 ^ (32 * (L + 1)) = n % 2 ^ (32 * L) + 2 ^ (32 * L) * d32 n L := by
  unfold d32
  rw [pow32, Nat.mod_mul]
theorem top_zero (n L : Nat) (h : n < 2 ^ (32 * (L + 1))) (hd : d32 n L = 0) : n < 2 ^ (32 * L) := by
  have h1 := mod_succ32 n L
  rw [Nat.mod_eq_of_lt h, hd, Nat.mul_zero, Nat.add_zero] at h1
  rw [h1]
  exact Nat.mod_lt _ (Nat.two_pow_pos _)
theorem top_some (n L : Nat) (h : n < 2 ^ (32 * (L + 1))) (hd : d32 n L ≠ 0) : dl n = L + 1 := by
  have h1 := dl_le n (L + 1) h
  by_cases h2 : dl n ≤ L
  · exact absurd (d32_out n L h2) hd
  · omega
/-- A number is told by its digits. -/
theorem d32_ext (a b L : Nat) (ha : a < 2 ^ (32 * L)) (hb : b < 2 ^ (32 * L)) (h : ∀ i, i < L → d32 a i = d32 b i) : a = b := by
  have key : ∀ k, k ≤ L → a % 2 ^ (32 * k) = b % 2 ^ (32 * k) := fun k => by
    induction k with
    | zero => intro _; simp [Nat.mod_one]
    | succ k ih => intro hk; rw [mod_succ32, mod_succ32, ih (by omega), h k (by omega)]
  have := key L (Nat.le_refl _)
  rwa [Nat.mod_eq_of_lt ha, Nat.mod_eq_of_lt hb] at this
/-! Sums. -/
def carA (a b k : Nat) : Nat := (a % 2 ^ (32 * k) + b % 2 ^ (32 * k)) / 2 ^ (32 * k)
theorem carA_zero (a b : Nat) : carA a b 0 = 0 := by unfold carA; simp [Nat.mod_one]
theorem carA_le (a b k : Nat) : carA a b k ≤ 1 := by
  unfold carA
  have h0 := Nat.two_pow_pos (32 * k)
  have h1 := Nat.mod_lt a h0
  have h2 := Nat.mod_lt b h0
  exact Nat.le_of_lt_succ ((Nat.div_lt_iff_lt_mul h0).2 (by omega))
theorem carA_div (a b k : Nat) : (a + b) / 2 ^ (32 * k) = a / 2 ^ (32 * k) + b / 2 ^ (32 * k) + carA a b k := by
  unfold carA
  have h0 := Nat.two_pow_pos (32 * k)
  have h1 := Nat.div_add_mod a (2 ^ (32 * k))
  have h2 := Nat.div_add_mod b (2 ^ (32 * k))
  have e : a + b = (a % 2 ^ (32 * k) + b % 2 ^ (32 * k)) + 2 ^ (32 * k) * (a / 2 ^ (32 * k) + b / 2 ^ (32 * k)) := by
    rw [Nat.mul_add]; omega
  rw [e, Nat.add_mul_div_left _ _ h0]
  omega
theorem carA_step (a b k : Nat) : carA a b (k + 1) = (carA a b k + d32 a k + d32 b k) / 4294967296 := by
  have h0 := Nat.two_pow_pos (32 * k)
  have h : carA a b (k + 1) = (a % 2 ^ (32 * (k + 1)) + b % 2 ^ (32 * (k + 1))) / (2 ^ (32 * k) * 4294967296) := by unfold carA; rw [← pow32]
  rw [h, ← Nat.div_div_eq_div_mul, mod_succ32, mod_succ32]
  have e : a % 2 ^ (32 * k) + 2 ^ (32 * k) * d32 a k + (b % 2 ^ (32 * k) + 2 ^ (32 * k) * d32 b k) = a % 2 ^ (32 * k) + b % 2 ^ (32 * k) + 2 ^ (32 * k) * (d32 a k + d32 b k) := by rw [Nat.mul_add]; omega
  rw [e, Nat.add_mul_div_left _ _ h0]
  unfold carA
  congr 1
  omega
theorem carA_dig (a b k : Nat) : d32 (a + b) k = (carA a b k + d32 a k + d32 b k) % 4294967296 := by
  unfold d32
  rw [carA_div]
  omega
theorem carA_end (a b L : Nat) (ha : a < 2 ^ (32 * L)) (hb : b < 2 ^ (32 * L)) : carA a b L = d32 (a + b) L ∧ a + b < 2 ^ (32 * (L + 1)) := by
  have h0 := Nat.two_pow_pos (32 * L)
  refine ⟨?_, by rw [pow32]; omega⟩
  rw [carA_dig, d32_big a L L ha (Nat.le_refl _), d32_big b L L hb (Nat.le_refl _)]
  have := carA_le a b L
  omega
/-! Differences. -/
def borS (a b k : Nat) : Nat := if a % 2 ^ (32 * k) < b % 2 ^ (32 * k) then 1 else 0
theorem borS_zero (a b : Nat) : borS a b 0 = 0 := by unfold borS; simp [Nat.mod_one]
theorem borS_le (a b k : Nat) : borS a b k ≤ 1 := by unfold borS; split <;> omega
theorem borS_step (a b k : Nat) : borS a b (k + 1) = 1 - (d32 a k + 4294967296 - d32 b k - borS a b k) / 4294967296 := by
  have h0 := Nat.two_pow_pos (32 * k)
  have ha := Nat.mod_lt a h0
  have hb := Nat.mod_lt b h0
  have da := d32_lt a k
  have db := d32_lt b k
  unfold borS
  rw [mod_succ32, mod_succ32]
  generalize a % 2 ^ (32 * k) = x at *
  generalize b % 2 ^ (32 * k) = y at *
  generalize 2 ^ (32 * k) = B at *
  generalize d32 a k = p at *
  generalize d32 b k = q at *
  rcases Nat.lt_trichotomy p q with h | h | h
  · have h1 : B * (p + 1) ≤ B * q := Nat.mul_le_mul_left B h
    rw [Nat.mul_add, Nat.mul_one] at h1
    have e : x + B * p < y + B * q := by omega
    rw [if_pos e]
    split <;> omega
  · subst h
    by_cases hxy : x < y
    · rw [if_pos (by omega), if_pos hxy]; omega
    · rw [if_neg (by omega), if_neg hxy]; omega
  · have h1 : B * (q + 1) ≤ B * p := Nat.mul_le_mul_left B h
    rw [Nat.mul_add, Nat.mul_one] at h1
    have e : ¬ x + B * p < y + B * q := by omega
    rw [if_neg e]
    split <;> omega
theorem borS_div (a b k : Nat) (h : b ≤ a) : (a - b) / 2 ^ (32 * k) + b / 2 ^ (32 * k) + borS a b k = a / 2 ^ (32 * k) := by
  have h0 := Nat.two_pow_pos (32 * k)
  have e := carA_div (a - b) b k
  rw [Nat.sub_add_cancel h] at e
  have hc : carA (a - b) b k = borS a b k := by
    have h1 := Nat.mod_lt (a - b) h0
    have h2 := Nat.mod_lt b h0
    have h3 : a % 2 ^ (32 * k) = ((a - b) % 2 ^ (32 * k) + b % 2 ^ (32 * k)) % 2 ^ (32 * k) := by rw [← Nat.add_mod, Nat.sub_add_cancel h]
    unfold carA borS
    generalize (a - b) % 2 ^ (32 * k) = x at *
    generalize b % 2 ^ (32 * k) = y at *
    generalize 2 ^ (32 * k) = B at *
    rw [h3]
    by_cases hxy : x + y < B
    · rw [Nat.div_eq_of_lt hxy, Nat.mod_eq_of_lt hxy, if_neg (by omega)]
    · have e1 : (x + y) % B = x + y - B := by rw [Nat.mod_eq_sub_mod (by omega), Nat.mod_eq_of_lt (by omega)]
      have e2 : (x + y) / B = 1 := Nat.div_eq_of_lt_le (by omega) (by omega)
      rw [e1, e2, if_pos (by omega)]
  omega
theorem borS_dig (a b k : Nat) (h : b ≤ a) : d32 (a - b) k = (d32 a k + 4294967296 - d32 b k - borS a b k) % 4294967296 := by
  have e := borS_div a b k h
  have h1 := borS_le a b k
  have db := d32_lt b k
  unfold d32 at *
  omega
/-! Shifts. -/
theorem mod_32 (a k r : Nat) (_hr : r < 32) : a * 2 ^ r / 2 ^ (32 * k) = a / 2 ^ (32 * k) * 2 ^ r + a % 2 ^ (32 * k) * 2 ^ r / 2 ^ (32 * k) := by
  have h0 := Nat.two_pow_pos (32 * k)
  have e : a * 2 ^ r = a % 2 ^ (32 * k) * 2 ^ r + 2 ^ (32 * k) * (a / 2 ^ (32 * k) * 2 ^ r) := by
    have := Nat.div_add_mod a (2 ^ (32 * k))
    rw [← Nat.mul_assoc, ← Nat.add_mul]
    congr 1; omega
  conv => lhs; rw [e]
  rw [Nat.add_mul_div_left _ _ h0]; omega
def carL (a r k : Nat) : Nat := a % 2 ^ (32 * k) * 2 ^ r / 2 ^ (32 * k)
theorem carL_zero (a r : Nat) : carL a r 0 = 0 := by unfold carL; simp [Nat.mod_one]
theorem carL_lt (a r k : Nat) : carL a r k < 2 ^ r := by
  unfold carL
  have h0 := Nat.two_pow_pos (32 * k)
  rw [Nat.div_lt_iff_lt_mul h0, Nat.mul_comm (2 ^ r)]
  exact Nat.mul_lt_mul_of_pos_right (Nat.mod_lt _ h0) (Nat.two_pow_pos _)
theorem carL_step (a r k : Nat) : carL a r (k + 1) = (carL a r k + d32 a k * 2 ^ r) / 4294967296 := by
  have h0 := Nat.two_pow_pos (32 * k)
  have h : carL a r (k + 1) = a % 2 ^ (32 * (k + 1)) * 2 ^ r / (2 ^ (32 * k) * 4294967296) := by unfold carL; rw [← pow32]
  rw [h, ← Nat.div_div_eq_div_mul, mod_succ32, Nat.add_mul, Nat.mul_assoc, Nat.add_mul_div_left _ _ h0]
  rfl
theorem carL_dig (a r k : Nat) (hr : r < 32) : d32 (a * 2 ^ r) k = (carL a r k + d32 a k * 2 ^ r) % 4294967296 := by
  unfold d32 carL
  rw [mod_32 a k r hr, Nat.add_mod, Nat.add_mod (a % 2 ^ (32 * k) * 2 ^ r / 2 ^ (32 * k)), Nat.mod_mul_mod]
  rw [Nat.add_comm]
theorem d32_low (a q i : Nat) (hi : i < q) : d32 (a * 2 ^ (32 * q)) i = 0 := by
  unfold d32
  rw [show 32 * q = 32 * i + (32 + 32 * (q - i - 1)) by omega, Nat.pow_add, Nat.mul_comm (2 ^ (32 * i)), ← Nat.mul_assoc, Nat.mul_div_cancel _ (Nat.two_pow_pos _), Nat.pow_add, show (2:Nat) ^ 32 = 4294967296 from rfl, Nat.mul_comm 4294967296, ← Nat.mul_assoc, Nat.mul_mod_left]
theorem d32_up (a q i : Nat) : d32 (a * 2 ^ (32 * q)) (q + i) = d32 a i := by
  unfold d32
  rw [Nat.mul_add, Nat.pow_add, ← Nat.div_div_eq_div_mul, Nat.mul_div_cancel _ (Nat.two_pow_pos _)]
theorem shl_split (a n : Nat) : a * 2 ^ n = a * 2 ^ (n % 32) * 2 ^ (32 * (n / 32)) := by
  rw [Nat.mul_assoc, ← Nat.pow_add]; congr 2; omega
theorem shl_low (a n i : Nat) (h : i < n / 32) : d32 (a * 2 ^ n) i = 0 := by rw [shl_split]; exact d32_low _ _ _ h
theorem shl_dig (a n k : Nat) : d32 (a * 2 ^ n) (n / 32 + k) = (carL a (n % 32) k + d32 a k * 2 ^ (n % 32)) % 4294967296 := by
  rw [shl_split, d32_up, carL_dig _ _ _ (Nat.mod_lt _ (by decide))]
theorem shl_end (a n L : Nat) (ha : a < 2 ^ (32 * L)) : carL a (n % 32) L = d32 (a * 2 ^ n) (n / 32 + L) ∧ a * 2 ^ n < 2 ^ (32 * (n / 32 + L + 1)) := by
  have h2 : 2 ^ (n % 32) ≤ 2 ^ 32 := Nat.pow_le_pow_right (by decide) (by omega)
  refine ⟨?_, ?_⟩
  · rw [shl_dig, d32_big a L L ha (Nat.le_refl _), Nat.zero_mul, Nat.add_zero]
    exact (Nat.mod_eq_of_lt (Nat.lt_of_lt_of_le (carL_lt _ _ _) h2)).symm
  · have e : 2 ^ (32 * (n / 32 + L + 1)) = 2 ^ (32 * L) * 2 ^ (32 * (n / 32) + 32) := by rw [← Nat.pow_add]; congr 1; omega
    rw [e]
    have h1 : 2 ^ n ≤ 2 ^ (32 * (n / 32) + 32) := Nat.pow_le_pow_right (by decide) (by omega)
    exact Nat.lt_of_le_of_lt (Nat.mul_le_mul_left a h1) (Nat.mul_lt_mul_of_pos_right ha (Nat.two_pow_pos _))
/-- Disjoint bits. -/
theorem or_add (c x r : Nat) (h : c < 2 ^ r) : c ||| (x * 2 ^ r) = c + x * 2 ^ r := by
  rw [Nat.or_comm, Nat.mul_comm, Nat.two_pow_add_eq_or_of_lt h x |>.symm, Nat.add_comm]
theorem shr_dig (a n i : Nat) : d32 (a / 2 ^ n) i = (d32 a (n / 32 + i) + d32 a (n / 32 + i + 1) * 4294967296) / 2 ^ (n % 32) % 4294967296 := by
  have hr : n % 32 < 32 := Nat.mod_lt _ (by decide)
  have e1 : a / 2 ^ n / 2 ^ (32 * i) = a / 2 ^ (32 * (n / 32 + i)) / 2 ^ (n % 32) := by
    rw [Nat.div_div_eq_div_mul, Nat.div_div_eq_div_mul, ← Nat.pow_add, ← Nat.pow_add]; congr 2; omega
  have e2 : a / 2 ^ (32 * (n / 32 + i + 1)) = a / 2 ^ (32 * (n / 32 + i)) / 4294967296 := by rw [pow32, Nat.div_div_eq_div_mul]
  unfold d32
  rw [e1, e2]
  generalize a / 2 ^ (32 * (n / 32 + i)) = x
  apply Nat.eq_of_testBit_eq
  intro j
  rw [show x % 4294967296 + x / 4294967296 % 4294967296 * 4294967296 = x % (4294967296 * 4294967296) by rw [Nat.mod_mul, Nat.mul_comm 4294967296]]
  rw [show (4294967296 * 4294967296 : Nat) = 2 ^ 64 from rfl, show (4294967296 : Nat) = 2 ^ 32 from rfl]
  simp only [Nat.testBit_mod_two_pow, Nat.testBit_div_two_pow]
  by_cases hj : j < 32
  · simp [hj, show j + n % 32 < 64 by omega]
  · simp [hj]
theorem shr_len (a n : Nat) : a / 2 ^ n < 2 ^ (32 * (dl a - n / 32)) := by
  rw [Nat.div_lt_iff_lt_mul (Nat.two_pow_pos _), ← Nat.pow_add]
  exact Nat.lt_of_lt_of_le (dl_lt a) (Nat.pow_le_pow_right (by decide) (by omega))
theorem bit_dig (a i : Nat) : (d32 a (i / 32) / 2 ^ (i % 32) % 2 = 1) ↔ a.testBit i = true := by
  rw [Nat.testBit_eq_decide_div_mod_eq, decide_eq_true_eq]
  have : d32 a (i / 32) / 2 ^ (i % 32) % 2 = a / 2 ^ i % 2 := by
    unfold d32
    have e : a / 2 ^ i = a / 2 ^ (32 * (i / 32)) / 2 ^ (i % 32) := by rw [Nat.div_div_eq_div_mul, ← Nat.pow_add]; congr 2; omega
    rw [e]
    generalize a / 2 ^ (32 * (i / 32)) = x
    have hr : i % 32 < 32 := Nat.mod_lt _ (by decide)
    have e2 : (4294967296 : Nat) = 2 ^ (i % 32) * 2 ^ (32 - i % 32) := by rw [← Nat.pow_add, show i % 32 + (32 - i % 32) = 32 by omega]
    rw [e2, Nat.mod_mul_right_div_self]
    rw [show (2:Nat) ^ (32 - i % 32) = 2 * 2 ^ (32 - i % 32 - 1) by rw [← Nat.pow_succ']; congr 1; omega]
    rw [Nat.mod_mul_right_mod]
  rw [this]
/-- Numbers of 64 and of 128 bits by their digits. -/
theorem two_dig (n : Nat) : d32 n 0 + d32 n 1 * 4294967296 = n % 18446744073709551616 := by
  unfold d32; simp only [Nat.mul_zero, Nat.pow_zero, Nat.div_one, Nat.mul_one, show (2:Nat) ^ 32 = 4294967296 from rfl]; omega
theorem two_dig2 (n : Nat) : d32 n 2 + d32 n 3 * 4294967296 = n / 18446744073709551616 % 18446744073709551616 := by
  unfold d32; simp only [show 32 * 2 = 64 from rfl, show 32 * 3 = 96 from rfl, show (2:Nat) ^ 64 = 18446744073709551616 from rfl, show (2:Nat) ^ 96 = 79228162514264337593543950336 from rfl]; omega
/-- The length of the highest digit. -/
theorem blen_top (n : Nat) (h : n ≠ 0) : blen n = 32 * (dl n - 1) + blen (d32 n (dl n - 1)) ∧ 1 ≤ d32 n (dl n - 1) := by
  have hp := dl_pos n h
  have h1 := dl_lt n
  have hd : d32 n (dl n - 1) ≠ 0 := fun h0 => by
    have := dl_le n _ (top_zero n (dl n - 1) (by rw [show dl n - 1 + 1 = dl n by omega]; exact h1) h0)
    omega
  have e : d32 n (dl n - 1) = n / 2 ^ (32 * (dl n - 1)) := by
    unfold d32
    apply Nat.mod_eq_of_lt
    rw [Nat.div_lt_iff_lt_mul (Nat.two_pow_pos _), Nat.mul_comm, ← pow32, show dl n - 1 + 1 = dl n by omega]
    exact h1
  refine ⟨?_, by omega⟩
  rw [e] at hd ⊢
  generalize 32 * (dl n - 1) = s at *
  have hb1 := blen_lt (n / 2 ^ s)
  have hb2 := blen_le (n / 2 ^ s) hd
  have hb3 := blen_ne _ hd
  apply blen_unique
  · rw [Nat.pow_add, Nat.mul_comm]
    exact (Nat.div_lt_iff_lt_mul (Nat.two_pow_pos _)).1 hb1
  · right
    rw [show s + blen (n / 2 ^ s) - 1 = s + (blen (n / 2 ^ s) - 1) by omega, Nat.pow_add]
    exact Nat.le_trans (Nat.mul_le_mul_left _ hb2) (Nat.mul_div_le n _)
/-- Two numbers held against each other by their digits: alike above k. -/
def aboveD (a b L k : Nat) : Prop := ∀ i, k ≤ i → i < L → d32 a i = d32 b i
theorem above_eq (a b L : Nat) (ha : a < 2 ^ (32 * L)) (hb : b < 2 ^ (32 * L)) (h : aboveD a b L 0) : a = b := d32_ext a b L ha hb fun i hi => h i (Nat.zero_le _) hi
theorem above_div (a b L k : Nat) (hk : k ≤ L) (ha : a < 2 ^ (32 * L)) (hb : b < 2 ^ (32 * L)) (h : aboveD a b L k) : a / 2 ^ (32 * k) = b / 2 ^ (32 * k) := by
  apply d32_ext _ _ (L - k)
  · rw [Nat.div_lt_iff_lt_mul (Nat.two_pow_pos _), ← Nat.pow_add, ← Nat.mul_add, show L - k + k = L by omega]; exact ha
  · rw [Nat.div_lt_iff_lt_mul (Nat.two_pow_pos _), ← Nat.pow_add, ← Nat.mul_add, show L - k + k = L by omega]; exact hb
  · intro i hi
    have := h (k + i) (by omega) (by omega)
    unfold d32 at *
    rwa [Nat.div_div_eq_div_mul, Nat.div_div_eq_div_mul, ← Nat.pow_add, ← Nat.mul_add]
theorem above_lt (a b L k : Nat) (hk : k < L) (ha : a < 2 ^ (32 * L)) (hb : b < 2 ^ (32 * L)) (h : aboveD a b L (k + 1)) (hd : d32 a k < d32 b k) : a < b := by
  have h1 := above_div a b L (k + 1) (by omega) ha hb h
  have e : ∀ x : Nat, x / 2 ^ (32 * k) = x / 2 ^ (32 * (k + 1)) * 4294967296 + d32 x k := fun x => by
    unfold d32; rw [pow32, ← Nat.div_div_eq_div_mul]; omega
  have h2 : a / 2 ^ (32 * k) < b / 2 ^ (32 * k) := by rw [e a, e b, h1]; omega
  exact Nat.lt_of_not_le fun hba => by have := Nat.div_le_div_right (c := 2 ^ (32 * k)) hba; omega
theorem dl_less (a b : Nat) (h : dl a < dl b) : a < b := Nat.lt_of_not_le fun hba => by
  have := blen_mono hba
  unfold dl at h; omega
end Go.Hb
namespace Go.Proofs.YtkpjeceofcfnkaaGreatDoor
open Go.RowKit Go.Hb
/-- The first L digits of n, as values. -/
def digs (L n : Nat) : List Value := (List.range L).map fun i => .int .u32 (d32 n i : Nat)
theorem digs_len (L n : Nat) : (digs L n).length = L := by simp [digs]
theorem digs_get (L n i : Nat) (h : i < L) : (digs L n)[i]? = some (.int .u32 (d32 n i : Nat)) := by simp [digs, h]
theorem digs_succ (L n : Nat) : digs (L + 1) n = digs L n ++ [.int .u32 (d32 n L : Nat)] := by simp [digs, List.range_succ]
theorem digs_zero (n : Nat) : digs 0 n = [] := rfl
theorem digs_one (L n : Nat) : ∀ u ∈ digs L n, u.oneCell' = true := by
  intro u hu
  obtain ⟨i, _, rfl⟩ := List.mem_map.1 hu
  rfl
/-- The value v is a list of L digits, those of n. -/
def RL (w : World) (v : Value) (L n : Nat) : Prop :=
  ∃ q cap, v = .slice q L cap ∧ L ≤ cap ∧ (L = 0 ∨ ∃ b off, q = some ⟨b, off, none⟩ ∧ ∀ i, i < L → w.cell? ⟨b, off + i, none⟩ = some (.int .u32 (d32 n i : Nat)))
/-- The value v reads as the number n. -/
def RN (w : World) (v : Value) (n : Nat) : Prop := RL w v (dl n) n
theorem RL.later {w w' : World} {v : Value} {L n : Nat} (h : RL w v L n) (hb : Below w.heap.size w w') : RL w' v L n := by
  obtain ⟨q, cap, rfl, hcap, h⟩ := h
  refine ⟨q, cap, rfl, hcap, ?_⟩
  rcases h with h | ⟨b, off, rfl, h⟩
  · exact Or.inl h
  · exact Or.inr ⟨b, off, rfl, fun i hi => cell_later hb (h i hi)⟩
theorem RN.later {w w' : World} {v : Value} {n : Nat} (h : RN w v n) (hb : Below w.heap.size w w') : RN w' v n := RL.later h hb
theorem RL.nil (w : World) (n : Nat) : RL w (.slice none 0 0) 0 n := ⟨none, 0, rfl, Nat.le_refl _, Or.inl rfl⟩
theorem RN.nil (w : World) : RN w (.slice none 0 0) 0 := by unfold RN; rw [dl_zero]; exact RL.nil w 0
theorem RL.owns {w : World} {base e : Nat} {v : Value} {L n : Nat} (h : w.ownsRow base e 1 v L (digs L n)) : RL w v L n := by
  rcases h.2 with ⟨rfl, rfl⟩ | ⟨g, cap, cur, rfl, hb, hg, hn, hm, hs, ht⟩
  · exact RL.nil w n
  · refine ⟨_, cap, rfl, hn, Or.inr ⟨g, 0, rfl, fun i hi => ?_⟩⟩
    have := h.cells (g := g) rfl i _ (digs_get L n i hi)
    rw [Addr.add_lit] at this
    exact this
theorem RL.is {w : World} {v : Value} {L n m : Nat} (h : RL w v L n) (e : ∀ i, i < L → d32 n i = d32 m i) : RL w v L m := by
  obtain ⟨q, cap, rfl, hcap, h⟩ := h
  refine ⟨q, cap, rfl, hcap, ?_⟩
  rcases h with h | ⟨b, off, rfl, h⟩
  · exact Or.inl h
  · exact Or.inr ⟨b, off, rfl, fun i hi => by rw [← e i hi]; exact h i hi⟩
theorem RL.less {w : World} {q : Option Addr} {L n cap : Nat} (h : RL w (.slice q (L + 1) cap) (L + 1) n) : RL w (.slice q L cap) L n := by
  obtain ⟨q', cap', e, hcap, h⟩ := h
  cases e
  refine ⟨_, _, rfl, by omega, ?_⟩
  rcases h with h | ⟨b, off, rfl, h⟩
  · exact absurd h (by omega)
  · exact Or.inr ⟨b, off, rfl, fun i hi => h i (by omega)⟩
theorem one_new (w : World) (u : Value) (e : TypeId) : ∀ j x, [u][j]? = some x → (w.alloc (.cells #[u] e)).cell? ((⟨w.heap.size, 0, none⟩ : Addr).add j) = some x := by
  intro j x hx
  match j, hx with
  | 0, hx =>
    simp at hx
    subst hx
    rw [Addr.add_zero']
    go_simp
theorem one_cell (n : Int) : ∀ x ∈ [Value.int .u32 n], x.oneCell' = true := by
  intro u hu
  simp at hu
  subst hu
  rfl
theorem own_digit {w : World} {base e k N : Nat} {v : Value} {x : Int} (h : w.ownsRow base e 1 v (k + 1) (digs k N ++ [.int .u32 x])) (hx : x = (d32 N k : Nat)) : w.ownsRow base e 1 v (k + 1) (digs (k + 1) N) := by
  rw [digs_succ, ← hx]; exact h
theorem own_zeros {w : World} {base e L N : Nat} {v : Value} {xs : List Value} (h : w.ownsRow base e 1 v L xs) (hx : xs = List.replicate L (.int .u32 0) := by rfl) (hN : ∀ i, i < L → d32 N i = 0) : w.ownsRow base e 1 v L (digs L N) := by
  have : digs L N = List.replicate L (.int .u32 0) := by
    apply List.ext_getElem?
    intro i
    by_cases hi : i < L
    · rw [digs_get L N i hi, hN i hi]; simp [hi]
    · simp [digs, hi]
  rw [this, ← hx]; exact h
theorem u64_nat (n : Nat) (h : n < 18446744073709551616) : IntKind.u64.wrap (n : Int) = (n : Int) := by
  simp [IntKind.wrap, IntKind.signed, IntKind.bits]; omega
theorem cast_mul (x r : Nat) : (x : Int) * 2 ^ r = ((x * 2 ^ r : Nat) : Int) := by rw [Int.natCast_mul, Int.natCast_pow]; rfl
theorem or_shift (c x r : Nat) (hc : c < 2 ^ r) (h1 : c < 4294967296) (h2 : x * 2 ^ r ≤ 9223372036854775808) : bits BinOp.or IntKind.u64 (c : Int) (IntKind.u64.wrap ((x : Int) * 2 ^ r)) = ((c + x * 2 ^ r : Nat) : Int) := by
  have e : (x : Int) * 2 ^ r = ((x * 2 ^ r : Nat) : Int) := by rw [Int.natCast_mul, Int.natCast_pow]; rfl
  rw [e, u64_nat _ (by omega), or_u64_nat _ _ (by omega) (by omega), or_add _ _ _ hc]
theorem shr_form (x y r : Nat) (hx : x < 4294967296) (hy : y < 4294967296) : bits BinOp.or IntKind.u64 (x : Int) ((y : Int) * 4294967296) / 2 ^ r % 4294967296 = (((x + y * 4294967296) / 2 ^ r % 4294967296 : Nat) : Int) := by
  have e : (y : Int) * 4294967296 = ((y * 4294967296 : Nat) : Int) := by omega
  have h := or_add x y 32 (by omega)
  rw [show (2 : Nat) ^ 32 = 4294967296 from rfl] at h
  rw [e, or_u64_nat _ _ (by omega) (by omega), h, Int.natCast_emod, Int.natCast_ediv, Int.natCast_pow]
  rfl
/-- The part of what an answer says that speaks of a list. -/
def GivesN (n : Nat) (e : Ending) (w : World) : Prop := ∃ u, e = .returned u ∧ RN w u n
/-- The row of the table of the digits' type. -/
theorem info_u32 : (Tryz.prog.info? 91).map (fun i => (i.zero, i.size, i.bytes)) = some (some (.int .u32 0), 1, 4) := by kernel_rfl
theorem u32_wrap (n : Nat) : IntKind.u32.wrap (n : Int) = ((n % 4294967296 : Nat) : Int) := by simp [IntKind.wrap, IntKind.signed, IntKind.bits]
/-- A digit; 0 behind. -/
theorem num_digit (a L i : Nat) (v : Value) (w : World) (h : RL w v L a) (hL : a < 2 ^ (32 * L)) (hi : i ≤ 1000000) : Calls Tryz.prog 95 #[v, .int .i64 i] w fun en w' => en = .returned (.int .u32 (d32 a i : Nat)) ∧ w = w' := by
  obtain ⟨q, cap, rfl, hcap, h⟩ := h
  by_cases hk : i < L
  · rcases h with h | ⟨b, off, rfl, h⟩
    · omega
    · have hc := h i hk
      go_enter Tryz.func95, Tryz.ntmps95
      go_wp2
      go_returns
      exact ⟨rfl, rfl⟩
  · have h0 := d32_big a L i hL (by omega)
    go_enter Tryz.func95, Tryz.ntmps95
    go_wp2
    go_returns
    exact ⟨by rw [h0]; rfl, rfl⟩
theorem num_digit_at (a L i : Nat) (j : Int) (v : Value) (w : World) (h : RL w v L a) (hL : a < 2 ^ (32 * L)) (hi : i ≤ 1000000) (hj : j = (i : Nat)) : Calls Tryz.prog 95 #[v, .int .i64 j] w fun en w' => en = .returned (.int .u32 (d32 a i : Nat)) ∧ w = w' := by
  subst hj; exact num_digit a L i v w h hL hi
end Go.Proofs.YtkpjeceofcfnkaaGreatDoor
namespace Go.Proofs.YtkpjeceofcfnkaaGreatDoor
open Go.RowKit Go.Hb
def sliceLen : Value → Nat
  | .slice _ n _ => n
  | _ => 0
theorem num_Trim (n L : Nat) (v : Value) (w : World) (h : RL w v L n) (hn : n < 2 ^ (32 * L)) (hL : L ≤ 1000000) : Calls Tryz.prog 55 #[v] w fun en w' => GivesN n en w' ∧ w = w' := by
  obtain ⟨q0, c0, rfl, g0, h0⟩ := h
  go_enter Tryz.func55, Tryz.ntmps55
  go_wp2_with fail
  go_loopw [0] (fun a wr => ∃ k : Nat, RL w a k n ∧ n < 2 ^ (32 * k) ∧ k ≤ L ∧ w = wr) (fun a _ => sliceLen a)
  case atStart => exact ⟨L, ⟨_, _, rfl, g0, h0⟩, hn, Nat.le_refl _, rfl⟩
  case round =>
    obtain ⟨k, hr, hk, hkL, rfl⟩ := hrel
    have hr' := hr
    obtain ⟨q, cap, rfl, hcap, hq⟩ := hr
    clear h0 hn
    cases k with
    | zero =>
      have hz : n = 0 := by simpa using hk
      subst hz
      go_wp2_with fail
      go_returns
      exact ⟨⟨_, rfl, by unfold RN; rw [dl_zero]; exact hr'⟩, by first | rfl | trivial⟩
    | succ k =>
      rcases hq with hq | ⟨b, off, rfl, hq⟩
      · omega
      · have hc := hq k (by omega)
        by_cases hd : d32 n k = 0
        · have hk2 := top_zero n k hk hd
          have hc : w.cell? ⟨b, off + k, none⟩ = some (.int .u32 0) := by rw [hc, hd]; rfl
          have hkc : k ≤ cap := by omega
          clear hq hk
          go_wp2_with fail
          go_roundw
          case rel => exact ⟨k, hr'.less, hk2, by omega, by first | rfl | trivial⟩
          case measure => simp [sliceLen]
        · have hk2 := top_some n k hk hd
          have hd' : ((d32 n k : Nat) : Int) ≠ 0 := by omega
          have hd2 : (((d32 n k : Nat) : Int) == 0) = false := by rw [beq_eq_false_iff_ne]; exact hd'
          clear hq hk
          go_wp2_with fail
          go_returns
          exact ⟨⟨_, rfl, by unfold RN; rw [hk2]; exact hr'⟩, by first | rfl | trivial⟩
end Go.Proofs.YtkpjeceofcfnkaaGreatDoor
namespace Go.Proofs.YtkpjeceofcfnkaaGreatDoor
open Go.RowKit Go.Hb
theorem num_Add_L (a b A B : Nat) (va vb : Value) (w : World) (ha : RL w va A a) (hb : RL w vb B b) (xa : a < 2 ^ (32 * A)) (xb : b < 2 ^ (32 * B)) (la : A ≤ 100000) (lb : B ≤ 100000) : Calls Tryz.prog 51 #[va, vb] w fun en w' => GivesN (a + b) en w' ∧ Below w.heap.size w w' := by
  obtain ⟨i0, hi, hz0, hz1, hz2⟩ := info_parts info_u32
  have ha' := ha
  have hb' := hb
  obtain ⟨qa, ca, rfl, _, _⟩ := ha
  obtain ⟨qb, cb, rfl, _, _⟩ := hb
  go_enter Tryz.func51, Tryz.ntmps51
  go_wp2_with fail
  go_loopw [5, 6, 7] (fun out c i wr => ∃ k : Nat, k ≤ max A B ∧ i = .int .i64 k ∧ c = .int .u64 (carA a b k : Nat) ∧ wr.ownsRow w.heap.size 91 1 out k (digs k (a + b)) ∧ Below w.heap.size w wr) (fun _ _ i _ => max A B - (intOf i).toNat)
  case atStart => exact ⟨0, by omega, rfl, by rw [carA_zero]; rfl, World.ownsRow_nil _ _ _ _, Below.refl _ _⟩
  case round =>
    obtain ⟨k, hk, rfl, rfl, hown, hnx⟩ := hrel
    have cl1 := carA_le a b k
    have cd := carA_dig a b k
    have cs := carA_step a b k
    have da := d32_lt a k
    have db := d32_lt b k
    have e32 : Value.int .u32 (((carA a b k : Nat) + (d32 a k : Nat) + (d32 b k : Nat)) % 4294967296) = .int .u32 (d32 (a + b) k : Nat) := by rw [cd]; congr 1
    by_cases hkm : k < max A B
    case pos =>
      by_cases hka : k < A
      all_goals (
      go_wp2_with fail
      refine (num_digit a A k (.slice qa A ca) wr (ha'.later hnx) xa (by omega)).mono ?_
      rintro en w1 ⟨rfl, rfl⟩
      go_wp2_with fail
      refine (num_digit b B k (.slice qb B cb) wr (hb'.later hnx) xb (by omega)).mono ?_
      rintro en w1 ⟨rfl, rfl⟩
      go_wp2_with (at_builtin; refine wpList_append_own _ rfl _ _ 31 rfl w.heap.size 91 i0 (.int .u32 0) 1 4 Tryz.underlying31 hi hz0 hz1 hz2 rfl (by decide) _ _ _ rfl (hown.alloc _) ⟨wr.heap.size, 0, none⟩ 1 1 [.int .u32 _] rfl rfl (one_new _ _ _) (one_cell _) (by unfold maxLen; omega) (by omega) (by have := hnx.size; simp; omega) ?_)
      intro v' w1 hown' hgrow _
      have hb1 : Below w.heap.size w w1 := (hnx.alloc hnx.size _).grown hgrow (by simp; have := hnx.size; omega) (fun j hj => (hown.lt j hj).1)
      replace hown' := own_digit hown' (by omega)
      clear hown hgrow
      go_wp2
      go_roundw
      case rel => exact ⟨k + 1, by omega, by go_num, by rw [cs]; go_num, hown', hb1⟩
      case measure => simp [intOf]; omega)
    case neg =>
      have ek : k = max A B := by omega
      have hA2 : a < 2 ^ (32 * k) := Nat.lt_of_lt_of_le xa (Nat.pow_le_pow_right (by decide) (by omega))
      have hB2 : b < 2 ^ (32 * k) := Nat.lt_of_lt_of_le xb (Nat.pow_le_pow_right (by decide) (by omega))
      obtain ⟨ce, cf⟩ := carA_end a b k hA2 hB2
      have e33 : ((carA a b k : Nat) : Int) % 4294967296 = (d32 (a + b) k : Nat) := by omega
      have hkA : ¬ k < A := by omega
      have hkB : ¬ k < B := by omega
      have hk9 : k ≤ 100000 := by omega
      clear e32 e33 cs cd da db hA2 hB2 ek
      go_wp2_with (at_builtin; refine wpList_append_own _ rfl _ _ 31 rfl w.heap.size 91 i0 (.int .u32 0) 1 4 Tryz.underlying31 hi hz0 hz1 hz2 rfl (by decide) _ _ _ rfl (hown.alloc _) ⟨wr.heap.size, 0, none⟩ 1 1 [.int .u32 _] rfl rfl (one_new _ _ _) (one_cell _) (by unfold maxLen; omega) (by omega) (by have := hnx.size; simp; omega) ?_)
      intro v' w1 hown' hgrow _
      have hb1 : Below w.heap.size w w1 := (hnx.alloc hnx.size _).grown hgrow (by simp; have := hnx.size; omega) (fun j hj => (hown.lt j hj).1)
      replace hown' := own_digit hown' (by omega)
      clear hown hgrow
      go_wp2_with fail
      refine (num_Trim (a + b) (k + 1) _ _ (RL.owns hown') cf (by omega)).mono ?_
      rintro en w2 ⟨⟨u, rfl, hu⟩, rfl⟩
      go_wp2_with fail
      go_returns
      exact ⟨⟨_, rfl, hu⟩, hb1⟩
/-- A sum. -/
theorem num_Add (a b : Nat) (va vb : Value) (w : World) (ha : RN w va a) (hb : RN w vb b) (la : dl a ≤ 100000) (lb : dl b ≤ 100000) : Calls Tryz.prog 51 #[va, vb] w fun en w' => GivesN (a + b) en w' ∧ Below w.heap.size w w' :=
  num_Add_L a b _ _ va vb w ha hb (dl_lt a) (dl_lt b) la lb
theorem num_Sub_L (a b A B : Nat) (va vb : Value) (w : World) (ha : RL w va A a) (hb : RL w vb B b) (xa : a < 2 ^ (32 * A)) (xb : b < 2 ^ (32 * B)) (la : A ≤ 100000) (hba : b ≤ a) : Calls Tryz.prog 94 #[va, vb] w fun en w' => GivesN (a - b) en w' ∧ Below w.heap.size w w' := by
  obtain ⟨i0, hi, hz0, hz1, hz2⟩ := info_parts info_u32
  have ha' := ha
  have hb' := hb
  obtain ⟨qa, ca, rfl, _, _⟩ := ha
  obtain ⟨qb, cb, rfl, _, _⟩ := hb
  go_enter Tryz.func94, Tryz.ntmps94
  go_wp2_with fail
  go_loopw [5, 6, 7] (fun out c i wr => ∃ k : Nat, k ≤ A ∧ i = .int .i64 k ∧ c = .int .u64 (borS a b k : Nat) ∧ wr.ownsRow w.heap.size 91 1 out k (digs k (a - b)) ∧ Below w.heap.size w wr) (fun _ _ i _ => A - (intOf i).toNat)
  case atStart => exact ⟨0, by omega, rfl, by rw [borS_zero]; rfl, World.ownsRow_nil _ _ _ _, Below.refl _ _⟩
  case round =>
    obtain ⟨k, hk, rfl, rfl, hown, hnx⟩ := hrel
    have cl1 := borS_le a b k
    have cd := borS_dig a b k hba
    have cs := borS_step a b k
    have da := d32_lt a k
    have db := d32_lt b k
    by_cases hkm : k < A
    case pos =>
      go_wp2_with fail
      refine (num_digit a A k (.slice qa A ca) wr (ha'.later hnx) xa (by omega)).mono ?_
      rintro en w1 ⟨rfl, rfl⟩
      go_wp2_with fail
      refine (num_digit b B k (.slice qb B cb) wr (hb'.later hnx) xb (by omega)).mono ?_
      rintro en w1 ⟨rfl, rfl⟩
      go_wp2_with (at_builtin; refine wpList_append_own _ rfl _ _ 31 rfl w.heap.size 91 i0 (.int .u32 0) 1 4 Tryz.underlying31 hi hz0 hz1 hz2 rfl (by decide) _ _ _ rfl (hown.alloc _) ⟨wr.heap.size, 0, none⟩ 1 1 [.int .u32 _] rfl rfl (one_new _ _ _) (one_cell _) (by unfold maxLen; omega) (by omega) (by have := hnx.size; simp; omega) ?_)
      intro v' w1 hown' hgrow _
      have hb1 : Below w.heap.size w w1 := (hnx.alloc hnx.size _).grown hgrow (by simp; have := hnx.size; omega) (fun j hj => (hown.lt j hj).1)
      replace hown' := own_digit hown' (by omega)
      clear hown hgrow
      go_wp2
      go_roundw
      case rel => exact ⟨k + 1, by omega, by go_num, by congr 1; omega, hown', hb1⟩
      case measure => simp [intOf]; omega
    case neg =>
      have ek : k = A := by omega
      have cf : a - b < 2 ^ (32 * k) := Nat.lt_of_le_of_lt (Nat.sub_le _ _) (ek ▸ xa)
      have hown' := hown
      clear hown cs cd da db
      go_wp2_with fail
      refine (num_Trim (a - b) (k) _ _ (RL.owns hown') cf (by omega)).mono ?_
      rintro en w2 ⟨⟨u, rfl, hu⟩, rfl⟩
      go_wp2_with fail
      go_returns
      exact ⟨⟨_, rfl, hu⟩, hnx⟩
/-- A difference. -/
theorem num_Sub (a b : Nat) (va vb : Value) (w : World) (ha : RN w va a) (hb : RN w vb b) (la : dl a ≤ 100000) (hba : b ≤ a) : Calls Tryz.prog 94 #[va, vb] w fun en w' => GivesN (a - b) en w' ∧ Below w.heap.size w w' :=
  num_Sub_L a b _ _ va vb w ha hb (dl_lt a) (dl_lt b) la hba
end Go.Proofs.YtkpjeceofcfnkaaGreatDoor
namespace Go.Proofs.YtkpjeceofcfnkaaGreatDoor
open Go.RowKit Go.Hb
theorem num_Shl_L (a A n : Nat) (va : Value) (w : World) (ha : RL w va A a) (xa : a < 2 ^ (32 * A)) (la : A ≤ 100000) (hn : n ≤ 1000000) : Calls Tryz.prog 25 #[va, .int .i64 n] w fun en w' => GivesN (a * 2 ^ n) en w' ∧ Below w.heap.size w w' := by
  obtain ⟨i0, hi, hz0, hz1, hz2⟩ := info_parts info_u32
  obtain ⟨qa, ca, rfl, hca, ha⟩ := ha
  have hq : (n : Int).tdiv 32 = (n / 32 : Nat) := by rw [Int.tdiv_eq_ediv_of_nonneg (by omega)]; omega
  have hm : (n : Int).tmod 32 = (n % 32 : Nat) := by rw [Int.tmod_eq_emod_of_nonneg (by omega)]; omega
  go_enter Tryz.func25, Tryz.ntmps25
  go_wp2_with (at_make; go_loud (refine wpList_make_full _ rfl _ _ 31 rfl w.heap.size 91 i0 (.int .u32 0) 1 Tryz.underlying31 hi hz0 hz1 _ _ _ _ (n / 32) rfl rfl (by omega) (by omega) (by rw [hz2]; omega) (by unfold maxLen; omega) (Nat.le_refl _) ?_))
  intro w0 hown0 hgrow0
  replace hown0 := own_zeros (N := a * 2 ^ n) hown0 (toList_madeCells_one _ _) (fun i hi => shl_low a n i hi)
  go_wp2_with fail
  go_loopw [5, 6, 7] (fun out c i wr => ∃ k : Nat, k ≤ A ∧ i = .int .i64 k ∧ c = .int .u64 (carL a (n % 32) k : Nat) ∧ wr.ownsRow w.heap.size 91 1 out (n / 32 + k) (digs (n / 32 + k) (a * 2 ^ n)) ∧ Below w.heap.size w wr) (fun _ _ i _ => A - (intOf i).toNat)
  case atStart => exact ⟨0, by omega, rfl, by rw [carL_zero]; rfl, hown0, (Below.refl _ _).grown hgrow0 (Nat.le_refl _) (fun k h => by cases h)⟩
  case round =>
    obtain ⟨k, hk, rfl, rfl, hown, hnx⟩ := hrel
    have cl1 := carL_lt a (n % 32) k
    have cs := carL_step a (n % 32) k
    have cd := shl_dig a n k
    have hr : n % 32 < 32 := Nat.mod_lt _ (by decide)
    have hp1 : 2 ^ (n % 32) ≤ 2147483648 := Nat.pow_le_pow_right (by decide) (show n % 32 ≤ 31 by omega)
    have da := d32_lt a k
    by_cases hkm : k < A
    case pos =>
      rcases ha with h | ⟨b, off, rfl, ha⟩
      · omega
      have hc := cell_later hnx (ha k hkm)
      have hcl : carL a (n % 32) k < 4294967296 := by omega
      have hmul : d32 a k * 2 ^ (n % 32) ≤ 4294967295 * 2147483648 := Nat.mul_le_mul (by omega) hp1
      have hor := or_shift (carL a (n % 32) k) (d32 a k) (n % 32) cl1 (by omega) (by omega)
      go_wp2_with (at_builtin; refine wpList_append_own _ rfl _ _ 31 rfl w.heap.size 91 i0 (.int .u32 0) 1 4 Tryz.underlying31 hi hz0 hz1 hz2 rfl (by decide) _ _ _ rfl (hown.alloc _) ⟨wr.heap.size, 0, none⟩ 1 1 [.int .u32 _] rfl rfl (one_new _ _ _) (one_cell _) (by unfold maxLen; omega) (by omega) (by have := hnx.size; simp; omega) ?_)
      intro v' w1 hown' hgrow _
      have hb1 : Below w.heap.size w w1 := (hnx.alloc hnx.size _).grown hgrow (by simp; have := hnx.size; omega) (fun j hj => (hown.lt j hj).1)
      replace hown' := own_digit hown' (by have := cast_mul (d32 a k) (n % 32); omega)
      clear hown hgrow
      go_wp2
      go_roundw
      case rel => exact ⟨k + 1, by omega, by go_num, by congr 1; have := cast_mul (d32 a k) (n % 32); omega, hown', hb1⟩
      case measure => simp [intOf]; omega
    case neg =>
      have ek : k = A := by omega
      obtain ⟨ce, cf⟩ := shl_end a n k (ek ▸ xa)
      have hk9 : k ≤ 100000 := by omega
      clear cs cd ek
      go_wp2_with (at_builtin; refine wpList_append_own _ rfl _ _ 31 rfl w.heap.size 91 i0 (.int .u32 0) 1 4 Tryz.underlying31 hi hz0 hz1 hz2 rfl (by decide) _ _ _ rfl (hown.alloc _) ⟨wr.heap.size, 0, none⟩ 1 1 [.int .u32 _] rfl rfl (one_new _ _ _) (one_cell _) (by unfold maxLen; omega) (by omega) (by have := hnx.size; simp; omega) ?_)
      intro v' w1 hown' hgrow _
      have hb1 : Below w.heap.size w w1 := (hnx.alloc hnx.size _).grown hgrow (by simp; have := hnx.size; omega) (fun j hj => (hown.lt j hj).1)
      replace hown' := own_digit hown' (by omega)
      clear hown hgrow
      go_wp2_with fail
      refine (num_Trim (a * 2 ^ n) (n / 32 + k + 1) _ _ (RL.owns hown') cf (by omega)).mono ?_
      rintro en w2 ⟨⟨u, rfl, hu⟩, rfl⟩
      go_wp2_with fail
      go_returns
      exact ⟨⟨_, rfl, hu⟩, hb1⟩
/-- A number, times 2^n. -/
theorem num_Shl (a n : Nat) (va : Value) (w : World) (ha : RN w va a) (la : dl a ≤ 100000) (hn : n ≤ 1000000) : Calls Tryz.prog 25 #[va, .int .i64 n] w fun en w' => GivesN (a * 2 ^ n) en w' ∧ Below w.heap.size w w' :=
  num_Shl_L a _ n va w ha (dl_lt a) la hn
theorem num_Shr_L (a A n : Nat) (va : Value) (w : World) (ha : RL w va A a) (xa : a < 2 ^ (32 * A)) (la : A ≤ 100000) (hn : n ≤ 1000000) (hl : a / 2 ^ n < 2 ^ (32 * (A - n / 32))) : Calls Tryz.prog 48 #[va, .int .i64 n] w fun en w' => GivesN (a / 2 ^ n) en w' ∧ Below w.heap.size w w' := by
  obtain ⟨i0, hi, hz0, hz1, hz2⟩ := info_parts info_u32
  have ha' := ha
  obtain ⟨qa, ca, rfl, hca, ha⟩ := ha
  have hq : (n : Int).tdiv 32 = (n / 32 : Nat) := by rw [Int.tdiv_eq_ediv_of_nonneg (by omega)]; omega
  have hm : (n : Int).tmod 32 = (n % 32 : Nat) := by rw [Int.tmod_eq_emod_of_nonneg (by omega)]; omega
  go_enter Tryz.func48, Tryz.ntmps48
  go_wp2_with fail
  go_loopw [5, 6] (fun out i wr => ∃ k : Nat, (k = 0 ∨ n / 32 + k ≤ A) ∧ i = .int .i64 (n / 32 + k : Nat) ∧ wr.ownsRow w.heap.size 91 1 out k (digs k (a / 2 ^ n)) ∧ Below w.heap.size w wr) (fun _ i _ => A - (intOf i).toNat)
  case atStart => exact ⟨0, Or.inl rfl, by go_num, World.ownsRow_nil _ _ _ _, Below.refl _ _⟩
  case round =>
    obtain ⟨k, hk, rfl, hown, hnx⟩ := hrel
    have cd := shr_dig a n k
    by_cases hkm : n / 32 + k < A
    case pos =>
      rcases ha with h | ⟨b, off, rfl, ha⟩
      · omega
      have hc := cell_later hnx (ha (n / 32 + k) hkm)
      have ha2 := ha'.later hnx
      have d1 := d32_lt a (n / 32 + k)
      have d2 := d32_lt a (n / 32 + k + 1)
      generalize hz : n / 32 + k = z at *
      have hzw : IntKind.i64.wrap ((z : Int) + 1) = (z : Int) + 1 := IntWalk.i64_in _ (by omega)
      clear ha ha'
      go_upto_region 5 with fail
      go_region_held3 (fun w' => w'.cell? ⟨b, off + z, none⟩ = some (.int .u32 (d32 a z : Nat))) (first | assumption | go_simp) ((go_at_call 95; refine (num_digit_at a A (z + 1) _ _ _ (ha2.later (by go_grown)) xa (by omega) (by omega)).mono ?_; rintro en x ⟨rfl, rfl⟩))
      go_wp2_with (at_builtin; refine wpList_append_own _ rfl _ _ 31 rfl w.heap.size 91 i0 (.int .u32 0) 1 4 Tryz.underlying31 hi hz0 hz1 hz2 rfl (by decide) _ _ _ rfl (hown.drew.alloc _) ⟨wr.heap.size, 0, none⟩ 1 1 [.int .u32 _] rfl rfl (one_new _ _ _) (one_cell _) (by unfold maxLen; omega) (by omega) (by have := hnx.size; simp; omega) ?_)
      intro v' w1 hown' hgrow _
      have hb1 : Below w.heap.size w w1 := ((hnx.alloc hnx.size _).drew).grown hgrow (by simp; have := hnx.size; omega) (fun j hj => (hown.lt j hj).1)
      rw [shr_form _ _ _ d1 d2, ← cd] at hown'
      rw [← digs_succ] at hown'
      clear hown hgrow
      go_wp2
      go_roundw
      case rel => exact ⟨k + 1, Or.inr (by omega), by congr 1; omega, hown', hb1⟩
      case measure => simp [intOf]; omega
    case neg =>
      have cf : a / 2 ^ n < 2 ^ (32 * k) := Nat.lt_of_lt_of_le hl (Nat.pow_le_pow_right (by decide) (by omega))
      have hown' := hown
      have hk9 : k ≤ 100000 := by omega
      clear hown cd
      go_wp2_with fail
      refine (num_Trim (a / 2 ^ n) (k) _ _ (RL.owns hown') cf (by omega)).mono ?_
      rintro en w2 ⟨⟨u, rfl, hu⟩, rfl⟩
      go_wp2_with fail
      go_returns
      exact ⟨⟨_, rfl, hu⟩, hnx⟩
/-- A number by 2^n, its floor. -/
theorem num_Shr (a n : Nat) (va : Value) (w : World) (ha : RN w va a) (la : dl a ≤ 100000) (hn : n ≤ 1000000) : Calls Tryz.prog 48 #[va, .int .i64 n] w fun en w' => GivesN (a / 2 ^ n) en w' ∧ Below w.heap.size w w' :=
  num_Shr_L a _ n va w ha (dl_lt a) la hn (shr_len a n)
end Go.Proofs.YtkpjeceofcfnkaaGreatDoor
namespace Go.Proofs.YtkpjeceofcfnkaaGreatDoor
open Go.RowKit Go.Hb
theorem d32_0 (n : Nat) : d32 n 0 = n % 4294967296 := by unfold d32; rw [Nat.mul_zero, Nat.pow_zero, Nat.div_one]
theorem d32_1 (n : Nat) : d32 n 1 = n / 4294967296 % 4294967296 := by unfold d32; rfl
theorem d32_2 (n : Nat) : d32 n 2 = n / 18446744073709551616 % 4294967296 := by unfold d32; rfl
theorem d32_3 (n : Nat) : d32 n 3 = n / 79228162514264337593543950336 % 4294967296 := by unfold d32; rfl
theorem RL.two {w : World} {a b : Int} {e : TypeId} (n : Nat) (ha : a = (d32 n 0 : Nat)) (hb : b = (d32 n 1 : Nat)) : RL (w.alloc (.cells #[.int .u32 a, .int .u32 b] e)) (.slice (some ⟨w.heap.size, 0, none⟩) 2 2) 2 n := by
  refine ⟨_, 2, rfl, Nat.le_refl _, Or.inr ⟨w.heap.size, 0, rfl, fun i hi => ?_⟩⟩
  match i, hi with
  | 0, _ => rw [← ha]; go_simp
  | 1, _ => rw [← hb]; go_simp
theorem RL.four {w : World} {a b c d : Int} {e : TypeId} {g : Nat} (n : Nat) (hg : g = w.heap.size) (ha : a = (d32 n 0 : Nat)) (hb : b = (d32 n 1 : Nat)) (hc : c = (d32 n 2 : Nat)) (hd : d = (d32 n 3 : Nat)) : RL (w.alloc (.cells #[.int .u32 a, .int .u32 b, .int .u32 c, .int .u32 d] e)) (.slice (some ⟨g, 0, none⟩) 4 4) 4 n := by
  subst hg
  refine ⟨_, 4, rfl, Nat.le_refl _, Or.inr ⟨w.heap.size, 0, rfl, fun i hi => ?_⟩⟩
  match i, hi with
  | 0, _ => rw [← ha]; go_simp
  | 1, _ => rw [← hb]; go_simp
  | 2, _ => rw [← hc]; go_simp
  | 3, _ => rw [← hd]; go_simp
/-- A number of 64 bits. -/
theorem num_Of (x : Int) [hx : U64 x] (w : World) : Calls Tryz.prog 50 #[.int .u64 x] w fun en w' => GivesN x.toNat en w' ∧ Below w.heap.size w w' := by
  have h0 := hx.ge
  have h1 := hx.lt
  go_enter Tryz.func50, Tryz.ntmps50
  go_wp2_with fail
  refine (num_Trim x.toNat 2 _ _ (RL.two x.toNat (by rw [d32_0]; omega) (by rw [d32_1]; omega)) (by omega) (by omega)).mono ?_
  rintro en w2 ⟨⟨u, rfl, hu⟩, rfl⟩
  go_wp2_with fail
  go_returns
  exact ⟨⟨_, rfl, hu⟩, by go_grown⟩
theorem dl_one : dl 1 ≤ 2 := dl_le 1 2 (by omega)
/-- 2 to the power of n. -/
theorem num_Full (n : Nat) (w : World) (hn : n ≤ 1000000) : Calls Tryz.prog 22 #[.int .i64 n] w fun en w' => GivesN (2 ^ n) en w' ∧ Below w.heap.size w w' := by
  go_enter Tryz.func22, Tryz.ntmps22
  go_wp2_with fail
  refine (num_Of 1 _).mono ?_
  rintro en w2 ⟨⟨u, rfl, hu⟩, hb⟩
  go_wp2_with fail
  have h1 := dl_one
  refine (num_Shl 1 n u _ hu (by omega) hn).mono ?_
  rw [Nat.one_mul]
  rintro en w3 ⟨⟨u3, rfl, hu3⟩, hb3⟩
  go_wp2_with fail
  go_returns
  exact ⟨⟨_, rfl, hu3⟩, below_after hb hb3⟩
theorem dl_mono {a b : Nat} (h : a ≤ b) : dl a ≤ dl b := by have := blen_mono h; unfold dl; omega
/-- The lowest n bits. -/
theorem num_Cut (a n : Nat) (v : Value) (w : World) (h : RN w v a) (la : dl a ≤ 100000) (hn : n ≤ 1000000) : Calls Tryz.prog 46 #[v, .int .i64 n] w fun en w' => GivesN (a % 2 ^ n) en w' ∧ Below w.heap.size w w' := by
  have hl := dl_mono (Nat.div_le_self a (2 ^ n))
  have e : a - a / 2 ^ n * 2 ^ n = a % 2 ^ n := by have := Nat.mod_add_div a (2 ^ n); rw [Nat.mul_comm] at this; omega
  have hle := Nat.div_mul_le_self a (2 ^ n)
  go_enter Tryz.func46, Tryz.ntmps46
  go_wp2_with fail
  refine (num_Shr a n v _ h la hn).mono ?_
  rintro en w2 ⟨⟨u, rfl, hu⟩, hb⟩
  go_wp2_with fail
  refine (num_Shl (a / 2 ^ n) n u _ hu (by omega) hn).mono ?_
  rintro en w3 ⟨⟨u3, rfl, hu3⟩, hb3⟩
  go_wp2_with fail
  refine (num_Sub a (a / 2 ^ n * 2 ^ n) v u3 _ (h.later (below_after hb hb3)) hu3 la hle).mono ?_
  rw [e]
  rintro en w4 ⟨⟨u4, rfl, hu4⟩, hb4⟩
  go_wp2_with fail
  go_returns
  exact ⟨⟨_, rfl, hu4⟩, below_after (below_after hb hb3) hb4⟩
theorem num_Big_N (N : Nat) (h l : Int) [hh : U64 h] [hl : U64 l] (w : World) (hN : N < 2 ^ (32 * 4)) (e0 : l % 4294967296 = (d32 N 0 : Nat)) (e1 : l / 4294967296 % 4294967296 = (d32 N 1 : Nat)) (e2 : h % 4294967296 = (d32 N 2 : Nat)) (e3 : h / 4294967296 % 4294967296 = (d32 N 3 : Nat)) (e1' : l / 4294967296 = (d32 N 1 : Nat)) (e3' : h / 4294967296 = (d32 N 3 : Nat)) :
    Calls Tryz.prog 93 #[.agg #[.int .u64 (h), .int .u64 (l)]] w fun en w' => GivesN N en w' ∧ Below w.heap.size w w' := by
  go_enter Tryz.func93, Tryz.ntmps93
  go_wp2_with fail
  refine (num_Trim N 4 _ _ (RL.four N (by simp) (by omega) (by omega) (by omega) (by omega)) hN (by omega)).mono ?_
  rintro en w2 ⟨⟨u, rfl, hu⟩, rfl⟩
  go_wp2_with fail
  go_returns
  exact ⟨⟨_, rfl, hu⟩, by go_grown⟩
/-- 128 bits. -/
theorem num_Big (h l : Int) [hh : U64 h] [hl : U64 l] (w : World) : Calls Tryz.prog 93 #[.agg #[.int .u64 (h), .int .u64 (l)]] w fun en w' => GivesN (cat h l) en w' ∧ Below w.heap.size w w' := by
  have h0 := hh.ge
  have h1 := hh.lt
  have l0 := hl.ge
  have l1 := hl.lt
  exact num_Big_N (cat h l) h l w (by unfold cat; omega) (by rw [d32_0]; unfold cat; omega) (by rw [d32_1]; unfold cat; omega) (by rw [d32_2]; unfold cat; omega) (by rw [d32_3]; unfold cat; omega) (by rw [d32_1]; unfold cat; omega) (by rw [d32_3]; unfold cat; omega)
/-- The lowest 128 bits. -/
theorem num_Bits_L (a L : Nat) (v : Value) (w : World) (h : RL w v L a) (hL : a < 2 ^ (32 * L)) : Calls Tryz.prog 47 #[v] w fun en w' => en = .returned (.agg #[.int .u64 (hi (a)), .int .u64 (lo (a))]) ∧ Below w.heap.size w w' := by
  have t0 := two_dig a
  have t1 := two_dig2 a
  have d0 := d32_lt a 0
  have d1 := d32_lt a 1
  have d2 := d32_lt a 2
  have d3 := d32_lt a 3
  go_enter Tryz.func47, Tryz.ntmps47
  go_wp2_with fail
  refine (num_digit_at a L 0 _ v _ (h.later (by go_grown)) hL (by omega) rfl).mono ?_
  rintro en x ⟨rfl, rfl⟩
  go_wp2_with fail
  refine (num_digit_at a L 1 _ v _ (h.later (by go_grown)) hL (by omega) rfl).mono ?_
  rintro en x ⟨rfl, rfl⟩
  go_wp2_with fail
  refine (num_digit_at a L 2 _ v _ (h.later (by go_grown)) hL (by omega) rfl).mono ?_
  rintro en x ⟨rfl, rfl⟩
  go_wp2_with fail
  refine (num_digit_at a L 3 _ v _ (h.later (by go_grown)) hL (by omega) rfl).mono ?_
  rintro en x ⟨rfl, rfl⟩
  go_wp2_with fail
  go_returns
  exact ⟨ret_bits (by unfold hi lo; omega), by go_grown⟩
theorem num_Bits (a : Nat) (v : Value) (w : World) (h : RN w v a) : Calls Tryz.prog 47 #[v] w fun en w' => en = .returned (.agg #[.int .u64 (hi (a)), .int .u64 (lo (a))]) ∧ Below w.heap.size w w' := num_Bits_L a _ v w h (dl_lt a)
theorem bit_form (a i : Nat) : (bits BinOp.and IntKind.u32 ((d32 a (i / 32) : Nat) / 2 ^ (i % 32)) 1 == 1) = a.testBit i := by
  have e : ((d32 a (i / 32) : Nat) : Int) / 2 ^ (i % 32) = ((d32 a (i / 32) / 2 ^ (i % 32) : Nat) : Int) := by rw [Int.natCast_ediv, Int.natCast_pow]; rfl
  have hb := bit_dig a i
  have hl : d32 a (i / 32) / 2 ^ (i % 32) < 4294967296 := Nat.lt_of_le_of_lt (Nat.div_le_self _ _) (d32_lt a _)
  rw [e]
  generalize d32 a (i / 32) / 2 ^ (i % 32) = x at *
  have h1 : bits BinOp.and IntKind.u32 (x : Int) 1 = ((x % 2 : Nat) : Int) := by
    have h := (bits_nat .u32 32 (by decide) (fun n h1 h2 => by rw [IntKind.wrap_u32]; omega) x 1 hl (by decide)).1
    rw [Nat.and_one_is_mod] at h
    exact h
  rw [h1]
  by_cases ht : a.testBit i = true
  · rw [ht, beq_iff_eq]; have := hb.2 ht; omega
  · have hf : a.testBit i = false := by simpa using ht
    rw [hf, beq_eq_false_iff_ne]
    intro h2
    exact ht (hb.1 (by omega))
/-- Is a bit 1? -/
theorem num_Bit_L (a L i : Nat) (v : Value) (w : World) (h : RL w v L a) (hL : a < 2 ^ (32 * L)) (hi : i ≤ 1000000) : Calls Tryz.prog 49 #[v, .int .i64 i] w fun en w' => en = .returned (.bool (a.testBit i)) ∧ w = w' := by
  have hq : (i : Int).tdiv 32 = (i / 32 : Nat) := by rw [Int.tdiv_eq_ediv_of_nonneg (by omega)]; omega
  have hm : (i : Int).tmod 32 = (i % 32 : Nat) := by rw [Int.tmod_eq_emod_of_nonneg (by omega)]; omega
  go_enter Tryz.func49, Tryz.ntmps49
  go_wp2_with fail
  refine (num_digit_at a L (i / 32) _ v _ h hL (by omega) (by omega)).mono ?_
  rintro en x ⟨rfl, rfl⟩
  go_wp2_with fail
  go_returns
  exact ⟨ret_bool (bit_form a i), by first | rfl | trivial⟩
theorem num_Bit (a i : Nat) (v : Value) (w : World) (h : RN w v a) (hi : i ≤ 1000000) : Calls Tryz.prog 49 #[v, .int .i64 i] w fun en w' => en = .returned (.bool (a.testBit i)) ∧ w = w' := num_Bit_L a _ i v w h (dl_lt a) hi
theorem blen_raise (v k : Nat) (h : v ≠ 0) : blen (v * 2 ^ k) = blen v + k := by
  have h1 := blen_lt v
  have h2 := blen_le v h
  have h3 := blen_ne v h
  apply blen_unique
  · rw [Nat.pow_add]; exact Nat.mul_lt_mul_of_pos_right h1 (Nat.two_pow_pos _)
  · right
    rw [show blen v + k - 1 = blen v - 1 + k by omega, Nat.pow_add]
    exact Nat.mul_le_mul_right _ h2
theorem top_twice (T j y : Nat) (hy : y = T * 2 ^ j) : y * 2 = T * 2 ^ (j + 1) := by rw [hy, Nat.pow_succ, Nat.mul_assoc]
theorem top_less (T j y : Nat) (hT : T ≠ 0) (hy : y = T * 2 ^ j) : y < 2147483648 ↔ blen T + j ≤ 31 := by
  rw [← blen_raise T j hT, ← hy]
  constructor
  · intro h; exact blen_le_of _ 31 h
  · intro h; exact lt_of_blen _ 31 h
/-- How many bits. -/
theorem num_Len_L (a L T N : Nat) (v : Value) (w : World) (h : RL w v (L + 1) a) (hT : d32 a L = T) (hT0 : T ≠ 0) (hN : N = 32 * L + blen T) (hL : L ≤ 100000) (hb : blen T ≤ 32) : Calls Tryz.prog 57 #[v] w fun en w' => en = .returned (.int .i64 N) ∧ w = w' := by
  obtain ⟨q, cap, rfl, hcap, h⟩ := h
  rcases h with h | ⟨b, off, rfl, h⟩
  · omega
  have hc := h L (by omega)
  rw [hT] at hc
  clear h hT
  go_enter Tryz.func57, Tryz.ntmps57
  go_wp2_with fail
  go_loopw [3, 4] (fun n t wr => ∃ (j y : Nat) (z : Int), n = .int .i64 z ∧ z + j = 32 * L + 32 ∧ t = .int .u32 (y : Nat) ∧ y = T * 2 ^ j ∧ blen T + j ≤ 32 ∧ w = wr) (fun n _ _ => (intOf n).toNat)
  case atStart => exact ⟨0, T, 32 * (L + 1), by go_num, by omega, rfl, by simp, by omega, rfl⟩
  case round =>
    obtain ⟨j, y, z, rfl, hz, rfl, hy, hj, rfl⟩ := hrel
    have ht := top_less T j y hT0 hy
    have hy2 := top_twice T j y hy
    have hz1 : z ≤ 32 * 100001 := by omega
    have hz0 : 0 ≤ z := by omega
    clear hy hT0
    generalize blen T = B at *
    by_cases hk : B + j ≤ 31
    case pos =>
      have h2 : (y : Int) < 2147483648 := by have := ht.2 hk; omega
      clear hc ht hN hb
      replace hz : Hid (z + j = 32 * L + 32) := hz
      replace hj : Hid (B + j ≤ 32) := hj
      replace hk : Hid (B + j ≤ 31) := hk
      replace hy2 : Hid (y * 2 = T * 2 ^ (j + 1)) := hy2
      go_wp2_with fail
      go_roundw
      case rel => exact ⟨j + 1, y * 2, z - 1, by go_num, by have := hz.out; omega, by go_num, hy2, by have := hk.out; omega, by first | rfl | trivial⟩
      case measure => have := hz.out; have := hk.out; simp [intOf]; omega
    case neg =>
      have h2 : ¬ (y : Int) < 2147483648 := fun x => hk (ht.1 (by omega))
      have e : z = (N : Nat) := by omega
      clear hc ht hy2 hN hb hk hj hz
      go_wp2_with fail
      go_returns
      exact ⟨by first | rfl | rw [e], by first | rfl | trivial⟩
theorem num_Len (a : Nat) (v : Value) (w : World) (h : RN w v a) (la : dl a ≤ 100000) : Calls Tryz.prog 57 #[v] w fun en w' => en = .returned (.int .i64 (blen a : Nat)) ∧ w = w' := by
  by_cases hz : a = 0
  · subst hz
    obtain ⟨q, cap, rfl, _, _⟩ := h
    rw [dl_zero, blen_zero]
    go_enter Tryz.func57, Tryz.ntmps57
    go_wp2_with fail
    go_returns
    exact ⟨rfl, by first | rfl | trivial⟩
  · obtain ⟨h1, h2⟩ := blen_top a hz
    have hp := dl_pos a hz
    have hb : blen (d32 a (dl a - 1)) ≤ 32 := blen_le_of _ 32 (d32_lt a _)
    unfold RN at h
    rw [show dl a = (dl a - 1) + 1 by omega] at h
    exact num_Len_L a (dl a - 1) _ _ v w h rfl (by omega) h1 (by omega) hb
/-- Numbers compared. -/
def cmpR (a b : Nat) : Int := if a < b then -1 else if b < a then 1 else 0
theorem cmpR_lt {a b : Nat} (h : a < b) : cmpR a b = -1 := if_pos h
theorem cmpR_gt {a b : Nat} (h : b < a) : cmpR a b = 1 := by unfold cmpR; rw [if_neg (by omega), if_pos h]
theorem cmpR_eq (a : Nat) : cmpR a a = 0 := by unfold cmpR; rw [if_neg (by omega), if_neg (by omega)]
theorem num_Cmp_same (a b L : Nat) (va vb : Value) (w : World) (ha : RL w va L a) (hb : RL w vb L b) (xa : a < 2 ^ (32 * L)) (xb : b < 2 ^ (32 * L)) (hL : L ≤ 100000) : Calls Tryz.prog 21 #[va, vb] w fun en w' => en = .returned (.int .i64 (cmpR a b)) ∧ Below w.heap.size w w' := by
  obtain ⟨qa, ca, rfl, hca, ha⟩ := ha
  obtain ⟨qb, cb, rfl, hcb, hb⟩ := hb
  go_enter Tryz.func21, Tryz.ntmps21
  go_wp2_with fail
  go_loopw [5] (fun i wr => ∃ k : Nat, k ≤ L ∧ i = .int .i64 ((k : Int) - 1) ∧ aboveD a b L k ∧ Below w.heap.size w wr) (fun i _ => (intOf i + 1).toNat)
  case atStart => exact ⟨L, Nat.le_refl _, by go_num, fun i h1 h2 => by omega, Below.refl _ _⟩
  case round =>
    obtain ⟨k, hk, rfl, hab, hnx⟩ := hrel
    cases k with
    | zero =>
      have e := above_eq a b L xa xb hab
      subst e
      go_wp2_with fail
      go_returns
      exact ⟨by rw [cmpR_eq]; rfl, hnx⟩
    | succ k =>
      rcases ha with h | ⟨ba, oa, rfl, ha⟩
      · omega
      rcases hb with h | ⟨bb, ob, rfl, hb⟩
      · omega
      have c1 := cell_later hnx (ha k (by omega))
      have c2 := cell_later hnx (hb k (by omega))
      have e1 : ((k + 1 : Nat) : Int) - 1 = (k : Nat) := by omega
      rw [e1]
      have hlt := above_lt a b L k (by omega) xa xb hab
      have hgt := above_lt b a L k (by omega) xb xa (fun i h1 h2 => (hab i h1 h2).symm)
      have hst : d32 a k = d32 b k → aboveD a b L k := fun h i h1 h2 => by
        by_cases hi : i = k
        · rw [hi]; exact h
        · exact hab i (by omega) h2
      clear ha hb e1
      generalize d32 a k = x at *
      generalize d32 b k = y at *
      rcases Nat.lt_trichotomy x y with h | h | h
      · have hr := hlt h
        clear hlt hgt hst
        go_upto_region 8 with fail
        go_region
        all_goals go_wp2_with fail
        all_goals go_returns
        all_goals exact ⟨by rw [cmpR_lt hr]; rfl, by go_grown⟩
      · have hr := hst h
        subst h
        clear hlt hgt hst
        go_upto_region 8 with fail
        go_region
        all_goals go_upto_region 10 with fail
        all_goals go_region
        all_goals go_wp2_with fail
        all_goals go_roundw
        all_goals (first
          | (case rel => exact ⟨k, by omega, by go_num, hr, by go_grown⟩)
          | (case measure => simp [intOf]))
      · have hr := hgt h
        clear hlt hgt hst
        go_upto_region 8 with fail
        go_region
        all_goals go_upto_region 10 with fail
        all_goals go_region
        all_goals go_wp2_with fail
        all_goals go_returns
        all_goals exact ⟨by rw [cmpR_gt hr]; rfl, by go_grown⟩
theorem num_Cmp_less (A B : Nat) (w : World) (qa qb : Option Addr) (ca cb : Nat) (h : A < B) (hB : B ≤ 100000) : Calls Tryz.prog 21 #[.slice qa A ca, .slice qb B cb] w fun en w' => en = .returned (.int .i64 (-1)) ∧ w = w' := by
  have hne : ((A : Int) == (B : Int)) = false := by rw [beq_eq_false_iff_ne]; omega
  go_enter Tryz.func21, Tryz.ntmps21
  go_wp2_with fail
  go_returns
  exact ⟨rfl, by first | rfl | trivial⟩
theorem num_Cmp_more (A B : Nat) (w : World) (qa qb : Option Addr) (ca cb : Nat) (h : B < A) (hA : A ≤ 100000) : Calls Tryz.prog 21 #[.slice qa A ca, .slice qb B cb] w fun en w' => en = .returned (.int .i64 1) ∧ w = w' := by
  have hne : ((A : Int) == (B : Int)) = false := by rw [beq_eq_false_iff_ne]; omega
  have hge : ¬ (A : Int) < (B : Int) := by omega
  go_enter Tryz.func21, Tryz.ntmps21
  go_wp2_with fail
  go_returns
  exact ⟨rfl, by first | rfl | trivial⟩
/-- Two numbers held against each other. -/
theorem num_Cmp (a b : Nat) (va vb : Value) (w : World) (ha : RN w va a) (hb : RN w vb b) (la : dl a ≤ 100000) (lb : dl b ≤ 100000) : Calls Tryz.prog 21 #[va, vb] w fun en w' => en = .returned (.int .i64 (cmpR a b)) ∧ Below w.heap.size w w' := by
  rcases Nat.lt_trichotomy (dl a) (dl b) with h | h | h
  · obtain ⟨qa, ca, rfl, _, _⟩ := ha
    obtain ⟨qb, cb, rfl, _, _⟩ := hb
    rw [cmpR_lt (dl_less a b h)]
    exact (num_Cmp_less _ _ w qa qb ca cb h lb).mono fun _ _ ⟨h1, h2⟩ => ⟨h1, h2 ▸ Below.refl _ _⟩
  · unfold RN at ha
    rw [h] at ha
    exact num_Cmp_same a b (dl b) va vb w ha hb (h ▸ dl_lt a) (dl_lt b) lb
  · obtain ⟨qa, ca, rfl, _, _⟩ := ha
    obtain ⟨qb, cb, rfl, _, _⟩ := hb
    rw [cmpR_gt (dl_less b a h)]
    exact (num_Cmp_more _ _ w qa qb ca cb h la).mono fun _ _ ⟨h1, h2⟩ => ⟨h1, h2 ▸ Below.refl _ _⟩
end Go.Proofs.YtkpjeceofcfnkaaGreatDoor
namespace Go.Proofs.YtkpjeceofcfnkaaGreatDoor
open Go.RowKit Go.Hb
/-- A list goes on reading so behind a store into a cell that holds no digit. -/
theorem RN.set {w : World} {v x y : Value} {n : Nat} {a : Addr} (h : RN w v n) (hc : w.cell? a = some x) (hx : ∀ k : Int, x ≠ .int .u32 k) : RN (w.setCell a y) v n := by
  obtain ⟨q, cap, rfl, hcap, h⟩ := h
  refine ⟨q, cap, rfl, hcap, ?_⟩
  rcases h with h | ⟨b, off, rfl, h⟩
  · exact Or.inl h
  · refine Or.inr ⟨b, off, rfl, fun i hi => ?_⟩
    have hi' := h i hi
    have hne : a ≠ ⟨b, off + i, none⟩ := fun e => by rw [e, hi'] at hc; cases hc; exact hx _ rfl
    have hk : (w.setCell a y).cell? ⟨b, off + i, none⟩ = w.cell? ⟨b, off + i, none⟩ := by first | exact World.cell?_setCell_other _ _ hne | exact World.cell?_setCell_other _ _ _ hne | exact World.cell?_setCell_other _ _ _ _ hne | exact World.cell?_setCell_other _ hne
    rw [hk]
    exact hi'
end Go.Proofs.YtkpjeceofcfnkaaGreatDoor
