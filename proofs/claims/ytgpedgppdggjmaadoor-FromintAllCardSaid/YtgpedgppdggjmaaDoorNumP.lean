/- Natural numbers by digits of 32 bits: sums, differences, shifts, lengths. No condition, no program in sight. -/
import Derived.Test.YtgpedgppdggjmaaDoorBlen
set_option linter.unusedSimpArgs false
set_option linter.unusedVariables false
namespace Go.Hb
/-- A digit of 32 bits. -/
def d32 (n i : Nat) : Nat := n / 2 ^ (32 * i) % 4294967296
/-- How many digits. -/
def dl (n : Nat) : Nat := (blen n + 31) / 32
theorem d32_lt (n i : Nat) : d32 n i < 4294967296 := Nat.mod_lt _ (by decide)
theorem blen_le_of (n k : Nat) (h : n < 2 ^ k) : blen n ≤ k := by
  by_cases h0 : n = 0
  · subst h0; exact Nat.zero_le _
  · have h1 := blen_le n h0
    have h2 : blen n - 1 < k := (Nat.pow_lt_pow_iff_right (by decide)).1 (Nat.lt_of_le_of_lt h1 h)
    omega
theorem lt_of_blen (n k : Nat) (h : blen n ≤ k) : n < 2 ^ k := Nat.lt_of_lt_of_le (blen_lt n) (Nat.pow_le_pow_right (by decide) h)
theorem blen_mono {a b : Nat} (h : a ≤ b) : blen a ≤ blen b := blen_le_of _ _ (Nat.lt_of_le_of_lt h (blen_lt b))
theorem dl_lt (n : Nat) : n < 2 ^ (32 * dl n) := lt_of_blen _ _ (by unfold dl; omega)
theorem dl_le (n L : Nat) (h : n < 2 ^ (32 * L)) : dl n ≤ L := by
  have := blen_le_of _ _ h
  unfold dl; omega
theorem dl_zero : dl 0 = 0 := by unfold dl; rw [blen_zero]
theorem dl_pos (n : Nat) (h : n ≠ 0) : 1 ≤ dl n := by have := blen_ne n h; unfold dl; omega
theorem d32_big (n L i : Nat) (h : n < 2 ^ (32 * L)) (hi : L ≤ i) : d32 n i = 0 := by
  unfold d32
  rw [Nat.div_eq_of_lt (Nat.lt_of_lt_of_le h (Nat.pow_le_pow_right (by decide) (by omega)))]
theorem d32_out (n i : Nat) (hi : dl n ≤ i) : d32 n i = 0 := d32_big n (dl n) i (dl_lt n) hi
theorem pow32 (L : Nat) : 2 ^ (32 * (L + 1)) = 2 ^ (32 * L) * 4294967296 := by rw [Nat.mul_add, Nat.pow_add]
/-- The highest digit of a number, and what lies below. -/
theorem mod_succ32 (n L : Nat) : n % 2 ^ (32 * (L + 1)) = n % 2 ^ (32 * L) + 2 ^ (32 * L) * d32 n L := by
  unfold d32
  rw [pow32, Nat.mod_mul]
theorem top_zero (n L : Nat) (h : n < 2 ^ (32 * (L + 1))) (hd : d32 n L = 0) : n < 2 ^ (32 * L) := by
  have h1 := mod_succ32 n L
  rw [Nat.mod_eq_of_lt h, hd, Nat.mul_zero, Nat.add_zero] at h1
  rw [h1]
  exact Nat.mod_lt _ (Nat.two_pow_pos _)
theorem top_some (n L : Nat) (h : n < 2 ^ (32 * (L + 1))) (hd : d32 n L ≠ 0) : dl n = L + 1 := by
  have h1 := dl_le n (L + 1) h
  by_cases h2 : dl n ≤ L
  · exact absurd (d32_out n L h2) hd
  · omega
/-- A number is told by its digits. -/
theorem d32_ext (a b L : Nat) (ha : a < 2 ^ (32 * L)) (hb : b < 2 ^ (32 * L)) (h : ∀ i, i < L → d32 a i = d32 b i) : a = b := by
  have key : ∀ k, k ≤ L → a % 2 ^ (32 * k) = b % 2 ^ (32 * k) := fun k => by
    induction k with
    | zero => intro _; simp [Nat.mod_one]
    | succ k ih => intro hk; rw [mod_succ32, mod_succ32, ih (by omega), h k (by omega)]
  have := key L (Nat.le_refl _)
  rwa [Nat.mod_eq_of_lt ha, Nat.mod_eq_of_lt hb] at this
/-! Sums. -/
def carA (a b k : Nat) : Nat := (a % 2 ^ (32 * k) + b % 2 ^ (32 * k)) / 2 ^ (32 * k)
theorem carA_zero (a b : Nat) : carA a b 0 = 0 := by unfold carA; simp [Nat.mod_one]
theorem carA_le (a b k : Nat) : carA a b k ≤ 1 := by
  unfold carA
  have h0 := Nat.two_pow_pos (32 * k)
  have h1 := Nat.mod_lt a h0
  have h2 := Nat.mod_lt b h0
  exact Nat.le_of_lt_succ ((Nat.div_lt_iff_lt_mul h0).2 (by omega))
theorem carA_div (a b k : Nat) : (a + b) / 2 ^ (32 * k) = a / 2 ^ (32 * k) + b / 2 ^ (32 * k) + carA a b k := by
  unfold carA
  have h0 := Nat.two_pow_pos (32 * k)
  have h1 := Nat.div_add_mod a (2 ^ (32 * k))
  have h2 := Nat.div_add_mod b (2 ^ (32 * k))
  have e : a + b = (a % 2 ^ (32 * k) + b % 2 ^ (32 * k)) + 2 ^ (32 * k) * (a / 2 ^ (32 * k) + b / 2 ^ (32 * k)) := by
    rw [Nat.mul_add]; omega
  rw [e, Nat.add_mul_div_left _ _ h0]
  omega
theorem carA_step (a b k : Nat) : carA a b (k + 1) = (carA a b k + d32 a k + d32 b k) / 4294967296 := by
  have h0 := Nat.two_pow_pos (32 * k)
  have h : carA a b (k + 1) = (a % 2 ^ (32 * (k + 1)) + b % 2 ^ (32 * (k + 1))) / (2 ^ (32 * k) * 4294967296) := by unfold carA; rw [← pow32]
  rw [h, ← Nat.div_div_eq_div_mul, mod_succ32, mod_succ32]
  have e : a % 2 ^ (32 * k) + 2 ^ (32 * k) * d32 a k + (b % 2 ^ (32 * k) + 2 ^ (32 * k) * d32 b k) = a % 2 ^ (32 * k) + b % 2 ^ (32 * k) + 2 ^ (32 * k) * (d32 a k + d32 b k) := by rw [Nat.mul_add]; omega
  rw [e, Nat.add_mul_div_left _ _ h0]
  unfold carA
  congr 1
  omega
theorem carA_dig (a b k : Nat) : d32 (a + b) k = (carA a b k + d32 a k + d32 b k) % 4294967296 := by
  unfold d32
  rw [carA_div]
  omega
theorem carA_end (a b L : Nat) (ha : a < 2 ^ (32 * L)) (hb : b < 2 ^ (32 * L)) : carA a b L = d32 (a + b) L ∧ a + b < 2 ^ (32 * (L + 1)) := by
  have h0 := Nat.two_pow_pos (32 * L)
  refine ⟨?_, by rw [pow32]; omega⟩
  rw [carA_dig, d32_big a L L ha (Nat.le_refl _), d32_big b L L hb (Nat.le_refl _)]
  have := carA_le a b L
  omega
/-! Differences. -/
def borS (a b k : Nat) : Nat := if a % 2 ^ (32 * k) < b % 2 ^ (32 * k) then 1 else 0
theorem borS_zero (a b : Nat) : borS a b 0 = 0 := by unfold borS; simp [Nat.mod_one]
theorem borS_le (a b k : Nat) : borS a b k ≤ 1 := by unfold borS; split <;> omega
theorem borS_step (a b k : Nat) : borS a b (k + 1) = 1 - (d32 a k + 4294967296 - d32 b k - borS a b k) / 4294967296 := by
  have h0 := Nat.two_pow_pos (32 * k)
  have ha := Nat.mod_lt a h0
  have hb := Nat.mod_lt b h0
  have da := d32_lt a k
  have db := d32_lt b k
  unfold borS
  rw [mod_succ32, mod_succ32]
  generalize a % 2 ^ (32 * k) = x at *
  generalize b % 2 ^ (32 * k) = y at *
  generalize 2 ^ (32 * k) = B at *
  generalize d32 a k = p at *
  generalize d32 b k = q at *
  rcases Nat.lt_trichotomy p q with h | h | h
  · have h1 : B * (p + 1) ≤ B * q := Nat.mul_le_mul_left B h
    rw [Nat.mul_add, Nat.mul_one] at h1
    have e : x + B * p < y + B * q := by omega
    rw [if_pos e]
    split <;> omega
  · subst h
    by_cases hxy : x < y
    · rw [if_pos (by omega), if_pos hxy]; omega
    · rw [if_neg (by omega), if_neg hxy]; omega
  · have h1 : B * (q + 1) ≤ B * p := Nat.mul_le_mul_left B h
    rw [Nat.mul_add, Nat.mul_one] at h1
    have e : ¬ x + B * p < y + B * q := by omega
    rw [if_neg e]
    split <;> omega
theorem borS_div (a b k : Nat) (h : b ≤ a) : (a - b) / 2 ^ (32 * k) + b / 2 ^ (32 * k) + borS a b k = a / 2 ^ (32 * k) := by
  have h0 := Nat.two_pow_pos (32 * k)
  have e := carA_div (a - b) b k
  rw [Nat.sub_add_cancel h] at e
  have hc : carA (a - b) b k = borS a b k := by
    have h1 := Nat.mod_lt (a - b) h0
    have h2 := Nat.mod_lt b h0
    have h3 : a % 2 ^ (32 * k) = ((a - b) % 2 ^ (32 * k) + b % 2 ^ (32 * k)) % 2 ^ (32 * k) := by rw [← Nat.add_mod, Nat.sub_add_cancel h]
    unfold carA borS
    generalize (a - b) % 2 ^ (32 * k) = x at *
    generalize b % 2 ^ (32 * k) = y at *
    generalize 2 ^ (32 * k) = B at *
    rw [h3]
    by_cases hxy : x + y < B
    · rw [Nat.div_eq_of_lt hxy, Nat.mod_eq_of_lt hxy, if_neg (by omega)]
    · have e1 : (x + y) % B = x + y - B := by rw [Nat.mod_eq_sub_mod (by omega), Nat.mod_eq_of_lt (by omega)]
      have e2 : (x + y) / B = 1 := Nat.div_eq_of_lt_le (by omega) (by omega)
      rw [e1, e2, if_pos (by omega)]
  omega
theorem borS_dig (a b k : Nat) (h : b ≤ a) : d32 (a - b) k = (d32 a k + 4294967296 - d32 b k - borS a b k) % 4294967296 := by
  have e := borS_div a b k h
  have h1 := borS_le a b k
  have db := d32_lt b k
  unfold d32 at *
  omega
/-! Shifts. -/
theorem mod_32 (a k r : Nat) (_hr : r < 32) : a * 2 ^ r / 2 ^ (32 * k) = a / 2 ^ (32 * k) * 2 ^ r + a % 2 ^ (32 * k) * 2 ^ r / 2 ^ (32 * k) := by
  have h0 := Nat.two_pow_pos (32 * k)
  have e : a * 2 ^ r = a % 2 ^ (32 * k) * 2 ^ r + 2 ^ (32 * k) * (a / 2 ^ (32 * k) * 2 ^ r) := by
    have := Nat.div_add_mod a (2 ^ (32 * k))
    rw [← Nat.mul_assoc, ← Nat.add_mul]
    congr 1; omega
  conv => lhs; rw [e]
  rw [Nat.add_mul_div_left _ _ h0]; omega
def carL (a r k : Nat) : Nat := a % 2 ^ (32 * k) * 2 ^ r / 2 ^ (32 * k)
theorem carL_zero (a r : Nat) : carL a r 0 = 0 := by unfold carL; simp [Nat.mod_one]
theorem carL_lt (a r k : Nat) : carL a r k < 2 ^ r := by
  unfold carL
  have h0 := Nat.two_pow_pos (32 * k)
  rw [Nat.div_lt_iff_lt_mul h0, Nat.mul_comm (2 ^ r)]
  exact Nat.mul_lt_mul_of_pos_right (Nat.mod_lt _ h0) (Nat.two_pow_pos _)
theorem carL_step (a r k : Nat) : carL a r (k + 1) = (carL a r k + d32 a k * 2 ^ r) / 4294967296 := by
  have h0 := Nat.two_pow_pos (32 * k)
  have h : carL a r (k + 1) = a % 2 ^ (32 * (k + 1)) * 2 ^ r / (2 ^ (32 * k) * 4294967296) := by unfold carL; rw [← pow32]
  rw [h, ← Nat.div_div_eq_div_mul, mod_succ32, Nat.add_mul, Nat.mul_assoc, Nat.add_mul_div_left _ _ h0]
  rfl
theorem carL_dig (a r k : Nat) (hr : r < 32) : d32 (a * 2 ^ r) k = (carL a r k + d32 a k * 2 ^ r) % 4294967296 := by
  unfold d32 carL
  rw [mod_32 a k r hr, Nat.add_mod, Nat.add_mod (a % 2 ^ (32 * k) * 2 ^ r / 2 ^ (32 * k)), Nat.mod_mul_mod]
  rw [Nat.add_comm]
theorem d32_low (a q i : Nat) (hi : i < q) : d32 (a * 2 ^ (32 * q)) i = 0 := by
  unfold d32
  rw [show 32 * q = 32 * i + (32 + 32 * (q - i - 1)) by omega, Nat.pow_add, Nat.mul_comm (2 ^ (32 * i)), ← Nat.mul_assoc, Nat.mul_div_cancel _ (Nat.two_pow_pos _), Nat.pow_add, show (2:Nat) ^ 32 = 4294967296 from rfl, Nat.mul_comm 4294967296, ← Nat.mul_assoc, Nat.mul_mod_left]
theorem d32_up (a q i : Nat) : d32 (a * 2 ^ (32 * q)) (q + i) = d32 a i := by
  unfold d32
  rw [Nat.mul_add, Nat.pow_add, ← Nat.div_div_eq_div_mul, Nat.mul_div_cancel _ (Nat.two_pow_pos _)]
theorem shl_split (a n : Nat) : a * 2 ^ n = a * 2 ^ (n % 32) * 2 ^ (32 * (n / 32)) := by
  rw [Nat.mul_assoc, ← Nat.pow_add]; congr 2; omega
theorem shl_low (a n i : Nat) (h : i < n / 32) : d32 (a * 2 ^ n) i = 0 := by rw [shl_split]; exact d32_low _ _ _ h
theorem shl_dig (a n k : Nat) : d32 (a * 2 ^ n) (n / 32 + k) = (carL a (n % 32) k + d32 a k * 2 ^ (n % 32)) % 4294967296 := by
  rw [shl_split, d32_up, carL_dig _ _ _ (Nat.mod_lt _ (by decide))]
theorem shl_end (a n L : Nat) (ha : a < 2 ^ (32 * L)) : carL a (n % 32) L = d32 (a * 2 ^ n) (n / 32 + L) ∧ a * 2 ^ n < 2 ^ (32 * (n / 32 + L + 1)) := by
  have h2 : 2 ^ (n % 32) ≤ 2 ^ 32 := Nat.pow_le_pow_right (by decide) (by omega)
  refine ⟨?_, ?_⟩
  · rw [shl_dig, d32_big a L L ha (Nat.le_refl _), Nat.zero_mul, Nat.add_zero]
    exact (Nat.mod_eq_of_lt (Nat.lt_of_lt_of_le (carL_lt _ _ _) h2)).symm
  · have e : 2 ^ (32 * (n / 32 + L + 1)) = 2 ^ (32 * L) * 2 ^ (32 * (n / 32) + 32) := by rw [← Nat.pow_add]; congr 1; omega
    rw [e]
    have h1 : 2 ^ n ≤ 2 ^ (32 * (n / 32) + 32) := Nat.pow_le_pow_right (by decide) (by omega)
    exact Nat.lt_of_le_of_lt (Nat.mul_le_mul_left a h1) (Nat.mul_lt_mul_of_pos_right ha (Nat.two_pow_pos _))
/-- Disjoint bits. -/
theorem or_add (c x r : Nat) (h : c < 2 ^ r) : c ||| (x * 2 ^ r) = c + x * 2 ^ r := by
  rw [Nat.or_comm, Nat.mul_comm, Nat.two_pow_add_eq_or_of_lt h x |>.symm, Nat.add_comm]
theorem shr_dig (a n i : Nat) : d32 (a / 2 ^ n) i = (d32 a (n / 32 + i) + d32 a (n / 32 + i + 1) * 4294967296) / 2 ^ (n % 32) % 4294967296 := by
  have hr : n % 32 < 32 := Nat.mod_lt _ (by decide)
  have e1 : a / 2 ^ n / 2 ^ (32 * i) = a / 2 ^ (32 * (n / 32 + i)) / 2 ^ (n % 32) := by
    rw [Nat.div_div_eq_div_mul, Nat.div_div_eq_div_mul, ← Nat.pow_add, ← Nat.pow_add]; congr 2; omega
  have e2 : a / 2 ^ (32 * (n / 32 + i + 1)) = a / 2 ^ (32 * (n / 32 + i)) / 4294967296 := by rw [pow32, Nat.div_div_eq_div_mul]
  unfold d32
  rw [e1, e2]
  generalize a / 2 ^ (32 * (n / 32 + i)) = x
  apply Nat.eq_of_testBit_eq
  intro j
  rw [show x % 4294967296 + x / 4294967296 % 4294967296 * 4294967296 = x % (4294967296 * 4294967296) by rw [Nat.mod_mul, Nat.mul_comm 4294967296]]
  rw [show (4294967296 * 4294967296 : Nat) = 2 ^ 64 from rfl, show (4294967296 : Nat) = 2 ^ 32 from rfl]
  simp only [Nat.testBit_mod_two_pow, Nat.testBit_div_two_pow]
  by_cases hj : j < 32
  · simp [hj, show j + n % 32 < 64 by omega]
  · simp [hj]
theorem shr_len (a n : Nat) : a / 2 ^ n < 2 ^ (32 * (dl a - n / 32)) := by
  rw [Nat.div_lt_iff_lt_mul (Nat.two_pow_pos _), ← Nat.pow_add]
  exact Nat.lt_of_lt_of_le (dl_lt a) (Nat.pow_le_pow_right (by decide) (by omega))
theorem bit_dig (a i : Nat) : (d32 a (i / 32) / 2 ^ (i % 32) % 2 = 1) ↔ a.testBit i = true := by
  rw [Nat.testBit_eq_decide_div_mod_eq, decide_eq_true_eq]
  have : d32 a (i / 32) / 2 ^ (i % 32) % 2 = a / 2 ^ i % 2 := by
    unfold d32
    have e : a / 2 ^ i = a / 2 ^ (32 * (i / 32)) / 2 ^ (i % 32) := by rw [Nat.div_div_eq_div_mul, ← Nat.pow_add]; congr 2; omega
    rw [e]
    generalize a / 2 ^ (32 * (i / 32)) = x
    have hr : i % 32 < 32 := Nat.mod_lt _ (by decide)
    have e2 : (4294967296 : Nat) = 2 ^ (i % 32) * 2 ^ (32 - i % 32) := by rw [← Nat.pow_add, show i % 32 + (32 - i % 32) = 32 by omega]
    rw [e2, Nat.mod_mul_right_div_self]
    rw [show (2:Nat) ^ (32 - i % 32) = 2 * 2 ^ (32 - i % 32 - 1) by rw [← Nat.pow_succ']; congr 1; omega]
    rw [Nat.mod_mul_right_mod]
  rw [this]
/-- Numbers of 64 and of 128 bits by their digits. -/
theorem two_dig (n : Nat) : d32 n 0 + d32 n 1 * 4294967296 = n % 18446744073709551616 := by
  unfold d32; simp only [Nat.mul_zero, Nat.pow_zero, Nat.div_one, Nat.mul_one, show (2:Nat) ^ 32 = 4294967296 from rfl]; omega
theorem two_dig2 (n : Nat) : d32 n 2 + d32 n 3 * 4294967296 = n / 18446744073709551616 % 18446744073709551616 := by
  unfold d32; simp only [show 32 * 2 = 64 from rfl, show 32 * 3 = 96 from rfl, show (2:Nat) ^ 64 = 18446744073709551616 from rfl, show (2:Nat) ^ 96 = 79228162514264337593543950336 from rfl]; omega
/-- The length of the highest digit. -/
theorem blen_top (n : Nat) (h : n ≠ 0) : blen n = 32 * (dl n - 1) + blen (d32 n (dl n - 1)) ∧ 1 ≤ d32 n (dl n - 1) := by
  have hp := dl_pos n h
  have h1 := dl_lt n
  have hd : d32 n (dl n - 1) ≠ 0 := fun h0 => by
    have := dl_le n _ (top_zero n (dl n - 1) (by rw [show dl n - 1 + 1 = dl n by omega]; exact h1) h0)
    omega
  have e : d32 n (dl n - 1) = n / 2 ^ (32 * (dl n - 1)) := by
    unfold d32
    apply Nat.mod_eq_of_lt
    rw [Nat.div_lt_iff_lt_mul (Nat.two_pow_pos _), Nat.mul_comm, ← pow32, show dl n - 1 + 1 = dl n by omega]
    exact h1
  refine ⟨?_, by omega⟩
  rw [e] at hd ⊢
  generalize 32 * (dl n - 1) = s at *
  have hb1 := blen_lt (n / 2 ^ s)
  have hb2 := blen_le (n / 2 ^ s) hd
  have hb3 := blen_ne _ hd
  apply blen_unique
  · rw [Nat.pow_add, Nat.mul_comm]
    exact (Nat.div_lt_iff_lt_mul (Nat.two_pow_pos _)).1 hb1
  · right
    rw [show s + blen (n / 2 ^ s) - 1 = s + (blen (n / 2 ^ s) - 1) by omega, Nat.pow_add]
    exact Nat.le_trans (Nat.mul_le_mul_left _ hb2) (Nat.mul_div_le n _)
/-- Two numbers held against each other by their digits: alike above k. -/
def aboveD (a b L k : Nat) : Prop := ∀ i, k ≤ i → i < L → d32 a i = d32 b i
theorem above_eq (a b L : Nat) (ha : a < 2 ^ (32 * L)) (hb : b < 2 ^ (32 * L)) (h : aboveD a b L 0) : a = b := d32_ext a b L ha hb fun i hi => h i (Nat.zero_le _) hi
theorem above_div (a b L k : Nat) (hk : k ≤ L) (ha : a < 2 ^ (32 * L)) (hb : b < 2 ^ (32 * L)) (h : aboveD a b L k) : a / 2 ^ (32 * k) = b / 2 ^ (32 * k) := by
  apply d32_ext _ _ (L - k)
  · rw [Nat.div_lt_iff_lt_mul (Nat.two_pow_pos _), ← Nat.pow_add, ← Nat.mul_add, show L - k + k = L by omega]; exact ha
  · rw [Nat.div_lt_iff_lt_mul (Nat.two_pow_pos _), ← Nat.pow_add, ← Nat.mul_add, show L - k + k = L by omega]; exact hb
  · intro i hi
    have := h (k + i) (by omega) (by omega)
    unfold d32 at *
    rwa [Nat.div_div_eq_div_mul, Nat.div_div_eq_div_mul, ← Nat.pow_add, ← Nat.mul_add]
theorem above_lt (a b L k : Nat) (hk : k < L) (ha : a < 2 ^ (32 * L)) (hb : b < 2 ^ (32 * L)) (h : aboveD a b L (k + 1)) (hd : d32 a k < d32 b k) : a < b := by
  have h1 := above_div a b L (k + 1) (by omega) ha hb h
  have e : ∀ x : Nat, x / 2 ^ (32 * k) = x / 2 ^ (32 * (k + 1)) * 4294967296 + d32 x k := fun x => by
    unfold d32; rw [pow32, ← Nat.div_div_eq_div_mul]; omega
  have h2 : a / 2 ^ (32 * k) < b / 2 ^ (32 * k) := by rw [e a, e b, h1]; omega
  exact Nat.lt_of_not_le fun hba => by have := Nat.div_le_div_right (c := 2 ^ (32 * k)) hba; omega
theorem dl_less (a b : Nat) (h : dl a < dl b) : a < b := Nat.lt_of_not_le fun hba => by
  have := blen_mono hba
  unfold dl at h; omega
end Go.Hb
