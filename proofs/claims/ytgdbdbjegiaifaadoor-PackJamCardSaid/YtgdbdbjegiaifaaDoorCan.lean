/- Canonical rounding of natural numbers: codes, their numbers, floors; plain numbers, no program. -/
import Derived.Test.YtgdbdbjegiaifaaDoorRnd
import Derived.Test.YtgdbdbjegiaifaaDoorCount
set_option linter.unusedSimpArgs false
set_option linter.unusedVariables false
namespace Go.Hb
/-- The number of a code, in units of 1: codes below 2^(p-1) are subnormal. -/
def valC (p B c : Nat) : Nat := if c < 2 ^ (p - 1) then c * 2 ^ B else (2 ^ (p - 1) + c % 2 ^ (p - 1)) * 2 ^ (c / 2 ^ (p - 1) - 1 + B)
theorem valC_mk (p B t r : Nat) (ht : B ≤ t) (hr : r ≤ 2 * 2 ^ (p - 1)) (h : t = B ∨ 2 ^ (p - 1) ≤ r) : valC p B ((t - B) * 2 ^ (p - 1) + r) = r * 2 ^ t := by
  have hp : 0 < 2 ^ (p - 1) := Nat.two_pow_pos _
  unfold valC
  generalize 2 ^ (p - 1) = u at *
  by_cases h1 : r < u
  · have ht' : t = B := by omega
    subst ht'
    rw [Nat.sub_self, Nat.zero_mul, Nat.zero_add, if_pos h1]
  · have h2 : ¬ (t - B) * u + r < u := by omega
    rw [if_neg h2]
    by_cases h3 : r < 2 * u
    · have e : (t - B) * u + r = (r - u) + (t - B + 1) * u := by rw [Nat.add_mul]; omega
      rw [e, Nat.add_mul_mod_self_right, Nat.add_mul_div_right _ _ hp, Nat.mod_eq_of_lt (by omega), Nat.div_eq_of_lt (by omega)]
      rw [show 0 + (t - B + 1) - 1 + B = t by omega, show u + (r - u) = r by omega]
    · have h4 : r = 2 * u := by omega
      have e : (t - B) * u + r = 0 + (t - B + 2) * u := by rw [Nat.add_mul]; omega
      rw [e, Nat.add_mul_mod_self_right, Nat.add_mul_div_right _ _ hp, Nat.zero_mod, Nat.zero_div]
      rw [show 0 + (t - B + 2) - 1 + B = t + 1 by omega, Nat.pow_succ, h4, Nat.add_zero, Nat.mul_comm (2 ^ t) 2, ← Nat.mul_assoc, Nat.mul_comm u 2]
/-- What codes are made of. -/
theorem code_form (p B c : Nat) : ∃ t r, B ≤ t ∧ r < 2 * 2 ^ (p - 1) ∧ (t = B ∨ 2 ^ (p - 1) ≤ r) ∧ c = (t - B) * 2 ^ (p - 1) + r := by
  have hp : 0 < 2 ^ (p - 1) := Nat.two_pow_pos _
  generalize 2 ^ (p - 1) = u at *
  by_cases h : c < u
  · exact ⟨B, c, Nat.le_refl _, by omega, Or.inl rfl, by rw [Nat.sub_self, Nat.zero_mul, Nat.zero_add]⟩
  · have h1 := Nat.mod_add_div c u
    have h2 := Nat.mod_lt c hp
    have h3 : 1 ≤ c / u := (Nat.le_div_iff_mul_le hp).2 (by omega)
    refine ⟨B + (c / u - 1), u + c % u, by omega, by omega, Or.inr (by omega), ?_⟩
    rw [show B + (c / u - 1) - B = c / u - 1 by omega]
    have e : c / u * u = (c / u - 1) * u + u := by rw [← Nat.succ_mul, Nat.succ_eq_add_one, Nat.sub_add_cancel h3]
    rw [Nat.mul_comm] at e
    omega
/-- The gap above a code. -/
theorem valC_succ (p B c : Nat) : ∃ t, B ≤ t ∧ valC p B (c + 1) = valC p B c + 2 ^ t := by
  obtain ⟨t, r, ht, hr, h, rfl⟩ := code_form p B c
  refine ⟨t, ht, ?_⟩
  rw [valC_mk p B t r ht (by omega) h, Nat.add_assoc, valC_mk p B t (r + 1) ht (by omega) (by omega), Nat.succ_mul]
theorem valC_lt_succ (p B c : Nat) : valC p B c < valC p B (c + 1) := by
  obtain ⟨t, _, e⟩ := valC_succ p B c
  have := Nat.two_pow_pos t
  omega
theorem valC_lt (p B : Nat) {a b : Nat} (h : a < b) : valC p B a < valC p B b := by
  induction b with
  | zero => omega
  | succ b ih =>
    have := valC_lt_succ p B b
    by_cases e : a = b
    · subst e; exact this
    · exact Nat.lt_trans (ih (by omega)) this
theorem valC_le (p B : Nat) {a b : Nat} (h : a ≤ b) : valC p B a ≤ valC p B b := by
  rcases Nat.lt_or_eq_of_le h with h | h
  · exact Nat.le_of_lt (valC_lt p B h)
  · rw [h]; exact Nat.le_refl _
theorem valC_zero (p B : Nat) : valC p B 0 = 0 := by
  unfold valC; rw [if_pos (Nat.two_pow_pos _), Nat.zero_mul]
/-- Where a number is cut. -/
def cutAt (p B X : Nat) : Nat := max (blen X - p) B
/-- The greatest code whose number is no more. -/
def floorC (p B X : Nat) : Nat := (cutAt p B X - B) * 2 ^ (p - 1) + X / 2 ^ cutAt p B X
theorem cut_bd (p B X : Nat) (hp : 1 ≤ p) : B ≤ cutAt p B X ∧ X / 2 ^ cutAt p B X < 2 * 2 ^ (p - 1) ∧ (cutAt p B X = B ∨ 2 ^ (p - 1) ≤ X / 2 ^ cutAt p B X) := by
  have e : 2 * 2 ^ (p - 1) = 2 ^ p := by rw [← Nat.pow_succ']; congr 1; omega
  refine ⟨Nat.le_max_right _ _, ?_, ?_⟩
  · rw [e, Nat.div_lt_iff_lt_mul (Nat.two_pow_pos _), ← Nat.pow_add]
    exact Nat.lt_of_lt_of_le (blen_lt X) (Nat.pow_le_pow_right (by omega) (by unfold cutAt; omega))
  · by_cases h : blen X - p ≤ B
    · exact Or.inl (Nat.max_eq_right h)
    · right
      have h0 : X ≠ 0 := by intro h0; subst h0; rw [blen_zero] at h; omega
      have h1 : cutAt p B X = blen X - p := Nat.max_eq_left (by omega)
      rw [h1, Nat.le_div_iff_mul_le (Nat.two_pow_pos _), ← Nat.pow_add, show p - 1 + (blen X - p) = blen X - 1 by omega]
      exact blen_le X h0
theorem floorC_val (p B X : Nat) (hp : 1 ≤ p) : valC p B (floorC p B X) = X / 2 ^ cutAt p B X * 2 ^ cutAt p B X := by
  obtain ⟨h1, h2, h3⟩ := cut_bd p B X hp
  exact valC_mk p B _ _ h1 (by omega) h3
theorem floorC_next (p B X : Nat) (hp : 1 ≤ p) : valC p B (floorC p B X + 1) = (X / 2 ^ cutAt p B X + 1) * 2 ^ cutAt p B X := by
  obtain ⟨h1, h2, h3⟩ := cut_bd p B X hp
  unfold floorC
  rw [Nat.add_assoc]
  exact valC_mk p B _ _ h1 (by omega) (by omega)
theorem floorC_le (p B X : Nat) (hp : 1 ≤ p) : valC p B (floorC p B X) ≤ X := by
  rw [floorC_val p B X hp]; exact Nat.div_mul_le_self _ _
theorem floorC_lt (p B X : Nat) (hp : 1 ≤ p) : X < valC p B (floorC p B X + 1) := by
  rw [floorC_next p B X hp, Nat.succ_mul]
  have := Nat.mod_add_div X (2 ^ cutAt p B X)
  rw [Nat.mul_comm] at this
  have := Nat.mod_lt X (Nat.two_pow_pos (cutAt p B X))
  omega
theorem floorC_eq (p B X c : Nat) (hp : 1 ≤ p) (h1 : valC p B c ≤ X) (h2 : X < valC p B (c + 1)) : floorC p B X = c := by
  have h3 := floorC_le p B X hp
  have h4 := floorC_lt p B X hp
  rcases Nat.lt_trichotomy (floorC p B X) c with h | h | h
  · have := valC_le p B (show floorC p B X + 1 ≤ c from h); omega
  · exact h
  · have := valC_le p B (show c + 1 ≤ floorC p B X from h); omega
theorem floorC_mono (p B : Nat) {X Y : Nat} (hp : 1 ≤ p) (h : X ≤ Y) : floorC p B X ≤ floorC p B Y := by
  have h3 := floorC_le p B X hp
  have h4 := floorC_lt p B Y hp
  rcases Nat.lt_or_ge (floorC p B Y) (floorC p B X) with g | g
  · have := valC_le p B (show floorC p B Y + 1 ≤ floorC p B X from g); omega
  · exact g
theorem floorC_valC (p B c : Nat) (hp : 1 ≤ p) : floorC p B (valC p B c) = c := floorC_eq p B _ c hp (Nat.le_refl _) (valC_lt_succ p B c)
/-- The rest by what is left and the gap. -/
def restG (d g : Nat) : Int := if d = 0 then 0 else if 2 * d < g then 1 else if 2 * d = g then 2 else 3
/-- What a number is beyond its floor. -/
def restC (p B X : Nat) : Int := restG (X - valC p B (floorC p B X)) (valC p B (floorC p B X + 1) - valC p B (floorC p B X))
theorem restG_bd (d g : Nat) : 0 ≤ restG d g ∧ restG d g ≤ 3 := by unfold restG; repeat' split <;> omega
theorem restG_mono (d e g : Nat) (h : d ≤ e) : restG d g ≤ restG e g := by unfold restG; repeat' split <;> omega
theorem restN_G (v s : Nat) : restN v s = restG (v % 2 ^ s) (2 ^ s) := by
  unfold restN
  by_cases h0 : s = 0
  · subst h0; rw [if_pos rfl, Nat.pow_zero, Nat.mod_one]; rfl
  · rw [if_neg h0]
    have e : (2 : Nat) ^ s = 2 ^ (s - 1) * 2 := by rw [← Nat.pow_succ]; congr 1; omega
    rw [e, Nat.mod_mul]
    have hb : v.testBit (s - 1) = (v / 2 ^ (s - 1) % 2 == 1) := by rw [Nat.testBit_eq_decide_div_mod_eq]; rfl
    have h1 := Nat.mod_lt v (Nat.two_pow_pos (s - 1))
    have h2 : v / 2 ^ (s - 1) % 2 = 0 ∨ v / 2 ^ (s - 1) % 2 = 1 := by omega
    rw [hb]
    unfold restG
    rcases h2 with h2 | h2
    · rw [h2]; simp only [Nat.mul_zero, Nat.add_zero]
      generalize v % 2 ^ (s - 1) = d at *
      generalize 2 ^ (s - 1) = g at *
      repeat' split <;> first | rfl | omega | simp_all
    · rw [h2]; simp only [Nat.mul_one]
      generalize v % 2 ^ (s - 1) = d at *
      generalize 2 ^ (s - 1) = g at *
      repeat' split <;> first | rfl | omega | simp_all
theorem restC_N (p B X : Nat) (hp : 1 ≤ p) : restC p B X = restN X (cutAt p B X) := by
  rw [restN_G]
  unfold restC
  rw [floorC_next p B X hp, floorC_val p B X hp, Nat.succ_mul, Nat.add_sub_cancel_left]
  congr 1
  have := Nat.mod_add_div X (2 ^ cutAt p B X)
  rw [Nat.mul_comm] at this
  omega
theorem floorC_odd (p B X : Nat) (hp : 2 ≤ p) : floorC p B X % 2 = X / 2 ^ cutAt p B X % 2 := by
  unfold floorC
  rw [show 2 ^ (p - 1) = 2 * 2 ^ (p - 2) by rw [← Nat.pow_succ']; congr 1; omega]
  rw [Nat.mul_left_comm, Nat.mul_add_mod]
end Go.Hb
