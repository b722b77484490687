/- Sizes of numbers compared: plain lemmas (moved out of Sum1, SumX, Add2). No program in sight. -/
import Derived.Test.YthbpbbbngablpaaDoorComp3
import Derived.Test.YthbpbbbngablpaaDoorCodes4
import Derived.Test.YthbpbbbngablpaaDoorWholes
set_option linter.unusedSimpArgs false
set_option linter.unusedVariables false
namespace Go.Proofs.YthbpbbbngablpaaDoor
open Go.RowKit Go.Hb
theorem cmpN_lt {a b : Nat} (h : a < b) : cmpN a b = -1 := by unfold cmpN; rw [if_pos h]
theorem cmpN_gt {a b : Nat} (h : b < a) : cmpN a b = 1 := by unfold cmpN; rw [if_neg (by omega), if_pos h]
theorem cmpN_same {a b : Nat} (h : a = b) : cmpN a b = 0 := by unfold cmpN; rw [if_neg (by omega), if_neg (by omega)]
theorem mag_lt {e : Int} {a : Nat} {e' : Int} {b : Nat} (h : rsh a (max e e' - e) < rsh b (max e e' - e')) : magC e a e' b = -1 := by
  unfold magC; rw [cmpN_lt h, if_neg (by decide)]
theorem mag_gt {e : Int} {a : Nat} {e' : Int} {b : Nat} (h : rsh b (max e e' - e') < rsh a (max e e' - e)) : magC e a e' b = 1 := by
  unfold magC; rw [cmpN_gt h, if_neg (by decide)]
theorem mag_same {e : Int} {a : Nat} {e' : Int} {b : Nat} (h : rsh a (max e e' - e) = rsh b (max e e' - e')) : magC e a e' b = if lostS a (max e e' - e) then 1 else if lostS b (max e e' - e') then -1 else 0 := by
  unfold magC; rw [cmpN_same h, if_pos rfl]
theorem un_bd (f : Int) (v : Nat) (h0 : 0 ≤ f) : -1000000 ≤ unE f v ∧ unE f v ≤ 1000000 := by
  obtain ⟨e0, e1⟩ := emaxS_bd f
  obtain ⟨p0, p1⟩ := precS_bd f
  have hl := unE_low f v h0
  refine ⟨by omega, ?_⟩
  unfold unE
  split
  · have hx : expF f v ≤ 32767 := by
      unfold expF
      split
      · omega
      · have hw : (widthS f - precS f).toNat ≤ 15 := by unfold widthS precS; repeat' split <;> omega
        have := Nat.mod_lt (v / 2 ^ (precS f - 1).toNat) (Nat.two_pow_pos (widthS f - precS f).toNat)
        have h2 : 2 ^ (widthS f - precS f).toNat ≤ 2 ^ 15 := Nat.pow_le_pow_right (by decide) hw
        have h3 : (2 : Nat) ^ 15 = 32768 := by decide
        omega
    omega
  · split
    · have := by128_bd (fracF f v) (Nat.lt_trans (fracF_lt f v h0) (by decide)); omega
    · omega
theorem numX_in (K e : Int) (v : Nat) (h0 : -1000000 ≤ e) (h1 : e ≤ 2000000) : numX K e v = v * 2 ^ (e + K).toNat := by
  have h : farS e = e := by unfold farS; omega
  unfold numX
  rw [h]
theorem cmp_mul (x y k : Nat) : cmpN (x * 2 ^ k) (y * 2 ^ k) = cmpN x y := by
  have hp := Nat.two_pow_pos k
  rcases Nat.lt_trichotomy x y with h | h | h
  · rw [cmpN_lt h, cmpN_lt (Nat.mul_lt_mul_of_pos_right h hp)]
  · rw [h, cmpN_same rfl, cmpN_same rfl]
  · rw [cmpN_gt h, cmpN_gt (Nat.mul_lt_mul_of_pos_right h hp)]
theorem cmp_neg (x y : Nat) : cmpN y x = -(cmpN x y) := by
  rcases Nat.lt_trichotomy x y with h | h | h
  · rw [cmpN_lt h, cmpN_gt h]; rfl
  · rw [cmpN_same h, cmpN_same h.symm]; rfl
  · rw [cmpN_gt h, cmpN_lt h]
theorem mag_ge (e e' : Int) (a b : Nat) (hee : e' ≤ e) : magC e a e' b = cmpN (a * 2 ^ (e - e').toNat) b := by
  have hx : max e e' = e := by omega
  have r1 : rsh a (max e e' - e) = a := by rw [hx]; unfold rsh; rw [show (e - e).toNat = 0 by omega, Nat.pow_zero, Nat.div_one]
  have l1 : lostS a (max e e' - e) = false := by rw [hx]; unfold lostS; rw [show (e - e).toNat = 0 by omega, Nat.pow_zero, Nat.mod_one]; decide
  have r2 : rsh b (max e e' - e') = b / 2 ^ (e - e').toNat := by rw [hx]; rfl
  have hp := Nat.two_pow_pos (e - e').toNat
  have hd := Nat.div_add_mod b (2 ^ (e - e').toNat)
  have hm := Nat.mod_lt b hp
  rcases Nat.lt_trichotomy a (b / 2 ^ (e - e').toNat) with h | h | h
  · rw [mag_lt (by rw [r1, r2]; exact h)]
    have := Nat.mul_le_mul_right (2 ^ (e - e').toNat) (show a + 1 ≤ b / 2 ^ (e - e').toNat from h)
    rw [Nat.succ_mul, Nat.mul_comm (b / 2 ^ (e - e').toNat)] at this
    rw [cmpN_lt (by omega)]
  · rw [mag_same (by rw [r1, r2]; exact h), l1]
    rw [← h, Nat.mul_comm] at hd
    by_cases hz : b % 2 ^ (e - e').toNat = 0
    · have l2 : lostS b (max e e' - e') = false := by rw [hx]; unfold lostS; rw [hz]; decide
      rw [l2, cmpN_same (by omega)]; rfl
    · have l2 : lostS b (max e e' - e') = true := by rw [hx]; unfold lostS; exact decide_eq_true hz
      rw [l2, cmpN_lt (by omega)]; rfl
  · rw [mag_gt (by rw [r1, r2]; exact h)]
    have := Nat.mul_le_mul_right (2 ^ (e - e').toNat) (show b / 2 ^ (e - e').toNat + 1 ≤ a from h)
    rw [Nat.succ_mul, Nat.mul_comm (b / 2 ^ (e - e').toNat)] at this
    rw [cmpN_gt (by omega)]
theorem mag_anti (e e' : Int) (a b : Nat) : magC e' b e a = -(magC e a e' b) := by
  have hx : max e' e = max e e' := Int.max_comm e' e
  rcases Nat.lt_trichotomy (rsh a (max e e' - e)) (rsh b (max e e' - e')) with h1 | h1 | h1
  · rw [mag_gt (by rw [hx]; exact h1), mag_lt h1]; rfl
  · rw [mag_same (by rw [hx]; exact h1.symm), mag_same h1, hx]
    have hno : ¬ (lostS a (max e e' - e) = true ∧ lostS b (max e e' - e') = true) := by
      rintro ⟨h2, h3⟩
      unfold lostS at h2 h3
      rw [decide_eq_true_eq] at h2 h3
      rcases Int.le_total e' e with h | h
      · apply h2; rw [show (max e e' - e).toNat = 0 by omega, Nat.pow_zero, Nat.mod_one]
      · apply h3; rw [show (max e e' - e').toNat = 0 by omega, Nat.pow_zero, Nat.mod_one]
    cases hla : lostS a (max e e' - e) <;> cases hlb : lostS b (max e e' - e')
    · rfl
    · rfl
    · rfl
    · exact absurd ⟨hla, hlb⟩ hno
  · rw [mag_lt (by rw [hx]; exact h1), mag_gt h1]
/-- Sizes compared as numbers. -/
theorem mag_cmp (K e e' : Int) (a b : Nat) (h0 : -1000000 ≤ e) (h1 : e ≤ 1000000) (h0' : -1000000 ≤ e') (h1' : e' ≤ 1000000) (hK : 3000000 ≤ K) : magC e a e' b = cmpN (numX K e a) (numX K e' b) := by
  have key : ∀ (e e' : Int) (a b : Nat), -1000000 ≤ e' → e ≤ 1000000 → e' ≤ e → magC e a e' b = cmpN (numX K e a) (numX K e' b) := fun e e' a b h0 h1 hee => by
    rw [mag_ge e e' a b hee, numX_in K e a (by omega) (by omega), numX_in K e' b h0 (by omega), show (e + K).toNat = (e - e').toNat + (e' + K).toNat by omega, Nat.pow_add, ← Nat.mul_assoc, cmp_mul]
  rcases Int.le_total e' e with h | h
  · exact key e e' a b h0' h1 h
  · rw [mag_anti e' e b a, key e' e b a h0 h1' h, cmp_neg]
    omega
end Go.Proofs.YthbpbbbngablpaaDoor
