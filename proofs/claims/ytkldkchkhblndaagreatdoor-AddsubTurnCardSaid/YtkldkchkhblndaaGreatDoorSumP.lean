/- The plain laws of sums: noughts, order, signs turned, what is exact, near numbers. No program in sight. -/
import Derived.Test.YtkldkchkhblndaaGreatDoorSumF
set_option linter.unusedSimpArgs false
set_option linter.unusedVariables false
namespace Go.Proofs.YtkldkchkhblndaaGreatDoor
open Go.RowKit Go.Hb
theorem valC_dvd (p B c : Nat) : ∃ k, valC p B c = k * 2 ^ B := by
  unfold valC
  split
  · exact ⟨c, rfl⟩
  · exact ⟨(2 ^ (p - 1) + c % 2 ^ (p - 1)) * 2 ^ (c / 2 ^ (p - 1) - 1), by rw [Nat.pow_add, Nat.mul_assoc]⟩
theorem exact_dvd (s t : Bool) (p B c d : Nat) : ∃ k, exactX s t (valC p B c) (valC p B d) = k * 2 ^ B := by
  obtain ⟨a, ha⟩ := valC_dvd p B c
  obtain ⟨b, hb⟩ := valC_dvd p B d
  rw [ha, hb]
  unfold exactX
  split
  · exact ⟨a + b, by rw [Nat.add_mul]⟩
  · exact ⟨(a - b) + (b - a), by rw [Nat.add_mul, Nat.sub_mul, Nat.sub_mul]⟩
/-- What is tiny is exact. -/
theorem tiny_exact (p B X : Nat) (hp : 1 ≤ p) (hX : ∃ k, X = k * 2 ^ B) (h : floorC p B X < 2 ^ (p - 1)) : restC p B X = 0 ∧ X = valC p B (floorC p B X) := by
  obtain ⟨k, hk⟩ := hX
  obtain ⟨c1, c2, c3⟩ := cut_bd p B X hp
  have hB : cutAt p B X = B := by
    rcases c3 with h1 | h1
    · exact h1
    · have : X / 2 ^ cutAt p B X ≤ floorC p B X := by unfold floorC; exact Nat.le_add_left _ _
      omega
  have hv := floorC_val p B X hp
  rw [hB, hk, Nat.mul_div_cancel _ (Nat.two_pow_pos B), ← hk] at hv
  have hr := rest_self p B (floorC p B X) hp
  rw [hv] at hr
  exact ⟨hr, hv.symm⟩
theorem infC_big (f : Int) (h0 : 0 ≤ f) (hf : f < 4) : 2 * 2 ^ (precS f - 1).toNat ≤ infC f := by
  have := emax_lo f h0 hf
  unfold infC
  exact Nat.mul_le_mul_right _ (by omega)
theorem code_end (f m : Int) (g : Bool) (c : Nat) (h : endC f m g c < infC f - 1) : c < infC f ∧ endC f m g c = c := by
  by_cases hc : infC f ≤ c
  · exfalso
    unfold endC at h
    rw [if_pos hc] at h
    split at h <;> omega
  · exact ⟨by omega, by unfold endC; rw [if_neg hc]⟩
theorem code0 (p B : Nat) (m : Int) (g : Bool) (X : Nat) (hp : 1 ≤ p) (hX : ∃ k, X = k * 2 ^ B) : codeX p B m g X = 0 ↔ X = 0 := by
  constructor
  · intro h
    have h1 := (codeX_le p B m g X).1
    have h2 : floorC p B X = 0 := by omega
    have h3 := (tiny_exact p B X hp hX (by rw [h2]; exact Nat.two_pow_pos _)).2
    rw [h2, valC_zero] at h3
    exact h3
  · intro h; rw [h]; exact codeX_zero p B m g
theorem flag_three (f m : Int) (aft g : Bool) (B X : Nat) (hp : 1 ≤ precS f) (hX : ∃ k, X = k * 2 ^ B) : flagX f m aft g B X = 0 ∨ flagX f m aft g B X = 16 ∨ flagX f m aft g B X = 20 := by
  unfold flagX
  split
  · exact Or.inr (Or.inr rfl)
  · by_cases ht : floorC (precS f).toNat B X < 2 ^ ((precS f).toNat - 1)
    · rw [(tiny_exact (precS f).toNat B X (by omega) hX ht).1]
      exact Or.inl rfl
    · have h1 : tinyX (precS f).toNat B m aft g X = false := by unfold tinyX; rw [decide_eq_false ht]; rfl
      rw [h1]
      cases (restC (precS f).toNat B X != 0)
      · exact Or.inl rfl
      · exact Or.inr (Or.inl rfl)
theorem flag_low (f m : Int) (aft g : Bool) (B X : Nat) (hp : 1 ≤ precS f) (hX : ∃ k, X = k * 2 ^ B) (h0 : 0 ≤ f) (hf : f < 4) (h : endC f m g (codeX (precS f).toNat B m g X) < 2 ^ (precS f - 1).toNat) : flagX f m aft g B X = 0 := by
  have hb := infC_big f h0 hf
  have hu := Nat.two_pow_pos (precS f - 1).toNat
  obtain ⟨h1, h2⟩ := code_end f m g _ (show endC f m g (codeX (precS f).toNat B m g X) < infC f - 1 by omega)
  rw [h2] at h
  have h3 := (codeX_le (precS f).toNat B m g X).1
  have hq : (precS f - 1).toNat = (precS f).toNat - 1 := by omega
  rw [hq] at h
  obtain ⟨r, _⟩ := tiny_exact (precS f).toNat B X (by omega) hX (Nat.lt_of_le_of_lt h3 h)
  unfold flagX
  rw [if_neg (by omega), r]
  rfl
theorem fin_of (f : Int) (v : Nat) : classF f v < 3 → nanB f v = false ∧ ¬ classF f v = 3 := fun h => ⟨decide_eq_false (by omega), by omega⟩
/-- A sum's code, sign and flags. -/
theorem add_parts (f m : Int) (aft : Bool) (x y : Nat) (h0 : 0 ≤ f) (hf : f < 4) (hm : m ≤ 4) (hx : classF f x < 3) (hy : classF f y < 3) :
    codeF f (addB f m x y) = endC f m (sumG f m x y) (codeX (precS f).toNat (unitB f KK) m (sumG f m x y) (sumX f x y)) ∧ sgnF f (addB f m x y) = sumG f m x y ∧ addFl f m aft x y = flagX f m aft (sumG f m x y) (unitB f KK) (sumX f x y) := by
  obtain ⟨r1, r2⟩ := add_code f m aft x y h0 hf hm hx hy
  have hc := endC_lt f m (sumG f m x y) (codeX (precS f).toNat (unitB f KK) m (sumG f m x y) (sumX f x y)) h0 hf
  rw [r1]
  exact ⟨code_of f _ _ h0 hf hc, (of_code f _ _ h0 hf hc).2.2, r2⟩
theorem sumX_dvd (f : Int) (x y : Nat) : ∃ k, sumX f x y = k * 2 ^ unitB f KK := exact_dvd _ _ _ _ _ _
theorem prec_one (f : Int) (h0 : 0 ≤ f) (hf : f < 4) : 1 ≤ precS f := by have := (prec_emax f h0 hf).1; omega
theorem endC_zero (f m : Int) (g : Bool) (c : Nat) (h0 : 0 ≤ f) (hf : f < 4) : endC f m g c = 0 ↔ c = 0 := by
  have hb := infC_big f h0 hf
  have hu := Nat.two_pow_pos (precS f - 1).toNat
  constructor
  · intro h
    have := code_end f m g c (by rw [h]; omega)
    omega
  · intro h
    unfold endC
    rw [if_neg (by omega), h]
/-- A sum is nought just if the exact sum is. -/
theorem add_zero (f m : Int) (x y : Nat) (h0 : 0 ≤ f) (hf : f < 4) (hm : m ≤ 4) (hx : classF f x < 3) (hy : classF f y < 3) : classF f (addB f m x y) = 0 ↔ sumX f x y = 0 := by
  obtain ⟨r1, r2, r3⟩ := add_parts f m false x y h0 hf hm hx hy
  have hp := prec_one f h0 hf
  rw [(class_code f _ h0 hf).1, r1, endC_zero f m _ _ h0 hf, code0 _ _ _ _ _ (by omega) (sumX_dvd f x y)]
theorem add_flags (f m : Int) (aft : Bool) (x y : Nat) (h0 : 0 ≤ f) (hf : f < 4) (hm : m ≤ 4) (hx : classF f x < 3) (hy : classF f y < 3) : addFl f m aft x y = 0 ∨ addFl f m aft x y = 16 ∨ addFl f m aft x y = 20 := by
  rw [(add_parts f m aft x y h0 hf hm hx hy).2.2]
  exact flag_three f m aft _ _ _ (prec_one f h0 hf) (sumX_dvd f x y)
/-- A nought or a subnormal sum is exact. -/
theorem add_low (f m : Int) (aft : Bool) (x y : Nat) (h0 : 0 ≤ f) (hf : f < 4) (hm : m ≤ 4) (hx : classF f x < 3) (hy : classF f y < 3) (h : classF f (addB f m x y) = 0 ∨ classF f (addB f m x y) = 1) : addFl f m aft x y = 0 := by
  obtain ⟨r1, r2, r3⟩ := add_parts f m aft x y h0 hf hm hx hy
  obtain ⟨c0, c1, _⟩ := class_code f (addB f m x y) h0 hf
  have hu := Nat.two_pow_pos (precS f - 1).toNat
  rw [r3]
  refine flag_low f m aft _ _ _ (prec_one f h0 hf) (sumX_dvd f x y) h0 hf ?_
  rw [← r1]
  rcases h with h | h
  · rw [c0.1 h]; exact hu
  · exact (c1.1 h).2
theorem turn_code (f : Int) (v : Nat) (h0 : 0 ≤ f) (hf : f < 4) : codeF f (turnF f v) = codeF f v ∧ sgnF f (turnF f v) = !(sgnF f v) ∧ classF f (turnF f v) = classF f v := by
  obtain ⟨a, b, c⟩ := turn_parts f v h0 hf
  refine ⟨?_, c, (turn_class f v h0 hf).1⟩
  unfold codeF
  rw [a, b]
theorem sub_fin (f : Int) (b : Nat) (h : classF f b < 3) : subN f b = turnF f b := by
  unfold subN
  rw [(fin_of f b h).1]
  rfl
theorem valC_eq (p B a b : Nat) : valC p B a = valC p B b ↔ a = b := ⟨valC_inj p B, fun h => by rw [h]⟩
theorem valC_zero_iff (p B a : Nat) : valC p B a = 0 ↔ a = 0 := by
  have := valC_eq p B a 0
  rw [valC_zero] at this
  exact this
theorem cut_eq (f : Int) (a b : Nat) (h0 : 0 ≤ f) (hf : f < 4) : lowN a (widthS f) = lowN b (widthS f) ↔ codeF f a = codeF f b ∧ sgnF f a = sgnF f b := by
  have ha := code_lt f a h0 hf
  have hb := code_lt f b h0 hf
  rw [cut_code f a h0 hf, cut_code f b h0 hf]
  unfold signN
  generalize 2 ^ (widthS f - 1).toNat = u at *
  cases sgnF f a <;> cases sgnF f b <;> simp <;> omega
/-- A difference is nought just of equal numbers. -/
theorem sub_zero (f m : Int) (a b : Nat) (h0 : 0 ≤ f) (hf : f < 4) (hm : m ≤ 4) (hx : classF f a < 3) (hy : classF f b < 3) :
    classF f (addB f m a (subN f b)) = 0 ↔ (lowN a (widthS f) = lowN b (widthS f) ∨ classF f a = 0 ∧ classF f b = 0) := by
  obtain ⟨t1, t2, t3⟩ := turn_code f b h0 hf
  rw [sub_fin f b hy, add_zero f m a _ h0 hf hm hx (by rw [t3]; exact hy), cut_eq f a b h0 hf, (class_code f a h0 hf).1, (class_code f b h0 hf).1]
  unfold sumX exactX
  rw [t1, t2]
  have e1 := valC_eq (precS f).toNat (unitB f KK) (codeF f a) (codeF f b)
  have e2 := valC_zero_iff (precS f).toNat (unitB f KK) (codeF f a)
  have e3 := valC_zero_iff (precS f).toNat (unitB f KK) (codeF f b)
  generalize valC (precS f).toNat (unitB f KK) (codeF f a) = A at *
  generalize valC (precS f).toNat (unitB f KK) (codeF f b) = D at *
  cases sgnF f a <;> cases sgnF f b <;> simp <;> omega
/-- A number less itself is a nought. -/
theorem sub_self (f m : Int) (aft : Bool) (a : Nat) (h0 : 0 ≤ f) (hf : f < 4) (hm : m ≤ 4) (hx : classF f a < 3) :
    classF f (addB f m a (subN f a)) = 0 ∧ sgnF f (addB f m a (subN f a)) = (m == 3) ∧ addFl f m aft a (subN f a) = 0 := by
  obtain ⟨t1, t2, t3⟩ := turn_code f a h0 hf
  have hz : classF f (addB f m a (subN f a)) = 0 := (sub_zero f m a a h0 hf hm hx hx).2 (Or.inl rfl)
  have hy : classF f (subN f a) < 3 := by rw [sub_fin f a hx, t3]; exact hx
  obtain ⟨r1, r2, r3⟩ := add_parts f m aft a (subN f a) h0 hf hm hx hy
  refine ⟨hz, ?_, add_low f m aft a _ h0 hf hm hx hy (Or.inl hz)⟩
  rw [r2]
  unfold sumG
  rw [if_pos ((add_zero f m a _ h0 hf hm hx hy).1 hz), sub_fin f a hx, t2]
  unfold nouB
  cases sgnF f a <;> rfl
/-- Sums keep the order. -/
theorem pos_parts (f : Int) (x : Nat) (h0 : 0 ≤ f) (hf : f < 4) (hx : x < 2 ^ (widthS f - 1).toNat) : codeF f x = x ∧ sgnF f x = false := by
  have h1 := code_of f x false h0 hf hx
  have h2 := (of_code f x false h0 hf hx).2.2
  have hz : signN f false = 0 := rfl
  rw [hz, Nat.add_zero] at h1 h2
  exact ⟨h1, h2⟩
theorem pos_sum (f m : Int) (x y : Nat) (hx : sgnF f x = false) (hy : sgnF f y = false) : sumG f m x y = false ∧ sumX f x y = valC (precS f).toNat (unitB f KK) (codeF f x) + valC (precS f).toNat (unitB f KK) (codeF f y) := by
  constructor
  · unfold sumG
    rw [hx, hy]
    split
    · unfold nouB; rfl
    · rfl
  · unfold sumX exactX
    rw [hx, hy, if_pos rfl]
theorem add_pos (f m : Int) (aft : Bool) (x y : Nat) (h0 : 0 ≤ f) (hf : f < 4) (hm : m ≤ 4) (hx : x < infC f) (hy : y < infC f) :
    addB f m x y = endC f m false (codeX (precS f).toNat (unitB f KK) m false (valC (precS f).toNat (unitB f KK) x + valC (precS f).toNat (unitB f KK) y)) ∧ addFl f m aft x y = flagX f m aft false (unitB f KK) (valC (precS f).toNat (unitB f KK) x + valC (precS f).toNat (unitB f KK) y) := by
  have hI := infC_lt f h0 hf
  have hu := Nat.two_pow_pos (precS f - 1).toNat
  obtain ⟨a1, a2⟩ := pos_parts f x h0 hf (by omega)
  obtain ⟨b1, b2⟩ := pos_parts f y h0 hf (by omega)
  obtain ⟨g, e⟩ := pos_sum f m x y a2 b2
  obtain ⟨r1, r2⟩ := add_code f m aft x y h0 hf hm ((class_fin f x h0 hf).2 (by rw [a1]; exact hx)) ((class_fin f y h0 hf).2 (by rw [b1]; exact hy))
  rw [r1, r2, g, e, a1, b1]
  exact ⟨rfl, rfl⟩
theorem add_mono (f m : Int) (x y z : Nat) (h0 : 0 ≤ f) (hf : f < 4) (hm : m ≤ 4) (hx : x ≤ y) (hy : y < infC f) (hz : z < infC f) : addB f m x z ≤ addB f m y z := by
  have hp := prec_one f h0 hf
  rw [(add_pos f m false x z h0 hf hm (by omega) hz).1, (add_pos f m false y z h0 hf hm hy hz).1]
  exact endC_mono f m false (codeX_mono _ _ m false (by omega) (Nat.add_le_add_right (valC_le _ _ hx) _))
end Go.Proofs.YtkldkchkhblndaaGreatDoor
