/- Plain lemmas on codes that integers need: no walk in sight. -/
import Derived.Test.YtkpjeceofcfnkaaGreatDoorWholes
import Derived.Test.YtkpjeceofcfnkaaGreatDoorPack6
set_option linter.unusedSimpArgs false
set_option linter.unusedVariables false
namespace Go.Proofs.YtkpjeceofcfnkaaGreatDoor
open Go.RowKit Go.Hb
theorem small_code (p B n t : Nat) (hp : 1 ≤ p) (hn : n < 2 ^ p) (ht : p + B ≤ t) : ∃ c, valC p B c = n * 2 ^ t := by
  by_cases hz : n = 0
  · exact ⟨0, by rw [valC_zero, hz, Nat.zero_mul]⟩
  · have h1 := blen_le n hz
    have h2 := blen_lt n
    have hb : blen n - 1 < p := (Nat.pow_lt_pow_iff_right (by decide)).1 (Nat.lt_of_le_of_lt h1 hn)
    have hpos : 1 ≤ blen n := by
      rcases Nat.eq_zero_or_pos (blen n) with h | h
      · rw [h] at h2; omega
      · exact h
    have hk : blen n + (p - blen n) = p := by omega
    refine ⟨(t - (p - blen n) - B) * 2 ^ (p - 1) + n * 2 ^ (p - blen n), ?_⟩
    rw [valC_mk p B (t - (p - blen n)) (n * 2 ^ (p - blen n)) (by omega) ?_ (Or.inr ?_), Nat.mul_assoc, ← Nat.pow_add, show p - blen n + (t - (p - blen n)) = t by omega]
    · have := Nat.mul_le_mul_right (2 ^ (p - blen n)) (Nat.le_of_lt h2)
      rw [← Nat.pow_add, hk] at this
      rw [← Nat.pow_succ', show (p - 1).succ = p by omega]
      exact this
    · have := Nat.mul_le_mul_right (2 ^ (p - blen n)) h1
      rw [← Nat.pow_add, show blen n - 1 + (p - blen n) = p - 1 by omega] at this
      exact this
theorem valC_inj (p B : Nat) {a b : Nat} (h : valC p B a = valC p B b) : a = b := by
  rcases Nat.lt_trichotomy a b with h1 | h1 | h1
  · have := valC_lt p B h1; omega
  · exact h1
  · have := valC_lt p B h1; omega
theorem prec_emax (f : Int) (h0 : 0 ≤ f) (hf : f < 4) : 11 ≤ precS f ∧ precS f < emaxS f + 2 ∧ precS f ≤ 113 := by
  unfold precS emaxS
  repeat' split
  all_goals omega
theorem val_inf (f : Int) (h0 : 0 ≤ f) (hf : f < 4) : valC (precS f).toNat (unitB f KK) (infC f) = 2 ^ (emaxS f + 1).toNat * 2 ^ (255 + KK).toNat := by
  obtain ⟨p0, p1, p2⟩ := prec_emax f h0 hf
  obtain ⟨e0, e1⟩ := emaxS_bd f
  have hk : KK = 2199023255552 := rfl
  have he : (precS f - 1).toNat + ((2 * emaxS f + 1).toNat - 1 + unitB f KK) = (emaxS f + 1).toNat + (255 + KK).toNat := by
    unfold unitB leastS; omega
  clear hk
  have hpp : (precS f - 1).toNat = (precS f).toNat - 1 := by omega
  have hu := Nat.two_pow_pos (precS f - 1).toNat
  have hI : infC f = (2 * emaxS f + 1).toNat * 2 ^ (precS f - 1).toNat := rfl
  have hle : ¬ infC f < 2 ^ ((precS f).toNat - 1) := by
    rw [hI, ← hpp]
    have := Nat.le_mul_of_pos_left (2 ^ (precS f - 1).toNat) (show 0 < (2 * emaxS f + 1).toNat by omega)
    omega
  generalize unitB f KK = B at *
  generalize (255 + KK).toNat = S at *
  unfold valC
  rw [if_neg hle, ← hpp, hI, Nat.mul_mod_left, Nat.mul_div_cancel _ hu, Nat.add_zero, ← Nat.pow_add, ← Nat.pow_add, he]
theorem valC_inf (f : Int) (h0 : 0 ≤ f) (hf : f < 4) : 2 ^ (precS f - 1).toNat * 2 ^ (255 + KK).toNat < valC (precS f).toNat (unitB f KK) (infC f) := by
  obtain ⟨p0, p1, p2⟩ := prec_emax f h0 hf
  have hv := val_inf f h0 hf
  have hS := Nat.two_pow_pos (255 + KK).toNat
  rw [hv]
  generalize (255 + KK).toNat = S at *
  exact Nat.mul_lt_mul_of_pos_right (Nat.pow_lt_pow_right (by decide) (by omega)) hS
theorem lt_inf (p B I u S n c : Nat) (h2 : u * 2 ^ S < valC p B I) (hn : n ≤ u) (hc : valC p B c = n * 2 ^ S) : c < I := by
  rcases Nat.lt_or_ge c I with h | h
  · exact h
  · have h1 := valC_le p B h
    have h3 := Nat.mul_le_mul_right (2 ^ S) hn
    omega
theorem numX_255 (v : Nat) : numX KK 255 v = v * 2 ^ (255 + KK).toNat := by
  have h : farS 255 = 255 := by decide
  unfold numX
  rw [h]
theorem rep (p B : Nat) : ∀ (n k : Nat), k < 2 * 2 ^ (p - 1) → ∃ e, valC p B e = k * 2 ^ (B + n)
  | 0, k, h => ⟨k, by
      have := valC_mk p B B k (Nat.le_refl _) (Nat.le_of_lt h) (Or.inl rfl)
      rw [Nat.sub_self, Nat.zero_mul, Nat.zero_add] at this
      exact this⟩
  | n + 1, k, h => by
    by_cases hu : 2 ^ (p - 1) ≤ k
    · exact ⟨_, valC_mk p B (B + (n + 1)) k (by omega) (by omega) (Or.inr hu)⟩
    · obtain ⟨e, he⟩ := rep p B n (2 * k) (by omega)
      exact ⟨e, by rw [he, ← Nat.add_assoc, Nat.pow_succ, Nat.mul_comm 2 k, Nat.mul_assoc, Nat.mul_comm 2]⟩
theorem unS_cases (f : Int) (v : Nat) (h0 : 0 ≤ f) (hfin : classF f v < 3) : unS f v = 0 ∨ 2 ^ 127 ≤ unS f v := by
  have hbd := classF_bd f v
  by_cases hz : classF f v = 0
  · left; unfold unS; rw [if_neg (by omega), if_neg (by omega)]
  · right
    have h3 : classF f v = 1 ∨ classF f v = 2 := by omega
    unfold unS
    rcases h3 with h | h
    · rw [if_neg (by omega), if_pos h]
      have hf := (class_parts f v h0).1 h
      have hv : fracF f v < 2 ^ 128 := Nat.lt_trans (fracF_lt f v h0) (by decide)
      have h1 : by128 (fracF f v) = 128 - (blen (fracF f v) : Int) := by unfold by128; rw [if_neg hf.2.2]
      have hb := by128_bd (fracF f v) hv
      have h2 := blen_le (fracF f v) hf.2.2
      have hpos : 1 ≤ blen (fracF f v) := by
        have h3 := blen_lt (fracF f v)
        rcases Nat.eq_zero_or_pos (blen (fracF f v)) with h | h
        · rw [h] at h3; have := hf.2.2; omega
        · exact h
      unfold raise128
      have := Nat.mul_le_mul_right (2 ^ (by128 (fracF f v)).toNat) h2
      rw [← Nat.pow_add, show blen (fracF f v) - 1 + (by128 (fracF f v)).toNat = 127 by omega] at this
      exact this
    · rw [if_pos h]
      unfold nrm
      have : cat 9223372036854775808 0 = 2 ^ 127 := by decide
      rw [this]; exact Nat.le_add_left _ _
end Go.Proofs.YtkpjeceofcfnkaaGreatDoor
