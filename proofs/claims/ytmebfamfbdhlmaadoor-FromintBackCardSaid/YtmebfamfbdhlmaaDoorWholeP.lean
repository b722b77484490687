/- The plain law of integers: a whole number of a format makes its integer, by any mode; what rint makes is whole. -/
import Derived.Test.YtmebfamfbdhlmaaDoorLaw26v
import Derived.Test.YtmebfamfbdhlmaaDoorRintP
set_option linter.unusedSimpArgs false
set_option linter.unusedVariables false
namespace Go.Proofs.YtmebfamfbdhlmaaDoor
open Go.RowKit Go.Hb
theorem rnd_mul (n s : Nat) (m : Int) (neg : Bool) : rndN s m neg (n * 2 ^ s) = n := by
  have hr : restN (n * 2 ^ s) s = 0 := by rw [restN_G, Nat.mul_mod_left]; rfl
  unfold rndN
  rw [hr, next_zero, Nat.mul_div_cancel _ (Nat.two_pow_pos _)]
  simp
theorem rest_mul (n s : Nat) : restN (n * 2 ^ s) s = 0 := by rw [restN_G, Nat.mul_mod_left]; rfl
theorem raise_ge (v : Nat) (hz : v ≠ 0) (hv : v < 2 ^ 128) : 2 ^ 127 ≤ raise128 v := by
  have hb := by128_bd v hv
  have h1 : by128 v = 128 - (blen v : Int) := by unfold by128; rw [if_neg hz]
  have h2 := blen_le v hz
  have hpos : 1 ≤ blen v := by
    have h3 := blen_lt v
    rcases Nat.eq_zero_or_pos (blen v) with h | h
    · rw [h] at h3; omega
    · exact h
  unfold raise128
  have := Nat.mul_le_mul_right (2 ^ (by128 v).toNat) h2
  rw [← Nat.pow_add, show blen v - 1 + (by128 v).toNat = 127 by omega] at this
  exact this
theorem unS_ge (f : Int) (v : Nat) (h0 : 0 ≤ f) (h : classF f v = 1 ∨ classF f v = 2) : 2 ^ 127 ≤ unS f v := by
  unfold unS
  rcases h with h | h
  · rw [if_neg (by omega), if_pos h]
    exact raise_ge _ ((class_parts f v h0).1 h).2.2 (Nat.lt_trans (fracF_lt f v h0) (by decide))
  · rw [if_pos h]
    unfold nrm
    have : cat 9223372036854775808 0 = 2 ^ 127 := by decide
    rw [this]; exact Nat.le_add_left _ _
theorem numX_ge (K e : Int) (k S u : Nat) (hu : 2 ^ 127 ≤ u) (hS : k + S ≤ 127 + 128 + (farS e + K).toNat) : 2 ^ k * 2 ^ S ≤ numX K e (up128 u) := by
  unfold numX up128
  generalize (farS e + K).toNat = n at *
  have e1 : 2 ^ k * 2 ^ S ≤ 2 ^ 127 * 2 ^ 128 * 2 ^ n := by
    rw [← Nat.pow_add, ← Nat.pow_add, ← Nat.pow_add]
    exact Nat.pow_le_pow_right (by decide) hS
  exact Nat.le_trans e1 (Nat.mul_le_mul_right _ (Nat.mul_le_mul_right _ hu))
theorem numX_mul (K e : Int) (q d S : Nat) (h : S ≤ d + 128 + (farS e + K).toNat) : numX K e (up128 (q * 2 ^ d)) = q * 2 ^ (d + 128 + (farS e + K).toNat - S) * 2 ^ S := by
  unfold numX up128
  generalize (farS e + K).toNat = n at *
  have h1 : q * 2 ^ d * 2 ^ 128 * 2 ^ n = q * (2 ^ d * 2 ^ 128 * 2 ^ n) := by rw [Nat.mul_assoc, Nat.mul_assoc, Nat.mul_assoc]
  have h2 : q * 2 ^ (d + 128 + n - S) * 2 ^ S = q * (2 ^ (d + 128 + n - S) * 2 ^ S) := Nat.mul_assoc _ _ _
  rw [h1, h2, ← Nat.pow_add, ← Nat.pow_add, ← Nat.pow_add, Nat.sub_add_cancel h]
theorem unE_val (f : Int) (v : Nat) (k : Nat) (h0 : 0 ≤ f) (hf : f < 4) (hfin : classF f v < 3) (hk : k < 1000) (h : valC (precS f).toNat (unitB f KK) (codeF f v) < 2 ^ k * 2 ^ (255 + KK).toNat) : unE f v < k ∨ classF f v = 0 := by
  have hbd := classF_bd f v
  have hKK : KK = 2199023255552 := rfl
  by_cases hz : classF f v = 0
  · exact Or.inr hz
  left
  have hge := unS_ge f v h0 (by omega)
  rw [← un_val f v h0 hf hfin] at h
  rcases Int.lt_or_le (unE f v) k with hlt | hle
  · exact hlt
  exfalso
  have hfar : (k : Int) ≤ farS (unE f v) := by unfold farS; omega
  have h1 : 2 ^ k * 2 ^ (255 + KK).toNat ≤ numX KK (unE f v) (up128 (unS f v)) := numX_ge _ _ _ _ _ hge (by omega)
  exact absurd h (Nat.not_lt.2 h1)
/-- A whole number's integer, by any mode. -/
theorem num_of (f m : Int) (v n : Nat) (h0 : 0 ≤ f) (hf : f < 4) (hfin : classF f v < 3) (hn : n < 2 ^ 64) (h : valC (precS f).toNat (unitB f KK) (codeF f v) = n * 2 ^ (255 + KK).toNat) :
    numI f m v = n ∧ okW (classF f v) (unE f v) = true ∧ whO (classF f v) (unE f v) (unS f v) = false := by
  have hlo := unE_low f v h0
  have he : unE f v ≤ 64 := by
    rcases unE_val f v 64 h0 hf hfin (by decide) (by rw [h]; exact Nat.mul_lt_mul_of_pos_right hn (Nat.two_pow_pos _)) with h1 | h1
    · omega
    · unfold unE; rw [if_neg (by omega), if_neg (by omega)]; decide
  have hok : okW (classF f v) (unE f v) = true := (okW_iff _ _).2 (by omega)
  refine ⟨?_, hok, ?_⟩
  · rw [num_rnd f m v h0 hf hfin he hlo, h, rnd_mul]
  · unfold whO
    rw [hok, Bool.true_and, whI_rnd _ _ (unS_lt f v h0) hlo (by omega), un_val f v h0 hf hfin, h, rest_mul]
    rfl
theorem int_of (f k m : Int) (v n : Nat) (h0 : 0 ≤ f) (hf : f < 4) (hk : k < 4) (hm : m ≤ 4) (hfin : classF f v < 3) (hn : (n : Int) ≤ mostX k (sgnF f v)) (h : valC (precS f).toNat (unitB f KK) (codeF f v) = n * 2 ^ (255 + KK).toNat) :
    intF f k m v = 0 ∧ intV f k m v = (if sgnF f v then (if (n : Int) = 0 then 0 else 18446744073709551616 - (n : Int)) else (n : Int)) := by
  have hmx : mostX k (sgnF f v) ≤ 18446744073709551615 := by unfold mostX leastK mostK; repeat' split <;> omega
  obtain ⟨e1, e2, e3⟩ := num_of f m v n h0 hf hfin (by omega) h
  have hb : bigI f k m v = false := by unfold bigI; rw [e2, e1, decide_eq_false (by omega)]; rfl
  have hs : sizI f k m v = (n : Int) := by unfold sizI; rw [hb, e1]; rfl
  constructor
  · unfold intF
    rw [if_pos ⟨hf, hk, hm⟩, if_neg (by omega), hb, e3]; rfl
  · unfold intV
    rw [if_pos ⟨hf, hk, hm, by omega⟩, hs]
theorem keep_mul (f : Int) (v : Nat) (h0 : 0 ≤ f) (hf : f < 4) (hfin : classF f v < 3) (hk : keepB f v = true) : ∃ n, valC (precS f).toNat (unitB f KK) (codeF f v) = n * 2 ^ (255 + KK).toNat := by
  obtain ⟨p0, p1, p2⟩ := prec_emax f h0 hf
  have hKK : KK = 2199023255552 := rfl
  have hbd := classF_bd f v
  by_cases hz : classF f v = 0
  · have hc := (class_code f v h0 hf).1.1 hz
    exact ⟨0, by rw [hc, valC_zero, Nat.zero_mul]⟩
  unfold keepB at hk
  rw [Bool.or_eq_true, Bool.or_eq_true, decide_eq_true_eq, beq_iff_eq, beq_iff_eq] at hk
  have he : precS f - 1 ≤ unE f v := by omega
  have hu : ∃ q, unS f v = q * 2 ^ (128 - precS f).toNat := by
    have h3 : classF f v = 1 ∨ classF f v = 2 := by omega
    unfold unS
    rcases h3 with h | h
    · rw [if_neg (by omega), if_pos h]
      have hs := sub_by f v h0 hf ((class_parts f v h0).1 h).2.2
      unfold raise128
      refine ⟨fracF f v * 2 ^ ((by128 (fracF f v)).toNat - (128 - precS f).toNat), ?_⟩
      rw [Nat.mul_assoc, ← Nat.pow_add, Nat.sub_add_cancel (by omega)]
    · rw [if_pos h]
      have : cat 9223372036854775808 0 = 2 ^ 127 := by decide
      unfold nrm lsh
      rw [this]
      refine ⟨fracF f v + 2 ^ (precS f - 1).toNat, ?_⟩
      rw [Nat.add_mul, ← Nat.pow_add, show (precS f - 1).toNat + (128 - precS f).toNat = 127 by omega]
  obtain ⟨q, hq⟩ := hu
  have hfar : precS f - 1 ≤ farS (unE f v) := by unfold farS; omega
  exact ⟨_, by rw [← un_val f v h0 hf hfin, hq]; exact numX_mul _ _ _ _ _ (by omega)⟩
/-- What rint makes: a finite number, of the same sign, whose value is the whole number. -/
theorem rint_val (f m : Int) (v : Nat) (h0 : 0 ≤ f) (hf : f < 4) (hm : m ≤ 4) (hfin : classF f v < 3) :
    ∃ n, classF f (rintB f m v) < 3 ∧ sgnF f (rintB f m v) = sgnF f v ∧ valC (precS f).toNat (unitB f KK) (codeF f (rintB f m v)) = n * 2 ^ (255 + KK).toNat ∧ (unE f v ≤ 64 → n = numI f m v) ∧ (keepB f v = false → n = whN (unE f v) m (sgnF f v) (unS f v)) := by
  have hn : nanB f v = false := decide_eq_false (by omega)
  have hI := infC_lt f h0 hf
  have hu := Nat.two_pow_pos (precS f - 1).toNat
  cases hk : keepB f v
  · have hb : rintB f m v = exB f (sgnF f v) 255 (whN (unE f v) m (sgnF f v) (unS f v)) := by
      unfold rintB; rw [if_pos ⟨hf, hm⟩, hn, hk]; rfl
    obtain ⟨c, l1, v1, b1, o1⟩ := exact_res f (sgnF f v) _ h0 hf (wh_small f m v h0 hf hk)
    have hlt : c < 2 ^ (widthS f - 1).toNat := by omega
    rw [hb, b1]
    have hc := code_of f c (sgnF f v) h0 hf hlt
    have hs := (of_code f c (sgnF f v) h0 hf hlt).2.2
    refine ⟨_, (class_fin f _ h0 hf).2 (by rw [hc]; exact l1), hs, by rw [hc]; exact v1, fun he => ?_, fun _ => rfl⟩
    unfold numI whV
    rw [if_pos ((okW_iff _ _).2 (by omega))]
  · have hb : rintB f m v = lowN v (widthS f) := by unfold rintB; rw [if_pos ⟨hf, hm⟩, hn, hk]; rfl
    have hlt := code_lt f v h0 hf
    have hc : codeF f (lowN v (widthS f)) = codeF f v := by rw [cut_code f v h0 hf]; exact code_of f _ _ h0 hf hlt
    have hs : sgnF f (lowN v (widthS f)) = sgnF f v := by rw [cut_code f v h0 hf]; exact (of_code f _ _ h0 hf hlt).2.2
    obtain ⟨n, hv⟩ := keep_mul f v h0 hf hfin hk
    rw [hb]
    refine ⟨n, (class_fin f _ h0 hf).2 (by rw [hc]; exact (class_fin f v h0 hf).1 hfin), hs, by rw [hc]; exact hv, fun he => ?_, fun h => by cases h⟩
    rw [num_rnd f m v h0 hf hfin he (unE_low f v h0), hv, rnd_mul]
/-- The stage's theorem: the integer that is made of the number made whole. -/
theorem toint_rint (f k m : Int) (v : Nat) (h0 : 0 ≤ f) (hf : f < 4) (hk : k < 4) (hm : m ≤ 4) (hi : intF f k m v ≠ 1) :
    intF f k m v = rintFl f m true v ∧ ∀ m', m' ≤ 4 → intV f k m' (rintB f m v) = intV f k m v ∧ intF f k m' (rintB f m v) = 0 := by
  have e0 : intF f k m v = (if 4 ≤ classF f v then 1 else if bigI f k m v then 1 else if whO (classF f v) (unE f v) (unS f v) then 16 else 0) := by unfold intF; rw [if_pos ⟨hf, hk, hm⟩]
  have hc4 : ¬ 4 ≤ classF f v := fun h => hi (by rw [e0, if_pos h])
  rw [if_neg hc4] at e0
  cases hb : bigI f k m v
  case true => exact absurd (by rw [e0, hb]; rfl) hi
  rw [hb] at e0
  have hb' := hb
  unfold bigI at hb'
  rw [Bool.or_eq_false_iff, decide_eq_false_iff_not, Bool.not_eq_false'] at hb'
  obtain ⟨k1, k2⟩ := hb'
  have hk1 := (okW_iff _ _).1 k1
  have hfin : classF f v < 3 := by omega
  have he : unE f v ≤ 64 := by omega
  have hlo := unE_low f v h0
  have hn : nanB f v = false := decide_eq_false hc4
  obtain ⟨n, r1, r2, r3, r4, r5⟩ := rint_val f m v h0 hf hm hfin
  have hnn := r4 he
  constructor
  · rw [e0, if_neg (show ¬ (false = true) by decide)]
    unfold rintFl
    rw [if_pos (show f < 4 ∧ m ≤ 4 from ⟨hf, hm⟩), hn]
    have ho : whO (classF f v) (unE f v) (unS f v) = whI (unE f v) (unS f v) := by unfold whO; rw [k1, Bool.true_and]
    rw [ho, Bool.and_true]
    cases hkp : keepB f v
    · rfl
    · obtain ⟨q, hq⟩ := keep_mul f v h0 hf hfin hkp
      have hw : whI (unE f v) (unS f v) = false := by
        rw [whI_rnd _ _ (unS_lt f v h0) hlo (by omega), un_val f v h0 hf hfin, hq, rest_mul]; rfl
      rw [hw]; rfl
  · intro m' hm'
    have hle : (n : Int) ≤ mostX k (sgnF f (rintB f m v)) := by rw [r2, hnn]; omega
    obtain ⟨i1, i2⟩ := int_of f k m' (rintB f m v) n h0 hf hk hm' r1 hle r3
    refine ⟨?_, i1⟩
    have hs : sizI f k m v = (n : Int) := by unfold sizI; rw [hb, hnn]; rfl
    have e5 : intV f k m v = (if sgnF f v then (if (n : Int) = 0 then 0 else 18446744073709551616 - (n : Int)) else (n : Int)) := by
      unfold intV
      rw [if_pos (show f < 4 ∧ k < 4 ∧ m ≤ 4 ∧ classF f v < 4 from ⟨hf, hk, hm, by omega⟩), hs]
    rw [i2, r2, e5]
end Go.Proofs.YtmebfamfbdhlmaaDoor
