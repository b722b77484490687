/- Encodings as codes with a sign: fields, classes, numbers. No condition. -/
import Derived.Test.YtkpjeceofcfnkaaGreatDoorCodes
import Derived.Test.YtkpjeceofcfnkaaGreatDoorUnpack
set_option linter.unusedSimpArgs false
set_option linter.unusedVariables false
namespace Go.Proofs.YtkpjeceofcfnkaaGreatDoor
open Go.RowKit Go.Hb
theorem emax_lo (f : Int) (h0 : 0 ≤ f) (hf : f < 4) : 15 ≤ emaxS f := by
  unfold emaxS; repeat' split <;> omega
theorem class_parts (f : Int) (v : Nat) (h0 : 0 ≤ f) :
    (classF f v = 1 → f < 4 ∧ expF f v = 0 ∧ fracF f v ≠ 0) ∧ (classF f v = 2 → f < 4 ∧ expF f v ≠ 0 ∧ ((expF f v : Nat) : Int) ≤ 2 * emaxS f) := by
  unfold classF
  constructor
  · intro h
    repeat' split at h
    all_goals first | omega | (exact ⟨by omega, by assumption, by assumption⟩)
  · intro h
    repeat' split at h
    all_goals first | omega | (exact ⟨by omega, by assumption, by omega⟩)
theorem frac_lt_p (f : Int) (v : Nat) (h0 : 0 ≤ f) (hf : f < 4) : fracF f v < 2 ^ (precS f - 1).toNat := by
  unfold fracF; rw [if_neg (by omega)]; exact Nat.mod_lt _ (Nat.two_pow_pos _)
theorem sub_by (f : Int) (v : Nat) (h0 : 0 ≤ f) (hf : f < 4) (hz : fracF f v ≠ 0) : 129 - precS f ≤ by128 (fracF f v) := by
  have h1 := frac_lt_p f v h0 hf
  have h2 := blen_le (fracF f v) hz
  obtain ⟨b1, b2, b3, b4, b5, b6⟩ := fmt_bd f h0 hf
  have h3 : blen (fracF f v) - 1 < (precS f - 1).toNat := (Nat.pow_lt_pow_iff_right (by decide)).1 (Nat.lt_of_le_of_lt h2 h1)
  unfold by128
  rw [if_neg hz]
  omega
/-- An encoding without its sign. -/
def codeF (f : Int) (v : Nat) : Nat := expF f v * 2 ^ (precS f - 1).toNat + fracF f v
theorem mod_two_pow (v a b : Nat) : v % (a * b * 2) = v / a % b * a + v % a + (if v / (a * b) % 2 = 1 then a * b else 0) := by
  rw [Nat.mod_mul, Nat.mod_mul]
  have h : v / (a * b) % 2 = 0 ∨ v / (a * b) % 2 = 1 := by omega
  rcases h with h | h
  · rw [h, if_neg (by decide), Nat.mul_zero, Nat.mul_comm a]; omega
  · rw [h, if_pos rfl, Nat.mul_one, Nat.mul_comm a (v / a % b)]; omega
theorem bit_div (v k : Nat) : v.testBit k = decide (v / 2 ^ k % 2 = 1) := by
  rw [Nat.testBit_eq_decide_div_mod_eq]
theorem width_split (f : Int) (h0 : 0 ≤ f) (hf : f < 4) : 2 ^ (widthS f - 1).toNat = 2 ^ (precS f - 1).toNat * 2 ^ (widthS f - precS f).toNat ∧ 2 ^ (widthS f).toNat = 2 ^ (precS f - 1).toNat * 2 ^ (widthS f - precS f).toNat * 2 := by
  obtain ⟨b1, b2, b3, b4, b5, b6⟩ := fmt_bd f h0 hf
  rw [← Nat.pow_add, ← Nat.pow_succ]
  constructor <;> congr 1 <;> omega
theorem cut_code (f : Int) (v : Nat) (h0 : 0 ≤ f) (hf : f < 4) : lowN v (widthS f) = codeF f v + signN f (sgnF f v) := by
  obtain ⟨w1, w2⟩ := width_split f h0 hf
  have hsg : sgnF f v = v.testBit (widthS f - 1).toNat := by unfold sgnF; rw [if_neg (by omega)]
  rw [hsg, bit_div]
  unfold lowN codeF expF fracF signN
  rw [if_neg (by omega), if_neg (by omega), w2, mod_two_pow, w1]
  by_cases h : v / (2 ^ (precS f - 1).toNat * 2 ^ (widthS f - precS f).toNat) % 2 = 1
  · rw [if_pos h, if_pos (by simpa using h)]
  · rw [if_neg h, if_neg (by simpa using h)]
theorem code_lt (f : Int) (v : Nat) (h0 : 0 ≤ f) (hf : f < 4) : codeF f v < 2 ^ (widthS f - 1).toNat := by
  obtain ⟨w1, w2⟩ := width_split f h0 hf
  rw [w1]
  unfold codeF expF fracF
  rw [if_neg (by omega), if_neg (by omega)]
  have h1 := Nat.mod_lt (v / 2 ^ (precS f - 1).toNat) (Nat.two_pow_pos (widthS f - precS f).toNat)
  have h2 := Nat.mod_lt v (Nat.two_pow_pos (precS f - 1).toNat)
  have h3 := Nat.mul_le_mul_right (2 ^ (precS f - 1).toNat) (show v / 2 ^ (precS f - 1).toNat % 2 ^ (widthS f - precS f).toNat + 1 ≤ 2 ^ (widthS f - precS f).toNat by omega)
  rw [Nat.succ_mul] at h3
  rw [Nat.mul_comm (2 ^ (precS f - 1).toNat) (2 ^ (widthS f - precS f).toNat)]
  omega
/-- The fields of a code with a sign. -/
theorem of_code (f : Int) (c : Nat) (neg : Bool) (h0 : 0 ≤ f) (hf : f < 4) (hc : c < 2 ^ (widthS f - 1).toNat) :
    expF f (c + signN f neg) = c / 2 ^ (precS f - 1).toNat ∧ fracF f (c + signN f neg) = c % 2 ^ (precS f - 1).toNat ∧ sgnF f (c + signN f neg) = neg := by
  obtain ⟨w1, w2⟩ := width_split f h0 hf
  have hs : signN f neg = (if neg then 1 else 0) * (2 ^ (precS f - 1).toNat * 2 ^ (widthS f - precS f).toNat) := by
    unfold signN; rw [w1]; cases neg <;> simp
  have hp := Nat.two_pow_pos (precS f - 1).toNat
  have hq := Nat.two_pow_pos (widthS f - precS f).toNat
  unfold expF fracF sgnF
  rw [if_neg (by omega), if_neg (by omega), if_neg (by omega), bit_div, w1, hs]
  rw [w1] at hc
  generalize 2 ^ (precS f - 1).toNat = a at *
  generalize 2 ^ (widthS f - precS f).toNat = b at *
  refine ⟨?_, ?_, ?_⟩
  · rw [show (if neg = true then 1 else 0) * (a * b) = a * ((if neg = true then 1 else 0) * b) by rw [Nat.mul_left_comm], Nat.add_mul_div_left _ _ hp, Nat.add_mul_mod_self_right]
    exact Nat.mod_eq_of_lt ((Nat.div_lt_iff_lt_mul hp).2 (by rw [Nat.mul_comm]; exact hc))
  · rw [show (if neg = true then 1 else 0) * (a * b) = a * ((if neg = true then 1 else 0) * b) by rw [Nat.mul_left_comm], Nat.add_mul_mod_self_left]
  · rw [Nat.add_mul_div_right _ _ (Nat.mul_pos hp hq), Nat.div_eq_of_lt hc]
    cases neg <;> rfl
theorem code_of (f : Int) (c : Nat) (neg : Bool) (h0 : 0 ≤ f) (hf : f < 4) (hc : c < 2 ^ (widthS f - 1).toNat) : codeF f (c + signN f neg) = c := by
  obtain ⟨e1, e2, e3⟩ := of_code f c neg h0 hf hc
  unfold codeF
  rw [e1, e2, Nat.mul_comm]
  exact Nat.div_add_mod c _
theorem infC_lt (f : Int) (h0 : 0 ≤ f) (hf : f < 4) : infC f + 2 ^ (precS f - 1).toNat = 2 ^ (widthS f - 1).toNat := by
  obtain ⟨w1, w2⟩ := width_split f h0 hf
  obtain ⟨x1, x2⟩ := fmt_ex f h0 hf
  unfold infC
  rw [w1, x1, ← Nat.succ_mul, Nat.mul_comm]
  congr 1
  omega
/-- The class of an encoding, by its code. -/
theorem class_code (f : Int) (v : Nat) (h0 : 0 ≤ f) (hf : f < 4) :
    (classF f v = 0 ↔ codeF f v = 0) ∧ (classF f v = 1 ↔ 0 < codeF f v ∧ codeF f v < 2 ^ (precS f - 1).toNat) ∧ (classF f v = 2 ↔ 2 ^ (precS f - 1).toNat ≤ codeF f v ∧ codeF f v < infC f) ∧
    (classF f v = 3 ↔ codeF f v = infC f) ∧ (4 ≤ classF f v ↔ infC f < codeF f v) := by
  obtain ⟨x1, x2⟩ := fmt_ex f h0 hf
  have hfl : fracF f v < 2 ^ (precS f - 1).toNat := by unfold fracF; rw [if_neg (by omega)]; exact Nat.mod_lt _ (Nat.two_pow_pos _)
  have hu := Nat.two_pow_pos (precS f - 1).toNat
  have hcl := classF_bd f v
  unfold codeF infC
  have hE : expF f v = 0 ∨ (0 < expF f v ∧ expF f v < (2 * emaxS f + 1).toNat) ∨ expF f v = (2 * emaxS f + 1).toNat ∨ (2 * emaxS f + 1).toNat < expF f v := by omega
  have hEl : expF f v < (2 * emaxS f + 2).toNat := by
    rw [← x1]; unfold expF; rw [if_neg (by omega)]; exact Nat.mod_lt _ (Nat.two_pow_pos _)
  unfold classF
  rw [if_neg (by omega)]
  generalize 2 ^ (precS f - 1).toNat = u at *
  generalize hex : expF f v = E at *
  generalize fracF f v = F at *
  rcases hE with h | ⟨ha, hb⟩ | h | h
  · subst h
    rw [if_pos rfl, Nat.zero_mul]
    have hI : u ≤ (2 * emaxS f + 1).toNat * u := Nat.le_mul_of_pos_left _ (by omega)
    by_cases hF : F = 0
    · rw [if_pos hF]; omega
    · rw [if_neg hF]; omega
  · rw [if_neg (by omega), if_pos (by omega)]
    have h1 := Nat.mul_le_mul_right u (show 1 ≤ E from ha)
    have h2 := Nat.mul_le_mul_right u (show E + 1 ≤ (2 * emaxS f + 1).toNat from hb)
    rw [Nat.succ_mul] at h2
    omega
  · rw [if_neg (by omega), if_neg (by omega), h]
    have hI : u ≤ (2 * emaxS f + 1).toNat * u := Nat.le_mul_of_pos_left _ (by omega)
    by_cases hF : F = 0
    · rw [if_pos hF]; omega
    · rw [if_neg hF]
      split <;> omega
  · omega
theorem class_fin (f : Int) (v : Nat) (h0 : 0 ≤ f) (hf : f < 4) : classF f v < 3 ↔ codeF f v < infC f := by
  obtain ⟨c0, c1, c2, c3, c4⟩ := class_code f v h0 hf
  have hcl := classF_bd f v
  have hI := infC_pos f
  have hI2 : 2 ^ (precS f - 1).toNat ≤ infC f := by
    obtain ⟨x1, x2⟩ := fmt_ex f h0 hf
    unfold infC; exact Nat.le_mul_of_pos_left _ (by omega)
  omega
/-- The number of a finite encoding. -/
theorem un_val (f : Int) (v : Nat) (h0 : 0 ≤ f) (hf : f < 4) (hfin : classF f v < 3) : numX KK (unE f v) (up128 (unS f v)) = valC (precS f).toNat (unitB f KK) (codeF f v) := by
  obtain ⟨b1, b2, b3, b4, b5, b6⟩ := fmt_bd f h0 hf
  obtain ⟨e0, e1⟩ := emaxS_bd f
  obtain ⟨c0, c1, c2, c3, c4⟩ := class_code f v h0 hf
  have hcl := classF_bd f v
  have hel := expF_lt f v h0
  have hfl : fracF f v < 2 ^ (precS f - 1).toNat := by unfold fracF; rw [if_neg (by omega)]; exact Nat.mod_lt _ (Nat.two_pow_pos _)
  have hpp : (precS f - 1).toNat = (precS f).toNat - 1 := by omega
  have hcl3 : classF f v = 0 ∨ classF f v = 1 ∨ classF f v = 2 := by omega
  rcases hcl3 with h | h | h
  · have hS : unS f v = 0 := by unfold unS; rw [if_neg (by omega), if_neg (by omega)]
    rw [c0.1 h, valC_zero, hS]
    unfold up128
    rw [Nat.zero_mul, numX_zero]
  · obtain ⟨g1, g2⟩ := c1.1 h
    obtain ⟨p1, p2, p3⟩ := (class_parts f v h0).1 h
    have hS : unS f v = raise128 (fracF f v) := by unfold unS; rw [if_neg (by omega), if_pos h]
    have hE : unE f v = 1 - emaxS f + 128 - precS f - by128 (fracF f v) := by unfold unE; rw [if_neg (by omega), if_pos h]
    have hby := by128_bd (fracF f v) (Nat.lt_trans (fracF_lt f v h0) (by decide))
    have hc : codeF f v = fracF f v := by unfold codeF; rw [p2, Nat.zero_mul, Nat.zero_add]
    rw [hS, hc]
    rw [hc, hpp] at g2
    unfold valC
    rw [if_pos g2]
    unfold numX up128 raise128
    rw [Nat.mul_assoc, Nat.mul_assoc, ← Nat.pow_add, ← Nat.pow_add]
    congr 2
    rw [hE]
    unfold farS unitB leastS KK
    omega
  · obtain ⟨g1, g2⟩ := c2.1 h
    obtain ⟨p1, p2, p3⟩ := (class_parts f v h0).2 h
    have hS : unS f v = nrm f v := by unfold unS; rw [if_pos h]
    have hE : unE f v = expF f v - emaxS f := by unfold unE; rw [if_pos h]
    have hu := Nat.two_pow_pos (precS f - 1).toNat
    have hd : codeF f v / 2 ^ ((precS f).toNat - 1) = expF f v := by
      unfold codeF
      rw [← hpp, Nat.mul_comm, Nat.mul_add_div hu, Nat.div_eq_of_lt hfl, Nat.add_zero]
    have hm : codeF f v % 2 ^ ((precS f).toNat - 1) = fracF f v := by
      unfold codeF
      rw [← hpp, Nat.mul_comm, Nat.mul_add_mod, Nat.mod_eq_of_lt hfl]
    have hn : nrm f v = (2 ^ ((precS f).toNat - 1) + fracF f v) * 2 ^ (128 - precS f).toNat := by
      unfold nrm lsh
      rw [Nat.add_mul, ← Nat.pow_add, show (precS f).toNat - 1 + (128 - precS f).toNat = 127 by omega, Nat.add_comm]
      rfl
    unfold valC
    rw [if_neg (by rw [← hpp]; omega), hd, hm, hS, hn]
    unfold numX up128
    rw [Nat.mul_assoc, Nat.mul_assoc, ← Nat.pow_add, ← Nat.pow_add]
    congr 2
    rw [hE]
    unfold farS unitB leastS KK
    omega
/-- A finite encoding, rounded again: itself, no flags. -/
theorem again_val (f m : Int) (aft : Bool) (v : Nat) (h0 : 0 ≤ f) (hf : f < 4) (hm : m ≤ 4) (hfin : classF f v < 3) (hS : up128 (unS f v) < 2 ^ 256) :
    resB f m (sgnF f v) (unE f v) (up128 (unS f v)) = lowN v (widthS f) ∧ resFl f m aft (sgnF f v) (unE f v) (up128 (unS f v)) = 0 := by
  obtain ⟨b1, b2, b3, b4, b5, b6⟩ := fmt_bd f h0 hf
  have hlt := (class_fin f v h0 hf).1 hfin
  rw [res_code f m _ _ _ h0 hf hm hS, res_flag f m aft _ _ _ h0 hf hm hS]
  unfold codeR flagX
  rw [un_val f v h0 hf hfin, codeX_self _ _ _ _ _ (by omega), rest_self _ _ _ (by omega), if_neg (by omega), cut_code f v h0 hf]
  constructor
  · unfold endC; rw [if_neg (by omega)]
  · rfl
/-- What is rounded, as a code. -/
theorem endC_le (f m : Int) (neg : Bool) (c : Nat) : endC f m neg c ≤ infC f := by
  unfold endC
  repeat' split
  all_goals omega
theorem res_class (f m : Int) (aft neg : Bool) (e : Int) (v : Nat) (h0 : 0 ≤ f) (hf : f < 4) (hm : m ≤ 4) (hv : v < 2 ^ 256) :
    classF f (resB f m neg e v) ≤ 3 ∧ sgnF f (resB f m neg e v) = neg ∧ lowN (resB f m neg e v) (widthS f) = resB f m neg e v ∧ (classF f (resB f m neg e v) = 3 → resFl f m aft neg e v = 20) := by
  have hI := infC_lt f h0 hf
  have hu := Nat.two_pow_pos (precS f - 1).toNat
  rw [res_code f m neg e v h0 hf hm hv, res_flag f m aft neg e v h0 hf hm hv]
  have hle := endC_le f m neg (codeR f m neg KK e v)
  have hlt : endC f m neg (codeR f m neg KK e v) < 2 ^ (widthS f - 1).toNat := by omega
  obtain ⟨e1, e2, e3⟩ := of_code f _ neg h0 hf hlt
  have hc := code_of f _ neg h0 hf hlt
  obtain ⟨c0, c1, c2, c3, c4⟩ := class_code f (endC f m neg (codeR f m neg KK e v) + signN f neg) h0 hf
  rw [hc] at c0 c1 c2 c3 c4
  refine ⟨?_, e3, ?_, ?_⟩
  · have := classF_bd f (endC f m neg (codeR f m neg KK e v) + signN f neg); omega
  · rw [cut_code f _ h0 hf, hc, e3]
  · intro h
    have h3 := c3.1 h
    unfold endC at h3
    unfold flagX
    unfold codeR at h3
    by_cases ho : infC f ≤ codeX (precS f).toNat (unitB f KK) m neg (numX KK e v)
    · rw [if_pos ho]
    · rw [if_neg ho] at h3; omega
theorem unS_lt (f : Int) (v : Nat) (h0 : 0 ≤ f) : unS f v < 2 ^ 128 := by
  unfold unS
  split
  · rename_i h
    obtain ⟨p1, p2, p3⟩ := (class_parts f v h0).2 h
    obtain ⟨b1, b2, b3, b4, b5, b6⟩ := fmt_bd f h0 p1
    have hfl : fracF f v < 2 ^ (precS f - 1).toNat := by unfold fracF; rw [if_neg (by omega)]; exact Nat.mod_lt _ (Nat.two_pow_pos _)
    unfold nrm lsh
    have h1 := Nat.mul_le_mul_right (2 ^ (128 - precS f).toNat) (show fracF f v + 1 ≤ 2 ^ (precS f - 1).toNat by omega)
    rw [← Nat.pow_add, show (precS f - 1).toNat + (128 - precS f).toNat = 127 by omega, Nat.succ_mul] at h1
    have h2 := Nat.two_pow_pos (128 - precS f).toNat
    have h3 : cat 9223372036854775808 0 = 2 ^ 127 := rfl
    have h4 : (2 : Nat) ^ 128 = 2 ^ 127 + 2 ^ 127 := rfl
    omega
  · split
    · exact raise128_lt _ (Nat.lt_trans (fracF_lt f v h0) (by decide))
    · decide
theorem up128_lt (v : Nat) (h : v < 2 ^ 128) : up128 v < 2 ^ 256 := by
  unfold up128
  have : (2 : Nat) ^ 256 = 2 ^ 128 * 2 ^ 128 := rfl
  rw [this]
  exact Nat.mul_lt_mul_of_pos_right h (by decide)
end Go.Proofs.YtkpjeceofcfnkaaGreatDoor
