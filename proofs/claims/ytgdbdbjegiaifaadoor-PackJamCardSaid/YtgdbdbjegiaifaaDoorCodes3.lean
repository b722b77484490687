/- What pack.Round answers, whole: bits and flags by codes; order, jams, mirrors. No condition. -/
import Derived.Test.YtgdbdbjegiaifaaDoorCodes2
set_option linter.unusedSimpArgs false
set_option linter.unusedVariables false
namespace Go.Proofs.YtgdbdbjegiaifaaDoor
open Go.RowKit Go.Hb
theorem next_mono (m : Int) (neg odd : Bool) {r s : Int} (h : r ≤ s) (hs : s ≤ 3) (hn : nextS m neg odd r = true) : nextS m neg odd s = true := by
  unfold nextS at *
  simp only [Bool.and_eq_true, decide_eq_true_eq] at *
  obtain ⟨⟨h1, h2⟩, h3⟩ := hn
  refine ⟨⟨by omega, hs⟩, ?_⟩
  unfold ruleS at *
  by_cases e0 : m = 0
  · rw [if_pos e0] at h3 ⊢
    cases odd <;> simp at h3 ⊢ <;> omega
  rw [if_neg e0] at h3 ⊢
  by_cases e1 : m = 1
  · rw [if_pos e1] at h3 ⊢
    simp at h3 ⊢
    omega
  rw [if_neg e1] at h3 ⊢
  exact h3
theorem codeX_le (p B : Nat) (m : Int) (neg : Bool) (X : Nat) : floorC p B X ≤ codeX p B m neg X ∧ codeX p B m neg X ≤ floorC p B X + 1 := by
  unfold codeX; split <;> omega
theorem codeX_mono (p B : Nat) (m : Int) (neg : Bool) {X Y : Nat} (hp : 1 ≤ p) (h : X ≤ Y) : codeX p B m neg X ≤ codeX p B m neg Y := by
  have h1 := floorC_mono p B hp h
  rcases Nat.lt_or_eq_of_le h1 with h2 | h2
  · have := (codeX_le p B m neg X).2
    have := (codeX_le p B m neg Y).1
    omega
  · unfold codeX
    rw [h2]
    have hr : restC p B X ≤ restC p B Y := by
      unfold restC; rw [h2]; exact restG_mono _ _ _ (by omega)
    have hb : restC p B Y ≤ 3 := (restG_bd _ _).2
    by_cases hn : nextS m neg (floorC p B Y % 2 == 1) (restC p B X) = true
    · rw [if_pos hn, if_pos (next_mono m neg _ hr hb hn)]; exact Nat.le_refl _
    · rw [if_neg hn]; omega
theorem endC_mono (f m : Int) (neg : Bool) {c d : Nat} (h : c ≤ d) : endC f m neg c ≤ endC f m neg d := by
  unfold endC
  by_cases h1 : infC f ≤ c
  · have h2 : infC f ≤ d := by omega
    simp only [if_pos h1, if_pos h2]; exact Nat.le_refl _
  · rw [if_neg h1]
    split
    · split <;> omega
    · exact h
theorem rest_self (p B c : Nat) (hp : 1 ≤ p) : restC p B (valC p B c) = 0 := by
  unfold restC; rw [floorC_valC p B c hp, Nat.sub_self]; rfl
theorem next_zero (m : Int) (neg odd : Bool) : nextS m neg odd 0 = false := by unfold nextS; simp
theorem codeX_self (p B c : Nat) (m : Int) (neg : Bool) (hp : 1 ≤ p) : codeX p B m neg (valC p B c) = c := by
  unfold codeX; rw [rest_self p B c hp, floorC_valC p B c hp, next_zero]; rfl
theorem rest_zero (p B X : Nat) (h : restC p B X = 0) : X = valC p B (floorC p B X) ∨ X < valC p B (floorC p B X) := by
  unfold restC restG at h
  by_cases h0 : X - valC p B (floorC p B X) = 0
  · omega
  · rw [if_neg h0] at h
    repeat' split at h
    all_goals omega
/-- Whether a number is tiny, before and after rounding. -/
def tinyX (p B : Nat) (m : Int) (aft neg : Bool) (X : Nat) : Bool := decide (floorC p B X < 2 ^ (p - 1)) && (!aft || decide (codeX p 0 m neg X < (B + 1) * 2 ^ (p - 1)))
def flagX (f m : Int) (aft neg : Bool) (B X : Nat) : Int := if infC f ≤ codeX (precS f).toNat B m neg X then 20 else flagsS (restC (precS f).toNat B X != 0) (tinyX (precS f).toNat B m aft neg X)
theorem code_zero (f m : Int) (neg : Bool) (K e : Int) (v : Nat) (h0 : 0 ≤ f) (hf : f < 4) (hz : v ≠ 0) (hv : v < 2 ^ 256) (hK : 0 ≤ nE e v + K) :
    codeX (precS f).toNat 0 m neg (numX K e v) = ((256 - precS f).toNat + (nE e v + K).toNat) * 2 ^ (precS f - 1).toNat + topB f m neg v := by
  obtain ⟨b1, b2, b3, b4, b5, b6⟩ := fmt_bd f h0 hf
  have hb := raise_blen v hz hv
  have hX := numX_raise K e v hz hv hK
  have hc : cutAt (precS f).toNat 0 (numX K e v) = (256 - precS f).toNat + (nE e v + K).toNat := by
    unfold cutAt
    rw [hX, blen_up _ _ (raise_ne v hz), hb]
    omega
  have hfl : floorC (precS f).toNat 0 (numX K e v) = ((256 - precS f).toNat + (nE e v + K).toNat) * 2 ^ (precS f - 1).toNat + raiseS v / 2 ^ (256 - precS f).toNat := by
    unfold floorC
    rw [hc, hX, floor_up, show (precS f).toNat - 1 = (precS f - 1).toNat by omega, Nat.sub_zero]
  have hr : restC (precS f).toNat 0 (numX K e v) = restN (raiseS v) (256 - precS f).toNat := by
    rw [restC_N _ _ _ (by omega), hc, hX, restN_up _ _ _ (by omega)]
  have ho : floorC (precS f).toNat 0 (numX K e v) % 2 = raiseS v / 2 ^ (256 - precS f).toNat % 2 := by
    rw [floorC_odd _ _ _ (by omega), hc, hX, floor_up]
  unfold codeX
  rw [ho, hr, hfl, topB, cutS_form _ _ _ _ (by omega) (by omega) (raise_lt v hv), Nat.add_assoc]
theorem tiny_after (f m : Int) (neg : Bool) (K e : Int) (v : Nat) (h0 : 0 ≤ f) (hf : f < 4) (hz : v ≠ 0) (hv : v < 2 ^ 256) (hK : 0 ≤ nE e v + K) (hK2 : 16384 ≤ K) :
    decide (eS f m neg e v < leastS f) = decide (codeX (precS f).toNat 0 m neg (numX K e v) < (unitB f K + 1) * 2 ^ ((precS f).toNat - 1)) := by
  obtain ⟨b1, b2, b3, b4, b5, b6⟩ := fmt_bd f h0 hf
  obtain ⟨l1, l2⟩ := leastS_bd f
  rw [code_zero f m neg K e v h0 hf hz hv hK, show (precS f).toNat - 1 = (precS f - 1).toNat by omega]
  have hfu := full_top f m neg v h0 hf hz hv
  obtain ⟨t1, t2⟩ := top_bd f m neg v h0 hf hz hv
  have hu := Nat.two_pow_pos (precS f - 1).toNat
  unfold eS
  rw [hfu]
  have hun : unitB f K = (leastS f - precS f + 256 + K).toNat := rfl
  generalize topB f m neg v = t at *
  generalize 2 ^ (precS f - 1).toNat = u at *
  rw [decide_eq_decide]
  by_cases ht : t = 2 * u
  · rw [if_pos (by simp [ht]), ht, ← Nat.add_mul]
    constructor
    · intro h; exact Nat.mul_lt_mul_of_pos_right (by omega) hu
    · intro h
      have := Nat.lt_of_mul_lt_mul_right h
      omega
  · rw [if_neg (by simp [ht])]
    constructor
    · intro h
      have := Nat.mul_le_mul_right u (show (256 - precS f).toNat + (nE e v + K).toNat + 2 ≤ unitB f K + 1 by omega)
      rw [Nat.add_mul _ 2] at this
      omega
    · intro h
      have h2 : ((256 - precS f).toNat + (nE e v + K).toNat + 1) * u < (unitB f K + 1) * u := by rw [Nat.succ_mul]; omega
      have := Nat.lt_of_mul_lt_mul_right h2
      omega
theorem tiny_before (f m : Int) (neg : Bool) (K e : Int) (v : Nat) (h0 : 0 ≤ f) (hf : f < 4) (hz : v ≠ 0) (hv : v < 2 ^ 256) (hK : 0 ≤ nE e v + K) (hK2 : 16384 ≤ K) :
    decide (nE e v < leastS f) = decide (floorC (precS f).toNat (unitB f K) (numX K e v) < 2 ^ ((precS f).toNat - 1)) := by
  obtain ⟨b1, b2, b3, b4, b5, b6⟩ := fmt_bd f h0 hf
  rw [decide_eq_decide, show (precS f).toNat - 1 = (precS f - 1).toNat by omega]
  by_cases hl : nE e v < leastS f
  · obtain ⟨h1, h2, h3⟩ := code_sub f m neg K e v h0 hf hz hv hK hK2 hl
    exact ⟨fun _ => h3, fun _ => hl⟩
  · obtain ⟨h1, h2, h3⟩ := code_top f m neg K e v h0 hf hz hv hK hK2 (by omega)
    refine ⟨fun h => absurd h hl, fun h => ?_⟩
    exfalso
    have hb := blen_le (raiseS v) (raise_ne v hz)
    rw [raise_blen v hz hv] at hb
    have : 2 ^ (precS f - 1).toNat ≤ raiseS v / 2 ^ (256 - precS f).toNat := by
      rw [Nat.le_div_iff_mul_le (Nat.two_pow_pos _), ← Nat.pow_add, show (precS f - 1).toNat + (256 - precS f).toNat = 256 - 1 by omega]
      exact hb
    rw [h3] at h
    omega
/-- The flags. -/
theorem round_flag (f m : Int) (aft neg : Bool) (K e : Int) (v : Nat) (h0 : 0 ≤ f) (hf : f < 4) (hz : v ≠ 0) (hv : v < 2 ^ 256) (hK : 0 ≤ nE e v + K) (hK2 : 16384 ≤ K) : roundFl f m aft neg e v = flagX f m aft neg (unitB f K) (numX K e v) := by
  have ho := over_iff f m neg K e v h0 hf hz hv hK hK2
  unfold codeR at ho
  have hin : inexactS f e v = (restC (precS f).toNat (unitB f K) (numX K e v) != 0) := by
    by_cases hl : nE e v < leastS f
    · exact (code_sub f m neg K e v h0 hf hz hv hK hK2 hl).2.1
    · exact (code_top f m neg K e v h0 hf hz hv hK hK2 (by omega)).2.1
  unfold roundFl flagX tinyS tinyX
  rw [hin, tiny_before f m neg K e v h0 hf hz hv hK hK2, tiny_after f m neg K e v h0 hf hz hv hK hK2]
  by_cases hx : emaxS f < eS f m neg e v
  · rw [if_pos hx, if_pos (ho.1 hx)]
  · rw [if_neg hx, if_neg (fun h => hx (ho.2 h))]
end Go.Proofs.YtgdbdbjegiaifaaDoor
