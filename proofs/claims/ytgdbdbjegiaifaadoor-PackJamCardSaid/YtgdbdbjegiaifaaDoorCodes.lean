/- What pack.Round answers, as canonical rounding of a natural number. No condition. -/
import Derived.Test.YtgdbdbjegiaifaaDoorRdef
import Derived.Test.YtgdbdbjegiaifaaDoorCan
set_option linter.unusedSimpArgs false
set_option linter.unusedVariables false
namespace Go.Proofs.YtgdbdbjegiaifaaDoor
open Go.RowKit Go.Hb
/-- A number in units of 2^-(K+255). -/
def numX (K : Int) (e : Int) (v : Nat) : Nat := v * 2 ^ (farS e + K).toNat
/-- The unit of a format's codes. -/
def unitB (f K : Int) : Nat := (leastS f - precS f + 256 + K).toNat
/-- The code a number is rounded to, the format's end aside. -/
def codeX (p B : Nat) (m : Int) (neg : Bool) (X : Nat) : Nat := floorC p B X + (if nextS m neg (floorC p B X % 2 == 1) (restC p B X) then 1 else 0)
def codeR (f m : Int) (neg : Bool) (K e : Int) (v : Nat) : Nat := codeX (precS f).toNat (unitB f K) m neg (numX K e v)
/-- The code of what is infinite. -/
def infC (f : Int) : Nat := (2 * emaxS f + 1).toNat * 2 ^ (precS f - 1).toNat
/-- A code, the end of the format heeded. -/
def endC (f m : Int) (neg : Bool) (c : Nat) : Nat := if infC f ≤ c then (if nextS m neg true 3 then infC f else infC f - 1) else c
def signN (f : Int) (neg : Bool) : Nat := if neg then 2 ^ (widthS f - 1).toNat else 0
theorem blen_up (v k : Nat) (h : v ≠ 0) : blen (v * 2 ^ k) = blen v + k := by
  have h1 := blen_lt v
  have h2 := blen_le v h
  have h3 : 1 ≤ blen v := by rw [blen_pos v h]; omega
  apply blen_unique
  · rw [Nat.pow_add]; exact Nat.mul_lt_mul_of_pos_right h1 (Nat.two_pow_pos k)
  · right
    rw [show blen v + k - 1 = blen v - 1 + k by omega, Nat.pow_add]
    exact Nat.mul_le_mul_right _ h2
theorem raise_blen (v : Nat) (h : v ≠ 0) (hv : v < 2 ^ 256) : blen (raiseS v) = 256 := by
  have hb := blen_256 v (by rw [← two256]; exact hv)
  unfold raiseS lsh
  rw [blen_up _ _ h]
  unfold byS
  rw [if_neg h]
  omega
theorem raise_ne (v : Nat) (h : v ≠ 0) : raiseS v ≠ 0 := by
  unfold raiseS lsh
  exact Nat.ne_of_gt (Nat.mul_pos (by omega) (Nat.two_pow_pos _))
theorem numX_raise (K e : Int) (v : Nat) (h : v ≠ 0) (hv : v < 2 ^ 256) (hK : 0 ≤ nE e v + K) : numX K e v = raiseS v * 2 ^ (nE e v + K).toNat := by
  obtain ⟨b0, b1⟩ := byS_bd v hv
  unfold numX raiseS lsh nE at *
  rw [Nat.mul_assoc, ← Nat.pow_add]
  congr 2
  omega
theorem cutS_restN (v : Nat) (keep : Int) (h1 : keep ≤ 127) : inexS v keep = (restN v (256 - keep).toNat != 0) := by
  unfold inexS; rw [restS_N v keep h1]
theorem code_top (f m : Int) (neg : Bool) (K e : Int) (v : Nat) (h0 : 0 ≤ f) (hf : f < 4) (hz : v ≠ 0) (hv : v < 2 ^ 256) (hK : 0 ≤ nE e v + K) (hK2 : 16384 ≤ K) (hl : leastS f ≤ nE e v) :
    codeR f m neg K e v = (nE e v - leastS f).toNat * 2 ^ (precS f - 1).toNat + topB f m neg v ∧ inexactS f e v = (restC (precS f).toNat (unitB f K) (numX K e v) != 0) ∧
    floorC (precS f).toNat (unitB f K) (numX K e v) = (nE e v - leastS f).toNat * 2 ^ (precS f - 1).toNat + raiseS v / 2 ^ (256 - precS f).toNat := by
  obtain ⟨b1, b2, b3, b4, b5, b6⟩ := fmt_bd f h0 hf
  obtain ⟨l1, l2⟩ := leastS_bd f
  have hb := raise_blen v hz hv
  have hX := numX_raise K e v hz hv hK
  have hc : cutAt (precS f).toNat (unitB f K) (numX K e v) = (256 - precS f).toNat + (nE e v + K).toNat := by
    unfold cutAt unitB
    rw [hX, blen_up _ _ (raise_ne v hz), hb]
    omega
  have hd : (256 - precS f).toNat + (nE e v + K).toNat - unitB f K = (nE e v - leastS f).toNat := by unfold unitB; omega
  have hfl : floorC (precS f).toNat (unitB f K) (numX K e v) = (nE e v - leastS f).toNat * 2 ^ (precS f - 1).toNat + raiseS v / 2 ^ (256 - precS f).toNat := by
    unfold floorC
    rw [hc, hd, hX, floor_up, show (precS f).toNat - 1 = (precS f - 1).toNat by omega]
  have hr : restC (precS f).toNat (unitB f K) (numX K e v) = restN (raiseS v) (256 - precS f).toNat := by
    rw [restC_N _ _ _ (by omega), hc, hX, restN_up _ _ _ (by omega)]
  have ho : floorC (precS f).toNat (unitB f K) (numX K e v) % 2 = raiseS v / 2 ^ (256 - precS f).toNat % 2 := by
    rw [floorC_odd _ _ _ (by omega), hc, hX, floor_up]
  refine ⟨?_, ?_, hfl⟩
  · unfold codeR codeX
    rw [ho, hr, hfl, topB, cutS_form _ _ _ _ (by omega) (by omega) (raise_lt v hv), Nat.add_assoc]
  · unfold inexactS
    rw [if_neg (by omega), cutS_restN _ _ (by omega), hr]
theorem code_sub (f m : Int) (neg : Bool) (K e : Int) (v : Nat) (h0 : 0 ≤ f) (hf : f < 4) (hz : v ≠ 0) (hv : v < 2 ^ 256) (hK : 0 ≤ nE e v + K) (hK2 : 16384 ≤ K) (hl : nE e v < leastS f) :
    codeR f m neg K e v = subB f m neg e v ∧ inexactS f e v = (restC (precS f).toNat (unitB f K) (numX K e v) != 0) ∧ floorC (precS f).toNat (unitB f K) (numX K e v) < 2 ^ (precS f - 1).toNat := by
  obtain ⟨b1, b2, b3, b4, b5, b6⟩ := fmt_bd f h0 hf
  obtain ⟨l1, l2⟩ := leastS_bd f
  have hb := raise_blen v hz hv
  have hX := numX_raise K e v hz hv hK
  have hc : cutAt (precS f).toNat (unitB f K) (numX K e v) = ((leastS f - nE e v).toNat + (256 - precS f).toNat) + (nE e v + K).toNat := by
    unfold cutAt unitB
    rw [hX, blen_up _ _ (raise_ne v hz), hb]
    omega
  have hd : (leastS f - nE e v).toNat + (256 - precS f).toNat + (nE e v + K).toNat - unitB f K = 0 := by unfold unitB; omega
  have hfl : floorC (precS f).toNat (unitB f K) (numX K e v) = raiseS v / 2 ^ ((leastS f - nE e v).toNat + (256 - precS f).toNat) := by
    unfold floorC
    rw [hc, hd, hX, floor_up, Nat.zero_mul, Nat.zero_add]
  have hr : restC (precS f).toNat (unitB f K) (numX K e v) = restN (raiseS v) ((leastS f - nE e v).toNat + (256 - precS f).toNat) := by
    rw [restC_N _ _ _ (by omega), hc, hX, restN_up _ _ _ (by omega)]
  refine ⟨?_, ?_, ?_⟩
  · unfold codeR codeX
    rw [hr, hfl, subB, lowJ, cutS_form _ _ _ _ (by omega) (by omega) (jamS_le _ _ (raise_lt v hv)), jamS_N, jam_floor _ _ _ (by omega), jam_rest _ _ _ (by omega)]
  · unfold inexactS
    rw [if_pos hl, cutS_restN _ _ (by omega), hr, lowJ, jamS_N, jam_rest _ _ _ (by omega)]
  · rw [hfl, Nat.div_lt_iff_lt_mul (Nat.two_pow_pos _), ← Nat.pow_add]
    exact Nat.lt_of_lt_of_le (raise_lt v hv) (Nat.pow_le_pow_right (by omega) (by omega))
end Go.Proofs.YtgdbdbjegiaifaaDoor
