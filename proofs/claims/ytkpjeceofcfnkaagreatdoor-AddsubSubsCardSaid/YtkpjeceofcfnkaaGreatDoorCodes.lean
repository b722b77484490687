/- Canonical rounding of natural numbers: codes, their numbers, floors; plain numbers, no program. What pack.Round answers, as canonical rounding of a natural number. No condition. What pack.Round answers: the bits are a sign and the code, the end heeded. No condition. What pack.Round answers, whole: bits and flags by codes; order, jams, mirrors. No condition. The plain laws of chapter 16: order, neighbours, jams, mirrors, tininess. No condition. The plain laws of chapter 16: jams and tininess. No condition. -/
import Derived.Test.YtkpjeceofcfnkaaGreatDoorShift6
import Derived.Test.YtkpjeceofcfnkaaGreatDoorCount
import Derived.Test.YtkpjeceofcfnkaaGreatDoorRdef
import Derived.Test.YtkpjeceofcfnkaaGreatDoorMode
set_option linter.unusedSimpArgs false
set_option linter.unusedVariables false
namespace Go.Hb
/-- The number of a code, in units of 1: codes below 2^(p-1) are subnormal. -/
def valC (p B c : Nat) : Nat := if c < 2 ^ (p - 1) then c * 2 ^ B else (2 ^ (p - 1) + c % 2 ^ (p - 1)) * 2 ^ (c / 2 ^ (p - 1) - 1 + B)
theorem valC_mk (p B t r : Nat) (ht : B ≤ t) (hr : r ≤ 2 * 2 ^ (p - 1)) (h : t = B ∨ 2 ^ (p - 1) ≤ r) : valC p B ((t - B) * 2 ^ (p - 1) + r) = r * 2 ^ t := by
  have hp : 0 < 2 ^ (p - 1) := Nat.two_pow_pos _
  unfold valC
  generalize 2 ^ (p - 1) = u at *
  by_cases h1 : r < u
  · have ht' : t = B := by omega
    subst ht'
    rw [Nat.sub_self, Nat.zero_mul, Nat.zero_add, if_pos h1]
  · have h2 : ¬ (t - B) * u + r < u := by omega
    rw [if_neg h2]
    by_cases h3 : r < 2 * u
    · have e : (t - B) * u + r = (r - u) + (t - B + 1) * u := by rw [Nat.add_mul]; omega
      rw [e, Nat.add_mul_mod_self_right, Nat.add_mul_div_right _ _ hp, Nat.mod_eq_of_lt (by omega), Nat.div_eq_of_lt (by omega)]
      rw [show 0 + (t - B + 1) - 1 + B = t by omega, show u + (r - u) = r by omega]
    · have h4 : r = 2 * u := by omega
      have e : (t - B) * u + r = 0 + (t - B + 2) * u := by rw [Nat.add_mul]; omega
      rw [e, Nat.add_mul_mod_self_right, Nat.add_mul_div_right _ _ hp, Nat.zero_mod, Nat.zero_div]
      rw [show 0 + (t - B + 2) - 1 + B = t + 1 by omega, Nat.pow_succ, h4, Nat.add_zero, Nat.mul_comm (2 ^ t) 2, ← Nat.mul_assoc, Nat.mul_comm u 2]
/-- What codes are made of. -/
theorem code_form (p B c : Nat) : ∃ t r, B ≤ t ∧ r < 2 * 2 ^ (p - 1) ∧ (t = B ∨ 2 ^ (p - 1) ≤ r) ∧ c = (t - B) * 2 ^ (p - 1) + r := by
  have hp : 0 < 2 ^ (p - 1) := Nat.two_pow_pos _
  generalize 2 ^ (p - 1) = u at *
  by_cases h : c < u
  · exact ⟨B, c, Nat.le_refl _, by omega, Or.inl rfl, by rw [Nat.sub_self, Nat.zero_mul, Nat.zero_add]⟩
  · have h1 := Nat.mod_add_div c u
    have h2 := Nat.mod_lt c hp
    have h3 : 1 ≤ c / u := (Nat.le_div_iff_mul_le hp).2 (by omega)
    refine ⟨B + (c / u - 1), u + c % u, by omega, by omega, Or.inr (by omega), ?_⟩
    rw [show B + (c / u - 1) - B = c / u - 1 by omega]
    have e : c / u * u = (c / u - 1) * u + u := by rw [← Nat.succ_mul, Nat.succ_eq_add_one, Nat.sub_add_cancel h3]
    rw [Nat.mul_comm] at e
    omega
/-- The gap above a code. -/
theorem valC_succ (p B c : Nat) : ∃ t, B ≤ t ∧ valC p B (c + 1) = valC p B c + 2 ^ t := by
  obtain ⟨t, r, ht, hr, h, rfl⟩ := code_form p B c
  refine ⟨t, ht, ?_⟩
  rw [valC_mk p B t r ht (by omega) h, Nat.add_assoc, valC_mk p B t (r + 1) ht (by omega) (by omega), Nat.succ_mul]
theorem valC_lt_succ (p B c : Nat) : valC p B c < valC p B (c + 1) := by
  obtain ⟨t, _, e⟩ := valC_succ p B c
  have := Nat.two_pow_pos t
  omega
theorem valC_lt (p B : Nat) {a b : Nat} (h : a < b) : valC p B a < valC p B b := by
  induction b with
  | zero => omega
  | succ b ih =>
    have := valC_lt_succ p B b
    by_cases e : a = b
    · subst e; exact this
    · exact Nat.lt_trans (ih (by omega)) this
theorem valC_le (p B : Nat) {a b : Nat} (h : a ≤ b) : valC p B a ≤ valC p B b := by
  rcases Nat.lt_or_eq_of_le h with h | h
  · exact Nat.le_of_lt (valC_lt p B h)
  · rw [h]; exact Nat.le_refl _
theorem valC_zero (p B : Nat) : valC p B 0 = 0 := by
  unfold valC; rw [if_pos (Nat.two_pow_pos _), Nat.zero_mul]
/-- Where a number is cut. -/
def cutAt (p B X : Nat) : Nat := max (blen X - p) B
/-- The greatest code whose number is no more. -/
def floorC (p B X : Nat) : Nat := (cutAt p B X - B) * 2 ^ (p - 1) + X / 2 ^ cutAt p B X
theorem cut_bd (p B X : Nat) (hp : 1 ≤ p) : B ≤ cutAt p B X ∧ X / 2 ^ cutAt p B X < 2 * 2 ^ (p - 1) ∧ (cutAt p B X = B ∨ 2 ^ (p - 1) ≤ X / 2 ^ cutAt p B X) := by
  have e : 2 * 2 ^ (p - 1) = 2 ^ p := by rw [← Nat.pow_succ']; congr 1; omega
  refine ⟨Nat.le_max_right _ _, ?_, ?_⟩
  · rw [e, Nat.div_lt_iff_lt_mul (Nat.two_pow_pos _), ← Nat.pow_add]
    exact Nat.lt_of_lt_of_le (blen_lt X) (Nat.pow_le_pow_right (by omega) (by unfold cutAt; omega))
  · by_cases h : blen X - p ≤ B
    · exact Or.inl (Nat.max_eq_right h)
    · right
      have h0 : X ≠ 0 := by intro h0; subst h0; rw [blen_zero] at h; omega
      have h1 : cutAt p B X = blen X - p := Nat.max_eq_left (by omega)
      rw [h1, Nat.le_div_iff_mul_le (Nat.two_pow_pos _), ← Nat.pow_add, show p - 1 + (blen X - p) = blen X - 1 by omega]
      exact blen_le X h0
theorem floorC_val (p B X : Nat) (hp : 1 ≤ p) : valC p B (floorC p B X) = X / 2 ^ cutAt p B X * 2 ^ cutAt p B X := by
  obtain ⟨h1, h2, h3⟩ := cut_bd p B X hp
  exact valC_mk p B _ _ h1 (by omega) h3
theorem floorC_next (p B X : Nat) (hp : 1 ≤ p) : valC p B (floorC p B X + 1) = (X / 2 ^ cutAt p B X + 1) * 2 ^ cutAt p B X := by
  obtain ⟨h1, h2, h3⟩ := cut_bd p B X hp
  unfold floorC
  rw [Nat.add_assoc]
  exact valC_mk p B _ _ h1 (by omega) (by omega)
theorem floorC_le (p B X : Nat) (hp : 1 ≤ p) : valC p B (floorC p B X) ≤ X := by
  rw [floorC_val p B X hp]; exact Nat.div_mul_le_self _ _
theorem floorC_lt (p B X : Nat) (hp : 1 ≤ p) : X < valC p B (floorC p B X + 1) := by
  rw [floorC_next p B X hp, Nat.succ_mul]
  have := Nat.mod_add_div X (2 ^ cutAt p B X)
  rw [Nat.mul_comm] at this
  have := Nat.mod_lt X (Nat.two_pow_pos (cutAt p B X))
  omega
theorem floorC_eq (p B X c : Nat) (hp : 1 ≤ p) (h1 : valC p B c ≤ X) (h2 : X < valC p B (c + 1)) : floorC p B X = c := by
  have h3 := floorC_le p B X hp
  have h4 := floorC_lt p B X hp
  rcases Nat.lt_trichotomy (floorC p B X) c with h | h | h
  · have := valC_le p B (show floorC p B X + 1 ≤ c from h); omega
  · exact h
  · have := valC_le p B (show c + 1 ≤ floorC p B X from h); omega
theorem floorC_mono (p B : Nat) {X Y : Nat} (hp : 1 ≤ p) (h : X ≤ Y) : floorC p B X ≤ floorC p B Y := by
  have h3 := floorC_le p B X hp
  have h4 := floorC_lt p B Y hp
  rcases Nat.lt_or_ge (floorC p B Y) (floorC p B X) with g | g
  · have := valC_le p B (show floorC p B Y + 1 ≤ floorC p B X from g); omega
  · exact g
theorem floorC_valC (p B c : Nat) (hp : 1 ≤ p) : floorC p B (valC p B c) = c := floorC_eq p B _ c hp (Nat.le_refl _) (valC_lt_succ p B c)
/-- The rest by what is left and the gap. -/
def restG (d g : Nat) : Int := if d = 0 then 0 else if 2 * d < g then 1 else if 2 * d = g then 2 else 3
/-- What a number is beyond its floor. -/
def restC (p B X : Nat) : Int := restG (X - valC p B (floorC p B X)) (valC p B (floorC p B X + 1) - valC p B (floorC p B X))
theorem restG_bd (d g : Nat) : 0 ≤ restG d g ∧ restG d g ≤ 3 := by unfold restG; repeat' split <;> omega
theorem restG_mono (d e g : Nat) (h : d ≤ e) : restG d g ≤ restG e g := by unfold restG; repeat' split <;> omega
theorem restN_G (v s : Nat) : restN v s = restG (v % 2 ^ s) (2 ^ s) := by
  unfold restN
  by_cases h0 : s = 0
  · subst h0; rw [if_pos rfl, Nat.pow_zero, Nat.mod_one]; rfl
  · rw [if_neg h0]
    have e : (2 : Nat) ^ s = 2 ^ (s - 1) * 2 := by rw [← Nat.pow_succ]; congr 1; omega
    rw [e, Nat.mod_mul]
    have hb : v.testBit (s - 1) = (v / 2 ^ (s - 1) % 2 == 1) := by rw [Nat.testBit_eq_decide_div_mod_eq]; rfl
    have h1 := Nat.mod_lt v (Nat.two_pow_pos (s - 1))
    have h2 : v / 2 ^ (s - 1) % 2 = 0 ∨ v / 2 ^ (s - 1) % 2 = 1 := by omega
    rw [hb]
    unfold restG
    rcases h2 with h2 | h2
    · rw [h2]; simp only [Nat.mul_zero, Nat.add_zero]
      generalize v % 2 ^ (s - 1) = d at *
      generalize 2 ^ (s - 1) = g at *
      repeat' split <;> first | rfl | omega | simp_all
    · rw [h2]; simp only [Nat.mul_one]
      generalize v % 2 ^ (s - 1) = d at *
      generalize 2 ^ (s - 1) = g at *
      repeat' split <;> first | rfl | omega | simp_all
theorem restC_N (p B X : Nat) (hp : 1 ≤ p) : restC p B X = restN X (cutAt p B X) := by
  rw [restN_G]
  unfold restC
  rw [floorC_next p B X hp, floorC_val p B X hp, Nat.succ_mul, Nat.add_sub_cancel_left]
  congr 1
  have := Nat.mod_add_div X (2 ^ cutAt p B X)
  rw [Nat.mul_comm] at this
  omega
theorem floorC_odd (p B X : Nat) (hp : 2 ≤ p) : floorC p B X % 2 = X / 2 ^ cutAt p B X % 2 := by
  unfold floorC
  rw [show 2 ^ (p - 1) = 2 * 2 ^ (p - 2) by rw [← Nat.pow_succ']; congr 1; omega]
  rw [Nat.mul_left_comm, Nat.mul_add_mod]
end Go.Hb

namespace Go.Proofs.YtkpjeceofcfnkaaGreatDoor
open Go.RowKit Go.Hb
/-- A number in units of 2^-(K+255). -/
def numX (K : Int) (e : Int) (v : Nat) : Nat := v * 2 ^ (farS e + K).toNat
/-- The unit of a format's codes. -/
def unitB (f K : Int) : Nat := (leastS f - precS f + 256 + K).toNat
/-- The code a number is rounded to, the format's end aside. -/
def codeX (p B : Nat) (m : Int) (neg : Bool) (X : Nat) : Nat := floorC p B X + (if nextS m neg (floorC p B X % 2 == 1) (restC p B X) then 1 else 0)
def codeR (f m : Int) (neg : Bool) (K e : Int) (v : Nat) : Nat := codeX (precS f).toNat (unitB f K) m neg (numX K e v)
/-- The code of what is infinite. -/
def infC (f : Int) : Nat := (2 * emaxS f + 1).toNat * 2 ^ (precS f - 1).toNat
/-- A code, the end of the format heeded. -/
def endC (f m : Int) (neg : Bool) (c : Nat) : Nat := if infC f ≤ c then (if nextS m neg true 3 then infC f else infC f - 1) else c
def signN (f : Int) (neg : Bool) : Nat := if neg then 2 ^ (widthS f - 1).toNat else 0
theorem blen_up (v k : Nat) (h : v ≠ 0) : blen (v * 2 ^ k) = blen v + k := by
  have h1 := blen_lt v
  have h2 := blen_le v h
  have h3 : 1 ≤ blen v := by rw [blen_pos v h]; omega
  apply blen_unique
  · rw [Nat.pow_add]; exact Nat.mul_lt_mul_of_pos_right h1 (Nat.two_pow_pos k)
  · right
    rw [show blen v + k - 1 = blen v - 1 + k by omega, Nat.pow_add]
    exact Nat.mul_le_mul_right _ h2
theorem raise_blen (v : Nat) (h : v ≠ 0) (hv : v < 2 ^ 256) : blen (raiseS v) = 256 := by
  have hb := blen_256 v (by rw [← two256]; exact hv)
  unfold raiseS lsh
  rw [blen_up _ _ h]
  unfold byS
  rw [if_neg h]
  omega
theorem raise_ne (v : Nat) (h : v ≠ 0) : raiseS v ≠ 0 := by
  unfold raiseS lsh
  exact Nat.ne_of_gt (Nat.mul_pos (by omega) (Nat.two_pow_pos _))
theorem numX_raise (K e : Int) (v : Nat) (h : v ≠ 0) (hv : v < 2 ^ 256) (hK : 0 ≤ nE e v + K) : numX K e v = raiseS v * 2 ^ (nE e v + K).toNat := by
  obtain ⟨b0, b1⟩ := byS_bd v hv
  unfold numX raiseS lsh nE at *
  rw [Nat.mul_assoc, ← Nat.pow_add]
  congr 2
  omega
theorem cutS_restN (v : Nat) (keep : Int) (h1 : keep ≤ 127) : inexS v keep = (restN v (256 - keep).toNat != 0) := by
  unfold inexS; rw [restS_N v keep h1]
theorem code_top (f m : Int) (neg : Bool) (K e : Int) (v : Nat) (h0 : 0 ≤ f) (hf : f < 4) (hz : v ≠ 0) (hv : v < 2 ^ 256) (hK : 0 ≤ nE e v + K) (hK2 : 16384 ≤ K) (hl : leastS f ≤ nE e v) :
    codeR f m neg K e v = (nE e v - leastS f).toNat * 2 ^ (precS f - 1).toNat + topB f m neg v ∧ inexactS f e v = (restC (precS f).toNat (unitB f K) (numX K e v) != 0) ∧
    floorC (precS f).toNat (unitB f K) (numX K e v) = (nE e v - leastS f).toNat * 2 ^ (precS f - 1).toNat + raiseS v / 2 ^ (256 - precS f).toNat := by
  obtain ⟨b1, b2, b3, b4, b5, b6⟩ := fmt_bd f h0 hf
  obtain ⟨l1, l2⟩ := leastS_bd f
  have hb := raise_blen v hz hv
  have hX := numX_raise K e v hz hv hK
  have hc : cutAt (precS f).toNat (unitB f K) (numX K e v) = (256 - precS f).toNat + (nE e v + K).toNat := by
    unfold cutAt unitB
    rw [hX, blen_up _ _ (raise_ne v hz), hb]
    omega
  have hd : (256 - precS f).toNat + (nE e v + K).toNat - unitB f K = (nE e v - leastS f).toNat := by unfold unitB; omega
  have hfl : floorC (precS f).toNat (unitB f K) (numX K e v) = (nE e v - leastS f).toNat * 2 ^ (precS f - 1).toNat + raiseS v / 2 ^ (256 - precS f).toNat := by
    unfold floorC
    rw [hc, hd, hX, floor_up, show (precS f).toNat - 1 = (precS f - 1).toNat by omega]
  have hr : restC (precS f).toNat (unitB f K) (numX K e v) = restN (raiseS v) (256 - precS f).toNat := by
    rw [restC_N _ _ _ (by omega), hc, hX, restN_up _ _ _ (by omega)]
  have ho : floorC (precS f).toNat (unitB f K) (numX K e v) % 2 = raiseS v / 2 ^ (256 - precS f).toNat % 2 := by
    rw [floorC_odd _ _ _ (by omega), hc, hX, floor_up]
  refine ⟨?_, ?_, hfl⟩
  · unfold codeR codeX
    rw [ho, hr, hfl, topB, cutS_form _ _ _ _ (by omega) (by omega) (raise_lt v hv), Nat.add_assoc]
  · unfold inexactS
    rw [if_neg (by omega), cutS_restN _ _ (by omega), hr]
theorem code_sub (f m : Int) (neg : Bool) (K e : Int) (v : Nat) (h0 : 0 ≤ f) (hf : f < 4) (hz : v ≠ 0) (hv : v < 2 ^ 256) (hK : 0 ≤ nE e v + K) (hK2 : 16384 ≤ K) (hl : nE e v < leastS f) :
    codeR f m neg K e v = subB f m neg e v ∧ inexactS f e v = (restC (precS f).toNat (unitB f K) (numX K e v) != 0) ∧ floorC (precS f).toNat (unitB f K) (numX K e v) < 2 ^ (precS f - 1).toNat := by
  obtain ⟨b1, b2, b3, b4, b5, b6⟩ := fmt_bd f h0 hf
  obtain ⟨l1, l2⟩ := leastS_bd f
  have hb := raise_blen v hz hv
  have hX := numX_raise K e v hz hv hK
  have hc : cutAt (precS f).toNat (unitB f K) (numX K e v) = ((leastS f - nE e v).toNat + (256 - precS f).toNat) + (nE e v + K).toNat := by
    unfold cutAt unitB
    rw [hX, blen_up _ _ (raise_ne v hz), hb]
    omega
  have hd : (leastS f - nE e v).toNat + (256 - precS f).toNat + (nE e v + K).toNat - unitB f K = 0 := by unfold unitB; omega
  have hfl : floorC (precS f).toNat (unitB f K) (numX K e v) = raiseS v / 2 ^ ((leastS f - nE e v).toNat + (256 - precS f).toNat) := by
    unfold floorC
    rw [hc, hd, hX, floor_up, Nat.zero_mul, Nat.zero_add]
  have hr : restC (precS f).toNat (unitB f K) (numX K e v) = restN (raiseS v) ((leastS f - nE e v).toNat + (256 - precS f).toNat) := by
    rw [restC_N _ _ _ (by omega), hc, hX, restN_up _ _ _ (by omega)]
  refine ⟨?_, ?_, ?_⟩
  · unfold codeR codeX
    rw [hr, hfl, subB, lowJ, cutS_form _ _ _ _ (by omega) (by omega) (jamS_le _ _ (raise_lt v hv)), jamS_N, jam_floor _ _ _ (by omega), jam_rest _ _ _ (by omega)]
  · unfold inexactS
    rw [if_pos hl, cutS_restN _ _ (by omega), hr, lowJ, jamS_N, jam_rest _ _ _ (by omega)]
  · rw [hfl, Nat.div_lt_iff_lt_mul (Nat.two_pow_pos _), ← Nat.pow_add]
    exact Nat.lt_of_lt_of_le (raise_lt v hv) (Nat.pow_le_pow_right (by omega) (by omega))
end Go.Proofs.YtkpjeceofcfnkaaGreatDoor

namespace Go.Proofs.YtkpjeceofcfnkaaGreatDoor
open Go.RowKit Go.Hb
theorem fmt_ex (f : Int) (h0 : 0 ≤ f) (hf : f < 4) : 2 ^ (widthS f - precS f).toNat = (2 * emaxS f + 2).toNat ∧ 15 ≤ emaxS f := by
  have : f = 0 ∨ f = 1 ∨ f = 2 ∨ f = 3 := by omega
  rcases this with rfl | rfl | rfl | rfl <;> exact ⟨by decide, by decide⟩
theorem makeF_c (f e : Int) (neg : Bool) (x : Nat) (h0 : 0 ≤ f) (hf : f < 4) (e0 : 0 ≤ e) (e1 : e ≤ 2 * emaxS f + 1) : makeF f neg e x = e.toNat * 2 ^ (precS f - 1).toNat + x % 2 ^ (precS f - 1).toNat + signN f neg := by
  obtain ⟨x1, x2⟩ := fmt_ex f h0 hf
  obtain ⟨m0, m1⟩ := emaxS_bd f
  unfold makeF signN
  rw [if_neg (by omega), if_neg (by omega), x1, Nat.mod_eq_of_lt (by omega)]
theorem ones_mod (k : Nat) (h : k ≤ 128) : (2 ^ 128 - 1) % 2 ^ k = 2 ^ k - 1 := by
  have e : (2 : Nat) ^ 128 = 2 ^ k * 2 ^ (128 - k) := by rw [← Nat.pow_add]; congr 1; omega
  have h1 := Nat.two_pow_pos k
  have h2 := Nat.two_pow_pos (128 - k)
  rw [e]
  generalize 2 ^ (128 - k) = y at *
  generalize 2 ^ k = x at *
  have e2 : x * y - 1 = (x - 1) + x * (y - 1) := by
    have : x * y = x * (y - 1) + x := by rw [← Nat.mul_succ, Nat.succ_eq_add_one, Nat.sub_add_cancel h2]
    omega
  rw [e2, Nat.add_mul_mod_self_left, Nat.mod_eq_of_lt (by omega)]
theorem overB_c (f m : Int) (neg : Bool) (h0 : 0 ≤ f) (hf : f < 4) : overB f m neg = (if nextS m neg true 3 then infC f else infC f - 1) + signN f neg := by
  obtain ⟨b1, b2, b3, b4, b5, b6⟩ := fmt_bd f h0 hf
  obtain ⟨x1, x2⟩ := fmt_ex f h0 hf
  have hu := Nat.two_pow_pos (precS f - 1).toNat
  have c1 : cat 18446744073709551615 18446744073709551615 = 2 ^ 128 - 1 := by rfl
  unfold overB infC
  split
  · rw [makeF_c f _ neg _ h0 hf (by omega) (by omega), Nat.zero_mod, Nat.add_zero]
  · rw [makeF_c f _ neg _ h0 hf (by omega) (by omega), c1, ones_mod _ (by omega), show (2 * emaxS f + 1).toNat = (2 * emaxS f).toNat + 1 by omega, Nat.succ_mul]
    omega
theorem top_bd (f m : Int) (neg : Bool) (v : Nat) (h0 : 0 ≤ f) (hf : f < 4) (hz : v ≠ 0) (hv : v < 2 ^ 256) : 2 ^ (precS f - 1).toNat ≤ topB f m neg v ∧ topB f m neg v ≤ 2 * 2 ^ (precS f - 1).toNat := by
  obtain ⟨b1, b2, b3, b4, b5, b6⟩ := fmt_bd f h0 hf
  have h1 := cutS_le (raiseS v) (precS f) m neg (by omega) (by omega) (raise_lt v hv)
  have e : (2 : Nat) ^ (precS f).toNat = 2 * 2 ^ (precS f - 1).toNat := by rw [← Nat.pow_succ']; congr 1; omega
  refine ⟨?_, by rw [← e]; exact h1⟩
  have h2 := blen_le (raiseS v) (raise_ne v hz)
  rw [raise_blen v hz hv] at h2
  have h3 : 2 ^ (precS f - 1).toNat ≤ raiseS v / 2 ^ (256 - precS f).toNat := by
    rw [Nat.le_div_iff_mul_le (Nat.two_pow_pos _), ← Nat.pow_add, show (precS f - 1).toNat + (256 - precS f).toNat = 256 - 1 by omega]
    exact h2
  unfold topB
  rw [cutS_form _ _ _ _ (by omega) (by omega) (raise_lt v hv)]
  omega
theorem sub_bd (f m : Int) (neg : Bool) (K e : Int) (v : Nat) (h0 : 0 ≤ f) (hf : f < 4) (hz : v ≠ 0) (hv : v < 2 ^ 256) (hK : 0 ≤ nE e v + K) (hK2 : 16384 ≤ K) (hl : nE e v < leastS f) : subB f m neg e v ≤ 2 ^ (precS f - 1).toNat := by
  obtain ⟨h1, h2, h3⟩ := code_sub f m neg K e v h0 hf hz hv hK hK2 hl
  rw [← h1]
  unfold codeR codeX
  split <;> omega
theorem bit_full (x k : Nat) (h : x ≤ 2 ^ k) : x.testBit k = decide (x = 2 ^ k) := by
  by_cases e : x = 2 ^ k
  · subst e; simp [Nat.testBit_two_pow]
  · rw [Nat.testBit_lt_two_pow (by omega)]; simp [e]
theorem full_top (f m : Int) (neg : Bool) (v : Nat) (h0 : 0 ≤ f) (hf : f < 4) (hz : v ≠ 0) (hv : v < 2 ^ 256) : fullS f m neg v = decide (topB f m neg v = 2 * 2 ^ (precS f - 1).toNat) := by
  obtain ⟨b1, b2, b3, b4, b5, b6⟩ := fmt_bd f h0 hf
  have e : (2 : Nat) ^ (precS f).toNat = 2 * 2 ^ (precS f - 1).toNat := by rw [← Nat.pow_succ']; congr 1; omega
  obtain ⟨t1, t2⟩ := top_bd f m neg v h0 hf hz hv
  unfold fullS
  rw [bit_full _ _ (by rw [e]; exact t2), e]
theorem ofs_mul (a b u : Nat) : (a + b) * u = a * u + b * u := Nat.add_mul a b u
theorem over_top (f m : Int) (neg : Bool) (K e : Int) (v : Nat) (h0 : 0 ≤ f) (hf : f < 4) (hz : v ≠ 0) (hv : v < 2 ^ 256) (hK : 0 ≤ nE e v + K) (hK2 : 16384 ≤ K) (hl : leastS f ≤ nE e v) : emaxS f < eS f m neg e v ↔ infC f ≤ codeR f m neg K e v := by
  obtain ⟨h1, h2, h3⟩ := code_top f m neg K e v h0 hf hz hv hK hK2 hl
  obtain ⟨t1, t2⟩ := top_bd f m neg v h0 hf hz hv
  have hfu := full_top f m neg v h0 hf hz hv
  have hu := Nat.two_pow_pos (precS f - 1).toNat
  obtain ⟨x1, x2⟩ := fmt_ex f h0 hf
  rw [h1]
  unfold eS infC
  rw [hfu]
  have hd : (nE e v - leastS f).toNat = (nE e v - 1 + emaxS f).toNat := by unfold leastS; omega
  unfold leastS at hl
  rw [hd]
  generalize topB f m neg v = t at *
  generalize 2 ^ (precS f - 1).toNat = u at *
  by_cases hf2 : t = 2 * u
  · subst hf2
    rw [if_pos (by simp)]
    rw [← Nat.add_mul]
    constructor
    · intro h; exact Nat.mul_le_mul_right _ (by omega)
    · intro h
      have := Nat.le_of_mul_le_mul_right h hu
      omega
  · rw [if_neg (by simp [hf2])]
    constructor
    · intro h
      have := Nat.mul_le_mul_right u (show (2 * emaxS f + 1).toNat ≤ (nE e v - 1 + emaxS f).toNat + 1 by omega)
      rw [Nat.succ_mul] at this
      omega
    · intro h
      have h2 : (2 * emaxS f + 1).toNat * u < ((nE e v - 1 + emaxS f).toNat + 2) * u := by rw [Nat.add_mul]; omega
      have := Nat.lt_of_mul_lt_mul_right h2
      omega
theorem over_sub (f m : Int) (neg : Bool) (K e : Int) (v : Nat) (h0 : 0 ≤ f) (hf : f < 4) (hz : v ≠ 0) (hv : v < 2 ^ 256) (hK : 0 ≤ nE e v + K) (hK2 : 16384 ≤ K) (hl : nE e v < leastS f) : ¬ emaxS f < eS f m neg e v ∧ ¬ infC f ≤ codeR f m neg K e v := by
  obtain ⟨h1, h2, h3⟩ := code_sub f m neg K e v h0 hf hz hv hK hK2 hl
  have h4 := sub_bd f m neg K e v h0 hf hz hv hK hK2 hl
  obtain ⟨x1, x2⟩ := fmt_ex f h0 hf
  have hu := Nat.two_pow_pos (precS f - 1).toNat
  refine ⟨?_, ?_⟩
  · unfold leastS at hl; unfold eS; split <;> omega
  · rw [h1]
    have := Nat.mul_le_mul_right (2 ^ (precS f - 1).toNat) (show 2 ≤ (2 * emaxS f + 1).toNat by omega)
    unfold infC
    omega
/-- Whether a number is beyond the end, by its code. -/
theorem over_iff (f m : Int) (neg : Bool) (K e : Int) (v : Nat) (h0 : 0 ≤ f) (hf : f < 4) (hz : v ≠ 0) (hv : v < 2 ^ 256) (hK : 0 ≤ nE e v + K) (hK2 : 16384 ≤ K) : emaxS f < eS f m neg e v ↔ infC f ≤ codeR f m neg K e v := by
  by_cases hl : nE e v < leastS f
  · obtain ⟨h1, h2⟩ := over_sub f m neg K e v h0 hf hz hv hK hK2 hl
    exact ⟨fun h => absurd h h1, fun h => absurd h h2⟩
  · exact over_top f m neg K e v h0 hf hz hv hK hK2 (by omega)
/-- The bits. -/
theorem round_code (f m : Int) (neg : Bool) (K e : Int) (v : Nat) (h0 : 0 ≤ f) (hf : f < 4) (hz : v ≠ 0) (hv : v < 2 ^ 256) (hK : 0 ≤ nE e v + K) (hK2 : 16384 ≤ K) : roundB f m neg e v = endC f m neg (codeR f m neg K e v) + signN f neg := by
  have ho := over_iff f m neg K e v h0 hf hz hv hK hK2
  unfold roundB endC
  by_cases hx : emaxS f < eS f m neg e v
  · rw [if_pos hx, if_pos (ho.1 hx), overB_c f m neg h0 hf]
  · rw [if_neg hx, if_neg (fun h => hx (ho.2 h))]
    have hu := Nat.two_pow_pos (precS f - 1).toNat
    obtain ⟨x1, x2⟩ := fmt_ex f h0 hf
    by_cases hl : nE e v < leastS f
    · rw [if_pos hl]
      obtain ⟨h1, h2, h3⟩ := code_sub f m neg K e v h0 hf hz hv hK hK2 hl
      have h4 := sub_bd f m neg K e v h0 hf hz hv hK hK2 hl
      rw [h1]
      have hfi : fieldS f (subB f m neg e v) = if subB f m neg e v = 2 ^ (precS f - 1).toNat then 1 else 0 := by
        unfold fieldS; rw [bit_full _ _ h4]; simp
      rw [hfi]
      generalize subB f m neg e v = t at *
      by_cases ht : t = 2 ^ (precS f - 1).toNat
      · rw [if_pos ht, makeF_c f _ neg _ h0 hf (by omega) (by omega), ht, Nat.mod_self]
        simp
      · rw [if_neg ht, makeF_c f _ neg _ h0 hf (by omega) (by omega), Nat.mod_eq_of_lt (by omega)]
        simp
    · rw [if_neg hl]
      obtain ⟨h1, h2, h3⟩ := code_top f m neg K e v h0 hf hz hv hK hK2 (by omega)
      obtain ⟨t1, t2⟩ := top_bd f m neg v h0 hf hz hv
      have hfu := full_top f m neg v h0 hf hz hv
      have hx' := hx
      rw [h1]
      have hl' : leastS f ≤ nE e v := by omega
      unfold eS at hx' ⊢
      rw [hfu] at hx' ⊢
      have hle : leastS f = 1 - emaxS f := rfl
      generalize topB f m neg v = t at *
      by_cases ht : t = 2 * 2 ^ (precS f - 1).toNat
      · rw [if_pos (by simp [ht])] at hx' ⊢
        rw [makeF_c f _ neg _ h0 hf (by omega) (by omega), ht, Nat.mul_mod_left, show (nE e v + 1 - leastS f + 1).toNat = (nE e v - leastS f).toNat + 2 by omega, Nat.add_mul]
        omega
      · rw [if_neg (by rw [decide_eq_true_eq]; exact ht)] at hx' ⊢
        have hm : t % 2 ^ (precS f - 1).toNat = t - 2 ^ (precS f - 1).toNat := by
          rw [Nat.mod_eq_sub_mod t1, Nat.mod_eq_of_lt (by omega)]
        rw [makeF_c f _ neg _ h0 hf (by omega) (by omega), hm, show (nE e v - leastS f + 1).toNat = (nE e v - leastS f).toNat + 1 by omega, Nat.succ_mul]
        omega
end Go.Proofs.YtkpjeceofcfnkaaGreatDoor

namespace Go.Proofs.YtkpjeceofcfnkaaGreatDoor
open Go.RowKit Go.Hb
theorem next_mono (m : Int) (neg odd : Bool) {r s : Int} (h : r ≤ s) (hs : s ≤ 3) (hn : nextS m neg odd r = true) : nextS m neg odd s = true := by
  unfold nextS at *
  simp only [Bool.and_eq_true, decide_eq_true_eq] at *
  obtain ⟨⟨h1, h2⟩, h3⟩ := hn
  refine ⟨⟨by omega, hs⟩, ?_⟩
  unfold ruleS at *
  by_cases e0 : m = 0
  · rw [if_pos e0] at h3 ⊢
    cases odd <;> simp at h3 ⊢ <;> omega
  rw [if_neg e0] at h3 ⊢
  by_cases e1 : m = 1
  · rw [if_pos e1] at h3 ⊢
    simp at h3 ⊢
    omega
  rw [if_neg e1] at h3 ⊢
  exact h3
theorem codeX_le (p B : Nat) (m : Int) (neg : Bool) (X : Nat) : floorC p B X ≤ codeX p B m neg X ∧ codeX p B m neg X ≤ floorC p B X + 1 := by
  unfold codeX; split <;> omega
theorem codeX_mono (p B : Nat) (m : Int) (neg : Bool) {X Y : Nat} (hp : 1 ≤ p) (h : X ≤ Y) : codeX p B m neg X ≤ codeX p B m neg Y := by
  have h1 := floorC_mono p B hp h
  rcases Nat.lt_or_eq_of_le h1 with h2 | h2
  · have := (codeX_le p B m neg X).2
    have := (codeX_le p B m neg Y).1
    omega
  · unfold codeX
    rw [h2]
    have hr : restC p B X ≤ restC p B Y := by
      unfold restC; rw [h2]; exact restG_mono _ _ _ (by omega)
    have hb : restC p B Y ≤ 3 := (restG_bd _ _).2
    by_cases hn : nextS m neg (floorC p B Y % 2 == 1) (restC p B X) = true
    · rw [if_pos hn, if_pos (next_mono m neg _ hr hb hn)]; exact Nat.le_refl _
    · rw [if_neg hn]; omega
theorem endC_mono (f m : Int) (neg : Bool) {c d : Nat} (h : c ≤ d) : endC f m neg c ≤ endC f m neg d := by
  unfold endC
  by_cases h1 : infC f ≤ c
  · have h2 : infC f ≤ d := by omega
    simp only [if_pos h1, if_pos h2]; exact Nat.le_refl _
  · rw [if_neg h1]
    split
    · split <;> omega
    · exact h
theorem rest_self (p B c : Nat) (hp : 1 ≤ p) : restC p B (valC p B c) = 0 := by
  unfold restC; rw [floorC_valC p B c hp, Nat.sub_self]; rfl
theorem next_zero (m : Int) (neg odd : Bool) : nextS m neg odd 0 = false := by unfold nextS; simp
theorem codeX_self (p B c : Nat) (m : Int) (neg : Bool) (hp : 1 ≤ p) : codeX p B m neg (valC p B c) = c := by
  unfold codeX; rw [rest_self p B c hp, floorC_valC p B c hp, next_zero]; rfl
theorem rest_zero (p B X : Nat) (h : restC p B X = 0) : X = valC p B (floorC p B X) ∨ X < valC p B (floorC p B X) := by
  unfold restC restG at h
  by_cases h0 : X - valC p B (floorC p B X) = 0
  · omega
  · rw [if_neg h0] at h
    repeat' split at h
    all_goals omega
/-- Whether a number is tiny, before and after rounding. -/
def tinyX (p B : Nat) (m : Int) (aft neg : Bool) (X : Nat) : Bool := decide (floorC p B X < 2 ^ (p - 1)) && (!aft || decide (codeX p 0 m neg X < (B + 1) * 2 ^ (p - 1)))
def flagX (f m : Int) (aft neg : Bool) (B X : Nat) : Int := if infC f ≤ codeX (precS f).toNat B m neg X then 20 else flagsS (restC (precS f).toNat B X != 0) (tinyX (precS f).toNat B m aft neg X)
theorem code_zero (f m : Int) (neg : Bool) (K e : Int) (v : Nat) (h0 : 0 ≤ f) (hf : f < 4) (hz : v ≠ 0) (hv : v < 2 ^ 256) (hK : 0 ≤ nE e v + K) :
    codeX (precS f).toNat 0 m neg (numX K e v) = ((256 - precS f).toNat + (nE e v + K).toNat) * 2 ^ (precS f - 1).toNat + topB f m neg v := by
  obtain ⟨b1, b2, b3, b4, b5, b6⟩ := fmt_bd f h0 hf
  have hb := raise_blen v hz hv
  have hX := numX_raise K e v hz hv hK
  have hc : cutAt (precS f).toNat 0 (numX K e v) = (256 - precS f).toNat + (nE e v + K).toNat := by
    unfold cutAt
    rw [hX, blen_up _ _ (raise_ne v hz), hb]
    omega
  have hfl : floorC (precS f).toNat 0 (numX K e v) = ((256 - precS f).toNat + (nE e v + K).toNat) * 2 ^ (precS f - 1).toNat + raiseS v / 2 ^ (256 - precS f).toNat := by
    unfold floorC
    rw [hc, hX, floor_up, show (precS f).toNat - 1 = (precS f - 1).toNat by omega, Nat.sub_zero]
  have hr : restC (precS f).toNat 0 (numX K e v) = restN (raiseS v) (256 - precS f).toNat := by
    rw [restC_N _ _ _ (by omega), hc, hX, restN_up _ _ _ (by omega)]
  have ho : floorC (precS f).toNat 0 (numX K e v) % 2 = raiseS v / 2 ^ (256 - precS f).toNat % 2 := by
    rw [floorC_odd _ _ _ (by omega), hc, hX, floor_up]
  unfold codeX
  rw [ho, hr, hfl, topB, cutS_form _ _ _ _ (by omega) (by omega) (raise_lt v hv), Nat.add_assoc]
theorem tiny_after (f m : Int) (neg : Bool) (K e : Int) (v : Nat) (h0 : 0 ≤ f) (hf : f < 4) (hz : v ≠ 0) (hv : v < 2 ^ 256) (hK : 0 ≤ nE e v + K) (hK2 : 16384 ≤ K) :
    decide (eS f m neg e v < leastS f) = decide (codeX (precS f).toNat 0 m neg (numX K e v) < (unitB f K + 1) * 2 ^ ((precS f).toNat - 1)) := by
  obtain ⟨b1, b2, b3, b4, b5, b6⟩ := fmt_bd f h0 hf
  obtain ⟨l1, l2⟩ := leastS_bd f
  rw [code_zero f m neg K e v h0 hf hz hv hK, show (precS f).toNat - 1 = (precS f - 1).toNat by omega]
  have hfu := full_top f m neg v h0 hf hz hv
  obtain ⟨t1, t2⟩ := top_bd f m neg v h0 hf hz hv
  have hu := Nat.two_pow_pos (precS f - 1).toNat
  unfold eS
  rw [hfu]
  have hun : unitB f K = (leastS f - precS f + 256 + K).toNat := rfl
  generalize topB f m neg v = t at *
  generalize 2 ^ (precS f - 1).toNat = u at *
  rw [decide_eq_decide]
  by_cases ht : t = 2 * u
  · rw [if_pos (by simp [ht]), ht, ← Nat.add_mul]
    constructor
    · intro h; exact Nat.mul_lt_mul_of_pos_right (by omega) hu
    · intro h
      have := Nat.lt_of_mul_lt_mul_right h
      omega
  · rw [if_neg (by simp [ht])]
    constructor
    · intro h
      have := Nat.mul_le_mul_right u (show (256 - precS f).toNat + (nE e v + K).toNat + 2 ≤ unitB f K + 1 by omega)
      rw [Nat.add_mul _ 2] at this
      omega
    · intro h
      have h2 : ((256 - precS f).toNat + (nE e v + K).toNat + 1) * u < (unitB f K + 1) * u := by rw [Nat.succ_mul]; omega
      have := Nat.lt_of_mul_lt_mul_right h2
      omega
theorem tiny_before (f m : Int) (neg : Bool) (K e : Int) (v : Nat) (h0 : 0 ≤ f) (hf : f < 4) (hz : v ≠ 0) (hv : v < 2 ^ 256) (hK : 0 ≤ nE e v + K) (hK2 : 16384 ≤ K) :
    decide (nE e v < leastS f) = decide (floorC (precS f).toNat (unitB f K) (numX K e v) < 2 ^ ((precS f).toNat - 1)) := by
  obtain ⟨b1, b2, b3, b4, b5, b6⟩ := fmt_bd f h0 hf
  rw [decide_eq_decide, show (precS f).toNat - 1 = (precS f - 1).toNat by omega]
  by_cases hl : nE e v < leastS f
  · obtain ⟨h1, h2, h3⟩ := code_sub f m neg K e v h0 hf hz hv hK hK2 hl
    exact ⟨fun _ => h3, fun _ => hl⟩
  · obtain ⟨h1, h2, h3⟩ := code_top f m neg K e v h0 hf hz hv hK hK2 (by omega)
    refine ⟨fun h => absurd h hl, fun h => ?_⟩
    exfalso
    have hb := blen_le (raiseS v) (raise_ne v hz)
    rw [raise_blen v hz hv] at hb
    have : 2 ^ (precS f - 1).toNat ≤ raiseS v / 2 ^ (256 - precS f).toNat := by
      rw [Nat.le_div_iff_mul_le (Nat.two_pow_pos _), ← Nat.pow_add, show (precS f - 1).toNat + (256 - precS f).toNat = 256 - 1 by omega]
      exact hb
    rw [h3] at h
    omega
/-- The flags. -/
theorem round_flag (f m : Int) (aft neg : Bool) (K e : Int) (v : Nat) (h0 : 0 ≤ f) (hf : f < 4) (hz : v ≠ 0) (hv : v < 2 ^ 256) (hK : 0 ≤ nE e v + K) (hK2 : 16384 ≤ K) : roundFl f m aft neg e v = flagX f m aft neg (unitB f K) (numX K e v) := by
  have ho := over_iff f m neg K e v h0 hf hz hv hK hK2
  unfold codeR at ho
  have hin : inexactS f e v = (restC (precS f).toNat (unitB f K) (numX K e v) != 0) := by
    by_cases hl : nE e v < leastS f
    · exact (code_sub f m neg K e v h0 hf hz hv hK hK2 hl).2.1
    · exact (code_top f m neg K e v h0 hf hz hv hK hK2 (by omega)).2.1
  unfold roundFl flagX tinyS tinyX
  rw [hin, tiny_before f m neg K e v h0 hf hz hv hK hK2, tiny_after f m neg K e v h0 hf hz hv hK hK2]
  by_cases hx : emaxS f < eS f m neg e v
  · rw [if_pos hx, if_pos (ho.1 hx)]
  · rw [if_neg hx, if_neg (fun h => hx (ho.2 h))]
end Go.Proofs.YtkpjeceofcfnkaaGreatDoor

namespace Go.Proofs.YtkpjeceofcfnkaaGreatDoor
open Go.RowKit Go.Hb
def KK : Int := 2199023255552
theorem kk_bd (e : Int) (v : Nat) (hv : v < 2 ^ 256) : 0 ≤ nE e v + KK ∧ 16384 ≤ KK := by
  obtain ⟨h0, h1⟩ := nE_bd e v hv
  unfold KK; omega
theorem infC_pos (f : Int) : 0 < infC f := by
  obtain ⟨m0, m1⟩ := emaxS_bd f
  unfold infC
  exact Nat.mul_pos (by omega) (Nat.two_pow_pos _)
theorem floorC_zero (p B : Nat) : floorC p B 0 = 0 := by
  have h : cutAt p B 0 = B := by unfold cutAt; rw [blen_zero, Nat.zero_sub]; exact Nat.max_eq_right (Nat.zero_le _)
  unfold floorC
  rw [h, Nat.sub_self, Nat.zero_mul, Nat.zero_div]
theorem restC_zero (p B : Nat) : restC p B 0 = 0 := by
  unfold restC; rw [floorC_zero, valC_zero, Nat.sub_self]; rfl
theorem codeX_zero (p B : Nat) (m : Int) (neg : Bool) : codeX p B m neg 0 = 0 := by
  unfold codeX; rw [floorC_zero, restC_zero, next_zero]; rfl
theorem numX_zero (K e : Int) : numX K e 0 = 0 := by unfold numX; rw [Nat.zero_mul]
theorem makeF_zero (f : Int) (neg : Bool) (hf : f < 4) : makeF f neg 0 0 = signN f neg := by
  unfold makeF signN
  rw [if_neg (by omega)]
  simp
/-- The bits by the code, nought included. -/
theorem res_code (f m : Int) (neg : Bool) (e : Int) (v : Nat) (h0 : 0 ≤ f) (hf : f < 4) (hm : m ≤ 4) (hv : v < 2 ^ 256) : resB f m neg e v = endC f m neg (codeR f m neg KK e v) + signN f neg := by
  obtain ⟨k1, k2⟩ := kk_bd e v hv
  unfold resB
  rw [if_pos ⟨hf, hm⟩]
  by_cases hz : v = 0
  · subst hz
    rw [if_pos rfl, makeF_zero f neg hf]
    unfold codeR
    rw [numX_zero, codeX_zero]
    unfold endC
    rw [if_neg (by have := infC_pos f; omega), Nat.zero_add]
  · rw [if_neg hz]
    exact round_code f m neg KK e v h0 hf hz hv k1 k2
theorem res_flag (f m : Int) (aft neg : Bool) (e : Int) (v : Nat) (h0 : 0 ≤ f) (hf : f < 4) (hm : m ≤ 4) (hv : v < 2 ^ 256) : resFl f m aft neg e v = flagX f m aft neg (unitB f KK) (numX KK e v) := by
  obtain ⟨k1, k2⟩ := kk_bd e v hv
  unfold resFl
  rw [if_pos ⟨hf, hm⟩]
  by_cases hz : v = 0
  · subst hz
    rw [if_pos rfl]
    unfold flagX
    rw [numX_zero, codeX_zero, restC_zero, if_neg (by have := infC_pos f; omega)]
    rfl
  · rw [if_neg hz]
    exact round_flag f m aft neg KK e v h0 hf hz hv k1 k2
theorem res_none (f m : Int) (neg : Bool) (e : Int) (v : Nat) (h : ¬ (f < 4 ∧ m ≤ 4)) : resB f m neg e v = 0 := by unfold resB; rw [if_neg h]
theorem resFl_none (f m : Int) (aft neg : Bool) (e : Int) (v : Nat) (h : ¬ (f < 4 ∧ m ≤ 4)) : resFl f m aft neg e v = 0 := by unfold resFl; rw [if_neg h]
/-- How great bits may be. -/
theorem makeF_lt (f : Int) (neg : Bool) (e : Int) (x : Nat) (h0 : 0 ≤ f) : makeF f neg e x < 2 ^ 128 := by
  by_cases hf : f < 4
  · have h1 := mk_lt f (if e < 0 ∨ 1048576 < e then 0 else e.toNat) h0 hf
    have h2 := mk_pow f h0 hf
    have h3 := Nat.mod_lt x (Nat.two_pow_pos (precS f - 1).toNat)
    unfold makeF
    rw [if_neg (by omega)]
    rw [two128]
    generalize (if e < 0 ∨ 1048576 < e then 0 else e.toNat) = E at *
    split <;> omega
  · unfold makeF; rw [if_pos (by omega)]; decide
theorem resB_lt (f m : Int) (neg : Bool) (e : Int) (v : Nat) (h0 : 0 ≤ f) : resB f m neg e v < 2 ^ 128 := by
  unfold resB roundB overB
  repeat' split
  all_goals first | exact makeF_lt _ _ _ _ h0 | decide
theorem cat_small (n : Nat) (h : n < 2 ^ 128) : cat (hi n) (lo n) = n := cat_hl n (by rw [← two128]; exact h)
/-- The mirror. -/
theorem next_mir (m : Int) (odd : Bool) (r : Int) : nextS (mirS m) true odd r = nextS m false odd r := by
  unfold nextS ruleS mirS
  by_cases h2 : m = 2
  · subst h2; simp
  · by_cases h3 : m = 3
    · subst h3; simp
    · rw [if_neg h2, if_neg h3, if_neg h2, if_neg h3, if_neg h2, if_neg h3]
theorem codeX_mir (p B : Nat) (m : Int) (X : Nat) : codeX p B (mirS m) true X = codeX p B m false X := by
  unfold codeX; rw [next_mir]
theorem endC_mir (f m : Int) (c : Nat) : endC f (mirS m) true c = endC f m false c := by
  unfold endC; rw [next_mir]
theorem mir_known (m : Int) : mirS m ≤ 4 ↔ m ≤ 4 := by unfold mirS; repeat' split <;> omega
theorem res_mir (f m e : Int) (v : Nat) (h0 : 0 ≤ f) (hf : f < 4) (hm : m ≤ 4) (hv : v < 2 ^ 256) : resB f (mirS m) true e v = resB f m false e v + signN f true := by
  rw [res_code f (mirS m) true e v h0 hf ((mir_known m).2 hm) hv, res_code f m false e v h0 hf hm hv]
  unfold codeR
  rw [codeX_mir, endC_mir]
  simp [signN]
theorem resFl_mir (f m e : Int) (aft : Bool) (v : Nat) (h0 : 0 ≤ f) (hf : f < 4) (hm : m ≤ 4) (hv : v < 2 ^ 256) : resFl f (mirS m) aft true e v = resFl f m aft false e v := by
  rw [res_flag f (mirS m) aft true e v h0 hf ((mir_known m).2 hm) hv, res_flag f m aft false e v h0 hf hm hv]
  unfold flagX tinyX
  rw [codeX_mir, codeX_mir]
/-- Order. -/
theorem res_mono (f m e e' : Int) (a b : Nat) (h0 : 0 ≤ f) (ha : a < 2 ^ 256) (hb : b < 2 ^ 256) (h : numX KK e a ≤ numX KK e' b) : resB f m false e a ≤ resB f m false e' b := by
  by_cases hk : f < 4 ∧ m ≤ 4
  · rw [res_code f m false e a h0 hk.1 hk.2 ha, res_code f m false e' b h0 hk.1 hk.2 hb]
    obtain ⟨b1, b2, b3, b4, b5, b6⟩ := fmt_bd f h0 hk.1
    exact Nat.add_le_add_right (endC_mono f m false (codeX_mono _ _ _ _ (by omega) h)) _
  · rw [res_none f m false e a hk, res_none f m false e' b hk]; exact Nat.le_refl _
theorem numX_le (K e : Int) (a b : Nat) (h : a ≤ b) : numX K e a ≤ numX K e b := Nat.mul_le_mul_right _ h
theorem numX_le_e (K e e' : Int) (b : Nat) (h : e ≤ e') : numX K e b ≤ numX K e' b := by
  unfold numX farS
  exact Nat.mul_le_mul_left _ (Nat.pow_le_pow_right (by omega) (by omega))
/-- Neighbours. -/
theorem next_up (neg odd : Bool) (r : Int) (h0 : 0 ≤ r) (h3 : r ≤ 3) : nextS 2 false odd r = (r != 0) := by
  unfold nextS ruleS; rw [Bool.eq_iff_iff]; simp; omega
theorem next_down (odd : Bool) (r : Int) : nextS 3 false odd r = false := by unfold nextS ruleS; simp
theorem restC_bd (p B X : Nat) : 0 ≤ restC p B X ∧ restC p B X ≤ 3 := restG_bd _ _
theorem code_up (p B X : Nat) : codeX p B 2 false X = if restC p B X = 0 then floorC p B X else floorC p B X + 1 := by
  obtain ⟨h0, h3⟩ := restC_bd p B X
  unfold codeX
  rw [next_up false _ _ h0 h3]
  by_cases h : restC p B X = 0
  · rw [if_pos h, h]; rfl
  · rw [if_neg h, if_pos (by simpa using h)]
theorem code_down (p B X : Nat) : codeX p B 3 false X = floorC p B X := by unfold codeX; rw [next_down]; rfl
theorem code_two (p B : Nat) (m : Int) (X : Nat) : codeX p B m false X = codeX p B 2 false X ∨ codeX p B m false X = codeX p B 3 false X := by
  rw [code_up, code_down]
  by_cases h : restC p B X = 0
  · right; unfold codeX; rw [h, next_zero]; rfl
  · rw [if_neg h]; unfold codeX; split
    · left; rfl
    · right; rfl
theorem endC_up (f : Int) (c : Nat) : endC f 2 false c = if infC f ≤ c then infC f else c := by
  unfold endC; rfl
theorem endC_down (f : Int) (c : Nat) : endC f 3 false c = if infC f ≤ c then infC f - 1 else c := by
  unfold endC; rfl
theorem endC_two (f m : Int) (c : Nat) : infC f ≤ c → endC f m false c = infC f ∨ endC f m false c = infC f - 1 := by
  intro h; unfold endC; rw [if_pos h]; split
  · exact Or.inl rfl
  · exact Or.inr rfl
/-- A flag but for Overflow. -/
def noOver (x : Int) : Int := if x = 20 then 16 else x
theorem neigh (f m e : Int) (v : Nat) (h0 : 0 ≤ f) (hf : f < 4) (hm : m ≤ 4) (hv : v < 2 ^ 256) :
    (resB f m false e v = resB f 2 false e v ∨ resB f m false e v = resB f 3 false e v) ∧ noOver (resFl f m false false e v) = noOver (resFl f 3 false false e v) ∧
    ((resFl f 2 false false e v = 0 ∧ resFl f 3 false false e v = 0 ∧ resB f 2 false e v = resB f 3 false e v) ∨ (resFl f 2 false false e v ≠ 0 ∧ resB f 2 false e v = resB f 3 false e v + 1)) := by
  obtain ⟨b1, b2, b3, b4, b5, b6⟩ := fmt_bd f h0 hf
  rw [res_code f m false e v h0 hf hm hv, res_code f 2 false e v h0 hf (by omega) hv, res_code f 3 false e v h0 hf (by omega) hv, res_flag f m false false e v h0 hf hm hv, res_flag f 2 false false e v h0 hf (by omega) hv, res_flag f 3 false false e v h0 hf (by omega) hv]
  have hs : signN f false = 0 := rfl
  rw [hs]
  unfold codeR flagX tinyX
  simp only [Bool.not_false, Bool.true_or, Bool.and_true, Nat.add_zero]
  have hi := infC_pos f
  have hun : unitB f KK = unitB f KK := rfl
  have hfl0 : 2 ^ ((precS f).toNat - 1) < infC f := by
    obtain ⟨x1, x2⟩ := fmt_ex f h0 hf
    have hu := Nat.two_pow_pos ((precS f).toNat - 1)
    unfold infC
    rw [show (precS f - 1).toNat = (precS f).toNat - 1 by omega]
    have := Nat.mul_le_mul_right (2 ^ ((precS f).toNat - 1)) (show 2 ≤ (2 * emaxS f + 1).toNat by omega)
    omega
  have hcu := code_up (precS f).toNat (unitB f KK) (numX KK e v)
  have hcd := code_down (precS f).toNat (unitB f KK) (numX KK e v)
  have hcm := code_two (precS f).toNat (unitB f KK) m (numX KK e v)
  generalize codeX (precS f).toNat (unitB f KK) 2 false (numX KK e v) = cu at *
  generalize codeX (precS f).toNat (unitB f KK) 3 false (numX KK e v) = cd at *
  generalize codeX (precS f).toNat (unitB f KK) m false (numX KK e v) = cm at *
  generalize floorC (precS f).toNat (unitB f KK) (numX KK e v) = c at *
  generalize restC (precS f).toNat (unitB f KK) (numX KK e v) = r at *
  generalize 2 ^ ((precS f).toNat - 1) = u at *
  rw [endC_up, endC_down]
  have hem := endC_two f m cm
  have hem2 : ¬ infC f ≤ cm → endC f m false cm = cm := fun h => by unfold endC; rw [if_neg h]
  generalize endC f m false cm = em at *
  subst hcd
  by_cases hr : r = 0
  · subst hr
    rw [if_pos rfl] at hcu
    subst hcu
    have : cm = cu := by rcases hcm with h | h <;> exact h
    subst this
    have e1 : ((0 : Int) != 0) = false := rfl
    simp only [e1, flagsS_f]
    by_cases ho : infC f ≤ cm
    · simp only [if_pos ho]
      refine ⟨hem ho, (by first | rfl | trivial), Or.inr ⟨by first | trivial | decide, by omega⟩⟩
    · simp only [if_neg ho]
      exact ⟨Or.inl (hem2 ho), (by first | rfl | trivial), Or.inl ⟨(by first | rfl | trivial), (by first | rfl | trivial), (by first | rfl | trivial)⟩⟩
  · rw [if_neg hr] at hcu
    have e1 : (r != 0) = true := by simpa using hr
    simp only [e1]
    by_cases ho : infC f ≤ cd
    · have ho2 : infC f ≤ cu := by omega
      have ho3 : infC f ≤ cm := by rcases hcm with h | h <;> omega
      simp only [if_pos ho, if_pos ho2, if_pos ho3]
      exact ⟨hem ho3, (by first | rfl | trivial), Or.inr ⟨by first | trivial | decide, by omega⟩⟩
    · by_cases ho2 : infC f ≤ cu
      · have hcu2 : cu = infC f := by omega
        have ht : decide (cd < u) = false := decide_eq_false (by omega)
        simp only [if_neg ho, if_pos ho2, ht]
        rcases hcm with h | h
        · have ho3 : infC f ≤ cm := by omega
          simp only [if_pos ho3]
          refine ⟨?_, by first | trivial | decide, Or.inr ⟨by first | trivial | decide, by omega⟩⟩
          rcases hem ho3 with h' | h'
          · exact Or.inl h'
          · right; omega
        · have ho3 : ¬ infC f ≤ cm := by omega
          simp only [if_neg ho3]
          exact ⟨Or.inr (by rw [hem2 ho3, h]), (by first | rfl | trivial), Or.inr ⟨by first | trivial | decide, by omega⟩⟩
      · have ho3 : ¬ infC f ≤ cm := by rcases hcm with h | h <;> omega
        simp only [if_neg ho, if_neg ho2, if_neg ho3]
        rw [hem2 ho3]
        refine ⟨hcm, (by first | rfl | trivial), Or.inr ⟨?_, hcu⟩⟩
        cases decide (cd < u) <;> decide
end Go.Proofs.YtkpjeceofcfnkaaGreatDoor

namespace Go.Hb
theorem jamN_blen (v n : Nat) (hv : v / 2 ^ n ≠ 0) : blen (jamN v n) = blen (v / 2 ^ n) := by
  have h := jamN_half v n
  apply blen_unique
  · have h1 := blen_lt (v / 2 ^ n)
    have h2 := blen_pos (v / 2 ^ n) hv
    have e : 2 ^ blen (v / 2 ^ n) = 2 * 2 ^ (blen (v / 2 ^ n) - 1) := by rw [← Nat.pow_succ']; congr 1; omega
    rw [e] at h1 ⊢
    omega
  · right
    have h1 := blen_le (v / 2 ^ n) hv
    have h2 := blen_pos (v / 2 ^ n) hv
    have h4 : v / 2 ^ n ≤ jamN v n := by
      unfold jamN
      split
      · exact Nat.le_refl _
      · rw [or_one]; omega
    omega
theorem blen_div (v n : Nat) (h : n < blen v) : blen (v / 2 ^ n) = blen v - n ∧ v / 2 ^ n ≠ 0 := by
  have hv : v ≠ 0 := by intro h0; subst h0; rw [blen_zero] at h; omega
  have h1 := blen_lt v
  have h2 := blen_le v hv
  have key : 2 ^ (blen v - n - 1) ≤ v / 2 ^ n := by
    rw [Nat.le_div_iff_mul_le (Nat.two_pow_pos _), ← Nat.pow_add, show blen v - n - 1 + n = blen v - 1 by omega]
    exact h2
  refine ⟨blen_unique ?_ (Or.inr key), fun h0 => ?_⟩
  · rw [Nat.div_lt_iff_lt_mul (Nat.two_pow_pos _), ← Nat.pow_add, show blen v - n + n = blen v by omega]
    exact h1
  · rw [h0] at key
    have := Nat.two_pow_pos (blen v - n - 1)
    omega
/-- A jammed number, p + 2 bits of it left: the same floor, the same rest. -/
theorem jam_same (p B v n k : Nat) (hp : 1 ≤ p) (h : p + 2 + n ≤ blen v) : floorC p B (jamN v n * 2 ^ (k + n)) = floorC p B (v * 2 ^ k) ∧ restC p B (jamN v n * 2 ^ (k + n)) = restC p B (v * 2 ^ k) := by
  obtain ⟨b1, b2⟩ := blen_div v n (by omega)
  have b3 := jamN_blen v n b2
  have hv : v ≠ 0 := by intro h0; subst h0; rw [blen_zero] at h; omega
  have hj : jamN v n ≠ 0 := by
    intro h0
    rw [h0, blen_zero] at b3
    omega
  have hbl : ∀ (x j : Nat), x ≠ 0 → blen (x * 2 ^ j) = blen x + j := by
    intro x j hx
    have g1 := blen_lt x
    have g2 := blen_le x hx
    have g3 := blen_pos x hx
    apply blen_unique
    · rw [Nat.pow_add]; exact Nat.mul_lt_mul_of_pos_right g1 (Nat.two_pow_pos j)
    · right
      rw [show blen x + j - 1 = blen x - 1 + j by omega, Nat.pow_add]
      exact Nat.mul_le_mul_right _ g2
  have hc : cutAt p B (jamN v n * 2 ^ (k + n)) = cutAt p B (v * 2 ^ k) := by
    unfold cutAt
    rw [hbl _ _ hj, hbl _ _ hv, b3, b1]
    congr 1; omega
  have ht : k + n + 2 ≤ cutAt p B (v * 2 ^ k) := by
    have : blen (v * 2 ^ k) - p ≤ cutAt p B (v * 2 ^ k) := Nat.le_max_left _ _
    rw [hbl _ _ hv] at this
    omega
  have e1 : jamN v n * 2 ^ (k + n) / 2 ^ cutAt p B (v * 2 ^ k) = v * 2 ^ k / 2 ^ cutAt p B (v * 2 ^ k) := by
    generalize cutAt p B (v * 2 ^ k) = t at *
    obtain ⟨s, rfl⟩ : ∃ s, t = s + (k + n) := ⟨t - (k + n), by omega⟩
    rw [floor_up, jam_floor _ _ _ (by omega), show s + (k + n) = (n + s) + k by omega, floor_up]
  constructor
  · unfold floorC
    rw [hc, e1]
  · rw [restC_N _ _ _ hp, restC_N _ _ _ hp, hc]
    generalize cutAt p B (v * 2 ^ k) = t at *
    obtain ⟨s, rfl⟩ : ∃ s, t = s + (k + n) := ⟨t - (k + n), by omega⟩
    rw [restN_up _ _ _ (by omega), jam_rest _ _ _ (by omega), show s + (k + n) = (n + s) + k by omega, restN_up _ _ _ (by omega)]
end Go.Hb
namespace Go.Proofs.YtkpjeceofcfnkaaGreatDoor
open Go.RowKit Go.Hb
theorem jam_num (f m e : Int) (v : Nat) (n : Int) (neg : Bool) (h0 : 0 ≤ f) (hf : f < 4) (hb : blen v = 256) (hv : v < 2 ^ 256) (n0 : 0 ≤ n) (n1 : n ≤ 139) (e0 : -1073741824 ≤ e) (e1 : e ≤ 1073741824) (B : Nat) :
    floorC (precS f).toNat B (numX KK (e + n) (jamN v n.toNat)) = floorC (precS f).toNat B (numX KK e v) ∧ restC (precS f).toNat B (numX KK (e + n) (jamN v n.toNat)) = restC (precS f).toNat B (numX KK e v) := by
  obtain ⟨b1, b2, b3, b4, b5, b6⟩ := fmt_bd f h0 hf
  unfold numX
  have k1 : (farS (e + n) + KK).toNat = (farS e + KK).toNat + n.toNat := by unfold farS KK; omega
  rw [k1]
  exact jam_same _ B v n.toNat _ (by omega) (by omega)
theorem jam_bits (f m e : Int) (aft : Bool) (v : Nat) (n : Int) (neg : Bool) (h0 : 0 ≤ f) (hb : blen v = 256) (hv : v < 2 ^ 256) (n0 : 0 ≤ n) (n1 : n ≤ 139) (e0 : -1073741824 ≤ e) (e1 : e ≤ 1073741824) :
    resB f m neg (e + n) (jamS v n) = resB f m neg e v ∧ resFl f m aft neg (e + n) (jamS v n) = resFl f m aft neg e v := by
  rw [jamS_N]
  by_cases hk : f < 4 ∧ m ≤ 4
  · have hj : jamN v n.toNat < 2 ^ 256 := by
      have h := jamN_half v n.toNat
      have : v / 2 ^ n.toNat ≤ v := Nat.div_le_self _ _
      have e : (2 : Nat) ^ 256 = 2 * 2 ^ 255 := by rw [← Nat.pow_succ']
      omega
    rw [res_code f m neg (e + n) _ h0 hk.1 hk.2 hj, res_code f m neg e v h0 hk.1 hk.2 hv, res_flag f m aft neg (e + n) _ h0 hk.1 hk.2 hj, res_flag f m aft neg e v h0 hk.1 hk.2 hv]
    obtain ⟨j1, j2⟩ := jam_num f m e v n neg h0 hk.1 hb hv n0 n1 e0 e1 (unitB f KK)
    obtain ⟨j3, j4⟩ := jam_num f m e v n neg h0 hk.1 hb hv n0 n1 e0 e1 0
    unfold codeR flagX tinyX codeX
    rw [j1, j2, j3, j4]
    exact ⟨rfl, rfl⟩
  · rw [res_none f m neg _ _ hk, res_none f m neg _ _ hk, resFl_none f m aft neg _ _ hk, resFl_none f m aft neg _ _ hk]
    exact ⟨rfl, rfl⟩
/-- Tininess: what is not tiny after rounding, and was before, is rounded to the least normal number. -/
theorem tiny_least (p B : Nat) (m : Int) (neg : Bool) (X : Nat) (hp : 2 ≤ p) (hB : 1 ≤ B) (h1 : floorC p B X < 2 ^ (p - 1)) (h2 : (B + 1) * 2 ^ (p - 1) ≤ codeX p 0 m neg X) : codeX p B m neg X = 2 ^ (p - 1) := by
  have hu := Nat.two_pow_pos (p - 1)
  have hX : X < valC p B (2 ^ (p - 1)) := by
    have := floorC_lt p B X (by omega)
    have := valC_le p B (show floorC p B X + 1 ≤ 2 ^ (p - 1) from h1)
    omega
  have e1 : valC p B (2 ^ (p - 1)) = 2 ^ (p - 1) * 2 ^ B := by
    have := valC_mk p B B (2 ^ (p - 1)) (Nat.le_refl _) (by omega) (Or.inl rfl)
    rw [Nat.sub_self, Nat.zero_mul, Nat.zero_add] at this
    exact this
  have e2 : valC p 0 ((B + 1) * 2 ^ (p - 1)) = 2 ^ (p - 1) * 2 ^ B := by
    have := valC_mk p 0 B (2 ^ (p - 1)) (by omega) (by omega) (Or.inr (Nat.le_refl _))
    rw [Nat.sub_zero] at this
    rw [Nat.succ_mul]
    exact this
  have e3 : valC p 0 ((B + 1) * 2 ^ (p - 1) - 1) = (2 * 2 ^ (p - 1) - 1) * 2 ^ (B - 1) := by
    have := valC_mk p 0 (B - 1) (2 * 2 ^ (p - 1) - 1) (by omega) (by omega) (Or.inr (by omega))
    rw [Nat.sub_zero] at this
    rw [← this]
    congr 1
    have : (B + 1) * 2 ^ (p - 1) = (B - 1) * 2 ^ (p - 1) + 2 * 2 ^ (p - 1) := by rw [← Nat.add_mul]; congr 1; omega
    omega
  have hf : floorC p 0 X < (B + 1) * 2 ^ (p - 1) := by
    have g := floorC_le p 0 X (by omega)
    rcases Nat.lt_or_ge (floorC p 0 X) ((B + 1) * 2 ^ (p - 1)) with c | c
    · exact c
    · have := valC_le p 0 c
      omega
  have hc := (codeX_le p 0 m neg X).2
  have hfl : floorC p 0 X = (B + 1) * 2 ^ (p - 1) - 1 := by omega
  have hn : nextS m neg (floorC p 0 X % 2 == 1) (restC p 0 X) = true := by
    by_cases hn : nextS m neg (floorC p 0 X % 2 == 1) (restC p 0 X) = true
    · exact hn
    · unfold codeX at h2
      rw [if_neg hn] at h2
      omega
  have hr0 : restC p 0 X ≠ 0 := by intro h; rw [h, next_zero] at hn; exact absurd hn (by decide)
  have hgt : (2 * 2 ^ (p - 1) - 1) * 2 ^ (B - 1) < X := by
    have g := floorC_le p 0 X (by omega)
    rw [hfl, e3] at g
    rcases Nat.lt_or_eq_of_le g with c | c
    · exact c
    · exfalso
      apply hr0
      unfold restC
      rw [hfl, e3, c, Nat.sub_self]
      rfl
  have eu : 2 ^ B = 2 * 2 ^ (B - 1) := by rw [← Nat.pow_succ']; congr 1; omega
  have ep : 2 ^ (p - 1) = 2 * 2 ^ (p - 2) := by rw [← Nat.pow_succ']; congr 1; omega
  have hcl : floorC p B X = 2 ^ (p - 1) - 1 := by
    apply floorC_eq p B X _ (by omega)
    · have := valC_mk p B B (2 ^ (p - 1) - 1) (Nat.le_refl _) (by omega) (Or.inl rfl)
      rw [Nat.sub_self, Nat.zero_mul, Nat.zero_add] at this
      rw [this, eu]
      have k1 : (2 ^ (p - 1) - 1) * (2 * 2 ^ (B - 1)) = (2 * 2 ^ (p - 1) - 2) * 2 ^ (B - 1) := by
        rw [← Nat.mul_assoc]; congr 1; omega
      rw [k1]
      have k2 := Nat.mul_le_mul_right (2 ^ (B - 1)) (show 2 * 2 ^ (p - 1) - 2 ≤ 2 * 2 ^ (p - 1) - 1 by omega)
      omega
    · rw [Nat.sub_add_cancel (by omega)]; exact hX
  have hv1 : valC p B (2 ^ (p - 1) - 1) = (2 * 2 ^ (p - 1) - 2) * 2 ^ (B - 1) := by
    have := valC_mk p B B (2 ^ (p - 1) - 1) (Nat.le_refl _) (by omega) (Or.inl rfl)
    rw [Nat.sub_self, Nat.zero_mul, Nat.zero_add] at this
    rw [this, eu, ← Nat.mul_assoc]; congr 1; omega
  have hrest : restC p B X = 3 := by
    unfold restC
    rw [hcl, Nat.sub_add_cancel (by omega), e1, hv1]
    unfold restG
    have hU := Nat.two_pow_pos (B - 1)
    generalize hg : 2 ^ (B - 1) = g at *
    generalize 2 ^ (p - 1) = u at *
    have k1 : (2 * u - 1) * g = (2 * u - 2) * g + g := by rw [← Nat.succ_mul]; congr 1; omega
    have k2 : u * 2 ^ B = (2 * u - 2) * g + 2 * g := by rw [eu, ← Nat.add_mul, ← Nat.mul_assoc, Nat.mul_comm u 2]; congr 1; omega
    rw [k2]
    rw [if_neg (by omega), if_neg (by omega), if_neg (by omega)]
  have hodd : (floorC p B X % 2 == 1) = (floorC p 0 X % 2 == 1) := by
    rw [hcl, hfl]
    have a1 : (2 ^ (p - 1) - 1) % 2 = 1 := by omega
    have a2 : ((B + 1) * 2 ^ (p - 1) - 1) % 2 = 1 := by
      have : (B + 1) * 2 ^ (p - 1) = 2 * ((B + 1) * 2 ^ (p - 2)) := by rw [ep, ← Nat.mul_assoc, Nat.mul_comm (B + 1) 2, Nat.mul_assoc]
      have hpos : 0 < (B + 1) * 2 ^ (p - 2) := Nat.mul_pos (by omega) (Nat.two_pow_pos _)
      omega
    rw [a1, a2]
  unfold codeX
  rw [hodd, hrest, if_pos (next_mono m neg _ (restC_bd p 0 X).2 (by omega) hn), hcl]
  omega
end Go.Proofs.YtkpjeceofcfnkaaGreatDoor
