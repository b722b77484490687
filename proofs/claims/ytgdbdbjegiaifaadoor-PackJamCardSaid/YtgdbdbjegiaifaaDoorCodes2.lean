/- What pack.Round answers: the bits are a sign and the code, the end heeded. No condition. -/
import Derived.Test.YtgdbdbjegiaifaaDoorCodes
set_option linter.unusedSimpArgs false
set_option linter.unusedVariables false
namespace Go.Proofs.YtgdbdbjegiaifaaDoor
open Go.RowKit Go.Hb
theorem fmt_ex (f : Int) (h0 : 0 ≤ f) (hf : f < 4) : 2 ^ (widthS f - precS f).toNat = (2 * emaxS f + 2).toNat ∧ 15 ≤ emaxS f := by
  have : f = 0 ∨ f = 1 ∨ f = 2 ∨ f = 3 := by omega
  rcases this with rfl | rfl | rfl | rfl <;> exact ⟨by decide, by decide⟩
theorem makeF_c (f e : Int) (neg : Bool) (x : Nat) (h0 : 0 ≤ f) (hf : f < 4) (e0 : 0 ≤ e) (e1 : e ≤ 2 * emaxS f + 1) : makeF f neg e x = e.toNat * 2 ^ (precS f - 1).toNat + x % 2 ^ (precS f - 1).toNat + signN f neg := by
  obtain ⟨x1, x2⟩ := fmt_ex f h0 hf
  obtain ⟨m0, m1⟩ := emaxS_bd f
  unfold makeF signN
  rw [if_neg (by omega), if_neg (by omega), x1, Nat.mod_eq_of_lt (by omega)]
theorem ones_mod (k : Nat) (h : k ≤ 128) : (2 ^ 128 - 1) % 2 ^ k = 2 ^ k - 1 := by
  have e : (2 : Nat) ^ 128 = 2 ^ k * 2 ^ (128 - k) := by rw [← Nat.pow_add]; congr 1; omega
  have h1 := Nat.two_pow_pos k
  have h2 := Nat.two_pow_pos (128 - k)
  rw [e]
  generalize 2 ^ (128 - k) = y at *
  generalize 2 ^ k = x at *
  have e2 : x * y - 1 = (x - 1) + x * (y - 1) := by
    have : x * y = x * (y - 1) + x := by rw [← Nat.mul_succ, Nat.succ_eq_add_one, Nat.sub_add_cancel h2]
    omega
  rw [e2, Nat.add_mul_mod_self_left, Nat.mod_eq_of_lt (by omega)]
theorem overB_c (f m : Int) (neg : Bool) (h0 : 0 ≤ f) (hf : f < 4) : overB f m neg = (if nextS m neg true 3 then infC f else infC f - 1) + signN f neg := by
  obtain ⟨b1, b2, b3, b4, b5, b6⟩ := fmt_bd f h0 hf
  obtain ⟨x1, x2⟩ := fmt_ex f h0 hf
  have hu := Nat.two_pow_pos (precS f - 1).toNat
  have c1 : cat 18446744073709551615 18446744073709551615 = 2 ^ 128 - 1 := by rfl
  unfold overB infC
  split
  · rw [makeF_c f _ neg _ h0 hf (by omega) (by omega), Nat.zero_mod, Nat.add_zero]
  · rw [makeF_c f _ neg _ h0 hf (by omega) (by omega), c1, ones_mod _ (by omega), show (2 * emaxS f + 1).toNat = (2 * emaxS f).toNat + 1 by omega, Nat.succ_mul]
    omega
theorem top_bd (f m : Int) (neg : Bool) (v : Nat) (h0 : 0 ≤ f) (hf : f < 4) (hz : v ≠ 0) (hv : v < 2 ^ 256) : 2 ^ (precS f - 1).toNat ≤ topB f m neg v ∧ topB f m neg v ≤ 2 * 2 ^ (precS f - 1).toNat := by
  obtain ⟨b1, b2, b3, b4, b5, b6⟩ := fmt_bd f h0 hf
  have h1 := cutS_le (raiseS v) (precS f) m neg (by omega) (by omega) (raise_lt v hv)
  have e : (2 : Nat) ^ (precS f).toNat = 2 * 2 ^ (precS f - 1).toNat := by rw [← Nat.pow_succ']; congr 1; omega
  refine ⟨?_, by rw [← e]; exact h1⟩
  have h2 := blen_le (raiseS v) (raise_ne v hz)
  rw [raise_blen v hz hv] at h2
  have h3 : 2 ^ (precS f - 1).toNat ≤ raiseS v / 2 ^ (256 - precS f).toNat := by
    rw [Nat.le_div_iff_mul_le (Nat.two_pow_pos _), ← Nat.pow_add, show (precS f - 1).toNat + (256 - precS f).toNat = 256 - 1 by omega]
    exact h2
  unfold topB
  rw [cutS_form _ _ _ _ (by omega) (by omega) (raise_lt v hv)]
  omega
theorem sub_bd (f m : Int) (neg : Bool) (K e : Int) (v : Nat) (h0 : 0 ≤ f) (hf : f < 4) (hz : v ≠ 0) (hv : v < 2 ^ 256) (hK : 0 ≤ nE e v + K) (hK2 : 16384 ≤ K) (hl : nE e v < leastS f) : subB f m neg e v ≤ 2 ^ (precS f - 1).toNat := by
  obtain ⟨h1, h2, h3⟩ := code_sub f m neg K e v h0 hf hz hv hK hK2 hl
  rw [← h1]
  unfold codeR codeX
  split <;> omega
theorem bit_full (x k : Nat) (h : x ≤ 2 ^ k) : x.testBit k = decide (x = 2 ^ k) := by
  by_cases e : x = 2 ^ k
  · subst e; simp [Nat.testBit_two_pow]
  · rw [Nat.testBit_lt_two_pow (by omega)]; simp [e]
theorem full_top (f m : Int) (neg : Bool) (v : Nat) (h0 : 0 ≤ f) (hf : f < 4) (hz : v ≠ 0) (hv : v < 2 ^ 256) : fullS f m neg v = decide (topB f m neg v = 2 * 2 ^ (precS f - 1).toNat) := by
  obtain ⟨b1, b2, b3, b4, b5, b6⟩ := fmt_bd f h0 hf
  have e : (2 : Nat) ^ (precS f).toNat = 2 * 2 ^ (precS f - 1).toNat := by rw [← Nat.pow_succ']; congr 1; omega
  obtain ⟨t1, t2⟩ := top_bd f m neg v h0 hf hz hv
  unfold fullS
  rw [bit_full _ _ (by rw [e]; exact t2), e]
theorem ofs_mul (a b u : Nat) : (a + b) * u = a * u + b * u := Nat.add_mul a b u
theorem over_top (f m : Int) (neg : Bool) (K e : Int) (v : Nat) (h0 : 0 ≤ f) (hf : f < 4) (hz : v ≠ 0) (hv : v < 2 ^ 256) (hK : 0 ≤ nE e v + K) (hK2 : 16384 ≤ K) (hl : leastS f ≤ nE e v) : emaxS f < eS f m neg e v ↔ infC f ≤ codeR f m neg K e v := by
  obtain ⟨h1, h2, h3⟩ := code_top f m neg K e v h0 hf hz hv hK hK2 hl
  obtain ⟨t1, t2⟩ := top_bd f m neg v h0 hf hz hv
  have hfu := full_top f m neg v h0 hf hz hv
  have hu := Nat.two_pow_pos (precS f - 1).toNat
  obtain ⟨x1, x2⟩ := fmt_ex f h0 hf
  rw [h1]
  unfold eS infC
  rw [hfu]
  have hd : (nE e v - leastS f).toNat = (nE e v - 1 + emaxS f).toNat := by unfold leastS; omega
  unfold leastS at hl
  rw [hd]
  generalize topB f m neg v = t at *
  generalize 2 ^ (precS f - 1).toNat = u at *
  by_cases hf2 : t = 2 * u
  · subst hf2
    rw [if_pos (by simp)]
    rw [← Nat.add_mul]
    constructor
    · intro h; exact Nat.mul_le_mul_right _ (by omega)
    · intro h
      have := Nat.le_of_mul_le_mul_right h hu
      omega
  · rw [if_neg (by simp [hf2])]
    constructor
    · intro h
      have := Nat.mul_le_mul_right u (show (2 * emaxS f + 1).toNat ≤ (nE e v - 1 + emaxS f).toNat + 1 by omega)
      rw [Nat.succ_mul] at this
      omega
    · intro h
      have h2 : (2 * emaxS f + 1).toNat * u < ((nE e v - 1 + emaxS f).toNat + 2) * u := by rw [Nat.add_mul]; omega
      have := Nat.lt_of_mul_lt_mul_right h2
      omega
theorem over_sub (f m : Int) (neg : Bool) (K e : Int) (v : Nat) (h0 : 0 ≤ f) (hf : f < 4) (hz : v ≠ 0) (hv : v < 2 ^ 256) (hK : 0 ≤ nE e v + K) (hK2 : 16384 ≤ K) (hl : nE e v < leastS f) : ¬ emaxS f < eS f m neg e v ∧ ¬ infC f ≤ codeR f m neg K e v := by
  obtain ⟨h1, h2, h3⟩ := code_sub f m neg K e v h0 hf hz hv hK hK2 hl
  have h4 := sub_bd f m neg K e v h0 hf hz hv hK hK2 hl
  obtain ⟨x1, x2⟩ := fmt_ex f h0 hf
  have hu := Nat.two_pow_pos (precS f - 1).toNat
  refine ⟨?_, ?_⟩
  · unfold leastS at hl; unfold eS; split <;> omega
  · rw [h1]
    have := Nat.mul_le_mul_right (2 ^ (precS f - 1).toNat) (show 2 ≤ (2 * emaxS f + 1).toNat by omega)
    unfold infC
    omega
/-- Whether a number is beyond the end, by its code. -/
theorem over_iff (f m : Int) (neg : Bool) (K e : Int) (v : Nat) (h0 : 0 ≤ f) (hf : f < 4) (hz : v ≠ 0) (hv : v < 2 ^ 256) (hK : 0 ≤ nE e v + K) (hK2 : 16384 ≤ K) : emaxS f < eS f m neg e v ↔ infC f ≤ codeR f m neg K e v := by
  by_cases hl : nE e v < leastS f
  · obtain ⟨h1, h2⟩ := over_sub f m neg K e v h0 hf hz hv hK hK2 hl
    exact ⟨fun h => absurd h h1, fun h => absurd h h2⟩
  · exact over_top f m neg K e v h0 hf hz hv hK hK2 (by omega)
/-- The bits. -/
theorem round_code (f m : Int) (neg : Bool) (K e : Int) (v : Nat) (h0 : 0 ≤ f) (hf : f < 4) (hz : v ≠ 0) (hv : v < 2 ^ 256) (hK : 0 ≤ nE e v + K) (hK2 : 16384 ≤ K) : roundB f m neg e v = endC f m neg (codeR f m neg K e v) + signN f neg := by
  have ho := over_iff f m neg K e v h0 hf hz hv hK hK2
  unfold roundB endC
  by_cases hx : emaxS f < eS f m neg e v
  · rw [if_pos hx, if_pos (ho.1 hx), overB_c f m neg h0 hf]
  · rw [if_neg hx, if_neg (fun h => hx (ho.2 h))]
    have hu := Nat.two_pow_pos (precS f - 1).toNat
    obtain ⟨x1, x2⟩ := fmt_ex f h0 hf
    by_cases hl : nE e v < leastS f
    · rw [if_pos hl]
      obtain ⟨h1, h2, h3⟩ := code_sub f m neg K e v h0 hf hz hv hK hK2 hl
      have h4 := sub_bd f m neg K e v h0 hf hz hv hK hK2 hl
      rw [h1]
      have hfi : fieldS f (subB f m neg e v) = if subB f m neg e v = 2 ^ (precS f - 1).toNat then 1 else 0 := by
        unfold fieldS; rw [bit_full _ _ h4]; simp
      rw [hfi]
      generalize subB f m neg e v = t at *
      by_cases ht : t = 2 ^ (precS f - 1).toNat
      · rw [if_pos ht, makeF_c f _ neg _ h0 hf (by omega) (by omega), ht, Nat.mod_self]
        simp
      · rw [if_neg ht, makeF_c f _ neg _ h0 hf (by omega) (by omega), Nat.mod_eq_of_lt (by omega)]
        simp
    · rw [if_neg hl]
      obtain ⟨h1, h2, h3⟩ := code_top f m neg K e v h0 hf hz hv hK hK2 (by omega)
      obtain ⟨t1, t2⟩ := top_bd f m neg v h0 hf hz hv
      have hfu := full_top f m neg v h0 hf hz hv
      have hx' := hx
      rw [h1]
      have hl' : leastS f ≤ nE e v := by omega
      unfold eS at hx' ⊢
      rw [hfu] at hx' ⊢
      have hle : leastS f = 1 - emaxS f := rfl
      generalize topB f m neg v = t at *
      by_cases ht : t = 2 * 2 ^ (precS f - 1).toNat
      · rw [if_pos (by simp [ht])] at hx' ⊢
        rw [makeF_c f _ neg _ h0 hf (by omega) (by omega), ht, Nat.mul_mod_left, show (nE e v + 1 - leastS f + 1).toNat = (nE e v - leastS f).toNat + 2 by omega, Nat.add_mul]
        omega
      · rw [if_neg (by rw [decide_eq_true_eq]; exact ht)] at hx' ⊢
        have hm : t % 2 ^ (precS f - 1).toNat = t - 2 ^ (precS f - 1).toNat := by
          rw [Nat.mod_eq_sub_mod t1, Nat.mod_eq_of_lt (by omega)]
        rw [makeF_c f _ neg _ h0 hf (by omega) (by omega), hm, show (nE e v - leastS f + 1).toNat = (nE e v - leastS f).toNat + 1 by omega, Nat.succ_mul]
        omega
end Go.Proofs.YtgdbdbjegiaifaaDoor
