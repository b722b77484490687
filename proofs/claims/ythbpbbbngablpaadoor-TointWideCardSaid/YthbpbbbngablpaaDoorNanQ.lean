/- The plain law of quieted NaNs: they are NaNs. No program in sight. -/
import Derived.Test.YthbpbbbngablpaaDoorRintN
import Derived.Test.YthbpbbbngablpaaDoorNan2
set_option linter.unusedSimpArgs false
set_option linter.unusedVariables false
namespace Go.Proofs.YthbpbbbngablpaaDoor
open Go.RowKit Go.Hb
theorem nan_quiet (f : Int) (v : Nat) (h0 : 0 ≤ f) (hf : f < 4) (hn : nanB f v = true) : nanB f (quietF f v) = true := by
  obtain ⟨p0, p1, p2⟩ := prec_emax f h0 hf
  have hq : quietF f v = lowN v (widthS f) ||| 2 ^ (precS f - 2).toNat := by
    unfold quietF lsh
    rw [hn, if_pos rfl, show cat 0 1 = 1 from rfl, Nat.one_mul]
  have hlow := nan_low f v h0 hf
  rw [hq, or_bit]
  by_cases hb : (lowN v (widthS f)).testBit (precS f - 2).toNat = true
  · rw [if_pos hb, hlow]; exact hn
  · rw [if_neg hb]
    obtain ⟨w1, w2⟩ := width_split f h0 hf
    have hc := code_lt f v h0 hf
    have hu : 2 ^ (precS f - 1).toNat = 2 * 2 ^ (precS f - 2).toNat := by rw [← Nat.pow_succ']; congr 1; omega
    have hbp := Nat.two_pow_pos (precS f - 2).toNat
    have hfr := frac_lt_p f v h0 hf
    have hcode : codeF f v = expF f v * 2 ^ (precS f - 1).toNat + fracF f v := rfl
    have hs : signN f (sgnF f v) = (if sgnF f v then 1 else 0) * (2 ^ (precS f - 1).toNat * 2 ^ (widthS f - precS f).toNat) := by
      unfold signN; rw [w1]; cases sgnF f v <;> simp
    have hz : fracF f v < 2 ^ (precS f - 2).toNat := by
      rcases Nat.lt_or_ge (fracF f v) (2 ^ (precS f - 2).toNat) with h | h
      · exact h
      · exfalso
        apply hb
        rw [Nat.testBit_eq_decide_div_mod_eq, decide_eq_true_eq, cut_code f v h0 hf, hs, hcode, hu]
        have e : expF f v * (2 * 2 ^ (precS f - 2).toNat) + fracF f v + (if sgnF f v then 1 else 0) * (2 * 2 ^ (precS f - 2).toNat * 2 ^ (widthS f - precS f).toNat) = fracF f v + 2 ^ (precS f - 2).toNat * (2 * (expF f v + (if sgnF f v then 1 else 0) * 2 ^ (widthS f - precS f).toNat)) := by
          rw [Nat.mul_left_comm (2 ^ (precS f - 2).toNat) 2, Nat.mul_add, Nat.mul_add]
          have a1 : expF f v * (2 * 2 ^ (precS f - 2).toNat) = 2 * (2 ^ (precS f - 2).toNat * expF f v) := by rw [Nat.mul_left_comm, Nat.mul_comm (expF f v)]
          have a2 : (if sgnF f v then 1 else 0) * (2 * 2 ^ (precS f - 2).toNat * 2 ^ (widthS f - precS f).toNat) = 2 * (2 ^ (precS f - 2).toNat * ((if sgnF f v then 1 else 0) * 2 ^ (widthS f - precS f).toNat)) := by
            rw [Nat.mul_assoc 2, Nat.mul_left_comm, Nat.mul_left_comm (if sgnF f v = true then 1 else 0)]
          rw [a1, a2]
          omega
        rw [e, Nat.add_mul_div_left _ _ hbp, Nat.add_mul_mod_self_left]
        have h1 : fracF f v / 2 ^ (precS f - 2).toNat = 1 := by
          rw [Nat.div_eq_iff hbp]; omega
        rw [h1]
    have hlt : codeF f v + 2 ^ (precS f - 2).toNat < 2 ^ (widthS f - 1).toNat := by
      rw [w1] at hc ⊢
      rw [hcode] at hc ⊢
      have h1 : expF f v < 2 ^ (widthS f - precS f).toNat := by
        rcases Nat.lt_or_ge (expF f v) (2 ^ (widthS f - precS f).toNat) with h | h
        · exact h
        · have := Nat.mul_le_mul_right (2 ^ (precS f - 1).toNat) h
          rw [Nat.mul_comm (2 ^ (widthS f - precS f).toNat)] at this
          omega
      have h2 := Nat.mul_le_mul_right (2 ^ (precS f - 1).toNat) (show expF f v + 1 ≤ 2 ^ (widthS f - precS f).toNat from h1)
      rw [Nat.succ_mul, Nat.mul_comm (2 ^ (widthS f - precS f).toNat)] at h2
      omega
    have hn4 := (class_code f v h0 hf).2.2.2.2
    have h4 : 4 ≤ classF f v := by unfold nanB at hn; simpa using hn
    have hi := hn4.1 h4
    have hcc := code_of f (codeF f v + 2 ^ (precS f - 2).toNat) (sgnF f v) h0 hf hlt
    rw [cut_code f v h0 hf, Nat.add_right_comm]
    have hq4 := (class_code f (codeF f v + 2 ^ (precS f - 2).toNat + signN f (sgnF f v)) h0 hf).2.2.2.2
    rw [hcc] at hq4
    unfold nanB
    rw [decide_eq_true_eq]
    exact hq4.2 (by omega)
end Go.Proofs.YthbpbbbngablpaaDoor
