/- The plain laws of chapter 16 as its walks ask them: flags, tininess, order. No condition. -/
import Derived.Test.YtgdbdbjegiaifaaDoorCodes
import Derived.Test.YtgdbdbjegiaifaaDoorLaw16j
set_option linter.unusedSimpArgs false
set_option linter.unusedVariables false
namespace Go.Proofs.YtgdbdbjegiaifaaDoor
open Go.RowKit Go.Hb
instance u8_mod5 (m : Int) [h : U8 m] : U8 (m % 5) := ⟨by omega, by omega⟩
theorem resFl_vals (f m : Int) (aft neg : Bool) (e : Int) (v : Nat) : resFl f m aft neg e v = 0 ∨ resFl f m aft neg e v = 16 ∨ resFl f m aft neg e v = 20 ∨ resFl f m aft neg e v = 24 := by
  unfold resFl roundFl flagsS
  repeat' split
  all_goals omega
theorem noOver_bits (x : Int) (h : x = 0 ∨ x = 16 ∨ x = 20 ∨ x = 24) : Go.bits BinOp.andNot IntKind.u8 x 4 = noOver x := by
  rcases h with rfl | rfl | rfl | rfl <;> decide
theorem tiny_pair (f m : Int) (neg : Bool) (e : Int) (v : Nat) (h0 : 0 ≤ f) (hv : v < 2 ^ 256) :
    (resFl f m true neg e v = resFl f m false neg e v) ∨ (resFl f m true neg e v = 16 ∧ resFl f m false neg e v = 24 ∧ f < 4 ∧ resB f m neg e v = 2 ^ (precS f - 1).toNat + signN f neg) := by
  by_cases hk : f < 4 ∧ m ≤ 4
  · obtain ⟨b1, b2, b3, b4, b5, b6⟩ := fmt_bd f h0 hk.1
    rw [res_flag f m true neg e v h0 hk.1 hk.2 hv, res_flag f m false neg e v h0 hk.1 hk.2 hv, res_code f m neg e v h0 hk.1 hk.2 hv]
    unfold codeR
    have hB : 1 ≤ unitB f KK := by
      obtain ⟨l0, l1⟩ := leastS_bd f
      unfold unitB KK
      omega
    have key := fun h1 h2 => tiny_least (precS f).toNat (unitB f KK) m neg (numX KK e v) (by omega) hB h1 h2
    have hinf : 2 ^ ((precS f).toNat - 1) < infC f := by
      have hem := fmt_ex f h0 hk.1
      unfold infC
      rw [show (precS f - 1).toNat = (precS f).toNat - 1 by omega]
      have hp := Nat.two_pow_pos ((precS f).toNat - 1)
      have := Nat.mul_le_mul_right (2 ^ ((precS f).toNat - 1)) (show 2 ≤ (2 * emaxS f + 1).toNat by omega)
      omega
    rw [show (precS f - 1).toNat = (precS f).toNat - 1 by omega]
    unfold flagX
    by_cases ho : infC f ≤ codeX (precS f).toNat (unitB f KK) m neg (numX KK e v)
    · left; rw [if_pos ho, if_pos ho]
    · rw [if_neg ho, if_neg ho]
      unfold tinyX
      simp only [Bool.not_true, Bool.not_false, Bool.true_or, Bool.and_true, Bool.false_or]
      by_cases h1 : floorC (precS f).toNat (unitB f KK) (numX KK e v) < 2 ^ ((precS f).toNat - 1)
      · by_cases h2 : codeX (precS f).toNat 0 m neg (numX KK e v) < (unitB f KK + 1) * 2 ^ ((precS f).toNat - 1)
        · left; rw [decide_eq_true h1, decide_eq_true h2]; rfl
        · have h3 := key h1 (by omega)
          rw [decide_eq_true h1, decide_eq_false h2]
          by_cases hr : restC (precS f).toNat (unitB f KK) (numX KK e v) = 0
          · left; rw [hr]; rfl
          · right
            have hr2 : (restC (precS f).toNat (unitB f KK) (numX KK e v) != 0) = true := by simpa using hr
            rw [hr2, h3]
            refine ⟨rfl, rfl, hk.1, ?_⟩
            unfold endC
            rw [if_neg (by omega)]
      · left; rw [decide_eq_false h1]; rfl
  · left; rw [resFl_none f m true neg e v hk, resFl_none f m false neg e v hk]
theorem width_lo (f m : Int) (neg : Bool) (h0 : 0 ≤ f) (hf : f < 4) : 2 ^ (precS f - 1).toNat + signN f neg < 2 ^ (widthS f).toNat := by
  obtain ⟨b1, b2, b3, b4, b5, b6⟩ := fmt_bd f h0 hf
  have h1 : 2 ^ (widthS f).toNat = 2 * 2 ^ (widthS f - 1).toNat := by rw [← Nat.pow_succ']; congr 1; omega
  have h2 : 2 ^ (precS f - 1).toNat < 2 ^ (widthS f - 1).toNat := Nat.pow_lt_pow_right (by omega) (by omega)
  unfold signN
  split <;> omega
theorem make_one (f : Int) (h0 : 0 ≤ f) (hf : f < 4) : makeF f false 1 0 = 2 ^ (precS f - 1).toNat := by
  have hem := fmt_ex f h0 hf
  rw [makeF_c f 1 false 0 h0 hf (by omega) (by omega)]
  simp [signN]
theorem cmpN_le (a b : Nat) (h : a ≤ b) : decide (cmpN a b ≤ 0) = true := by
  unfold cmpN
  apply decide_eq_true
  repeat' split <;> omega
end Go.Proofs.YtgdbdbjegiaifaaDoor
