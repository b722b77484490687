/- The plain law of numbers made whole: what is made whole is a format's number; signs; NaNs. Plain lemmas on numbers that are whole: no walk in sight. -/
import Derived.Test.YtkldkchkhblndaaGreatDoorRint2
import Derived.Test.YtkldkchkhblndaaGreatDoorRintN
set_option linter.unusedSimpArgs false
set_option linter.unusedVariables false
namespace Go.Proofs.YtkldkchkhblndaaGreatDoor
open Go.RowKit Go.Hb
theorem exact_res (f : Int) (s : Bool) (n : Nat) (h0 : 0 ≤ f) (hf : f < 4) (hn : n ≤ 2 ^ (precS f - 1).toNat) :
    ∃ c, c < infC f ∧ valC (precS f).toNat (unitB f KK) c = n * 2 ^ (255 + KK).toNat ∧ exB f s 255 n = c + signN f s ∧ exOk f s 255 n = true := by
  obtain ⟨p0, p1, p2⟩ := prec_emax f h0 hf
  obtain ⟨e0, e1⟩ := emaxS_bd f
  have hk : KK = 2199023255552 := rfl
  have hpp : (precS f - 1).toNat + 1 = (precS f).toNat := by omega
  have hn2 : n < 2 ^ (precS f).toNat := by
    have := Nat.two_pow_pos (precS f - 1).toNat
    rw [← hpp, Nat.pow_succ]; omega
  have hn3 : n < 2 ^ 256 := Nat.lt_of_lt_of_le hn2 (Nat.pow_le_pow_right (by decide) (by omega))
  obtain ⟨c, hc⟩ := small_code (precS f).toNat (unitB f KK) n (255 + KK).toNat (by omega) hn2 (by unfold unitB leastS; omega)
  have hX : numX KK 255 n = valC (precS f).toNat (unitB f KK) c := by
    rw [hc, numX_255]
  have hlt : c < infC f := lt_inf _ _ _ _ _ _ _ (valC_inf f h0 hf) hn hc
  have hfl : resFl f 4 false s 255 n = 0 := by
    rw [res_flag f 4 false s 255 n h0 hf (by decide) hn3, hX]
    unfold flagX
    rw [codeX_self _ _ _ _ _ (by omega), if_neg (by omega), rest_self _ _ _ (by omega)]
    rfl
  refine ⟨c, hlt, hc, ?_, ?_⟩
  · unfold exB
    rw [if_pos ⟨hf, hfl⟩, res_code f 4 s 255 n h0 hf (by decide) hn3]
    unfold codeR
    rw [hX, codeX_self _ _ _ _ _ (by omega)]
    unfold endC
    rw [if_neg (by omega)]
  · unfold exOk
    rw [decide_eq_true hf, hfl]
    rfl
theorem wh_small (f m : Int) (v : Nat) (h0 : 0 ≤ f) (hf : f < 4) (hk : keepB f v = false) : whN (unE f v) m (sgnF f v) (unS f v) ≤ 2 ^ (precS f - 1).toNat := by
  obtain ⟨p0, p1, p2⟩ := prec_emax f h0 hf
  unfold keepB at hk
  rw [Bool.or_eq_false_iff, decide_eq_false_iff_not] at hk
  have hV : up128 (unS f v) < 2 ^ 256 := up128_lt _ (unS_lt f v h0)
  have hu : unS f v * 2 ^ 128 = up128 (unS f v) := rfl
  unfold whN
  rw [hu]
  split
  · exact Nat.le_trans (cutS_le (jamS (up128 (unS f v)) (-unE f v - 1)) 0 m (sgnF f v) (by decide) (by decide) (jamS_le _ _ hV)) (Nat.pow_le_pow_right (by decide) (Nat.zero_le _))
  · exact Nat.le_trans (cutS_le (up128 (unS f v)) (unE f v + 1) m (sgnF f v) (by omega) (by omega) hV) (Nat.pow_le_pow_right (by decide) (by omega))
theorem or_lt128 (x k : Nat) (hx : x < 2 ^ 128) (hk : k < 128) : x ||| 2 ^ k < 2 ^ 128 := Nat.or_lt_two_pow hx (Nat.pow_lt_pow_right (by decide) hk)
theorem low_lt (f : Int) (v : Nat) : lowN v (widthS f) < 2 ^ 128 := by
  have h : (widthS f).toNat ≤ 128 := by unfold widthS; repeat' split <;> omega
  exact Nat.lt_of_lt_of_le (Nat.mod_lt _ (Nat.two_pow_pos _)) (Nat.pow_le_pow_right (by decide) h)
theorem rint_lt (f m : Int) (v : Nat) (h0 : 0 ≤ f) (hf : f < 4) : rintB f m v < 2 ^ 128 := by
  obtain ⟨p0, p1, p2⟩ := prec_emax f h0 hf
  have hw : 2 ^ (widthS f - 1).toNat ≤ 2 ^ 127 := Nat.pow_le_pow_right (by decide) (by unfold widthS; repeat' split <;> omega)
  have h128 : (2 : Nat) ^ 128 = 2 ^ 127 + 2 ^ 127 := rfl
  unfold rintB
  split
  · split
    · unfold quietF
      split
      · have hq : lsh (cat 0 1) (precS f - 2) = 2 ^ (precS f - 2).toNat := by unfold lsh; rw [show cat 0 1 = 1 from rfl, Nat.one_mul]
        first | exact low_lt f v | (rw [hq]; exact or_lt128 _ _ (low_lt f v) (by omega))
      · have hq : lsh (cat 0 1) (precS f - 2) = 2 ^ (precS f - 2).toNat := by unfold lsh; rw [show cat 0 1 = 1 from rfl, Nat.one_mul]
        first | exact low_lt f v | (rw [hq]; exact or_lt128 _ _ (low_lt f v) (by omega))
    · cases hk : keepB f v
      · rw [if_neg (show ¬ (false = true) by decide)]
        obtain ⟨c, l1, v1, b1, o1⟩ := exact_res f (sgnF f v) _ h0 hf (wh_small f m v h0 hf hk)
        rw [b1]
        have hI := infC_lt f h0 hf
        have hu := Nat.two_pow_pos (precS f - 1).toNat
        have hs : signN f (sgnF f v) ≤ 2 ^ (widthS f - 1).toNat := by unfold signN; split <;> omega
        omega
      · rw [if_pos rfl]; exact low_lt f v
  · decide
end Go.Proofs.YtkldkchkhblndaaGreatDoor

namespace Go.Proofs.YtkldkchkhblndaaGreatDoor
open Go.RowKit Go.Hb
theorem rnd_mul (n s : Nat) (m : Int) (neg : Bool) : rndN s m neg (n * 2 ^ s) = n := by
  have hr : restN (n * 2 ^ s) s = 0 := by rw [restN_G, Nat.mul_mod_left]; rfl
  unfold rndN
  rw [hr, next_zero, Nat.mul_div_cancel _ (Nat.two_pow_pos _)]
  simp
theorem rest_mul (n s : Nat) : restN (n * 2 ^ s) s = 0 := by rw [restN_G, Nat.mul_mod_left]; rfl
theorem numX_mul (K e : Int) (q d S : Nat) (h : S ≤ d + 128 + (farS e + K).toNat) : numX K e (up128 (q * 2 ^ d)) = q * 2 ^ (d + 128 + (farS e + K).toNat - S) * 2 ^ S := by
  unfold numX up128
  generalize (farS e + K).toNat = n at *
  have h1 : q * 2 ^ d * 2 ^ 128 * 2 ^ n = q * (2 ^ d * 2 ^ 128 * 2 ^ n) := by rw [Nat.mul_assoc, Nat.mul_assoc, Nat.mul_assoc]
  have h2 : q * 2 ^ (d + 128 + n - S) * 2 ^ S = q * (2 ^ (d + 128 + n - S) * 2 ^ S) := Nat.mul_assoc _ _ _
  rw [h1, h2, ← Nat.pow_add, ← Nat.pow_add, ← Nat.pow_add, Nat.sub_add_cancel h]
theorem keep_mul (f : Int) (v : Nat) (h0 : 0 ≤ f) (hf : f < 4) (hfin : classF f v < 3) (hk : keepB f v = true) : ∃ n, valC (precS f).toNat (unitB f KK) (codeF f v) = n * 2 ^ (255 + KK).toNat := by
  obtain ⟨p0, p1, p2⟩ := prec_emax f h0 hf
  have hKK : KK = 2199023255552 := rfl
  have hbd := classF_bd f v
  by_cases hz : classF f v = 0
  · have hc := (class_code f v h0 hf).1.1 hz
    exact ⟨0, by rw [hc, valC_zero, Nat.zero_mul]⟩
  unfold keepB at hk
  rw [Bool.or_eq_true, Bool.or_eq_true, decide_eq_true_eq, beq_iff_eq, beq_iff_eq] at hk
  have he : precS f - 1 ≤ unE f v := by omega
  have hu : ∃ q, unS f v = q * 2 ^ (128 - precS f).toNat := by
    have h3 : classF f v = 1 ∨ classF f v = 2 := by omega
    unfold unS
    rcases h3 with h | h
    · rw [if_neg (by omega), if_pos h]
      have hs := sub_by f v h0 hf ((class_parts f v h0).1 h).2.2
      unfold raise128
      refine ⟨fracF f v * 2 ^ ((by128 (fracF f v)).toNat - (128 - precS f).toNat), ?_⟩
      rw [Nat.mul_assoc, ← Nat.pow_add, Nat.sub_add_cancel (by omega)]
    · rw [if_pos h]
      have : cat 9223372036854775808 0 = 2 ^ 127 := by decide
      unfold nrm lsh
      rw [this]
      refine ⟨fracF f v + 2 ^ (precS f - 1).toNat, ?_⟩
      rw [Nat.add_mul, ← Nat.pow_add, show (precS f - 1).toNat + (128 - precS f).toNat = 127 by omega]
  obtain ⟨q, hq⟩ := hu
  have hfar : precS f - 1 ≤ farS (unE f v) := by unfold farS; omega
  exact ⟨_, by rw [← un_val f v h0 hf hfin, hq]; exact numX_mul _ _ _ _ _ (by omega)⟩
end Go.Proofs.YtkldkchkhblndaaGreatDoor
