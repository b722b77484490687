/- The plain law of numbers made whole: what is made whole is a format's number; signs; NaNs. Plain lemmas on numbers that are whole: no walk in sight. -/
import Derived.Test.YtkpjeceofcfnkaaGreatDoorRint2
import Derived.Test.YtkpjeceofcfnkaaGreatDoorRintN
set_option linter.unusedSimpArgs false
set_option linter.unusedVariables false
namespace Go.Proofs.YtkpjeceofcfnkaaGreatDoor
open Go.RowKit Go.Hb
theorem exact_res (f : Int) (s : Bool) (n : Nat) (h0 : 0 ≤ f) (hf : f < 4) (hn : n ≤ 2 ^ (precS f - 1).toNat) :
    ∃ c, c < infC f ∧ valC (precS f).toNat (unitB f KK) c = n * 2 ^ (255 + KK).toNat ∧ exB f s 255 n = c + signN f s ∧ exOk f s 255 n = true := by
  obtain ⟨p0, p1, p2⟩ := prec_emax f h0 hf
  obtain ⟨e0, e1⟩ := emaxS_bd f
  have hk : KK = 2199023255552 := rfl
  have hpp : (precS f - 1).toNat + 1 = (precS f).toNat := by omega
  have hn2 : n < 2 ^ (precS f).toNat := by
    have := Nat.two_pow_pos (precS f - 1).toNat
    rw [← hpp, Nat.pow_succ]; omega
  have hn3 : n < 2 ^ 256 := Nat.lt_of_lt_of_le hn2 (Nat.pow_le_pow_right (by decide) (by omega))
  obtain ⟨c, hc⟩ := small_code (precS f).toNat (unitB f KK) n (255 + KK).toNat (by omega) hn2 (by unfold unitB leastS; omega)
  have hX : numX KK 255 n = valC (precS f).toNat (unitB f KK) c := by
    rw [hc, numX_255]
  have hlt : c < infC f := lt_inf _ _ _ _ _ _ _ (valC_inf f h0 hf) hn hc
  have hfl : resFl f 4 false s 255 n = 0 := by
    rw [res_flag f 4 false s 255 n h0 hf (by decide) hn3, hX]
    unfold flagX
    rw [codeX_self _ _ _ _ _ (by omega), if_neg (by omega), rest_self _ _ _ (by omega)]
    rfl
  refine ⟨c, hlt, hc, ?_, ?_⟩
  · unfold exB
    rw [if_pos ⟨hf, hfl⟩, res_code f 4 s 255 n h0 hf (by decide) hn3]
    unfold codeR
    rw [hX, codeX_self _ _ _ _ _ (by omega)]
    unfold endC
    rw [if_neg (by omega)]
  · unfold exOk
    rw [decide_eq_true hf, hfl]
    rfl
theorem wh_small (f m : Int) (v : Nat) (h0 : 0 ≤ f) (hf : f < 4) (hk : keepB f v = false) : whN (unE f v) m (sgnF f v) (unS f v) ≤ 2 ^ (precS f - 1).toNat := by
  obtain ⟨p0, p1, p2⟩ := prec_emax f h0 hf
  unfold keepB at hk
  rw [Bool.or_eq_false_iff, decide_eq_false_iff_not] at hk
  have hV : up128 (unS f v) < 2 ^ 256 := up128_lt _ (unS_lt f v h0)
  have hu : unS f v * 2 ^ 128 = up128 (unS f v) := rfl
  unfold whN
  rw [hu]
  split
  · exact Nat.le_trans (cutS_le (jamS (up128 (unS f v)) (-unE f v - 1)) 0 m (sgnF f v) (by decide) (by decide) (jamS_le _ _ hV)) (Nat.pow_le_pow_right (by decide) (Nat.zero_le _))
  · exact Nat.le_trans (cutS_le (up128 (unS f v)) (unE f v + 1) m (sgnF f v) (by omega) (by omega) hV) (Nat.pow_le_pow_right (by decide) (by omega))
theorem or_lt128 (x k : Nat) (hx : x < 2 ^ 128) (hk : k < 128) : x ||| 2 ^ k < 2 ^ 128 := Nat.or_lt_two_pow hx (Nat.pow_lt_pow_right (by decide) hk)
theorem low_lt (f : Int) (v : Nat) : lowN v (widthS f) < 2 ^ 128 := by
  have h : (widthS f).toNat ≤ 128 := by unfold widthS; repeat' split <;> omega
  exact Nat.lt_of_lt_of_le (Nat.mod_lt _ (Nat.two_pow_pos _)) (Nat.pow_le_pow_right (by decide) h)
theorem rint_lt (f m : Int) (v : Nat) (h0 : 0 ≤ f) (hf : f < 4) : rintB f m v < 2 ^ 128 := by
  obtain ⟨p0, p1, p2⟩ := prec_emax f h0 hf
  have hw : 2 ^ (widthS f - 1).toNat ≤ 2 ^ 127 := Nat.pow_le_pow_right (by decide) (by unfold widthS; repeat' split <;> omega)
  have h128 : (2 : Nat) ^ 128 = 2 ^ 127 + 2 ^ 127 := rfl
  unfold rintB
  split
  · split
    · unfold quietF
      split
      · have hq : lsh (cat 0 1) (precS f - 2) = 2 ^ (precS f - 2).toNat := by unfold lsh; rw [show cat 0 1 = 1 from rfl, Nat.one_mul]
        first | exact low_lt f v | (rw [hq]; exact or_lt128 _ _ (low_lt f v) (by omega))
      · have hq : lsh (cat 0 1) (precS f - 2) = 2 ^ (precS f - 2).toNat := by unfold lsh; rw [show cat 0 1 = 1 from rfl, Nat.one_mul]
        first | exact low_lt f v | (rw [hq]; exact or_lt128 _ _ (low_lt f v) (by omega))
    · cases hk : keepB f v
      · rw [if_neg (show ¬ (false = true) by decide)]
        obtain ⟨c, l1, v1, b1, o1⟩ := exact_res f (sgnF f v) _ h0 hf (wh_small f m v h0 hf hk)
        rw [b1]
        have hI := infC_lt f h0 hf
        have hu := Nat.two_pow_pos (precS f - 1).toNat
        have hs : signN f (sgnF f v) ≤ 2 ^ (widthS f - 1).toNat := by unfold signN; split <;> omega
        omega
      · rw [if_pos rfl]; exact low_lt f v
  · decide
end Go.Proofs.YtkpjeceofcfnkaaGreatDoor

namespace Go.Proofs.YtkpjeceofcfnkaaGreatDoor
open Go.RowKit Go.Hb
theorem rnd_mul (n s : Nat) (m : Int) (neg : Bool) : rndN s m neg (n * 2 ^ s) = n := by
  have hr : restN (n * 2 ^ s) s = 0 := by rw [restN_G, Nat.mul_mod_left]; rfl
  unfold rndN
  rw [hr, next_zero, Nat.mul_div_cancel _ (Nat.two_pow_pos _)]
  simp
theorem rest_mul (n s : Nat) : restN (n * 2 ^ s) s = 0 := by rw [restN_G, Nat.mul_mod_left]; rfl
theorem numX_mul (K e : Int) (q d S : Nat) (h : S ≤ d + 128 + (farS e + K).toNat) : numX K e (up128 (q * 2 ^ d)) = q * 2 ^ (d + 128 + (farS e + K).toNat - S) * 2 ^ S := by
  unfold numX up128
  generalize (farS e + K).toNat = n at *
  have h1 : q * 2 ^ d * 2 ^ 128 * 2 ^ n = q * (2 ^ d * 2 ^ 128 * 2 ^ n) := by rw [Nat.mul_assoc, Nat.mul_assoc, Nat.mul_assoc]
  have h2 : q * 2 ^ (d + 128 + n - S) * 2 ^ S = q * (2 ^ (d + 128 + n - S) * 2 ^ S) := Nat.mul_assoc _ _ _
  rw [h1, h2, ← Nat.pow_add, ← Nat.pow_add, ← Nat.pow_add, Nat.sub_add_cancel h]
theorem keep_mul (f : Int) (v : Nat) (h0 : 0 ≤ f) (hf : f < 4) (hfin : classF f v < 3) (hk : keepB f v = true) : ∃ n, valC (precS f).toNat (unitB f KK) (codeF f v) = n * 2 ^ (255 + KK).toNat := by
  obtain ⟨p0, p1, p2⟩ := prec_emax f h0 hf
  have hKK : KK = 2199023255552 := rfl
  have hbd := classF_bd f v
  by_cases hz : classF f v = 0
  · have hc := (class_code f v h0 hf).1.1 hz
    exact ⟨0, by rw [hc, valC_zero, Nat.zero_mul]⟩
  unfold keepB at hk
  rw [Bool.or_eq_true, Bool.or_eq_true, decide_eq_true_eq, beq_iff_eq, beq_iff_eq] at hk
  have he : precS f - 1 ≤ unE f v := by omega
  have hu : ∃ q, unS f v = q * 2 ^ (128 - precS f).toNat := by
    have h3 : classF f v = 1 ∨ classF f v = 2 := by omega
    unfold unS
    rcases h3 with h | h
    · rw [if_neg (by omega), if_pos h]
      have hs := sub_by f v h0 hf ((class_parts f v h0).1 h).2.2
      unfold raise128
      refine ⟨fracF f v * 2 ^ ((by128 (fracF f v)).toNat - (128 - precS f).toNat), ?_⟩
      rw [Nat.mul_assoc, ← Nat.pow_add, Nat.sub_add_cancel (by omega)]
    · rw [if_pos h]
      have : cat 9223372036854775808 0 = 2 ^ 127 := by decide
      unfold nrm lsh
      rw [this]
      refine ⟨fracF f v + 2 ^ (precS f - 1).toNat, ?_⟩
      rw [Nat.add_mul, ← Nat.pow_add, show (precS f - 1).toNat + (128 - precS f).toNat = 127 by omega]
  obtain ⟨q, hq⟩ := hu
  have hfar : precS f - 1 ≤ farS (unE f v) := by unfold farS; omega
  exact ⟨_, by rw [← un_val f v h0 hf hfin, hq]; exact numX_mul _ _ _ _ _ (by omega)⟩
/-- The number of what rint makes. -/
theorem rint_rnd (f m : Int) (v : Nat) (h0 : 0 ≤ f) (hf : f < 4) (hm : m ≤ 4) (hfin : classF f v < 3) :
    classF f (rintB f m v) < 3 ∧ sgnF f (rintB f m v) = sgnF f v ∧ rintB f m v = codeF f (rintB f m v) + signN f (sgnF f v) ∧ valC (precS f).toNat (unitB f KK) (codeF f (rintB f m v)) = rndN (255 + KK).toNat m (sgnF f v) (valC (precS f).toNat (unitB f KK) (codeF f v)) * 2 ^ (255 + KK).toNat := by
  have hn : nanB f v = false := decide_eq_false (by omega)
  have hI := infC_lt f h0 hf
  have hu := Nat.two_pow_pos (precS f - 1).toNat
  have hlo := unE_low f v h0
  have hp := (prec_emax f h0 hf).2.2
  cases hk : keepB f v
  · have hb : rintB f m v = exB f (sgnF f v) 255 (whN (unE f v) m (sgnF f v) (unS f v)) := by
      unfold rintB; rw [if_pos ⟨hf, hm⟩, hn, hk]; rfl
    obtain ⟨c, l1, v1, b1, o1⟩ := exact_res f (sgnF f v) _ h0 hf (wh_small f m v h0 hf hk)
    have hlt : c < 2 ^ (widthS f - 1).toNat := by omega
    have hc := code_of f c (sgnF f v) h0 hf hlt
    have hs := (of_code f c (sgnF f v) h0 hf hlt).2.2
    have he : unE f v ≤ 126 := by
      unfold keepB at hk
      rw [Bool.or_eq_false_iff, decide_eq_false_iff_not] at hk
      omega
    rw [whN_rnd _ _ _ _ (unS_lt f v h0) hlo he, un_val f v h0 hf hfin] at v1 b1 hb
    rw [hb, b1, hc]
    exact ⟨(class_fin f _ h0 hf).2 (by rw [hc]; exact l1), hs, rfl, v1⟩
  · have hb : rintB f m v = lowN v (widthS f) := by unfold rintB; rw [if_pos ⟨hf, hm⟩, hn, hk]; rfl
    have hlt := code_lt f v h0 hf
    have hc : codeF f (lowN v (widthS f)) = codeF f v := by rw [cut_code f v h0 hf]; exact code_of f _ _ h0 hf hlt
    have hs : sgnF f (lowN v (widthS f)) = sgnF f v := by rw [cut_code f v h0 hf]; exact (of_code f _ _ h0 hf hlt).2.2
    obtain ⟨n, hv⟩ := keep_mul f v h0 hf hfin hk
    rw [hb, hc, hv, rnd_mul]
    exact ⟨(class_fin f _ h0 hf).2 (by rw [hc]; exact (class_fin f v h0 hf).1 hfin), hs, cut_code f v h0 hf, rfl⟩
/-- The flags of rint: whether the number is whole. -/
theorem rint_fl (f m : Int) (ex : Bool) (v : Nat) (h0 : 0 ≤ f) (hf : f < 4) (hm : m ≤ 4) (hfin : classF f v < 3) :
    rintFl f m ex v = (if restN (valC (precS f).toNat (unitB f KK) (codeF f v)) (255 + KK).toNat ≠ 0 ∧ ex = true then 16 else 0) := by
  have hn : nanB f v = false := decide_eq_false (by omega)
  have hlo := unE_low f v h0
  have hp := (prec_emax f h0 hf).2.2
  unfold rintFl
  rw [if_pos ⟨hf, hm⟩, hn, if_neg (by decide)]
  cases hk : keepB f v
  · have he : unE f v ≤ 126 := by
      unfold keepB at hk
      rw [Bool.or_eq_false_iff, decide_eq_false_iff_not] at hk
      omega
    rw [if_neg (by decide), whI_rnd _ _ (unS_lt f v h0) hlo he, un_val f v h0 hf hfin]
    generalize restN (valC (precS f).toNat (unitB f KK) (codeF f v)) (255 + KK).toNat = R
    cases ex
    · rw [Bool.and_false, if_neg (by decide), if_neg (fun h => absurd h.2 (by decide))]
    · rw [Bool.and_true]
      by_cases hR : R = 0
      · rw [if_neg (by rw [hR]; decide), if_neg (fun h => h.1 hR)]
      · rw [if_pos (bne_iff_ne.2 hR), if_pos ⟨hR, rfl⟩]
  · obtain ⟨n, hv⟩ := keep_mul f v h0 hf hfin hk
    rw [if_pos rfl, hv, rest_mul, if_neg (fun h => h.1 rfl)]
end Go.Proofs.YtkpjeceofcfnkaaGreatDoor
