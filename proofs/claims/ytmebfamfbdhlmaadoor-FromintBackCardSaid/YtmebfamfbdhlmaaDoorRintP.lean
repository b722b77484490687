/- The plain law of numbers made whole: what is made whole is a format's number; signs; NaNs. -/
import Derived.Test.YtmebfamfbdhlmaaDoorRint2
set_option linter.unusedSimpArgs false
set_option linter.unusedVariables false
namespace Go.Proofs.YtmebfamfbdhlmaaDoor
open Go.RowKit Go.Hb
theorem small_code (p B n t : Nat) (hp : 1 ≤ p) (hn : n < 2 ^ p) (ht : p + B ≤ t) : ∃ c, valC p B c = n * 2 ^ t := by
  by_cases hz : n = 0
  · exact ⟨0, by rw [valC_zero, hz, Nat.zero_mul]⟩
  · have h1 := blen_le n hz
    have h2 := blen_lt n
    have hb : blen n - 1 < p := (Nat.pow_lt_pow_iff_right (by decide)).1 (Nat.lt_of_le_of_lt h1 hn)
    have hpos : 1 ≤ blen n := by
      rcases Nat.eq_zero_or_pos (blen n) with h | h
      · rw [h] at h2; omega
      · exact h
    have hk : blen n + (p - blen n) = p := by omega
    refine ⟨(t - (p - blen n) - B) * 2 ^ (p - 1) + n * 2 ^ (p - blen n), ?_⟩
    rw [valC_mk p B (t - (p - blen n)) (n * 2 ^ (p - blen n)) (by omega) ?_ (Or.inr ?_), Nat.mul_assoc, ← Nat.pow_add, show p - blen n + (t - (p - blen n)) = t by omega]
    · have := Nat.mul_le_mul_right (2 ^ (p - blen n)) (Nat.le_of_lt h2)
      rw [← Nat.pow_add, hk] at this
      rw [← Nat.pow_succ', show (p - 1).succ = p by omega]
      exact this
    · have := Nat.mul_le_mul_right (2 ^ (p - blen n)) h1
      rw [← Nat.pow_add, show blen n - 1 + (p - blen n) = p - 1 by omega] at this
      exact this
theorem valC_inj (p B : Nat) {a b : Nat} (h : valC p B a = valC p B b) : a = b := by
  rcases Nat.lt_trichotomy a b with h1 | h1 | h1
  · have := valC_lt p B h1; omega
  · exact h1
  · have := valC_lt p B h1; omega
theorem prec_emax (f : Int) (h0 : 0 ≤ f) (hf : f < 4) : 11 ≤ precS f ∧ precS f < emaxS f + 2 ∧ precS f ≤ 113 := by
  unfold precS emaxS
  repeat' split
  all_goals omega
theorem val_inf (f : Int) (h0 : 0 ≤ f) (hf : f < 4) : valC (precS f).toNat (unitB f KK) (infC f) = 2 ^ (emaxS f + 1).toNat * 2 ^ (255 + KK).toNat := by
  obtain ⟨p0, p1, p2⟩ := prec_emax f h0 hf
  obtain ⟨e0, e1⟩ := emaxS_bd f
  have hk : KK = 2199023255552 := rfl
  have he : (precS f - 1).toNat + ((2 * emaxS f + 1).toNat - 1 + unitB f KK) = (emaxS f + 1).toNat + (255 + KK).toNat := by
    unfold unitB leastS; omega
  clear hk
  have hpp : (precS f - 1).toNat = (precS f).toNat - 1 := by omega
  have hu := Nat.two_pow_pos (precS f - 1).toNat
  have hI : infC f = (2 * emaxS f + 1).toNat * 2 ^ (precS f - 1).toNat := rfl
  have hle : ¬ infC f < 2 ^ ((precS f).toNat - 1) := by
    rw [hI, ← hpp]
    have := Nat.le_mul_of_pos_left (2 ^ (precS f - 1).toNat) (show 0 < (2 * emaxS f + 1).toNat by omega)
    omega
  generalize unitB f KK = B at *
  generalize (255 + KK).toNat = S at *
  unfold valC
  rw [if_neg hle, ← hpp, hI, Nat.mul_mod_left, Nat.mul_div_cancel _ hu, Nat.add_zero, ← Nat.pow_add, ← Nat.pow_add, he]
theorem valC_inf (f : Int) (h0 : 0 ≤ f) (hf : f < 4) : 2 ^ (precS f - 1).toNat * 2 ^ (255 + KK).toNat < valC (precS f).toNat (unitB f KK) (infC f) := by
  obtain ⟨p0, p1, p2⟩ := prec_emax f h0 hf
  have hv := val_inf f h0 hf
  have hS := Nat.two_pow_pos (255 + KK).toNat
  rw [hv]
  generalize (255 + KK).toNat = S at *
  exact Nat.mul_lt_mul_of_pos_right (Nat.pow_lt_pow_right (by decide) (by omega)) hS
theorem lt_inf (p B I u S n c : Nat) (h2 : u * 2 ^ S < valC p B I) (hn : n ≤ u) (hc : valC p B c = n * 2 ^ S) : c < I := by
  rcases Nat.lt_or_ge c I with h | h
  · exact h
  · have h1 := valC_le p B h
    have h3 := Nat.mul_le_mul_right (2 ^ S) hn
    omega
theorem numX_255 (v : Nat) : numX KK 255 v = v * 2 ^ (255 + KK).toNat := by
  have h : farS 255 = 255 := by decide
  unfold numX
  rw [h]
theorem exact_res (f : Int) (s : Bool) (n : Nat) (h0 : 0 ≤ f) (hf : f < 4) (hn : n ≤ 2 ^ (precS f - 1).toNat) :
    ∃ c, c < infC f ∧ valC (precS f).toNat (unitB f KK) c = n * 2 ^ (255 + KK).toNat ∧ exB f s 255 n = c + signN f s ∧ exOk f s 255 n = true := by
  obtain ⟨p0, p1, p2⟩ := prec_emax f h0 hf
  obtain ⟨e0, e1⟩ := emaxS_bd f
  have hk : KK = 2199023255552 := rfl
  have hpp : (precS f - 1).toNat + 1 = (precS f).toNat := by omega
  have hn2 : n < 2 ^ (precS f).toNat := by
    have := Nat.two_pow_pos (precS f - 1).toNat
    rw [← hpp, Nat.pow_succ]; omega
  have hn3 : n < 2 ^ 256 := Nat.lt_of_lt_of_le hn2 (Nat.pow_le_pow_right (by decide) (by omega))
  obtain ⟨c, hc⟩ := small_code (precS f).toNat (unitB f KK) n (255 + KK).toNat (by omega) hn2 (by unfold unitB leastS; omega)
  have hX : numX KK 255 n = valC (precS f).toNat (unitB f KK) c := by
    rw [hc, numX_255]
  have hlt : c < infC f := lt_inf _ _ _ _ _ _ _ (valC_inf f h0 hf) hn hc
  have hfl : resFl f 4 false s 255 n = 0 := by
    rw [res_flag f 4 false s 255 n h0 hf (by decide) hn3, hX]
    unfold flagX
    rw [codeX_self _ _ _ _ _ (by omega), if_neg (by omega), rest_self _ _ _ (by omega)]
    rfl
  refine ⟨c, hlt, hc, ?_, ?_⟩
  · unfold exB
    rw [if_pos ⟨hf, hfl⟩, res_code f 4 s 255 n h0 hf (by decide) hn3]
    unfold codeR
    rw [hX, codeX_self _ _ _ _ _ (by omega)]
    unfold endC
    rw [if_neg (by omega)]
  · unfold exOk
    rw [decide_eq_true hf, hfl]
    rfl
theorem wh_small (f m : Int) (v : Nat) (h0 : 0 ≤ f) (hf : f < 4) (hk : keepB f v = false) : whN (unE f v) m (sgnF f v) (unS f v) ≤ 2 ^ (precS f - 1).toNat := by
  obtain ⟨p0, p1, p2⟩ := prec_emax f h0 hf
  unfold keepB at hk
  rw [Bool.or_eq_false_iff, decide_eq_false_iff_not] at hk
  have hV : up128 (unS f v) < 2 ^ 256 := up128_lt _ (unS_lt f v h0)
  have hu : unS f v * 2 ^ 128 = up128 (unS f v) := rfl
  unfold whN
  rw [hu]
  split
  · exact Nat.le_trans (cutS_le (jamS (up128 (unS f v)) (-unE f v - 1)) 0 m (sgnF f v) (by decide) (by decide) (jamS_le _ _ hV)) (Nat.pow_le_pow_right (by decide) (Nat.zero_le _))
  · exact Nat.le_trans (cutS_le (up128 (unS f v)) (unE f v + 1) m (sgnF f v) (by omega) (by omega) hV) (Nat.pow_le_pow_right (by decide) (by omega))
theorem keep_turn (f : Int) (v : Nat) (h0 : 0 ≤ f) (hf : f < 4) : keepB f (turnF f v) = keepB f v ∧ nanB f (turnF f v) = nanB f v := by
  obtain ⟨c1, c2, c3⟩ := turn_class f v h0 hf
  unfold keepB nanB
  rw [c1, c2]
  exact ⟨rfl, rfl⟩
/-- A number made whole: its sign; turned. -/
theorem rint_turn (f m : Int) (ex : Bool) (v : Nat) (h0 : 0 ≤ f) (hf : f < 4) (hm : m ≤ 4) (hn : nanB f v = false) :
    rintB f (mirS m) (turnF f v) = turnF f (rintB f m v) ∧ rintFl f (mirS m) ex (turnF f v) = rintFl f m ex v ∧ sgnF f (rintB f m v) = sgnF f v := by
  have hm' := (mir_known m).2 hm
  obtain ⟨c1, c2, c3⟩ := turn_class f v h0 hf
  obtain ⟨t1, t2, t3⟩ := turn_parts f v h0 hf
  obtain ⟨k1, k2⟩ := keep_turn f v h0 hf
  have hI := infC_lt f h0 hf
  have hu := Nat.two_pow_pos (precS f - 1).toNat
  unfold rintB rintFl
  rw [if_pos (show f < 4 ∧ mirS m ≤ 4 from ⟨hf, hm'⟩), if_pos (show f < 4 ∧ m ≤ 4 from ⟨hf, hm⟩), if_pos (show f < 4 ∧ mirS m ≤ 4 from ⟨hf, hm'⟩), if_pos (show f < 4 ∧ m ≤ 4 from ⟨hf, hm⟩)]
  rw [k2, hn, k1, c2, c3, t3]
  simp only [Bool.false_eq_true, if_false]
  cases hk : keepB f v
  · simp only [Bool.false_eq_true, if_false]
    rw [whN_turn]
    obtain ⟨c, l1, v1, b1, o1⟩ := exact_res f (sgnF f v) _ h0 hf (wh_small f m v h0 hf hk)
    obtain ⟨d, l2, v2, b2, o2⟩ := exact_res f (!(sgnF f v)) _ h0 hf (wh_small f m v h0 hf hk)
    have hcd : d = c := valC_inj _ _ (v2.trans v1.symm)
    subst hcd
    have hlt : d < 2 ^ (widthS f - 1).toNat := by omega
    rw [b1, b2, turnF_of f d _ h0 hf hlt]
    exact ⟨rfl, trivial, (of_code f d _ h0 hf hlt).2.2⟩
  · simp only [if_true]
    have hc := code_lt f v h0 hf
    have ht : codeF f (turnF f v) = codeF f v := by unfold codeF; rw [t1, t2]
    rw [cut_code f v h0 hf, cut_code f (turnF f v) h0 hf, ht, t3, turnF_of f _ _ h0 hf hc]
    exact ⟨rfl, trivial, (of_code f _ _ h0 hf hc).2.2⟩
theorem nan_quiet (f : Int) (v : Nat) (h0 : 0 ≤ f) (hf : f < 4) (hn : nanB f v = true) : nanB f (quietF f v) = true := by
  obtain ⟨p0, p1, p2⟩ := prec_emax f h0 hf
  have hq : quietF f v = lowN v (widthS f) ||| 2 ^ (precS f - 2).toNat := by
    unfold quietF lsh
    rw [hn, if_pos rfl, show cat 0 1 = 1 from rfl, Nat.one_mul]
  have hlow := nan_low f v h0 hf
  rw [hq, or_bit]
  by_cases hb : (lowN v (widthS f)).testBit (precS f - 2).toNat = true
  · rw [if_pos hb, hlow]; exact hn
  · rw [if_neg hb]
    obtain ⟨w1, w2⟩ := width_split f h0 hf
    have hc := code_lt f v h0 hf
    have hu : 2 ^ (precS f - 1).toNat = 2 * 2 ^ (precS f - 2).toNat := by rw [← Nat.pow_succ']; congr 1; omega
    have hbp := Nat.two_pow_pos (precS f - 2).toNat
    have hfr := frac_lt_p f v h0 hf
    have hcode : codeF f v = expF f v * 2 ^ (precS f - 1).toNat + fracF f v := rfl
    have hs : signN f (sgnF f v) = (if sgnF f v then 1 else 0) * (2 ^ (precS f - 1).toNat * 2 ^ (widthS f - precS f).toNat) := by
      unfold signN; rw [w1]; cases sgnF f v <;> simp
    have hz : fracF f v < 2 ^ (precS f - 2).toNat := by
      rcases Nat.lt_or_ge (fracF f v) (2 ^ (precS f - 2).toNat) with h | h
      · exact h
      · exfalso
        apply hb
        rw [Nat.testBit_eq_decide_div_mod_eq, decide_eq_true_eq, cut_code f v h0 hf, hs, hcode, hu]
        have e : expF f v * (2 * 2 ^ (precS f - 2).toNat) + fracF f v + (if sgnF f v then 1 else 0) * (2 * 2 ^ (precS f - 2).toNat * 2 ^ (widthS f - precS f).toNat) = fracF f v + 2 ^ (precS f - 2).toNat * (2 * (expF f v + (if sgnF f v then 1 else 0) * 2 ^ (widthS f - precS f).toNat)) := by
          rw [Nat.mul_left_comm (2 ^ (precS f - 2).toNat) 2, Nat.mul_add, Nat.mul_add]
          have a1 : expF f v * (2 * 2 ^ (precS f - 2).toNat) = 2 * (2 ^ (precS f - 2).toNat * expF f v) := by rw [Nat.mul_left_comm, Nat.mul_comm (expF f v)]
          have a2 : (if sgnF f v then 1 else 0) * (2 * 2 ^ (precS f - 2).toNat * 2 ^ (widthS f - precS f).toNat) = 2 * (2 ^ (precS f - 2).toNat * ((if sgnF f v then 1 else 0) * 2 ^ (widthS f - precS f).toNat)) := by
            rw [Nat.mul_assoc 2, Nat.mul_left_comm, Nat.mul_left_comm (if sgnF f v = true then 1 else 0)]
          rw [a1, a2]
          omega
        rw [e, Nat.add_mul_div_left _ _ hbp, Nat.add_mul_mod_self_left]
        have h1 : fracF f v / 2 ^ (precS f - 2).toNat = 1 := by
          rw [Nat.div_eq_iff hbp]; omega
        rw [h1]
    have hlt : codeF f v + 2 ^ (precS f - 2).toNat < 2 ^ (widthS f - 1).toNat := by
      rw [w1] at hc ⊢
      rw [hcode] at hc ⊢
      have h1 : expF f v < 2 ^ (widthS f - precS f).toNat := by
        rcases Nat.lt_or_ge (expF f v) (2 ^ (widthS f - precS f).toNat) with h | h
        · exact h
        · have := Nat.mul_le_mul_right (2 ^ (precS f - 1).toNat) h
          rw [Nat.mul_comm (2 ^ (widthS f - precS f).toNat)] at this
          omega
      have h2 := Nat.mul_le_mul_right (2 ^ (precS f - 1).toNat) (show expF f v + 1 ≤ 2 ^ (widthS f - precS f).toNat from h1)
      rw [Nat.succ_mul, Nat.mul_comm (2 ^ (widthS f - precS f).toNat)] at h2
      omega
    have hn4 := (class_code f v h0 hf).2.2.2.2
    have h4 : 4 ≤ classF f v := by unfold nanB at hn; simpa using hn
    have hi := hn4.1 h4
    have hcc := code_of f (codeF f v + 2 ^ (precS f - 2).toNat) (sgnF f v) h0 hf hlt
    rw [cut_code f v h0 hf, Nat.add_right_comm]
    have hq4 := (class_code f (codeF f v + 2 ^ (precS f - 2).toNat + signN f (sgnF f v)) h0 hf).2.2.2.2
    rw [hcc] at hq4
    unfold nanB
    rw [decide_eq_true_eq]
    exact hq4.2 (by omega)
theorem or_lt128 (x k : Nat) (hx : x < 2 ^ 128) (hk : k < 128) : x ||| 2 ^ k < 2 ^ 128 := Nat.or_lt_two_pow hx (Nat.pow_lt_pow_right (by decide) hk)
theorem low_lt (f : Int) (v : Nat) : lowN v (widthS f) < 2 ^ 128 := by
  have h : (widthS f).toNat ≤ 128 := by unfold widthS; repeat' split <;> omega
  exact Nat.lt_of_lt_of_le (Nat.mod_lt _ (Nat.two_pow_pos _)) (Nat.pow_le_pow_right (by decide) h)
theorem rint_lt (f m : Int) (v : Nat) (h0 : 0 ≤ f) (hf : f < 4) : rintB f m v < 2 ^ 128 := by
  obtain ⟨p0, p1, p2⟩ := prec_emax f h0 hf
  have hw : 2 ^ (widthS f - 1).toNat ≤ 2 ^ 127 := Nat.pow_le_pow_right (by decide) (by unfold widthS; repeat' split <;> omega)
  have h128 : (2 : Nat) ^ 128 = 2 ^ 127 + 2 ^ 127 := rfl
  unfold rintB
  split
  · split
    · unfold quietF
      split
      · have hq : lsh (cat 0 1) (precS f - 2) = 2 ^ (precS f - 2).toNat := by unfold lsh; rw [show cat 0 1 = 1 from rfl, Nat.one_mul]
        first | exact low_lt f v | (rw [hq]; exact or_lt128 _ _ (low_lt f v) (by omega))
      · have hq : lsh (cat 0 1) (precS f - 2) = 2 ^ (precS f - 2).toNat := by unfold lsh; rw [show cat 0 1 = 1 from rfl, Nat.one_mul]
        first | exact low_lt f v | (rw [hq]; exact or_lt128 _ _ (low_lt f v) (by omega))
    · cases hk : keepB f v
      · rw [if_neg (show ¬ (false = true) by decide)]
        obtain ⟨c, l1, v1, b1, o1⟩ := exact_res f (sgnF f v) _ h0 hf (wh_small f m v h0 hf hk)
        rw [b1]
        have hI := infC_lt f h0 hf
        have hu := Nat.two_pow_pos (precS f - 1).toNat
        have hs : signN f (sgnF f v) ≤ 2 ^ (widthS f - 1).toNat := by unfold signN; split <;> omega
        omega
      · rw [if_pos rfl]; exact low_lt f v
  · decide
end Go.Proofs.YtmebfamfbdhlmaaDoor
