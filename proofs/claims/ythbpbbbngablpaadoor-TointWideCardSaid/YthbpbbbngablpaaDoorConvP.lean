/- The plain law of a number put into a wider format: it is the same number, and makes the same integer. No program in sight. -/
import Derived.Test.YthbpbbbngablpaaDoorRintN
import Derived.Test.YthbpbbbngablpaaDoorToint3
import Derived.Test.YthbpbbbngablpaaDoorNan
set_option linter.unusedSimpArgs false
set_option linter.unusedVariables false
namespace Go.Proofs.YthbpbbbngablpaaDoor
open Go.RowKit Go.Hb
theorem fmt_wider (f g : Int) (h0 : 0 ≤ f) (hfg : f ≤ g) (hg : g < 4) : precS f ≤ precS g ∧ emaxS f ≤ emaxS g ∧ unitB g KK ≤ unitB f KK := by
  have hk : KK = 2199023255552 := rfl
  have hf4 : f = 0 ∨ f = 1 ∨ f = 2 ∨ f = 3 := by omega
  have hg4 : g = 0 ∨ g = 1 ∨ g = 2 ∨ g = 3 := by omega
  have hp : precS f ≤ precS g ∧ emaxS f ≤ emaxS g := by
    unfold precS emaxS
    rcases hf4 with rfl | rfl | rfl | rfl <;> rcases hg4 with rfl | rfl | rfl | rfl <;> first | (exfalso; omega) | (refine ⟨?_, ?_⟩ <;> decide)
  refine ⟨hp.1, hp.2, ?_⟩
  unfold unitB leastS
  omega
/-- A narrower format's number is a wider one's. -/
theorem code_wider (f g : Int) (c : Nat) (h0 : 0 ≤ f) (hfg : f ≤ g) (hg : g < 4) (hc : c < infC f) : ∃ d, d < infC g ∧ valC (precS g).toNat (unitB g KK) d = valC (precS f).toNat (unitB f KK) c := by
  obtain ⟨p1, p2, p3⟩ := fmt_wider f g h0 hfg hg
  obtain ⟨q0, q1, q2⟩ := prec_emax f h0 (by omega)
  obtain ⟨t, r, ht, hr, hc2, ec⟩ := code_form (precS f).toNat (unitB f KK) c
  have vc : valC (precS f).toNat (unitB f KK) c = r * 2 ^ t := by rw [ec]; exact valC_mk _ _ t r ht (Nat.le_of_lt hr) hc2
  have hpw : 2 ^ ((precS f).toNat - 1) ≤ 2 ^ ((precS g).toNat - 1) := Nat.pow_le_pow_right (by decide) (by omega)
  obtain ⟨d, hd⟩ := rep (precS g).toNat (unitB g KK) (t - unitB g KK) r (by omega)
  rw [show unitB g KK + (t - unitB g KK) = t by omega, ← vc] at hd
  refine ⟨d, ?_, hd⟩
  rcases Nat.lt_or_ge d (infC g) with h | h
  · exact h
  · exfalso
    have h1 := valC_le (precS g).toNat (unitB g KK) h
    have h2 := valC_lt (precS f).toNat (unitB f KK) hc
    have i1 := val_inf f h0 (by omega)
    have i2 := val_inf g (by omega) hg
    have h3 : 2 ^ (emaxS f + 1).toNat * 2 ^ (255 + KK).toNat ≤ 2 ^ (emaxS g + 1).toNat * 2 ^ (255 + KK).toNat := Nat.mul_le_mul_right _ (Nat.pow_le_pow_right (by decide) (by omega))
    omega
def convB (f g : Int) (v : Nat) : Nat := resB g 0 (sgnF f v) (unE f v) (up128 (unS f v))
theorem conv_plain (f g : Int) (v : Nat) (h0 : 0 ≤ f) (hfg : f ≤ g) (hg : g < 4) (hfin : classF f v < 3) :
    classF g (convB f g v) < 3 ∧ sgnF g (convB f g v) = sgnF f v ∧ valC (precS g).toNat (unitB g KK) (codeF g (convB f g v)) = valC (precS f).toNat (unitB f KK) (codeF f v) := by
  have hr := res_code g 0 (sgnF f v) (unE f v) (up128 (unS f v)) (by omega) hg (by decide) (up128_lt _ (unS_lt f v h0))
  obtain ⟨d, d1, d2⟩ := code_wider f g (codeF f v) h0 hfg hg ((class_fin f v h0 (by omega)).1 hfin)
  obtain ⟨p0, p1, p2⟩ := prec_emax g (by omega) hg
  have hI := infC_lt g (by omega) hg
  have hup := Nat.two_pow_pos (precS g - 1).toNat
  unfold codeR at hr
  rw [un_val f v h0 (by omega) hfin, ← d2, codeX_self _ _ _ _ _ (by omega)] at hr
  unfold endC at hr
  rw [if_neg (by omega)] at hr
  have hc := code_of g d (sgnF f v) (by omega) hg (by omega)
  have hs := (of_code g d (sgnF f v) (by omega) hg (by omega)).2.2
  have e : convB f g v = d + signN g (sgnF f v) := hr
  rw [e, hc]
  exact ⟨(class_fin g _ (by omega) hg).2 (by rw [hc]; exact d1), hs, d2⟩
/-- A number's parts are told by the number. -/
theorem num_parts (X S S' n n' : Nat) (hS : S = 0 ∨ 2 ^ 127 ≤ S) (hS' : S' = 0 ∨ 2 ^ 127 ≤ S') (hl : S < 2 ^ 128) (hl' : S' < 2 ^ 128) (h : S * 2 ^ n = X) (h' : S' * 2 ^ n' = X) : S = S' ∧ (S ≠ 0 → n = n') := by
  by_cases hz : S = 0
  · have hX : X = 0 := by rw [← h, hz, Nat.zero_mul]
    rw [hX] at h'
    rcases Nat.mul_eq_zero.1 h' with h2 | h2
    · exact ⟨by omega, fun h => absurd hz h⟩
    · exact absurd h2 (Nat.ne_of_gt (Nat.two_pow_pos _))
  · have hX : X ≠ 0 := by rw [← h]; exact Nat.mul_ne_zero hz (Nat.ne_of_gt (Nat.two_pow_pos _))
    have hz' : S' ≠ 0 := by intro h2; rw [h2, Nat.zero_mul] at h'; exact hX h'.symm
    have b1 := blen_up S n hz
    have b2 := blen_up S' n' hz'
    have l1 : blen S = 128 := blen_unique hl (Or.inr (by omega))
    have l2 : blen S' = 128 := blen_unique hl' (Or.inr (by omega))
    rw [h, l1] at b1
    rw [h', l2] at b2
    have hn : n = n' := by omega
    subst hn
    exact ⟨Nat.eq_of_mul_eq_mul_right (Nat.two_pow_pos n) (by rw [h, h']), fun _ => rfl⟩
theorem un_two (f : Int) (v : Nat) (h0 : 0 ≤ f) : -1000000 ≤ unE f v ∧ unE f v ≤ 1000000 := by
  obtain ⟨e0, e1⟩ := emaxS_bd f
  obtain ⟨p0, p1⟩ := precS_bd f
  have hl := unE_low f v h0
  refine ⟨by omega, ?_⟩
  unfold unE
  split
  · have hx : expF f v ≤ 32767 := by
      unfold expF
      split
      · omega
      · have hw : (widthS f - precS f).toNat ≤ 15 := by unfold widthS precS; repeat' split <;> omega
        have := Nat.mod_lt (v / 2 ^ (precS f - 1).toNat) (Nat.two_pow_pos (widthS f - precS f).toNat)
        have h2 : 2 ^ (widthS f - precS f).toNat ≤ 2 ^ 15 := Nat.pow_le_pow_right (by decide) hw
        have h3 : (2 : Nat) ^ 15 = 32768 := by decide
        omega
    omega
  · split
    · have := by128_bd (fracF f v) (Nat.lt_trans (fracF_lt f v h0) (by decide)); omega
    · omega
theorem un_top (f : Int) (v : Nat) (h0 : 0 ≤ f) : unE f v ≤ 1000000 := (un_two f v h0).2
theorem un_same (f g : Int) (v u : Nat) (h0 : 0 ≤ f) (hf : f < 4) (g0 : 0 ≤ g) (hg : g < 4) (hv : classF f v < 3) (hu : classF g u < 3)
    (hX : valC (precS g).toNat (unitB g KK) (codeF g u) = valC (precS f).toNat (unitB f KK) (codeF f v)) : unS f v = unS g u ∧ unE f v = unE g u := by
  have x1 := un_val f v h0 hf hv
  have x2 := un_val g u g0 hg hu
  rw [hX] at x2
  have l1 := unS_lt f v h0
  have l2 := unS_lt g u g0
  have lo1 := unE_low f v h0
  have lo2 := unE_low g u g0
  have c1 := unS_cases f v h0 hv
  have c2 := unS_cases g u g0 hu
  have hk : KK = 2199023255552 := rfl
  have hup1 : ∀ e, numX KK e (up128 (unS f v)) = unS f v * 2 ^ (128 + (farS e + KK).toNat) := fun e => by unfold numX up128; rw [Nat.mul_assoc, ← Nat.pow_add]
  have hup2 : ∀ e, numX KK e (up128 (unS g u)) = unS g u * 2 ^ (128 + (farS e + KK).toNat) := fun e => by unfold numX up128; rw [Nat.mul_assoc, ← Nat.pow_add]
  rw [hup1] at x1
  rw [hup2] at x2
  obtain ⟨s1, s2⟩ := num_parts _ _ _ _ _ c1 c2 l1 l2 x1 x2
  refine ⟨s1, ?_⟩
  by_cases hz : unS f v = 0
  · have e1 : ∀ (f : Int) (v : Nat), 0 ≤ f → f < 4 → classF f v < 3 → unS f v = 0 → unE f v = 0 := fun f v h0 hf hv hz => by
      have hb := classF_bd f v
      by_cases h2 : classF f v = 2
      · exfalso
        unfold unS at hz; rw [if_pos h2] at hz
        have hp := Nat.two_pow_pos 127
        unfold nrm at hz
        have : cat 9223372036854775808 0 = 2 ^ 127 := by decide
        omega
      · by_cases h1 : classF f v = 1
        · exfalso
          unfold unS at hz; rw [if_neg h2, if_pos h1] at hz
          have hf0 := ((class_parts f v h0).1 h1).2.2
          unfold raise128 at hz
          rcases Nat.mul_eq_zero.1 hz with h | h
          · exact hf0 h
          · exact absurd h (Nat.ne_of_gt (Nat.two_pow_pos _))
        · unfold unE; rw [if_neg h2, if_neg h1]
    rw [e1 f v h0 hf hv hz, e1 g u g0 hg hu (by rw [← s1]; exact hz)]
  · have hn := s2 hz
    have u1 := un_top f v h0
    have u2 := un_top g u g0
    unfold farS at hn
    omega
/-- The same number, of the same sign, makes the same integer in both formats. -/
theorem int_same (f g k m : Int) (v u : Nat) (h0 : 0 ≤ f) (hf : f < 4) (g0 : 0 ≤ g) (hg : g < 4) (hv : classF f v < 3) (hu : classF g u < 3) (hs : sgnF g u = sgnF f v)
    (hX : valC (precS g).toNat (unitB g KK) (codeF g u) = valC (precS f).toNat (unitB f KK) (codeF f v)) : intV f k m v = intV g k m u ∧ intF f k m v = intF g k m u := by
  obtain ⟨s1, s2⟩ := un_same f g v u h0 hf g0 hg hv hu hX
  have ho : ∀ c e, c < 3 → okW c e = okW 0 e := fun c e hc => by
    unfold okW
    have : (c == 3) = false := by rw [beq_eq_false_iff_ne]; omega
    rw [this]; rfl
  have hn : numI f m v = numI g m u := by unfold numI whV; rw [ho _ _ hv, ho _ _ hu, s1, s2, hs]
  have hb : bigI f k m v = bigI g k m u := by unfold bigI; rw [ho _ _ hv, ho _ _ hu, s2, hs, hn]
  have hz : sizI f k m v = sizI g k m u := by unfold sizI; rw [hb, hs, hn]
  have hw : whO (classF f v) (unE f v) (unS f v) = whO (classF g u) (unE g u) (unS g u) := by unfold whO; rw [ho _ _ hv, ho _ _ hu, s1, s2]
  unfold intV intF
  rw [hb, hz, hw, hs]
  by_cases hk : k < 4 ∧ m ≤ 4
  · rw [if_pos (show f < 4 ∧ k < 4 ∧ m ≤ 4 ∧ classF f v < 4 from ⟨hf, hk.1, hk.2, by omega⟩), if_pos (show g < 4 ∧ k < 4 ∧ m ≤ 4 ∧ classF g u < 4 from ⟨hg, hk.1, hk.2, by omega⟩), if_pos (show f < 4 ∧ k < 4 ∧ m ≤ 4 from ⟨hf, hk⟩), if_pos (show g < 4 ∧ k < 4 ∧ m ≤ 4 from ⟨hg, hk⟩), if_neg (show ¬ 4 ≤ classF f v by omega), if_neg (show ¬ 4 ≤ classF g u by omega)]
    exact ⟨rfl, rfl⟩
  · rw [if_neg (show ¬ (f < 4 ∧ k < 4 ∧ m ≤ 4 ∧ classF f v < 4) from fun h => hk ⟨h.2.1, h.2.2.1⟩), if_neg (show ¬ (g < 4 ∧ k < 4 ∧ m ≤ 4 ∧ classF g u < 4) from fun h => hk ⟨h.2.1, h.2.2.1⟩), if_neg (show ¬ (f < 4 ∧ k < 4 ∧ m ≤ 4) from fun h => hk h.2), if_neg (show ¬ (g < 4 ∧ k < 4 ∧ m ≤ 4) from fun h => hk h.2)]
    exact ⟨rfl, rfl⟩
theorem int_inf (f g k m : Int) (v u : Nat) (hf : f < 4) (hg : g < 4) (hv : classF f v = 3) (hu : classF g u = 3) (hs : sgnF g u = sgnF f v) : intV f k m v = intV g k m u ∧ intF f k m v = intF g k m u := by
  have ho : ∀ e, okW 3 e = false := fun e => by unfold okW; rfl
  have hb1 : bigI f k m v = true := by unfold bigI; rw [hv, ho, Bool.not_false, Bool.true_or]
  have hb2 : bigI g k m u = true := by unfold bigI; rw [hu, ho, Bool.not_false, Bool.true_or]
  have hb : bigI f k m v = bigI g k m u := by rw [hb1, hb2]
  have hz : sizI f k m v = sizI g k m u := by unfold sizI; rw [hb1, hb2, hs, if_pos rfl, if_pos rfl]
  unfold intV intF
  rw [← hb, hb1, hz, hs, hv, hu]
  by_cases hk : k < 4 ∧ m ≤ 4
  · rw [if_pos (show f < 4 ∧ k < 4 ∧ m ≤ 4 ∧ (3 : Int) < 4 from ⟨hf, hk.1, hk.2, by decide⟩), if_pos (show g < 4 ∧ k < 4 ∧ m ≤ 4 ∧ (3 : Int) < 4 from ⟨hg, hk.1, hk.2, by decide⟩), if_pos (show f < 4 ∧ k < 4 ∧ m ≤ 4 from ⟨hf, hk⟩), if_pos (show g < 4 ∧ k < 4 ∧ m ≤ 4 from ⟨hg, hk⟩), if_neg (show ¬ (4 : Int) ≤ 3 by decide), if_neg (show ¬ (4 : Int) ≤ 3 by decide), if_pos rfl, if_pos rfl]
    exact ⟨rfl, rfl⟩
  · rw [if_neg (show ¬ (f < 4 ∧ k < 4 ∧ m ≤ 4 ∧ (3 : Int) < 4) from fun h => hk ⟨h.2.1, h.2.2.1⟩), if_neg (show ¬ (g < 4 ∧ k < 4 ∧ m ≤ 4 ∧ (3 : Int) < 4) from fun h => hk ⟨h.2.1, h.2.2.1⟩), if_neg (show ¬ (f < 4 ∧ k < 4 ∧ m ≤ 4) from fun h => hk h.2), if_neg (show ¬ (g < 4 ∧ k < 4 ∧ m ≤ 4) from fun h => hk h.2)]
    exact ⟨rfl, rfl⟩
theorem int_nan2 (f g k m : Int) (v u : Nat) (hf : f < 4) (hg : g < 4) (hv : nanB f v = true) (hu : nanB g u = true) : intV f k m v = intV g k m u ∧ intF f k m v = intF g k m u := by
  have h1 : 4 ≤ classF f v := of_decide_eq_true hv
  have h2 : 4 ≤ classF g u := of_decide_eq_true hu
  unfold intV intF
  rw [if_neg (show ¬ (f < 4 ∧ k < 4 ∧ m ≤ 4 ∧ classF f v < 4) from fun h => by omega), if_neg (show ¬ (g < 4 ∧ k < 4 ∧ m ≤ 4 ∧ classF g u < 4) from fun h => by omega)]
  refine ⟨rfl, ?_⟩
  by_cases hk : k < 4 ∧ m ≤ 4
  · rw [if_pos (show f < 4 ∧ k < 4 ∧ m ≤ 4 from ⟨hf, hk⟩), if_pos (show g < 4 ∧ k < 4 ∧ m ≤ 4 from ⟨hg, hk⟩), if_pos h1, if_pos h2]
  · rw [if_neg (show ¬ (f < 4 ∧ k < 4 ∧ m ≤ 4) from fun h => hk h.2), if_neg (show ¬ (g < 4 ∧ k < 4 ∧ m ≤ 4) from fun h => hk h.2)]
end Go.Proofs.YthbpbbbngablpaaDoor
