/- The plain laws of chapter 16: order, neighbours, jams, mirrors, tininess. No condition. -/
import Derived.Test.YtgdbdbjegiaifaaDoorCodes3
import Derived.Test.YtgdbdbjegiaifaaDoorResdef
import Derived.Test.YtgdbdbjegiaifaaDoorMirror
set_option linter.unusedSimpArgs false
set_option linter.unusedVariables false
namespace Go.Proofs.YtgdbdbjegiaifaaDoor
open Go.RowKit Go.Hb
def KK : Int := 2199023255552
theorem kk_bd (e : Int) (v : Nat) (hv : v < 2 ^ 256) : 0 ≤ nE e v + KK ∧ 16384 ≤ KK := by
  obtain ⟨h0, h1⟩ := nE_bd e v hv
  unfold KK; omega
theorem infC_pos (f : Int) : 0 < infC f := by
  obtain ⟨m0, m1⟩ := emaxS_bd f
  unfold infC
  exact Nat.mul_pos (by omega) (Nat.two_pow_pos _)
theorem floorC_zero (p B : Nat) : floorC p B 0 = 0 := by
  have h : cutAt p B 0 = B := by unfold cutAt; rw [blen_zero, Nat.zero_sub]; exact Nat.max_eq_right (Nat.zero_le _)
  unfold floorC
  rw [h, Nat.sub_self, Nat.zero_mul, Nat.zero_div]
theorem restC_zero (p B : Nat) : restC p B 0 = 0 := by
  unfold restC; rw [floorC_zero, valC_zero, Nat.sub_self]; rfl
theorem codeX_zero (p B : Nat) (m : Int) (neg : Bool) : codeX p B m neg 0 = 0 := by
  unfold codeX; rw [floorC_zero, restC_zero, next_zero]; rfl
theorem numX_zero (K e : Int) : numX K e 0 = 0 := by unfold numX; rw [Nat.zero_mul]
theorem makeF_zero (f : Int) (neg : Bool) (hf : f < 4) : makeF f neg 0 0 = signN f neg := by
  unfold makeF signN
  rw [if_neg (by omega)]
  simp
/-- The bits by the code, nought included. -/
theorem res_code (f m : Int) (neg : Bool) (e : Int) (v : Nat) (h0 : 0 ≤ f) (hf : f < 4) (hm : m ≤ 4) (hv : v < 2 ^ 256) : resB f m neg e v = endC f m neg (codeR f m neg KK e v) + signN f neg := by
  obtain ⟨k1, k2⟩ := kk_bd e v hv
  unfold resB
  rw [if_pos ⟨hf, hm⟩]
  by_cases hz : v = 0
  · subst hz
    rw [if_pos rfl, makeF_zero f neg hf]
    unfold codeR
    rw [numX_zero, codeX_zero]
    unfold endC
    rw [if_neg (by have := infC_pos f; omega), Nat.zero_add]
  · rw [if_neg hz]
    exact round_code f m neg KK e v h0 hf hz hv k1 k2
theorem res_flag (f m : Int) (aft neg : Bool) (e : Int) (v : Nat) (h0 : 0 ≤ f) (hf : f < 4) (hm : m ≤ 4) (hv : v < 2 ^ 256) : resFl f m aft neg e v = flagX f m aft neg (unitB f KK) (numX KK e v) := by
  obtain ⟨k1, k2⟩ := kk_bd e v hv
  unfold resFl
  rw [if_pos ⟨hf, hm⟩]
  by_cases hz : v = 0
  · subst hz
    rw [if_pos rfl]
    unfold flagX
    rw [numX_zero, codeX_zero, restC_zero, if_neg (by have := infC_pos f; omega)]
    rfl
  · rw [if_neg hz]
    exact round_flag f m aft neg KK e v h0 hf hz hv k1 k2
theorem res_none (f m : Int) (neg : Bool) (e : Int) (v : Nat) (h : ¬ (f < 4 ∧ m ≤ 4)) : resB f m neg e v = 0 := by unfold resB; rw [if_neg h]
theorem resFl_none (f m : Int) (aft neg : Bool) (e : Int) (v : Nat) (h : ¬ (f < 4 ∧ m ≤ 4)) : resFl f m aft neg e v = 0 := by unfold resFl; rw [if_neg h]
/-- How great bits may be. -/
theorem makeF_lt (f : Int) (neg : Bool) (e : Int) (x : Nat) (h0 : 0 ≤ f) : makeF f neg e x < 2 ^ 128 := by
  by_cases hf : f < 4
  · have h1 := mk_lt f (if e < 0 ∨ 1048576 < e then 0 else e.toNat) h0 hf
    have h2 := mk_pow f h0 hf
    have h3 := Nat.mod_lt x (Nat.two_pow_pos (precS f - 1).toNat)
    unfold makeF
    rw [if_neg (by omega)]
    rw [two128]
    generalize (if e < 0 ∨ 1048576 < e then 0 else e.toNat) = E at *
    split <;> omega
  · unfold makeF; rw [if_pos (by omega)]; decide
theorem resB_lt (f m : Int) (neg : Bool) (e : Int) (v : Nat) (h0 : 0 ≤ f) : resB f m neg e v < 2 ^ 128 := by
  unfold resB roundB overB
  repeat' split
  all_goals first | exact makeF_lt _ _ _ _ h0 | decide
theorem cat_small (n : Nat) (h : n < 2 ^ 128) : cat (hi n) (lo n) = n := cat_hl n (by rw [← two128]; exact h)
/-- The mirror. -/
theorem next_mir (m : Int) (odd : Bool) (r : Int) : nextS (mirS m) true odd r = nextS m false odd r := by
  unfold nextS ruleS mirS
  by_cases h2 : m = 2
  · subst h2; simp
  · by_cases h3 : m = 3
    · subst h3; simp
    · rw [if_neg h2, if_neg h3, if_neg h2, if_neg h3, if_neg h2, if_neg h3]
theorem codeX_mir (p B : Nat) (m : Int) (X : Nat) : codeX p B (mirS m) true X = codeX p B m false X := by
  unfold codeX; rw [next_mir]
theorem endC_mir (f m : Int) (c : Nat) : endC f (mirS m) true c = endC f m false c := by
  unfold endC; rw [next_mir]
theorem mir_known (m : Int) : mirS m ≤ 4 ↔ m ≤ 4 := by unfold mirS; repeat' split <;> omega
theorem res_mir (f m e : Int) (v : Nat) (h0 : 0 ≤ f) (hf : f < 4) (hm : m ≤ 4) (hv : v < 2 ^ 256) : resB f (mirS m) true e v = resB f m false e v + signN f true := by
  rw [res_code f (mirS m) true e v h0 hf ((mir_known m).2 hm) hv, res_code f m false e v h0 hf hm hv]
  unfold codeR
  rw [codeX_mir, endC_mir]
  simp [signN]
theorem resFl_mir (f m e : Int) (aft : Bool) (v : Nat) (h0 : 0 ≤ f) (hf : f < 4) (hm : m ≤ 4) (hv : v < 2 ^ 256) : resFl f (mirS m) aft true e v = resFl f m aft false e v := by
  rw [res_flag f (mirS m) aft true e v h0 hf ((mir_known m).2 hm) hv, res_flag f m aft false e v h0 hf hm hv]
  unfold flagX tinyX
  rw [codeX_mir, codeX_mir]
/-- Order. -/
theorem res_mono (f m e e' : Int) (a b : Nat) (h0 : 0 ≤ f) (ha : a < 2 ^ 256) (hb : b < 2 ^ 256) (h : numX KK e a ≤ numX KK e' b) : resB f m false e a ≤ resB f m false e' b := by
  by_cases hk : f < 4 ∧ m ≤ 4
  · rw [res_code f m false e a h0 hk.1 hk.2 ha, res_code f m false e' b h0 hk.1 hk.2 hb]
    obtain ⟨b1, b2, b3, b4, b5, b6⟩ := fmt_bd f h0 hk.1
    exact Nat.add_le_add_right (endC_mono f m false (codeX_mono _ _ _ _ (by omega) h)) _
  · rw [res_none f m false e a hk, res_none f m false e' b hk]; exact Nat.le_refl _
theorem numX_le (K e : Int) (a b : Nat) (h : a ≤ b) : numX K e a ≤ numX K e b := Nat.mul_le_mul_right _ h
theorem numX_le_e (K e e' : Int) (b : Nat) (h : e ≤ e') : numX K e b ≤ numX K e' b := by
  unfold numX farS
  exact Nat.mul_le_mul_left _ (Nat.pow_le_pow_right (by omega) (by omega))
/-- Neighbours. -/
theorem next_up (neg odd : Bool) (r : Int) (h0 : 0 ≤ r) (h3 : r ≤ 3) : nextS 2 false odd r = (r != 0) := by
  unfold nextS ruleS; rw [Bool.eq_iff_iff]; simp; omega
theorem next_down (odd : Bool) (r : Int) : nextS 3 false odd r = false := by unfold nextS ruleS; simp
theorem restC_bd (p B X : Nat) : 0 ≤ restC p B X ∧ restC p B X ≤ 3 := restG_bd _ _
theorem code_up (p B X : Nat) : codeX p B 2 false X = if restC p B X = 0 then floorC p B X else floorC p B X + 1 := by
  obtain ⟨h0, h3⟩ := restC_bd p B X
  unfold codeX
  rw [next_up false _ _ h0 h3]
  by_cases h : restC p B X = 0
  · rw [if_pos h, h]; rfl
  · rw [if_neg h, if_pos (by simpa using h)]
theorem code_down (p B X : Nat) : codeX p B 3 false X = floorC p B X := by unfold codeX; rw [next_down]; rfl
theorem code_two (p B : Nat) (m : Int) (X : Nat) : codeX p B m false X = codeX p B 2 false X ∨ codeX p B m false X = codeX p B 3 false X := by
  rw [code_up, code_down]
  by_cases h : restC p B X = 0
  · right; unfold codeX; rw [h, next_zero]; rfl
  · rw [if_neg h]; unfold codeX; split
    · left; rfl
    · right; rfl
theorem endC_up (f : Int) (c : Nat) : endC f 2 false c = if infC f ≤ c then infC f else c := by
  unfold endC; rfl
theorem endC_down (f : Int) (c : Nat) : endC f 3 false c = if infC f ≤ c then infC f - 1 else c := by
  unfold endC; rfl
theorem endC_two (f m : Int) (c : Nat) : infC f ≤ c → endC f m false c = infC f ∨ endC f m false c = infC f - 1 := by
  intro h; unfold endC; rw [if_pos h]; split
  · exact Or.inl rfl
  · exact Or.inr rfl
/-- A flag but for Overflow. -/
def noOver (x : Int) : Int := if x = 20 then 16 else x
theorem neigh (f m e : Int) (v : Nat) (h0 : 0 ≤ f) (hf : f < 4) (hm : m ≤ 4) (hv : v < 2 ^ 256) :
    (resB f m false e v = resB f 2 false e v ∨ resB f m false e v = resB f 3 false e v) ∧ noOver (resFl f m false false e v) = noOver (resFl f 3 false false e v) ∧
    ((resFl f 2 false false e v = 0 ∧ resFl f 3 false false e v = 0 ∧ resB f 2 false e v = resB f 3 false e v) ∨ (resFl f 2 false false e v ≠ 0 ∧ resB f 2 false e v = resB f 3 false e v + 1)) := by
  obtain ⟨b1, b2, b3, b4, b5, b6⟩ := fmt_bd f h0 hf
  rw [res_code f m false e v h0 hf hm hv, res_code f 2 false e v h0 hf (by omega) hv, res_code f 3 false e v h0 hf (by omega) hv, res_flag f m false false e v h0 hf hm hv, res_flag f 2 false false e v h0 hf (by omega) hv, res_flag f 3 false false e v h0 hf (by omega) hv]
  have hs : signN f false = 0 := rfl
  rw [hs]
  unfold codeR flagX tinyX
  simp only [Bool.not_false, Bool.true_or, Bool.and_true, Nat.add_zero]
  have hi := infC_pos f
  have hun : unitB f KK = unitB f KK := rfl
  have hfl0 : 2 ^ ((precS f).toNat - 1) < infC f := by
    obtain ⟨x1, x2⟩ := fmt_ex f h0 hf
    have hu := Nat.two_pow_pos ((precS f).toNat - 1)
    unfold infC
    rw [show (precS f - 1).toNat = (precS f).toNat - 1 by omega]
    have := Nat.mul_le_mul_right (2 ^ ((precS f).toNat - 1)) (show 2 ≤ (2 * emaxS f + 1).toNat by omega)
    omega
  have hcu := code_up (precS f).toNat (unitB f KK) (numX KK e v)
  have hcd := code_down (precS f).toNat (unitB f KK) (numX KK e v)
  have hcm := code_two (precS f).toNat (unitB f KK) m (numX KK e v)
  generalize codeX (precS f).toNat (unitB f KK) 2 false (numX KK e v) = cu at *
  generalize codeX (precS f).toNat (unitB f KK) 3 false (numX KK e v) = cd at *
  generalize codeX (precS f).toNat (unitB f KK) m false (numX KK e v) = cm at *
  generalize floorC (precS f).toNat (unitB f KK) (numX KK e v) = c at *
  generalize restC (precS f).toNat (unitB f KK) (numX KK e v) = r at *
  generalize 2 ^ ((precS f).toNat - 1) = u at *
  rw [endC_up, endC_down]
  have hem := endC_two f m cm
  have hem2 : ¬ infC f ≤ cm → endC f m false cm = cm := fun h => by unfold endC; rw [if_neg h]
  generalize endC f m false cm = em at *
  subst hcd
  by_cases hr : r = 0
  · subst hr
    rw [if_pos rfl] at hcu
    subst hcu
    have : cm = cu := by rcases hcm with h | h <;> exact h
    subst this
    have e1 : ((0 : Int) != 0) = false := rfl
    simp only [e1, flagsS_f]
    by_cases ho : infC f ≤ cm
    · simp only [if_pos ho]
      refine ⟨hem ho, (by first | rfl | trivial), Or.inr ⟨by first | trivial | decide, by omega⟩⟩
    · simp only [if_neg ho]
      exact ⟨Or.inl (hem2 ho), (by first | rfl | trivial), Or.inl ⟨(by first | rfl | trivial), (by first | rfl | trivial), (by first | rfl | trivial)⟩⟩
  · rw [if_neg hr] at hcu
    have e1 : (r != 0) = true := by simpa using hr
    simp only [e1]
    by_cases ho : infC f ≤ cd
    · have ho2 : infC f ≤ cu := by omega
      have ho3 : infC f ≤ cm := by rcases hcm with h | h <;> omega
      simp only [if_pos ho, if_pos ho2, if_pos ho3]
      exact ⟨hem ho3, (by first | rfl | trivial), Or.inr ⟨by first | trivial | decide, by omega⟩⟩
    · by_cases ho2 : infC f ≤ cu
      · have hcu2 : cu = infC f := by omega
        have ht : decide (cd < u) = false := decide_eq_false (by omega)
        simp only [if_neg ho, if_pos ho2, ht]
        rcases hcm with h | h
        · have ho3 : infC f ≤ cm := by omega
          simp only [if_pos ho3]
          refine ⟨?_, by first | trivial | decide, Or.inr ⟨by first | trivial | decide, by omega⟩⟩
          rcases hem ho3 with h' | h'
          · exact Or.inl h'
          · right; omega
        · have ho3 : ¬ infC f ≤ cm := by omega
          simp only [if_neg ho3]
          exact ⟨Or.inr (by rw [hem2 ho3, h]), (by first | rfl | trivial), Or.inr ⟨by first | trivial | decide, by omega⟩⟩
      · have ho3 : ¬ infC f ≤ cm := by rcases hcm with h | h <;> omega
        simp only [if_neg ho, if_neg ho2, if_neg ho3]
        rw [hem2 ho3]
        refine ⟨hcm, (by first | rfl | trivial), Or.inr ⟨?_, hcu⟩⟩
        cases decide (cd < u) <;> decide
end Go.Proofs.YtgdbdbjegiaifaaDoor
