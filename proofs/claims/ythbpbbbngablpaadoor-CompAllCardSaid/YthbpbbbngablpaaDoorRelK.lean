/- The plain law of the relation of numbers: it is that of keys. No program in sight. -/
import Derived.Test.YthbpbbbngablpaaDoorComp5
import Derived.Test.YthbpbbbngablpaaDoorMagK
set_option linter.unusedSimpArgs false
set_option linter.unusedVariables false
namespace Go.Proofs.YthbpbbbngablpaaDoor
open Go.RowKit Go.Hb
/-- A number's place. -/
def vkey (f : Int) (v : Nat) : Int := if sgnF f v then -(codeF f v : Int) else codeF f v
theorem siz_code (f : Int) (a b : Nat) (h0 : 0 ≤ f) (hf : f < 4) (ha : ¬ 4 ≤ classF f a) (hb : ¬ 4 ≤ classF f b) :
    sizC (classF f a) (unE f a) (up128 (unS f a)) (classF f b) (unE f b) (up128 (unS f b)) = cmpN (codeF f a) (codeF f b) := by
  have ca := class_code f a h0 hf
  have cb := class_code f b h0 hf
  have ka := classF_bd f a
  have kb := classF_bd f b
  unfold sizC
  by_cases h1 : classF f a = 3
  · rw [if_pos h1, ca.2.2.2.1.1 h1]
    by_cases h2 : classF f b = 3
    · rw [if_pos h2, cb.2.2.2.1.1 h2, cmpN_same rfl]
    · have := (class_fin f b h0 hf).1 (by omega)
      rw [if_neg h2, cmpN_gt this]
  · have fa := (class_fin f a h0 hf).1 (by omega)
    rw [if_neg h1]
    by_cases h2 : classF f b = 3
    · rw [if_pos h2, cb.2.2.2.1.1 h2, cmpN_lt fa]
    · obtain ⟨b1, b2⟩ := un_bd f a h0
      obtain ⟨b3, b4⟩ := un_bd f b h0
      rw [if_neg h2, mag_cmp KK _ _ _ _ b1 b2 b3 b4 (by decide), un_val f a h0 hf (by omega), un_val f b h0 hf (by omega)]
      rcases Nat.lt_trichotomy (codeF f a) (codeF f b) with h | h | h
      · rw [cmpN_lt (valC_lt _ _ h), cmpN_lt h]
      · rw [h, cmpN_same rfl, cmpN_same rfl]
      · rw [cmpN_gt (valC_lt _ _ h), cmpN_gt h]
theorem rel_key (f : Int) (a b : Nat) (h0 : 0 ≤ f) (hf : f < 4) (ha : ¬ 4 ≤ classF f a) (hb : ¬ 4 ≤ classF f b) : relF f a b = 1 + sgnI (vkey f a - vkey f b) := by
  have za := (class_code f a h0 hf).1
  have zb := (class_code f b h0 hf).1
  unfold relF relC
  rw [siz_code f a b h0 hf ha hb]
  unfold vkey sgnI cmpN
  generalize codeF f a = x at *
  generalize codeF f b = y at *
  by_cases hz : classF f a = 0 ∧ classF f b = 0
  · rw [if_pos hz, za.1 hz.1, zb.1 hz.2]
    cases sgnF f a <;> cases sgnF f b <;> simp
  · rw [if_neg hz]
    have hz2 : ¬ (x = 0 ∧ y = 0) := fun h => hz ⟨za.2 h.1, zb.2 h.2⟩
    cases sgnF f a <;> cases sgnF f b <;> simp
    all_goals (repeat' split)
    all_goals omega
theorem q_key (f : Int) (a b : Nat) (h0 : 0 ≤ f) (hf : f < 4) (ha : ¬ 4 ≤ classF f a) (hb : ¬ 4 ≤ classF f b) : qV f a b = 1 + sgnI (vkey f a - vkey f b) ∧ qF f a b = 0 ∧ sF f a b = 0 := by
  have n1 : nanB f a = false := decide_eq_false ha
  have n2 : nanB f b = false := decide_eq_false hb
  have n : nan2 f a b = false := by unfold nan2; rw [n1, n2]; rfl
  unfold qV qF sF
  rw [if_pos hf, n, rel_key f a b h0 hf ha hb]
  exact ⟨rfl, if_neg (fun h => absurd h.2.1 (by decide)), if_neg (fun h => absurd h.2 (by decide))⟩
theorem sgn_bd (x : Int) : -1 ≤ sgnI x ∧ sgnI x ≤ 1 ∧ (sgnI x ≤ 0 ↔ x ≤ 0) ∧ (sgnI x = -1 ↔ x < 0) ∧ (sgnI x = 1 ↔ 0 < x) ∧ (sgnI x = 0 ↔ x = 0) := by
  unfold sgnI
  repeat' split
  all_goals omega
end Go.Proofs.YthbpbbbngablpaaDoor
