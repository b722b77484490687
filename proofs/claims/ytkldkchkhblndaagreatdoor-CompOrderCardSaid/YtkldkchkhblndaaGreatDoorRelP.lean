/- The plain law of the relation of numbers: it is that of keys; the difference to nought. No program in sight. -/
import Derived.Test.YtkldkchkhblndaaGreatDoorSumX
import Derived.Test.YtkldkchkhblndaaGreatDoorComp5
set_option linter.unusedSimpArgs false
set_option linter.unusedVariables false
namespace Go.Proofs.YtkldkchkhblndaaGreatDoor
open Go.RowKit Go.Hb
/-- A number's place. -/
def vkey (f : Int) (v : Nat) : Int := if sgnF f v then -(codeF f v : Int) else codeF f v
theorem siz_code (f : Int) (a b : Nat) (h0 : 0 ≤ f) (hf : f < 4) (ha : ¬ 4 ≤ classF f a) (hb : ¬ 4 ≤ classF f b) :
    sizC (classF f a) (unE f a) (up128 (unS f a)) (classF f b) (unE f b) (up128 (unS f b)) = cmpN (codeF f a) (codeF f b) := by
  have ca := class_code f a h0 hf
  have cb := class_code f b h0 hf
  have ka := classF_bd f a
  have kb := classF_bd f b
  unfold sizC
  by_cases h1 : classF f a = 3
  · rw [if_pos h1, ca.2.2.2.1.1 h1]
    by_cases h2 : classF f b = 3
    · rw [if_pos h2, cb.2.2.2.1.1 h2, cmpN_same rfl]
    · have := (class_fin f b h0 hf).1 (by omega)
      rw [if_neg h2, cmpN_gt this]
  · have fa := (class_fin f a h0 hf).1 (by omega)
    rw [if_neg h1]
    by_cases h2 : classF f b = 3
    · rw [if_pos h2, cb.2.2.2.1.1 h2, cmpN_lt fa]
    · obtain ⟨b1, b2⟩ := un_bd f a h0
      obtain ⟨b3, b4⟩ := un_bd f b h0
      rw [if_neg h2, mag_cmp KK _ _ _ _ b1 b2 b3 b4 (by decide), un_val f a h0 hf (by omega), un_val f b h0 hf (by omega)]
      rcases Nat.lt_trichotomy (codeF f a) (codeF f b) with h | h | h
      · rw [cmpN_lt (valC_lt _ _ h), cmpN_lt h]
      · rw [h, cmpN_same rfl, cmpN_same rfl]
      · rw [cmpN_gt (valC_lt _ _ h), cmpN_gt h]
theorem rel_key (f : Int) (a b : Nat) (h0 : 0 ≤ f) (hf : f < 4) (ha : ¬ 4 ≤ classF f a) (hb : ¬ 4 ≤ classF f b) : relF f a b = 1 + sgnI (vkey f a - vkey f b) := by
  have za := (class_code f a h0 hf).1
  have zb := (class_code f b h0 hf).1
  unfold relF relC
  rw [siz_code f a b h0 hf ha hb]
  unfold vkey sgnI cmpN
  generalize codeF f a = x at *
  generalize codeF f b = y at *
  by_cases hz : classF f a = 0 ∧ classF f b = 0
  · rw [if_pos hz, za.1 hz.1, zb.1 hz.2]
    cases sgnF f a <;> cases sgnF f b <;> simp
  · rw [if_neg hz]
    have hz2 : ¬ (x = 0 ∧ y = 0) := fun h => hz ⟨za.2 h.1, zb.2 h.2⟩
    cases sgnF f a <;> cases sgnF f b <;> simp
    all_goals (repeat' split)
    all_goals omega
theorem q_key (f : Int) (a b : Nat) (h0 : 0 ≤ f) (hf : f < 4) (ha : ¬ 4 ≤ classF f a) (hb : ¬ 4 ≤ classF f b) : qV f a b = 1 + sgnI (vkey f a - vkey f b) ∧ qF f a b = 0 ∧ sF f a b = 0 := by
  have n1 : nanB f a = false := decide_eq_false ha
  have n2 : nanB f b = false := decide_eq_false hb
  have n : nan2 f a b = false := by unfold nan2; rw [n1, n2]; rfl
  unfold qV qF sF
  rw [if_pos hf, n, rel_key f a b h0 hf ha hb]
  exact ⟨rfl, if_neg (fun h => absurd h.2.1 (by decide)), if_neg (fun h => absurd h.2 (by decide))⟩
theorem sgn_bd (x : Int) : -1 ≤ sgnI x ∧ sgnI x ≤ 1 ∧ (sgnI x ≤ 0 ↔ x ≤ 0) ∧ (sgnI x = -1 ↔ x < 0) ∧ (sgnI x = 1 ↔ 0 < x) ∧ (sgnI x = 0 ↔ x = 0) := by
  unfold sgnI
  repeat' split
  all_goals omega
/-- The place of a difference. -/
theorem key_sub (f m : Int) (a b : Nat) (h0 : 0 ≤ f) (hf : f < 4) (hm : m ≤ 4) (ha : classF f a < 3) (hb : classF f b < 3) :
    classF f (addB f m a (subN f b)) ≤ 3 ∧ sgnI (vkey f (addB f m a (subN f b)) - 0) = sgnI (vkey f a - vkey f b) := by
  obtain ⟨t1, t2, t3⟩ := turn_code f b h0 hf
  have hy : classF f (subN f b) < 3 := by rw [sub_fin f b hb, t3]; exact hb
  obtain ⟨r1, r2, r3⟩ := add_parts f m false a (subN f b) h0 hf hm ha hy
  have hz := add_zero f m a (subN f b) h0 hf hm ha hy
  have hc := (class_code f (addB f m a (subN f b)) h0 hf)
  have hle := endC_le f m (sumG f m a (subN f b)) (codeX (precS f).toNat (unitB f KK) m (sumG f m a (subN f b)) (sumX f a (subN f b)))
  rw [← r1] at hle
  have hX : sumX f a (subN f b) = 0 ↔ vkey f a = vkey f b := by
    have e1 := valC_eq (precS f).toNat (unitB f KK) (codeF f a) (codeF f b)
    have e2 := valC_zero_iff (precS f).toNat (unitB f KK) (codeF f a)
    have e3 := valC_zero_iff (precS f).toNat (unitB f KK) (codeF f b)
    rw [sub_fin f b hb]
    unfold sumX exactX vkey
    rw [t1, t2]
    generalize valC (precS f).toNat (unitB f KK) (codeF f a) = A at *
    generalize valC (precS f).toNat (unitB f KK) (codeF f b) = D at *
    cases sgnF f a <;> cases sgnF f b <;> simp <;> omega
  refine ⟨?_, ?_⟩
  · have h4 := hc.2.2.2.2
    have := classF_bd f (addB f m a (subN f b))
    rcases Int.lt_or_le 3 (classF f (addB f m a (subN f b))) with h | h
    · have := h4.1 (by omega); omega
    · exact h
  · rw [Int.sub_zero]
    by_cases h : sumX f a (subN f b) = 0
    · have h1 := hc.1.1 (hz.2 h)
      have h2 := hX.1 h
      have h3 : vkey f (addB f m a (subN f b)) = 0 := by unfold vkey; rw [h1]; cases sgnF f (addB f m a (subN f b)) <;> rfl
      rw [h3, h2, Int.sub_self]
    · have h1 : codeF f (addB f m a (subN f b)) ≠ 0 := fun x => h (hz.1 (hc.1.2 x))
      have h2 : ¬ vkey f a = vkey f b := fun x => h (hX.2 x)
      have hG : sgnF f (addB f m a (subN f b)) = (if sgnF f a = !(sgnF f b) then sgnF f a else (sgnF f a != decide (codeF f a < codeF f b))) := by
        rw [r2]
        unfold sumG
        rw [if_neg h, sub_fin f b hb, t1, t2]
      have h5 : vkey f (addB f m a (subN f b)) < 0 ↔ sgnF f (addB f m a (subN f b)) = true := by
        unfold vkey
        cases sgnF f (addB f m a (subN f b)) <;> simp <;> omega
      have h6 : vkey f (addB f m a (subN f b)) ≠ 0 := by
        unfold vkey
        cases sgnF f (addB f m a (subN f b)) <;> simp <;> omega
      have h7 : sgnF f (addB f m a (subN f b)) = true ↔ vkey f a - vkey f b < 0 := by
        rw [hG]
        unfold vkey at h2 ⊢
        revert h2
        by_cases hl : codeF f a < codeF f b
        · rw [decide_eq_true hl]
          cases sgnF f a <;> cases sgnF f b <;> simp <;> omega
        · rw [decide_eq_false hl]
          cases sgnF f a <;> cases sgnF f b <;> simp <;> omega
      obtain ⟨u1, u2, u3, u4, u5, u6⟩ := sgn_bd (vkey f (addB f m a (subN f b)))
      obtain ⟨v1, v2, v3, v4, v5, v6⟩ := sgn_bd (vkey f a - vkey f b)
      by_cases hn : vkey f a - vkey f b < 0
      · rw [v4.2 hn, u4.2 (h5.2 (h7.2 hn))]
      · rw [v5.2 (by omega), u5.2 (by have : ¬ vkey f (addB f m a (subN f b)) < 0 := fun x => hn (h7.1 (h5.1 x)); omega)]
theorem ord_vkey (f : Int) (a b : Nat) (hf : f < 4) (h : vkey f a ≠ vkey f b) : ordF f a b = sgnI (vkey f a - vkey f b) := by
  rw [ord_key f a b hf]
  unfold keyF vkey at *
  unfold sgnI
  revert h
  cases sgnF f a <;> cases sgnF f b <;> simp <;> intro h
  all_goals (repeat' split)
  all_goals omega
end Go.Proofs.YtkldkchkhblndaaGreatDoor
