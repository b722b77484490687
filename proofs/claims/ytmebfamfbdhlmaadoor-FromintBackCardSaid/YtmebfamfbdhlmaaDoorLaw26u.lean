/- The plain law of turned integers: both signs, by the mirrored mode. -/
import Derived.Test.YtmebfamfbdhlmaaDoorToint4
import Derived.Test.YtmebfamfbdhlmaaDoorTurn
import Derived.Test.YtmebfamfbdhlmaaDoorWholes
set_option linter.unusedSimpArgs false
set_option linter.unusedVariables false
namespace Go.Proofs.YtmebfamfbdhlmaaDoor
open Go.RowKit Go.Hb
theorem wh_turn (c e m : Int) (s : Bool) (v : Nat) : whV c e (mirS m) (!s) v = whV c e m s v := by
  unfold whV whN; rw [cut_turn, cut_turn]
def TurnI (L bx fx by' fy : Int) : Prop := (fx = 1 ∧ fy = 1) ∨ (fx = 1 ∧ by' = L ∧ bx ≠ L ∧ (fy = 0 ∨ fy = 16)) ∨ (fy = 1 ∧ bx = L ∧ (fx = 0 ∨ fx = 16)) ∨ (fx = fy ∧ (fx = 0 ∨ fx = 16) ∧ IntKind.u64.wrap (-by') = bx)
theorem turn_int (f k m : Int) (v : Nat) (h0 : 0 ≤ f) (hk : k = 0 ∨ k = 2) : TurnI (18446744073709551616 - leastK k) (intV f k m v) (intF f k m v) (intV f k (mirS m) (turnF f v)) (intF f k (mirS m) (turnF f v)) := by
  by_cases hkn : f < 4 ∧ m ≤ 4
  case neg =>
    have z1 : ∀ m' x, ¬ (f < 4 ∧ m' ≤ 4) → intV f k m' x = 0 ∧ intF f k m' x = 0 := fun m' x hn => by
      unfold intV intF
      rw [if_neg (fun h => hn ⟨h.1, h.2.2.1⟩), if_neg (fun h => hn ⟨h.1, h.2.2⟩)]
      exact ⟨rfl, rfl⟩
    obtain ⟨a1, a2⟩ := z1 m v hkn
    obtain ⟨b1, b2⟩ := z1 (mirS m) (turnF f v) (fun h => hkn ⟨h.1, (mir_known m).1 h.2⟩)
    rw [a1, a2, b1, b2]
    exact Or.inr (Or.inr (Or.inr ⟨rfl, Or.inl rfl, rfl⟩))
  obtain ⟨hf, hm⟩ := hkn
  have hm' := (mir_known m).2 hm
  have hk4 : k < 4 := by omega
  obtain ⟨e1, e2, e3⟩ := turn_parts f v h0 hf
  obtain ⟨c1, c2, c3⟩ := turn_class f v h0 hf
  have hN : numI f (mirS m) (turnF f v) = numI f m v := by unfold numI; rw [c1, c2, c3, e3]; exact wh_turn _ _ _ _ _
  by_cases hc : 4 ≤ classF f v
  · have a : intF f k m v = 1 := by unfold intF; rw [if_pos ⟨hf, hk4, hm⟩, if_pos hc]
    have b : intF f k (mirS m) (turnF f v) = 1 := by unfold intF; rw [if_pos ⟨hf, hk4, hm'⟩, c1, if_pos hc]
    exact Or.inl ⟨a, b⟩
  have aV : intV f k m v = (if sgnF f v then (if sizI f k m v = 0 then 0 else 18446744073709551616 - sizI f k m v) else sizI f k m v) := by unfold intV; rw [if_pos ⟨hf, hk4, hm, by omega⟩]
  have aF : intF f k m v = (if bigI f k m v then 1 else if whO (classF f v) (unE f v) (unS f v) then 16 else 0) := by unfold intF; rw [if_pos ⟨hf, hk4, hm⟩, if_neg hc]
  have bV : intV f k (mirS m) (turnF f v) = (if !(sgnF f v) then (if sizI f k (mirS m) (turnF f v) = 0 then 0 else 18446744073709551616 - sizI f k (mirS m) (turnF f v)) else sizI f k (mirS m) (turnF f v)) := by unfold intV; rw [if_pos ⟨hf, hk4, hm', by rw [c1]; omega⟩, e3]
  have bF : intF f k (mirS m) (turnF f v) = (if bigI f k (mirS m) (turnF f v) then 1 else if whO (classF f v) (unE f v) (unS f v) then 16 else 0) := by unfold intF; rw [if_pos ⟨hf, hk4, hm'⟩, c1, if_neg hc, c2, c3]
  have aB : bigI f k m v = (!(okW (classF f v) (unE f v)) || decide (mostX k (sgnF f v) < (numI f m v : Int))) := rfl
  have bB : bigI f k (mirS m) (turnF f v) = (!(okW (classF f v) (unE f v)) || decide (mostX k (!(sgnF f v)) < (numI f m v : Int))) := by unfold bigI; rw [c1, c2, e3, hN]
  have aS : sizI f k m v = (if bigI f k m v then mostX k (sgnF f v) else (numI f m v : Int)) := rfl
  have bS : sizI f k (mirS m) (turnF f v) = (if bigI f k (mirS m) (turnF f v) then mostX k (!(sgnF f v)) else (numI f m v : Int)) := by
    unfold sizI; rw [hN, e3]
  have hz : whO (classF f v) (unE f v) (unS f v) = true ∨ whO (classF f v) (unE f v) (unS f v) = false := by cases whO (classF f v) (unE f v) (unS f v) <;> simp
  have hfl : (if whO (classF f v) (unE f v) (unS f v) then (16 : Int) else 0) = 0 ∨ (if whO (classF f v) (unE f v) (unS f v) then (16 : Int) else 0) = 16 := by rcases hz with h | h <;> rw [h] <;> simp
  have hml : leastK k = mostK k + 1 ∧ 0 < mostK k ∧ leastK k ≤ 9223372036854775808 := by rcases hk with rfl | rfl <;> decide
  have mT : mostX k true = leastK k := rfl
  have mF : mostX k false = mostK k := rfl
  generalize hNN : numI f m v = N at *
  generalize (if whO (classF f v) (unE f v) (unS f v) then (16 : Int) else 0) = z at *
  generalize okW (classF f v) (unE f v) = ok at *
  cases ok
  · left
    rw [aF, bF, aB, bB]
    exact ⟨rfl, rfl⟩
  · simp only [Bool.not_true, Bool.false_or] at aB bB
    cases hs : sgnF f v
    · rw [hs] at aB bB aS bS aV bV
      simp only [Bool.not_false, mT, mF, Bool.false_eq_true, if_false, if_true] at aB bB aS bS aV bV
      by_cases h1 : mostK k < (N : Int)
      · rw [decide_eq_true h1] at aB
        rw [aB] at aS aF
        simp only [if_true] at aS aF
        by_cases h2 : leastK k < (N : Int)
        · rw [decide_eq_true h2] at bB
          rw [bB] at bF
          exact Or.inl ⟨aF, by rw [bF]; rfl⟩
        · rw [decide_eq_false h2] at bB
          rw [bB] at bF bS
          simp only [Bool.false_eq_true, if_false] at bF bS
          right; left
          rw [aF, bF, bV, bS, aV, aS, if_neg (by omega)]
          exact ⟨rfl, by omega, by omega, hfl⟩
      · rw [decide_eq_false h1] at aB
        rw [decide_eq_false (by omega : ¬ leastK k < (N : Int))] at bB
        rw [aB] at aF aS
        rw [bB] at bF bS
        simp only [Bool.false_eq_true, if_false] at aF aS bF bS
        right; right; right
        rw [aF, bF, aV, bV, aS, bS]
        refine ⟨rfl, hfl, ?_⟩
        rw [IntKind.wrap_u64]
        split <;> omega
    · rw [hs] at aB bB aS bS aV bV
      simp only [Bool.not_true, mT, mF, Bool.false_eq_true, if_false, if_true] at aB bB aS bS aV bV
      by_cases h1 : mostK k < (N : Int)
      · rw [decide_eq_true h1] at bB
        rw [bB] at bS bF
        simp only [if_true] at bS bF
        by_cases h2 : leastK k < (N : Int)
        · rw [decide_eq_true h2] at aB
          rw [aB] at aF
          exact Or.inl ⟨by rw [aF]; rfl, bF⟩
        · rw [decide_eq_false h2] at aB
          rw [aB] at aF aS
          simp only [Bool.false_eq_true, if_false] at aF aS
          right; right; left
          rw [aF, bF, aV, aS, if_neg (by omega)]
          exact ⟨rfl, by omega, hfl⟩
      · rw [decide_eq_false h1] at bB
        rw [decide_eq_false (by omega : ¬ leastK k < (N : Int))] at aB
        rw [aB] at aF aS
        rw [bB] at bF bS
        simp only [Bool.false_eq_true, if_false] at aF aS bF bS
        right; right; right
        rw [aF, bF, aV, bV, aS, bS]
        refine ⟨rfl, hfl, ?_⟩
        rw [IntKind.wrap_u64]
        split <;> omega
end Go.Proofs.YtmebfamfbdhlmaaDoor
