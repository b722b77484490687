/- The plain law of order: of two numbers without signs the lesser one does not make the greater integer. -/
import Derived.Test.YthbpbbbngablpaaDoorLaw26u
import Derived.Test.YthbpbbbngablpaaDoorWholes
set_option linter.unusedSimpArgs false
set_option linter.unusedVariables false
namespace Go.Proofs.YthbpbbbngablpaaDoor
open Go.RowKit Go.Hb
theorem num_rnd (f m : Int) (v : Nat) (h0 : 0 ≤ f) (hf : f < 4) (hfin : classF f v < 3) (he : unE f v ≤ 64) (hlo : -100000 ≤ unE f v) : numI f m v = rndN (255 + KK).toNat m (sgnF f v) (valC (precS f).toNat (unitB f KK) (codeF f v)) := by
  have hk : okW (classF f v) (unE f v) = true := (okW_iff _ _).2 (by omega)
  unfold numI whV
  rw [if_pos hk, whN_rnd _ _ _ _ (unS_lt f v h0) hlo (by omega), un_val f v h0 hf hfin]
theorem siz_bd (f k m : Int) (v : Nat) : 0 ≤ sizI f k m v ∧ sizI f k m v ≤ mostX k (sgnF f v) := by
  have hm : ∀ s, 0 ≤ mostX k s := by intro s; unfold mostX leastK mostK; repeat' split <;> omega
  have := hm (sgnF f v)
  unfold sizI
  split
  · exact ⟨this, Int.le_refl _⟩
  · rename_i h
    unfold bigI at h
    simp only [Bool.or_eq_true, decide_eq_true_eq, not_or, Int.not_lt] at h
    exact ⟨by omega, h.2⟩
instance u64_intV (f k m : Int) (v : Nat) : U64 (intV f k m v) := by
  have h := siz_bd f k m v
  have hm : mostX k (sgnF f v) ≤ 18446744073709551615 := by unfold mostX leastK mostK; repeat' split <;> omega
  constructor <;> (unfold intV; repeat' split) <;> omega
theorem siz_mono (f k m : Int) (a b : Nat) (h0 : 0 ≤ f) (hf : f < 4) (sa : sgnF f a = false) (sb : sgnF f b = false) (ha : classF f a < 4) (hb : classF f b < 4) (h : codeF f a ≤ codeF f b) : sizI f k m a ≤ sizI f k m b := by
  have la := (siz_bd f k m a).2
  rw [sa] at la
  by_cases hg : bigI f k m b = true
  · have e : sizI f k m b = mostX k (sgnF f b) := by unfold sizI; rw [if_pos hg]
    rw [e, sb]; exact la
  · have e : sizI f k m b = (numI f m b : Int) := by unfold sizI; rw [if_neg hg]
    have hg' := hg
    unfold bigI at hg'
    simp only [Bool.or_eq_true, decide_eq_true_eq, not_or, Int.not_lt, Bool.not_eq_true', Bool.not_eq_false] at hg'
    obtain ⟨k1, k2⟩ := hg'
    have hk := (okW_iff _ _).1 k1
    have hb3 : classF f b < 3 := by omega
    obtain ⟨ha3, hae⟩ := unE_mono f a b h0 hf h hb3 (by omega)
    have hle : numI f m a ≤ numI f m b := by
      rw [num_rnd f m a h0 hf ha3 hae (unE_low f a h0), num_rnd f m b h0 hf hb3 (by omega) (unE_low f b h0), sa, sb]
      exact rndN_mono _ _ _ (valC_le _ _ h)
    rw [sb] at k2
    have hga : bigI f k m a = false := by
      unfold bigI
      rw [(okW_iff _ _).2 (by omega), sa, decide_eq_false (by omega)]
      rfl
    have e2 : sizI f k m a = (numI f m a : Int) := by unfold sizI; rw [hga]; rfl
    rw [e, e2]
    omega
theorem int_mono (f k m : Int) (a b : Nat) (h0 : 0 ≤ f) (sa : sgnF f a = false) (sb : sgnF f b = false) (ha : classF f a < 4) (hb : classF f b < 4) (h : codeF f a ≤ codeF f b) : intV f k m a ≤ intV f k m b := by
  unfold intV
  by_cases hk : f < 4 ∧ k < 4 ∧ m ≤ 4
  · rw [if_pos (show f < 4 ∧ k < 4 ∧ m ≤ 4 ∧ classF f a < 4 from ⟨hk.1, hk.2.1, hk.2.2, ha⟩), if_pos (show f < 4 ∧ k < 4 ∧ m ≤ 4 ∧ classF f b < 4 from ⟨hk.1, hk.2.1, hk.2.2, hb⟩), sa, sb]
    exact siz_mono f k m a b h0 hk.1 sa sb ha hb h
  · rw [if_neg (fun x => hk ⟨x.1, x.2.1, x.2.2.1⟩), if_neg (fun x => hk ⟨x.1, x.2.1, x.2.2.1⟩)]; exact Int.le_refl _
end Go.Proofs.YthbpbbbngablpaaDoor
