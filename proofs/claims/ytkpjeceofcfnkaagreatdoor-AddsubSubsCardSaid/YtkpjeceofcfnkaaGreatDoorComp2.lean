/- The plain law of the total order, by keys. The contracts of comp.Order: for every input. Condition: the listed table is laid. -/
import Derived.Test.YtkpjeceofcfnkaaGreatDoorWholes
import Derived.Test.YtkpjeceofcfnkaaGreatDoorWidecmp
import Derived.Test.YtkpjeceofcfnkaaGreatDoorFormat4
import Derived.Test.YtkpjeceofcfnkaaGreatDoorFormat3
import Derived.Test.YtkpjeceofcfnkaaGreatDoorMode
import Derived.Test.YtkpjeceofcfnkaaGreatDoorTurn
set_option linter.unusedSimpArgs false
set_option linter.unusedVariables false
namespace Go.Proofs.YtkpjeceofcfnkaaGreatDoor
open Go.RowKit Go.Hb
def keyF (f : Int) (v : Nat) : Int := if sgnF f v then -(codeF f v : Int) - 1 else codeF f v
def sgnI (x : Int) : Int := if x < 0 then -1 else if x = 0 then 0 else 1
def ordF (f : Int) (a b : Nat) : Int := if f < 4 then (if sgnF f a && !(sgnF f b) then -1 else if sgnF f b && !(sgnF f a) then 1 else if sgnF f a then -(cmpN (codeF f a) (codeF f b)) else cmpN (codeF f a) (codeF f b)) else 0
theorem ord_key (f : Int) (a b : Nat) (hf : f < 4) : ordF f a b = sgnI (keyF f a - keyF f b) := by
  unfold ordF keyF
  rw [if_pos hf]
  generalize codeF f a = x
  generalize codeF f b = y
  cases sgnF f a <;> cases sgnF f b <;> simp only [Bool.not_true, Bool.not_false, Bool.and_true, Bool.and_false, Bool.false_eq_true, if_true, if_false] <;> unfold sgnI
  all_goals (try unfold cmpN)
  all_goals repeat' split
  all_goals omega
theorem ord_bd (f : Int) (a b : Nat) : -1 ≤ ordF f a b ∧ ordF f a b ≤ 1 := by
  by_cases hf : f < 4
  · rw [ord_key f a b hf]; unfold sgnI; repeat' split <;> omega
  · unfold ordF; rw [if_neg hf]; omega
theorem key_turn (f : Int) (v : Nat) (h0 : 0 ≤ f) (hf : f < 4) : keyF f (turnF f v) = -(keyF f v) - 1 := by
  obtain ⟨e1, e2, e3⟩ := turn_parts f v h0 hf
  have hc : codeF f (turnF f v) = codeF f v := by unfold codeF; rw [e1, e2]
  unfold keyF
  rw [hc, e3]
  cases sgnF f v <;> simp only [Bool.not_true, Bool.not_false, Bool.false_eq_true, if_true, if_false] <;> omega
theorem ord_turn (f : Int) (a b : Nat) (h0 : 0 ≤ f) (hf : f < 4) : ordF f (turnF f a) (turnF f b) = ordF f b a := by
  rw [ord_key _ _ _ hf, ord_key _ _ _ hf, key_turn f a h0 hf, key_turn f b h0 hf]
  congr 1
  omega
theorem ord_anti (f : Int) (a b : Nat) : ordF f b a = -(ordF f a b) := by
  by_cases hf : f < 4
  · rw [ord_key _ _ _ hf, ord_key _ _ _ hf]; unfold sgnI; repeat' split <;> omega
  · unfold ordF; rw [if_neg hf, if_neg hf]; rfl
theorem ord_trans (f : Int) (a b c : Nat) (h1 : ordF f a b ≤ 0) (h2 : ordF f b c ≤ 0) : ordF f a c ≤ 0 := by
  by_cases hf : f < 4
  · rw [ord_key _ _ _ hf] at *
    unfold sgnI at *
    repeat' split at h1
    all_goals repeat' split at h2
    all_goals repeat' split
    all_goals omega
  · unfold ordF; rw [if_neg hf]; omega
theorem key_cut (f : Int) (a b : Nat) (h0 : 0 ≤ f) (hf : f < 4) : keyF f a = keyF f b ↔ lowN a (widthS f) = lowN b (widthS f) := by
  have ca := code_lt f a h0 hf
  have cb := code_lt f b h0 hf
  rw [cut_code f a h0 hf, cut_code f b h0 hf]
  unfold keyF signN
  cases sgnF f a <;> cases sgnF f b <;> simp only [Bool.false_eq_true, if_true, if_false] <;> constructor <;> intro h <;> omega
theorem ord_zero (f : Int) (a b : Nat) (h0 : 0 ≤ f) (hf : f < 4) : ordF f a b = 0 ↔ lowN a (widthS f) = lowN b (widthS f) := by
  rw [← key_cut f a b h0 hf, ord_key _ _ _ hf]
  unfold sgnI
  constructor <;> intro h
  · repeat' split at h
    all_goals omega
  · rw [if_neg (by omega), if_pos (by omega)]
end Go.Proofs.YtkpjeceofcfnkaaGreatDoor

namespace Go.Proofs.YtkpjeceofcfnkaaGreatDoor
open Go.RowKit Go.Hb
end Go.Proofs.YtkpjeceofcfnkaaGreatDoor
