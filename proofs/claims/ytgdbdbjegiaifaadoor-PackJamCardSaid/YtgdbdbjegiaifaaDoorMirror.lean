/- The contracts of mode.Mirror, format.Known, mode.Known in one form: for every input. -/
import Derived.Test.YtgdbdbjegiaifaaDoorMode
import Derived.Test.YtgdbdbjegiaifaaDoorFormat
set_option linter.unusedSimpArgs false
set_option linter.unusedVariables false
namespace Go.Proofs.YtgdbdbjegiaifaaDoor
open Go.RowKit Go.Hb
def mirS (m : Int) : Int := if m = 2 then 3 else if m = 3 then 2 else m
instance (m : Int) [h : U8 m] : U8 (mirS m) := ⟨by have := h.ge; unfold mirS; repeat' split <;> omega, by have := h.le; unfold mirS; repeat' split <;> omega⟩
theorem mode_Mirror (m : Int) (w : World) :
    Calls Tryd.prog 22 #[.int .u8 m] w fun e w' => e = .returned (.int .u8 (mirS m)) ∧ Below w.heap.size w w' := by
  by_cases h2 : m = 2
  · subst h2
    go_enter Tryd.func22, Tryd.ntmps22
    go_wp2
    go_returns
    exact ⟨rfl, by go_grown⟩
  · by_cases h3 : m = 3
    · subst h3
      go_enter Tryd.func22, Tryd.ntmps22
      go_wp2
      go_returns
      exact ⟨rfl, by go_grown⟩
    · have e : mirS m = m := by unfold mirS; rw [if_neg h2, if_neg h3]
      have d2 : (m == 2) = false := by simpa using h2
      have d3 : (m == 3) = false := by simpa using h3
      rw [e]
      clear e h2 h3
      go_enter Tryd.func22, Tryd.ntmps22
      go_wp2
      go_returns
      exact ⟨rfl, by go_grown⟩
theorem format_Known_b (f : Int) [h : U8 f] (w : World) :
    Calls Tryd.prog 16 #[.int .u8 f] w fun e w' => e = .returned (.bool (decide (f < 4))) ∧ Below w.heap.size w w' :=
  (format_Known f w).mono fun _ _ ⟨h1, h2⟩ => ⟨h1, by rw [← h2]; exact Below.refl _ _⟩
theorem mode_Known_b (m : Int) (w : World) :
    Calls Tryd.prog 23 #[.int .u8 m] w fun e w' => e = .returned (.bool (decide (m ≤ 4))) ∧ Below w.heap.size w w' :=
  (mode_Known m w).mono fun _ _ ⟨h1, h2⟩ => ⟨h1, by rw [← h2]; exact Below.refl _ _⟩
end Go.Proofs.YtgdbdbjegiaifaaDoor
