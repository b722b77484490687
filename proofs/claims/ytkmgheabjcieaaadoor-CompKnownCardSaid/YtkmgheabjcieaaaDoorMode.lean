/- The contracts of package mode: for every input. The contracts of mode.Mirror, format.Known, mode.Known in one form: for every input. -/
import Derived.Test.YtkmgheabjcieaaaDoorKit
import Derived.Test.YtkmgheabjcieaaaDoorFormat
set_option linter.unusedSimpArgs false
set_option linter.unusedVariables false
namespace Go.Proofs.YtkmgheabjcieaaaDoor
open Go.RowKit Go.Hb
/-- What a rule says: whether a number is rounded to the next one. -/
def ruleS (m : Int) (neg odd : Bool) (r : Int) : Bool :=
  if m = 0 then decide (r = 3) || (decide (r = 2) && odd) else if m = 1 then decide (2 ≤ r) else if m = 2 then !neg else if m = 3 then neg else false
def nextS (m : Int) (neg odd : Bool) (r : Int) : Bool := decide (1 ≤ r) && decide (r ≤ 3) && ruleS m neg odd r
end Go.Proofs.YtkmgheabjcieaaaDoor

namespace Go.Proofs.YtkmgheabjcieaaaDoor
open Go.RowKit Go.Hb
def mirS (m : Int) : Int := if m = 2 then 3 else if m = 3 then 2 else m
instance (m : Int) [h : U8 m] : U8 (mirS m) := ⟨by have := h.ge; unfold mirS; repeat' split <;> omega, by have := h.le; unfold mirS; repeat' split <;> omega⟩
theorem format_Known_b (f : Int) [h : U8 f] (w : World) :
    Calls Tryd.prog 6 #[.int .u8 f] w fun e w' => e = .returned (.bool (decide (f < 4))) ∧ Below w.heap.size w w' :=
  (format_Known f w).mono fun _ _ ⟨h1, h2⟩ => ⟨h1, by rw [← h2]; exact Below.refl _ _⟩
end Go.Proofs.YtkmgheabjcieaaaDoor
