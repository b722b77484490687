/- What pack.Round answers at every input, in plain numbers. No condition. -/
import Derived.Test.YtgdbdbjegiaifaaDoorRdef
set_option linter.unusedSimpArgs false
set_option linter.unusedVariables false
namespace Go.Proofs.YtgdbdbjegiaifaaDoor
open Go.RowKit Go.Hb
/-- What Round answers: the bits. -/
def resB (f m : Int) (neg : Bool) (e : Int) (v : Nat) : Nat := if f < 4 ∧ m ≤ 4 then (if v = 0 then makeF f neg 0 0 else roundB f m neg e v) else 0
/-- What Round answers: the flags. -/
def resFl (f m : Int) (aft neg : Bool) (e : Int) (v : Nat) : Int := if f < 4 ∧ m ≤ 4 then (if v = 0 then 0 else roundFl f m aft neg e v) else 0
end Go.Proofs.YtgdbdbjegiaifaaDoor
