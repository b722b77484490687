/- The contracts of format's and over's ends: for every input. The contract of over.Over: for every known format and mode. The contracts of package over: for every input. -/
import Derived.Test.YtkmgheabjcieaaaDoorFormat4
import Derived.Test.YtkmgheabjcieaaaDoorRound
import Derived.Laws.EntriesVeiled
import Derived.Test.YtkmgheabjcieaaaDoorKit
set_option linter.unusedSimpArgs false
set_option linter.unusedVariables false
namespace Go.Proofs.YtkmgheabjcieaaaDoor
open Go.RowKit Go.Hb
instance u64_Over1 : U64 18446744073709551615 := ⟨by omega, by omega⟩
end Go.Proofs.YtkmgheabjcieaaaDoor

namespace Go.Proofs.YtkmgheabjcieaaaDoor
open Go.RowKit Go.Hb
/-- What is too great: the greatest number, or the infinity. -/
def overB (f m : Int) (neg : Bool) : Nat := if nextS m neg true 3 then makeF f neg (2 * emaxS f + 1) 0 else makeF f neg (2 * emaxS f) (cat 18446744073709551615 18446744073709551615)
theorem ret_over {a b c d x : Int} (h : a = c ∧ b = d) : Ending.returned (.agg #[.int .u64 a, .int .u64 b, .int .u8 x]) = Ending.returned (.agg #[.int .u64 c, .int .u64 d, .int .u8 x]) := by rw [h.1, h.2]
end Go.Proofs.YtkmgheabjcieaaaDoor

namespace Go.Proofs.YtkmgheabjcieaaaDoor
open Go.RowKit Go.Hb
def overO (f m : Int) (neg : Bool) : Nat := if f < 4 ∧ m ≤ 4 then overB f m neg else 0
def overFl (f m : Int) : Int := if f < 4 ∧ m ≤ 4 then 20 else 0
def beyondS (f e : Int) : Bool := decide (f < 4) && decide (emaxS f < e)
end Go.Proofs.YtkmgheabjcieaaaDoor
