/- The plain law of turned integers: both signs, by the mirrored mode. -/
import Derived.Test.YthbpbbbngablpaaDoorToint4
import Derived.Test.YthbpbbbngablpaaDoorTurn
import Derived.Test.YthbpbbbngablpaaDoorWholes
set_option linter.unusedSimpArgs false
set_option linter.unusedVariables false
namespace Go.Proofs.YthbpbbbngablpaaDoor
open Go.RowKit Go.Hb
def TurnI (L bx fx by' fy : Int) : Prop := (fx = 1 ∧ fy = 1) ∨ (fx = 1 ∧ by' = L ∧ bx ≠ L ∧ (fy = 0 ∨ fy = 16)) ∨ (fy = 1 ∧ bx = L ∧ (fx = 0 ∨ fx = 16)) ∨ (fx = fy ∧ (fx = 0 ∨ fx = 16) ∧ IntKind.u64.wrap (-by') = bx)
end Go.Proofs.YthbpbbbngablpaaDoor
