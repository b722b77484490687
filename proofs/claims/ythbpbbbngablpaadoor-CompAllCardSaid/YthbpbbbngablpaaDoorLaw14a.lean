/- The walks of chapter 14: goes, OverKnown: for every input. -/
import Derived.Test.YthbpbbbngablpaaDoorOver
set_option linter.unusedSimpArgs false
set_option linter.unusedVariables false
namespace Go.Proofs.YthbpbbbngablpaaDoor
open Go.RowKit Go.Hb
theorem cat_01 : cat 0 1 = 1 := rfl
end Go.Proofs.YthbpbbbngablpaaDoor
