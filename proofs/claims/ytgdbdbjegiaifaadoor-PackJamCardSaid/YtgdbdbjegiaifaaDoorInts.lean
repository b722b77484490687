/- A word that is an int. No condition. -/
import Derived.Test.YtgdbdbjegiaifaaDoorMath
set_option linter.unusedSimpArgs false
set_option linter.unusedVariables false
namespace Go.Hb
/-- An int. -/
class I64 (x : Int) : Prop where
  ge : -9223372036854775808 ≤ x
  le : x ≤ 9223372036854775807
end Go.Hb
