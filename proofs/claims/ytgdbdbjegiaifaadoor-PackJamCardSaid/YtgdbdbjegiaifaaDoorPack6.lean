/- The contract of pack.Round where the number is not nought: for every known format and mode. -/
import Derived.Test.YtgdbdbjegiaifaaDoorPack6a
import Derived.Test.YtgdbdbjegiaifaaDoorPack6b
import Derived.Test.YtgdbdbjegiaifaaDoorPack6c
set_option linter.unusedSimpArgs false
set_option linter.unusedVariables false
namespace Go.Proofs.YtgdbdbjegiaifaaDoor
open Go.RowKit Go.Hb
theorem pack_Round_pos (f m e x0 x1 x2 x3 : Int) (aft neg : Bool) [hU : U8 f] [U64 x0] [U64 x1] [U64 x2] [U64 x3] (w : World) [Laid w] (hf : f < 4) (m0 : 0 ≤ m) (m1 : m ≤ 4) (hz : ¬ cat4 x0 x1 x2 x3 = 0) :
    Calls Tryd.prog 12 #[.int .u8 f, .agg #[.int .u8 m, .bool aft], .bool neg, .int .i64 e, .agg #[.int .u64 (x0), .int .u64 (x1), .int .u64 (x2), .int .u64 (x3)]] w fun en w' => en = .returned (.agg #[.int .u64 (hi (roundB f m neg e (cat4 x0 x1 x2 x3))), .int .u64 (lo (roundB f m neg e (cat4 x0 x1 x2 x3))), .int .u8 (roundFl f m aft neg e (cat4 x0 x1 x2 x3))]) ∧ Below w.heap.size w w' := by
  by_cases hbey : emaxS f < eS f m neg e (cat4 x0 x1 x2 x3)
  · exact pack_Round_over f m e x0 x1 x2 x3 aft neg w hf m0 m1 hz hbey
  · by_cases hl : nE e (cat4 x0 x1 x2 x3) < leastS f
    · exact pack_Round_less f m e x0 x1 x2 x3 aft neg w hf m0 m1 hz hbey hl
    · exact pack_Round_top f m e x0 x1 x2 x3 aft neg w hf m0 m1 hz hbey hl
end Go.Proofs.YtgdbdbjegiaifaaDoor
