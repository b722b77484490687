/-
  DERIVED. GIVEN WITH THE SEED: THE PROGRAM's TIES (one call each: nine closed facts by the kernel) AND EACH ROW's TIE, after the 31st guide's Derived/Test/Toyas{Tie, Card}.lean. No idea stands in it: it is a product of the set-up. Laid BY PROGRAM, IN A SANDBOX (cutbox-door.mjs). By AI agents, Wed Nov 11 2026. No macro, syntax, notation, axiom, sorry.
-/
import Derived.Test.YthbpbbbngablpaaDoorRows
import Derived.LaidByTextLater
import Derived.SevenTiedAt
import Derived.LaidSub
import Derived.LaidOnce
namespace Go.Proofs.YthbpbbbngablpaaDoor
open Go
set_option maxRecDepth 100000
theorem seatTie1 : Tryd.prog.laidByTextLater [("hairsbreadth/format.table", Rows.laid_hairsbreadth_format_table), ("hairsbreadth/toint.ends", Rows.laid_hairsbreadth_toint_ends)] [.data, .data] true :=
  Program.laidByTextLater_by_one 27 8 13 (by kernel_rfl) (by kernel_rfl) (by kernel_rfl) (by kernel_rfl) (by kernel_rfl) (by kernel_rfl) (fun _ _ => by kernel_rfl)
theorem noOwnUnsafe : Tryd.pinned.checked.prog.headLifts.contains "ownunsafe" = false := by kernel_rfl
theorem tie : Tryd.prog.laidByTextLater [("hairsbreadth/format.table", Rows.laid_hairsbreadth_format_table)] [.data] true :=
  Program.laidByTextLater.sub seatTie1 ["hairsbreadth/format.table"] (by kernel_rfl) (by kernel_rfl)
theorem compAll_row_tie : Rows.compAllRow.laidByTextAt .later Tryd.pinned [.data] true :=
  OpenClaim.laidByTextAt_later rfl rfl tie noOwnUnsafe
theorem tie2 : Tryd.prog.laidByTextLater [("hairsbreadth/format.table", Rows.laid_hairsbreadth_format_table), ("hairsbreadth/toint.ends", Rows.laid_hairsbreadth_toint_ends)] [.data, .data] true :=
  Program.laidByTextLater.sub seatTie1 ["hairsbreadth/format.table", "hairsbreadth/toint.ends"] (by kernel_rfl) (by kernel_rfl)
theorem tointWide_row_tie : Rows.tointWideRow.laidByTextAt .later Tryd.pinned [.data, .data] true :=
  OpenClaim.laidByTextAt_later rfl rfl tie2 noOwnUnsafe
theorem compAllUpto_row_tie : Rows.compAllUptoRow.laidByTextAt .later Tryd.pinned [.data] true :=
  OpenClaim.laidByTextAt_later rfl rfl tie noOwnUnsafe
theorem tointWideUpto_row_tie : Rows.tointWideUptoRow.laidByTextAt .later Tryd.pinned [.data, .data] true :=
  OpenClaim.laidByTextAt_later rfl rfl tie2 noOwnUnsafe
end Go.Proofs.YthbpbbbngablpaaDoor
