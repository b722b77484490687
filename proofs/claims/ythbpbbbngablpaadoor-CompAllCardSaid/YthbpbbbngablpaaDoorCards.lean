/-
  DERIVED. GIVEN WITH THE SEED: THE CARDS: each row of YthbpbbbngablpaaDoorRows.lean that lists a variable, with what it lists TIED to the program's text (the seventh form; the later family's looks); each row that meets fmt, with fmt's text TOLD by the authors' own Lean function (tested against real Go, not proved from fmt's source: count such statements apart). THE CARD IS WHAT COUNTS. Prove the row's statement (the work); the ties are given (YthbpbbbngablpaaDoorTie.lean); close each card by the builder's one call (the guide's Derived/Test/ToyasCard.lean, 'card_holds'). Laid BY PROGRAM, IN A SANDBOX (cutbox-door.mjs). By AI agents, Wed Nov 11 2026. No macro, syntax, notation, axiom, sorry.
-/
import Derived.Test.YthbpbbbngablpaaDoorRows
import GoSem.ClaimSeven
namespace Go.Proofs.YthbpbbbngablpaaDoor
namespace Rows

/-- THE TIED CARD OF 'hairsbreadthlaw28.CompAll'. -/
def compAllCard : Claim7 := { stood := { row := compAllRow, standIns := [], harness := (true, "26cb57c89925c6f182e5c5a73a8b4e68bae4bf315ff34efcbea7ad01bb631cee"), looks := false }, kinds := [], alts := [], laidByText := true, laidKinds := [.data], laidTests := true, laidLooks := .later }
def CompAllCardSaid : Prop := Claim7.holds Tryd.pinned (.plain (OpenSpec.ofChange compAllSpec)) compAllCard

/-- THE TIED CARD OF 'hairsbreadthlaw26.TointWide'. -/
def tointWideCard : Claim7 := { stood := { row := tointWideRow, standIns := [], harness := (true, "26cb57c89925c6f182e5c5a73a8b4e68bae4bf315ff34efcbea7ad01bb631cee"), looks := false }, kinds := [], alts := [], laidByText := true, laidKinds := [.data, .data], laidTests := true, laidLooks := .later }
def TointWideCardSaid : Prop := Claim7.holds Tryd.pinned (.plain (OpenSpec.ofChange tointWideSpec)) tointWideCard

/-- THE SECOND FORM's CARD OF 'hairsbreadthlaw28.CompAll'. -/
def compAllUptoCard : Claim7 := { stood := { row := compAllUptoRow, standIns := [], harness := (true, "26cb57c89925c6f182e5c5a73a8b4e68bae4bf315ff34efcbea7ad01bb631cee"), looks := false }, kinds := [], alts := [], laidByText := true, laidKinds := [.data], laidTests := true, laidLooks := .later }
def CompAllUptoCardSaid : Prop := Claim7.holds Tryd.pinned (.plain (OpenSpec.upto compAllSpec)) compAllUptoCard

/-- THE SECOND FORM's CARD OF 'hairsbreadthlaw26.TointWide'. -/
def tointWideUptoCard : Claim7 := { stood := { row := tointWideUptoRow, standIns := [], harness := (true, "26cb57c89925c6f182e5c5a73a8b4e68bae4bf315ff34efcbea7ad01bb631cee"), looks := false }, kinds := [], alts := [], laidByText := true, laidKinds := [.data, .data], laidTests := true, laidLooks := .later }
def TointWideUptoCardSaid : Prop := Claim7.holds Tryd.pinned (.plain (OpenSpec.upto tointWideSpec)) tointWideUptoCard
end Rows
end Go.Proofs.YthbpbbbngablpaaDoor
