/-
  DERIVED. GIVEN WITH THE SEED: THE CARDS: each row of YtkmgheabjcieaaaDoorRows.lean that lists a variable, with what it lists TIED to the program's text (the seventh form; the later family's looks); each row that meets fmt, with fmt's text TOLD by the authors' own Lean function (tested against real Go, not proved from fmt's source: count such statements apart). THE CARD IS WHAT COUNTS. Prove the row's statement (the work); the ties are given (YtkmgheabjcieaaaDoorTie.lean); close each card by the builder's one call (the guide's Derived/Test/ToyasCard.lean, 'card_holds'). Laid BY PROGRAM, IN A SANDBOX (cutbox-door.mjs). By AI agents, Wed Nov 11 2026. No macro, syntax, notation, axiom, sorry.
-/
import Derived.Test.YtkmgheabjcieaaaDoorRows
import GoSem.ClaimSeven
namespace Go.Proofs.YtkmgheabjcieaaaDoor
namespace Rows

/-- THE TIED CARD OF 'hairsbreadthlaw28.CompLeast'. -/
def compLeastCard : Claim7 := { stood := { row := compLeastRow, standIns := [], harness := (true, "78b6db589a81f1361ed2c9a30a98075489766deefa5e43c3b4c42576f668351f"), looks := false }, kinds := [], alts := [], laidByText := true, laidKinds := [.data], laidTests := true, laidLooks := .later }
def CompLeastCardSaid : Prop := Claim7.holds Tryd.pinned (.plain (OpenSpec.ofChange compLeastSpec)) compLeastCard

/-- THE TIED CARD OF 'hairsbreadthlaw28.CompKnown'. -/
def compKnownCard : Claim7 := { stood := { row := compKnownRow, standIns := [], harness := (true, "78b6db589a81f1361ed2c9a30a98075489766deefa5e43c3b4c42576f668351f"), looks := false }, kinds := [], alts := [], laidByText := true, laidKinds := [.data], laidTests := true, laidLooks := .later }
def CompKnownCardSaid : Prop := Claim7.holds Tryd.pinned (.plain (OpenSpec.ofChange compKnownSpec)) compKnownCard

/-- THE SECOND FORM's CARD OF 'hairsbreadthlaw28.CompLeast'. -/
def compLeastUptoCard : Claim7 := { stood := { row := compLeastUptoRow, standIns := [], harness := (true, "78b6db589a81f1361ed2c9a30a98075489766deefa5e43c3b4c42576f668351f"), looks := false }, kinds := [], alts := [], laidByText := true, laidKinds := [.data], laidTests := true, laidLooks := .later }
def CompLeastUptoCardSaid : Prop := Claim7.holds Tryd.pinned (.plain (OpenSpec.upto compLeastSpec)) compLeastUptoCard

/-- THE SECOND FORM's CARD OF 'hairsbreadthlaw28.CompKnown'. -/
def compKnownUptoCard : Claim7 := { stood := { row := compKnownUptoRow, standIns := [], harness := (true, "78b6db589a81f1361ed2c9a30a98075489766deefa5e43c3b4c42576f668351f"), looks := false }, kinds := [], alts := [], laidByText := true, laidKinds := [.data], laidTests := true, laidLooks := .later }
def CompKnownUptoCardSaid : Prop := Claim7.holds Tryd.pinned (.plain (OpenSpec.upto compKnownSpec)) compKnownUptoCard
end Rows
end Go.Proofs.YtkmgheabjcieaaaDoor
