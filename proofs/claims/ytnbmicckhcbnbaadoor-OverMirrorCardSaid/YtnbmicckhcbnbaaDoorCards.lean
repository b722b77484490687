/-
  DERIVED. GIVEN WITH THE SEED: THE CARDS: each row of YtnbmicckhcbnbaaDoorRows.lean that lists a variable, with what it lists TIED to the program's text (the seventh form; the later family's looks); each row that meets fmt, with fmt's text TOLD by the authors' own Lean function (tested against real Go, not proved from fmt's source: count such statements apart). THE CARD IS WHAT COUNTS. Prove the row's statement (the work); the ties are given (YtnbmicckhcbnbaaDoorTie.lean); close each card by the builder's one call (the guide's Derived/Test/ToyasCard.lean, 'card_holds'). Laid BY PROGRAM, IN A SANDBOX (cutbox-door.mjs). By AI agents, Wed Nov 11 2026. No macro, syntax, notation, axiom, sorry.
-/
import Derived.Test.YtnbmicckhcbnbaaDoorRows
import GoSem.ClaimSeven
namespace Go.Proofs.YtnbmicckhcbnbaaDoor
namespace Rows

/-- THE TIED CARD OF 'hairsbreadthlaw14.OverEnds'. -/
def overEndsCard : Claim7 := { stood := { row := overEndsRow, standIns := [], harness := (true, "68804b5cdde92ee76481782568049cefef6150cd1c567b657aa401933012bb19"), looks := false }, kinds := [], alts := [], laidByText := true, laidKinds := [.data], laidTests := true, laidLooks := .later }
def OverEndsCardSaid : Prop := Claim7.holds Tryd.pinned (.plain (OpenSpec.ofChange overEndsSpec)) overEndsCard

/-- THE TIED CARD OF 'hairsbreadthlaw14.OverKnown'. -/
def overKnownCard : Claim7 := { stood := { row := overKnownRow, standIns := [], harness := (true, "68804b5cdde92ee76481782568049cefef6150cd1c567b657aa401933012bb19"), looks := false }, kinds := [], alts := [], laidByText := true, laidKinds := [.data], laidTests := true, laidLooks := .later }
def OverKnownCardSaid : Prop := Claim7.holds Tryd.pinned (.plain (OpenSpec.ofChange overKnownSpec)) overKnownCard

/-- THE TIED CARD OF 'hairsbreadthlaw14.OverMirror'. -/
def overMirrorCard : Claim7 := { stood := { row := overMirrorRow, standIns := [], harness := (true, "68804b5cdde92ee76481782568049cefef6150cd1c567b657aa401933012bb19"), looks := false }, kinds := [], alts := [], laidByText := true, laidKinds := [.data], laidTests := true, laidLooks := .later }
def OverMirrorCardSaid : Prop := Claim7.holds Tryd.pinned (.plain (OpenSpec.ofChange overMirrorSpec)) overMirrorCard

/-- THE TIED CARD OF 'hairsbreadthlaw14.OverReach'. -/
def overReachCard : Claim7 := { stood := { row := overReachRow, standIns := [], harness := (true, "68804b5cdde92ee76481782568049cefef6150cd1c567b657aa401933012bb19"), looks := false }, kinds := [], alts := [], laidByText := true, laidKinds := [.data], laidTests := true, laidLooks := .later }
def OverReachCardSaid : Prop := Claim7.holds Tryd.pinned (.plain (OpenSpec.ofChange overReachSpec)) overReachCard

/-- THE TIED CARD OF 'hairsbreadthlaw14.OverNeighbours'. -/
def overNeighboursCard : Claim7 := { stood := { row := overNeighboursRow, standIns := [], harness := (true, "68804b5cdde92ee76481782568049cefef6150cd1c567b657aa401933012bb19"), looks := false }, kinds := [], alts := [], laidByText := true, laidKinds := [.data], laidTests := true, laidLooks := .later }
def OverNeighboursCardSaid : Prop := Claim7.holds Tryd.pinned (.plain (OpenSpec.ofChange overNeighboursSpec)) overNeighboursCard

/-- THE SECOND FORM's CARD OF 'hairsbreadthlaw14.OverEnds'. -/
def overEndsUptoCard : Claim7 := { stood := { row := overEndsUptoRow, standIns := [], harness := (true, "68804b5cdde92ee76481782568049cefef6150cd1c567b657aa401933012bb19"), looks := false }, kinds := [], alts := [], laidByText := true, laidKinds := [.data], laidTests := true, laidLooks := .later }
def OverEndsUptoCardSaid : Prop := Claim7.holds Tryd.pinned (.plain (OpenSpec.upto overEndsSpec)) overEndsUptoCard

/-- THE SECOND FORM's CARD OF 'hairsbreadthlaw14.OverKnown'. -/
def overKnownUptoCard : Claim7 := { stood := { row := overKnownUptoRow, standIns := [], harness := (true, "68804b5cdde92ee76481782568049cefef6150cd1c567b657aa401933012bb19"), looks := false }, kinds := [], alts := [], laidByText := true, laidKinds := [.data], laidTests := true, laidLooks := .later }
def OverKnownUptoCardSaid : Prop := Claim7.holds Tryd.pinned (.plain (OpenSpec.upto overKnownSpec)) overKnownUptoCard

/-- THE SECOND FORM's CARD OF 'hairsbreadthlaw14.OverMirror'. -/
def overMirrorUptoCard : Claim7 := { stood := { row := overMirrorUptoRow, standIns := [], harness := (true, "68804b5cdde92ee76481782568049cefef6150cd1c567b657aa401933012bb19"), looks := false }, kinds := [], alts := [], laidByText := true, laidKinds := [.data], laidTests := true, laidLooks := .later }
def OverMirrorUptoCardSaid : Prop := Claim7.holds Tryd.pinned (.plain (OpenSpec.upto overMirrorSpec)) overMirrorUptoCard

/-- THE SECOND FORM's CARD OF 'hairsbreadthlaw14.OverReach'. -/
def overReachUptoCard : Claim7 := { stood := { row := overReachUptoRow, standIns := [], harness := (true, "68804b5cdde92ee76481782568049cefef6150cd1c567b657aa401933012bb19"), looks := false }, kinds := [], alts := [], laidByText := true, laidKinds := [.data], laidTests := true, laidLooks := .later }
def OverReachUptoCardSaid : Prop := Claim7.holds Tryd.pinned (.plain (OpenSpec.upto overReachSpec)) overReachUptoCard

/-- THE SECOND FORM's CARD OF 'hairsbreadthlaw14.OverNeighbours'. -/
def overNeighboursUptoCard : Claim7 := { stood := { row := overNeighboursUptoRow, standIns := [], harness := (true, "68804b5cdde92ee76481782568049cefef6150cd1c567b657aa401933012bb19"), looks := false }, kinds := [], alts := [], laidByText := true, laidKinds := [.data], laidTests := true, laidLooks := .later }
def OverNeighboursUptoCardSaid : Prop := Claim7.holds Tryd.pinned (.plain (OpenSpec.upto overNeighboursSpec)) overNeighboursUptoCard
end Rows
end Go.Proofs.YtnbmicckhcbnbaaDoor
