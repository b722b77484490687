/-
  DERIVED. GIVEN WITH THE SEED: THE CARDS: each row of YtoldhhnmnackhaaDoorRows.lean that lists a variable, with what it lists TIED to the program's text (the seventh form; the later family's looks); each row that meets fmt, with fmt's text TOLD by the authors' own Lean function (tested against real Go, not proved from fmt's source: count such statements apart). THE CARD IS WHAT COUNTS. Prove the row's statement (the work); the ties are given (YtoldhhnmnackhaaDoorTie.lean); close each card by the builder's one call (the guide's Derived/Test/ToyasCard.lean, 'card_holds'). Laid BY PROGRAM, IN A SANDBOX (cutbox-door.mjs). By AI agents, Wed Nov 11 2026. No macro, syntax, notation, axiom, sorry.
-/
import Derived.Test.YtoldhhnmnackhaaDoorRows
import GoSem.ClaimSeven
namespace Go.Proofs.YtoldhhnmnackhaaDoor
namespace Rows

/-- THE TIED CARD OF 'hairsbreadthlaw24.RintGreat'. -/
def rintGreatCard : Claim7 := { stood := { row := rintGreatRow, standIns := [], harness := (true, "60e78e12e980c4b4e554979e9943af70aec21a04f973d25e7480f332ba9f4a7c"), looks := false }, kinds := [], alts := [], laidByText := true, laidKinds := [.data], laidTests := true, laidLooks := .later }
def RintGreatCardSaid : Prop := Claim7.holds Tryd.pinned (.plain (OpenSpec.ofChange rintGreatSpec)) rintGreatCard

/-- THE TIED CARD OF 'hairsbreadthlaw24.RintKnown'. -/
def rintKnownCard : Claim7 := { stood := { row := rintKnownRow, standIns := [], harness := (true, "60e78e12e980c4b4e554979e9943af70aec21a04f973d25e7480f332ba9f4a7c"), looks := false }, kinds := [], alts := [], laidByText := true, laidKinds := [.data], laidTests := true, laidLooks := .later }
def RintKnownCardSaid : Prop := Claim7.holds Tryd.pinned (.plain (OpenSpec.ofChange rintKnownSpec)) rintKnownCard

/-- THE TIED CARD OF 'hairsbreadthlaw24.RintTurn'. -/
def rintTurnCard : Claim7 := { stood := { row := rintTurnRow, standIns := [], harness := (true, "60e78e12e980c4b4e554979e9943af70aec21a04f973d25e7480f332ba9f4a7c"), looks := false }, kinds := [], alts := [], laidByText := true, laidKinds := [.data], laidTests := true, laidLooks := .later }
def RintTurnCardSaid : Prop := Claim7.holds Tryd.pinned (.plain (OpenSpec.ofChange rintTurnSpec)) rintTurnCard

/-- THE TIED CARD OF 'hairsbreadthlaw14.OverEnds'. -/
def overEndsCard : Claim7 := { stood := { row := overEndsRow, standIns := [], harness := (true, "60e78e12e980c4b4e554979e9943af70aec21a04f973d25e7480f332ba9f4a7c"), looks := false }, kinds := [], alts := [], laidByText := true, laidKinds := [.data], laidTests := true, laidLooks := .later }
def OverEndsCardSaid : Prop := Claim7.holds Tryd.pinned (.plain (OpenSpec.ofChange overEndsSpec)) overEndsCard

/-- THE TIED CARD OF 'hairsbreadthlaw14.OverNeighbours'. -/
def overNeighboursCard : Claim7 := { stood := { row := overNeighboursRow, standIns := [], harness := (true, "60e78e12e980c4b4e554979e9943af70aec21a04f973d25e7480f332ba9f4a7c"), looks := false }, kinds := [], alts := [], laidByText := true, laidKinds := [.data], laidTests := true, laidLooks := .later }
def OverNeighboursCardSaid : Prop := Claim7.holds Tryd.pinned (.plain (OpenSpec.ofChange overNeighboursSpec)) overNeighboursCard

/-- THE TIED CARD OF 'hairsbreadthlaw16.PackRounds'. -/
def packRoundsCard : Claim7 := { stood := { row := packRoundsRow, standIns := [], harness := (true, "60e78e12e980c4b4e554979e9943af70aec21a04f973d25e7480f332ba9f4a7c"), looks := false }, kinds := [], alts := [], laidByText := true, laidKinds := [.data], laidTests := true, laidLooks := .later }
def PackRoundsCardSaid : Prop := Claim7.holds Tryd.pinned (.plain (OpenSpec.ofChange packRoundsSpec)) packRoundsCard

/-- THE TIED CARD OF 'hairsbreadthlaw16.PackExact'. -/
def packExactCard : Claim7 := { stood := { row := packExactRow, standIns := [], harness := (true, "60e78e12e980c4b4e554979e9943af70aec21a04f973d25e7480f332ba9f4a7c"), looks := false }, kinds := [], alts := [], laidByText := true, laidKinds := [.data], laidTests := true, laidLooks := .later }
def PackExactCardSaid : Prop := Claim7.holds Tryd.pinned (.plain (OpenSpec.ofChange packExactSpec)) packExactCard

/-- THE SECOND FORM's CARD OF 'hairsbreadthlaw24.RintGreat'. -/
def rintGreatUptoCard : Claim7 := { stood := { row := rintGreatUptoRow, standIns := [], harness := (true, "60e78e12e980c4b4e554979e9943af70aec21a04f973d25e7480f332ba9f4a7c"), looks := false }, kinds := [], alts := [], laidByText := true, laidKinds := [.data], laidTests := true, laidLooks := .later }
def RintGreatUptoCardSaid : Prop := Claim7.holds Tryd.pinned (.plain (OpenSpec.upto rintGreatSpec)) rintGreatUptoCard

/-- THE SECOND FORM's CARD OF 'hairsbreadthlaw24.RintKnown'. -/
def rintKnownUptoCard : Claim7 := { stood := { row := rintKnownUptoRow, standIns := [], harness := (true, "60e78e12e980c4b4e554979e9943af70aec21a04f973d25e7480f332ba9f4a7c"), looks := false }, kinds := [], alts := [], laidByText := true, laidKinds := [.data], laidTests := true, laidLooks := .later }
def RintKnownUptoCardSaid : Prop := Claim7.holds Tryd.pinned (.plain (OpenSpec.upto rintKnownSpec)) rintKnownUptoCard

/-- THE SECOND FORM's CARD OF 'hairsbreadthlaw24.RintTurn'. -/
def rintTurnUptoCard : Claim7 := { stood := { row := rintTurnUptoRow, standIns := [], harness := (true, "60e78e12e980c4b4e554979e9943af70aec21a04f973d25e7480f332ba9f4a7c"), looks := false }, kinds := [], alts := [], laidByText := true, laidKinds := [.data], laidTests := true, laidLooks := .later }
def RintTurnUptoCardSaid : Prop := Claim7.holds Tryd.pinned (.plain (OpenSpec.upto rintTurnSpec)) rintTurnUptoCard

/-- THE SECOND FORM's CARD OF 'hairsbreadthlaw14.OverEnds'. -/
def overEndsUptoCard : Claim7 := { stood := { row := overEndsUptoRow, standIns := [], harness := (true, "60e78e12e980c4b4e554979e9943af70aec21a04f973d25e7480f332ba9f4a7c"), looks := false }, kinds := [], alts := [], laidByText := true, laidKinds := [.data], laidTests := true, laidLooks := .later }
def OverEndsUptoCardSaid : Prop := Claim7.holds Tryd.pinned (.plain (OpenSpec.upto overEndsSpec)) overEndsUptoCard

/-- THE SECOND FORM's CARD OF 'hairsbreadthlaw14.OverNeighbours'. -/
def overNeighboursUptoCard : Claim7 := { stood := { row := overNeighboursUptoRow, standIns := [], harness := (true, "60e78e12e980c4b4e554979e9943af70aec21a04f973d25e7480f332ba9f4a7c"), looks := false }, kinds := [], alts := [], laidByText := true, laidKinds := [.data], laidTests := true, laidLooks := .later }
def OverNeighboursUptoCardSaid : Prop := Claim7.holds Tryd.pinned (.plain (OpenSpec.upto overNeighboursSpec)) overNeighboursUptoCard

/-- THE SECOND FORM's CARD OF 'hairsbreadthlaw16.PackRounds'. -/
def packRoundsUptoCard : Claim7 := { stood := { row := packRoundsUptoRow, standIns := [], harness := (true, "60e78e12e980c4b4e554979e9943af70aec21a04f973d25e7480f332ba9f4a7c"), looks := false }, kinds := [], alts := [], laidByText := true, laidKinds := [.data], laidTests := true, laidLooks := .later }
def PackRoundsUptoCardSaid : Prop := Claim7.holds Tryd.pinned (.plain (OpenSpec.upto packRoundsSpec)) packRoundsUptoCard

/-- THE SECOND FORM's CARD OF 'hairsbreadthlaw16.PackExact'. -/
def packExactUptoCard : Claim7 := { stood := { row := packExactUptoRow, standIns := [], harness := (true, "60e78e12e980c4b4e554979e9943af70aec21a04f973d25e7480f332ba9f4a7c"), looks := false }, kinds := [], alts := [], laidByText := true, laidKinds := [.data], laidTests := true, laidLooks := .later }
def PackExactUptoCardSaid : Prop := Claim7.holds Tryd.pinned (.plain (OpenSpec.upto packExactSpec)) packExactUptoCard
end Rows
end Go.Proofs.YtoldhhnmnackhaaDoor
