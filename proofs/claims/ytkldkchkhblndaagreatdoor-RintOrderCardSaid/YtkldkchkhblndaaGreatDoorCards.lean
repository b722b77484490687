/-
  DERIVED. GIVEN WITH THE SEED: THE CARDS: each row of YtkldkchkhblndaaGreatDoorRows.lean that lists a variable, with what it lists TIED to the program's text (the seventh form; the later family's looks); each row that meets fmt, with fmt's text TOLD by the authors' own Lean function (tested against real Go, not proved from fmt's source: count such statements apart). THE CARD IS WHAT COUNTS. Prove the row's statement (the work); the ties are given (YtkldkchkhblndaaGreatDoorTie.lean); close each card by the builder's one call (the guide's Derived/Test/ToyasCard.lean, 'card_holds'). Laid BY PROGRAM, IN A SANDBOX (cutbox-door.mjs). By AI agents, Wed Nov 11 2026. No macro, syntax, notation, axiom, sorry.
-/
import Derived.Test.YtkldkchkhblndaaGreatDoorRows
import GoSem.ClaimSeven
namespace Go.Proofs.YtkldkchkhblndaaGreatDoor
namespace Rows

/-- THE TIED CARD OF 'hairsbreadthlaw18.AddsubNought'. -/
def addsubNoughtCard : Claim7 := { stood := { row := addsubNoughtRow, standIns := [], harness := (true, "02336ac2c7ca58b9d8dbf78d3df614bff89a78abb5a6641bfbae9df8b37e6c3e"), looks := false }, kinds := [], alts := [], laidByText := true, laidKinds := [.data], laidTests := true, laidLooks := .later }
def AddsubNoughtCardSaid : Prop := Claim7.holds Tryz.pinned (.plain (OpenSpec.ofChange addsubNoughtSpec)) addsubNoughtCard

/-- THE TIED CARD OF 'hairsbreadthlaw18.AddsubKnown'. -/
def addsubKnownCard : Claim7 := { stood := { row := addsubKnownRow, standIns := [], harness := (true, "02336ac2c7ca58b9d8dbf78d3df614bff89a78abb5a6641bfbae9df8b37e6c3e"), looks := false }, kinds := [], alts := [], laidByText := true, laidKinds := [.data], laidTests := true, laidLooks := .later }
def AddsubKnownCardSaid : Prop := Claim7.holds Tryz.pinned (.plain (OpenSpec.ofChange addsubKnownSpec)) addsubKnownCard

/-- THE TIED CARD OF 'hairsbreadthlaw18.AddsubExact'. -/
def addsubExactCard : Claim7 := { stood := { row := addsubExactRow, standIns := [], harness := (true, "02336ac2c7ca58b9d8dbf78d3df614bff89a78abb5a6641bfbae9df8b37e6c3e"), looks := false }, kinds := [], alts := [], laidByText := true, laidKinds := [.data], laidTests := true, laidLooks := .later }
def AddsubExactCardSaid : Prop := Claim7.holds Tryz.pinned (.plain (OpenSpec.ofChange addsubExactSpec)) addsubExactCard

/-- THE TIED CARD OF 'hairsbreadthlaw18.AddsubNear'. -/
def addsubNearCard : Claim7 := { stood := { row := addsubNearRow, standIns := [], harness := (true, "02336ac2c7ca58b9d8dbf78d3df614bff89a78abb5a6641bfbae9df8b37e6c3e"), looks := false }, kinds := [], alts := [], laidByText := true, laidKinds := [.data], laidTests := true, laidLooks := .later }
def AddsubNearCardSaid : Prop := Claim7.holds Tryz.pinned (.plain (OpenSpec.ofChange addsubNearSpec)) addsubNearCard

/-- THE TIED CARD OF 'hairsbreadthlaw18.AddsubOrder'. -/
def addsubOrderCard : Claim7 := { stood := { row := addsubOrderRow, standIns := [], harness := (true, "02336ac2c7ca58b9d8dbf78d3df614bff89a78abb5a6641bfbae9df8b37e6c3e"), looks := false }, kinds := [], alts := [], laidByText := true, laidKinds := [.data], laidTests := true, laidLooks := .later }
def AddsubOrderCardSaid : Prop := Claim7.holds Tryz.pinned (.plain (OpenSpec.ofChange addsubOrderSpec)) addsubOrderCard

/-- THE TIED CARD OF 'hairsbreadthlaw18.AddsubTurn'. -/
def addsubTurnCard : Claim7 := { stood := { row := addsubTurnRow, standIns := [], harness := (true, "02336ac2c7ca58b9d8dbf78d3df614bff89a78abb5a6641bfbae9df8b37e6c3e"), looks := false }, kinds := [], alts := [], laidByText := true, laidKinds := [.data], laidTests := true, laidLooks := .later }
def AddsubTurnCardSaid : Prop := Claim7.holds Tryz.pinned (.plain (OpenSpec.ofChange addsubTurnSpec)) addsubTurnCard

/-- THE TIED CARD OF 'hairsbreadthlaw27.FromintAdd'. -/
def fromintAddCard : Claim7 := { stood := { row := fromintAddRow, standIns := [], harness := (true, "02336ac2c7ca58b9d8dbf78d3df614bff89a78abb5a6641bfbae9df8b37e6c3e"), looks := false }, kinds := [], alts := [], laidByText := true, laidKinds := [.data], laidTests := true, laidLooks := .later }
def FromintAddCardSaid : Prop := Claim7.holds Tryz.pinned (.plain (OpenSpec.ofChange fromintAddSpec)) fromintAddCard

/-- THE TIED CARD OF 'hairsbreadthlaw24.RintOrder'. -/
def rintOrderCard : Claim7 := { stood := { row := rintOrderRow, standIns := [], harness := (true, "02336ac2c7ca58b9d8dbf78d3df614bff89a78abb5a6641bfbae9df8b37e6c3e"), looks := false }, kinds := [], alts := [], laidByText := true, laidKinds := [.data], laidTests := true, laidLooks := .later }
def RintOrderCardSaid : Prop := Claim7.holds Tryz.pinned (.plain (OpenSpec.ofChange rintOrderSpec)) rintOrderCard

/-- THE TIED CARD OF 'hairsbreadthlaw24.RintNear'. -/
def rintNearCard : Claim7 := { stood := { row := rintNearRow, standIns := [], harness := (true, "02336ac2c7ca58b9d8dbf78d3df614bff89a78abb5a6641bfbae9df8b37e6c3e"), looks := false }, kinds := [], alts := [], laidByText := true, laidKinds := [.data], laidTests := true, laidLooks := .later }
def RintNearCardSaid : Prop := Claim7.holds Tryz.pinned (.plain (OpenSpec.ofChange rintNearSpec)) rintNearCard

/-- THE TIED CARD OF 'hairsbreadthlaw28.CompOrder'. -/
def compOrderCard : Claim7 := { stood := { row := compOrderRow, standIns := [], harness := (true, "02336ac2c7ca58b9d8dbf78d3df614bff89a78abb5a6641bfbae9df8b37e6c3e"), looks := false }, kinds := [], alts := [], laidByText := true, laidKinds := [.data], laidTests := true, laidLooks := .later }
def CompOrderCardSaid : Prop := Claim7.holds Tryz.pinned (.plain (OpenSpec.ofChange compOrderSpec)) compOrderCard

/-- THE SECOND FORM's CARD OF 'hairsbreadthlaw18.AddsubNought'. -/
def addsubNoughtUptoCard : Claim7 := { stood := { row := addsubNoughtUptoRow, standIns := [], harness := (true, "02336ac2c7ca58b9d8dbf78d3df614bff89a78abb5a6641bfbae9df8b37e6c3e"), looks := false }, kinds := [], alts := [], laidByText := true, laidKinds := [.data], laidTests := true, laidLooks := .later }
def AddsubNoughtUptoCardSaid : Prop := Claim7.holds Tryz.pinned (.plain (OpenSpec.upto addsubNoughtSpec)) addsubNoughtUptoCard

/-- THE SECOND FORM's CARD OF 'hairsbreadthlaw18.AddsubKnown'. -/
def addsubKnownUptoCard : Claim7 := { stood := { row := addsubKnownUptoRow, standIns := [], harness := (true, "02336ac2c7ca58b9d8dbf78d3df614bff89a78abb5a6641bfbae9df8b37e6c3e"), looks := false }, kinds := [], alts := [], laidByText := true, laidKinds := [.data], laidTests := true, laidLooks := .later }
def AddsubKnownUptoCardSaid : Prop := Claim7.holds Tryz.pinned (.plain (OpenSpec.upto addsubKnownSpec)) addsubKnownUptoCard

/-- THE SECOND FORM's CARD OF 'hairsbreadthlaw18.AddsubExact'. -/
def addsubExactUptoCard : Claim7 := { stood := { row := addsubExactUptoRow, standIns := [], harness := (true, "02336ac2c7ca58b9d8dbf78d3df614bff89a78abb5a6641bfbae9df8b37e6c3e"), looks := false }, kinds := [], alts := [], laidByText := true, laidKinds := [.data], laidTests := true, laidLooks := .later }
def AddsubExactUptoCardSaid : Prop := Claim7.holds Tryz.pinned (.plain (OpenSpec.upto addsubExactSpec)) addsubExactUptoCard

/-- THE SECOND FORM's CARD OF 'hairsbreadthlaw18.AddsubNear'. -/
def addsubNearUptoCard : Claim7 := { stood := { row := addsubNearUptoRow, standIns := [], harness := (true, "02336ac2c7ca58b9d8dbf78d3df614bff89a78abb5a6641bfbae9df8b37e6c3e"), looks := false }, kinds := [], alts := [], laidByText := true, laidKinds := [.data], laidTests := true, laidLooks := .later }
def AddsubNearUptoCardSaid : Prop := Claim7.holds Tryz.pinned (.plain (OpenSpec.upto addsubNearSpec)) addsubNearUptoCard

/-- THE SECOND FORM's CARD OF 'hairsbreadthlaw18.AddsubOrder'. -/
def addsubOrderUptoCard : Claim7 := { stood := { row := addsubOrderUptoRow, standIns := [], harness := (true, "02336ac2c7ca58b9d8dbf78d3df614bff89a78abb5a6641bfbae9df8b37e6c3e"), looks := false }, kinds := [], alts := [], laidByText := true, laidKinds := [.data], laidTests := true, laidLooks := .later }
def AddsubOrderUptoCardSaid : Prop := Claim7.holds Tryz.pinned (.plain (OpenSpec.upto addsubOrderSpec)) addsubOrderUptoCard

/-- THE SECOND FORM's CARD OF 'hairsbreadthlaw18.AddsubTurn'. -/
def addsubTurnUptoCard : Claim7 := { stood := { row := addsubTurnUptoRow, standIns := [], harness := (true, "02336ac2c7ca58b9d8dbf78d3df614bff89a78abb5a6641bfbae9df8b37e6c3e"), looks := false }, kinds := [], alts := [], laidByText := true, laidKinds := [.data], laidTests := true, laidLooks := .later }
def AddsubTurnUptoCardSaid : Prop := Claim7.holds Tryz.pinned (.plain (OpenSpec.upto addsubTurnSpec)) addsubTurnUptoCard

/-- THE SECOND FORM's CARD OF 'hairsbreadthlaw27.FromintAdd'. -/
def fromintAddUptoCard : Claim7 := { stood := { row := fromintAddUptoRow, standIns := [], harness := (true, "02336ac2c7ca58b9d8dbf78d3df614bff89a78abb5a6641bfbae9df8b37e6c3e"), looks := false }, kinds := [], alts := [], laidByText := true, laidKinds := [.data], laidTests := true, laidLooks := .later }
def FromintAddUptoCardSaid : Prop := Claim7.holds Tryz.pinned (.plain (OpenSpec.upto fromintAddSpec)) fromintAddUptoCard

/-- THE SECOND FORM's CARD OF 'hairsbreadthlaw24.RintOrder'. -/
def rintOrderUptoCard : Claim7 := { stood := { row := rintOrderUptoRow, standIns := [], harness := (true, "02336ac2c7ca58b9d8dbf78d3df614bff89a78abb5a6641bfbae9df8b37e6c3e"), looks := false }, kinds := [], alts := [], laidByText := true, laidKinds := [.data], laidTests := true, laidLooks := .later }
def RintOrderUptoCardSaid : Prop := Claim7.holds Tryz.pinned (.plain (OpenSpec.upto rintOrderSpec)) rintOrderUptoCard

/-- THE SECOND FORM's CARD OF 'hairsbreadthlaw24.RintNear'. -/
def rintNearUptoCard : Claim7 := { stood := { row := rintNearUptoRow, standIns := [], harness := (true, "02336ac2c7ca58b9d8dbf78d3df614bff89a78abb5a6641bfbae9df8b37e6c3e"), looks := false }, kinds := [], alts := [], laidByText := true, laidKinds := [.data], laidTests := true, laidLooks := .later }
def RintNearUptoCardSaid : Prop := Claim7.holds Tryz.pinned (.plain (OpenSpec.upto rintNearSpec)) rintNearUptoCard

/-- THE SECOND FORM's CARD OF 'hairsbreadthlaw28.CompOrder'. -/
def compOrderUptoCard : Claim7 := { stood := { row := compOrderUptoRow, standIns := [], harness := (true, "02336ac2c7ca58b9d8dbf78d3df614bff89a78abb5a6641bfbae9df8b37e6c3e"), looks := false }, kinds := [], alts := [], laidByText := true, laidKinds := [.data], laidTests := true, laidLooks := .later }
def CompOrderUptoCardSaid : Prop := Claim7.holds Tryz.pinned (.plain (OpenSpec.upto compOrderSpec)) compOrderUptoCard
end Rows
end Go.Proofs.YtkldkchkhblndaaGreatDoor
