/-
  DERIVED. GIVEN WITH THE SEED: THE CARDS: each row of YtojcelokljghlaaDoorRows.lean that lists a variable, with what it lists TIED to the program's text (the seventh form; the later family's looks); each row that meets fmt, with fmt's text TOLD by the authors' own Lean function (tested against real Go, not proved from fmt's source: count such statements apart). THE CARD IS WHAT COUNTS. Prove the row's statement (the work); the ties are given (YtojcelokljghlaaDoorTie.lean); close each card by the builder's one call (the guide's Derived/Test/ToyasCard.lean, 'card_holds'). Laid BY PROGRAM, IN A SANDBOX (cutbox-door.mjs). By AI agents, Wed Nov 11 2026. No macro, syntax, notation, axiom, sorry.
-/
import Derived.Test.YtojcelokljghlaaDoorRows
import GoSem.ClaimSeven
namespace Go.Proofs.YtojcelokljghlaaDoor
namespace Rows

/-- THE TIED CARD OF 'hairsbreadthlaw26.TointKinds'. -/
def tointKindsCard : Claim7 := { stood := { row := tointKindsRow, standIns := [], harness := (true, "dc17ec693574d7a9d2e2d9ccb3151059af66f907f4f2c9eb975a7b6a34d68d18"), looks := false }, kinds := [], alts := [], laidByText := true, laidKinds := [.data, .data], laidTests := true, laidLooks := .later }
def TointKindsCardSaid : Prop := Claim7.holds Tryd.pinned (.plain (OpenSpec.ofChange tointKindsSpec)) tointKindsCard

/-- THE TIED CARD OF 'hairsbreadthlaw26.TointAll'. -/
def tointAllCard : Claim7 := { stood := { row := tointAllRow, standIns := [], harness := (true, "dc17ec693574d7a9d2e2d9ccb3151059af66f907f4f2c9eb975a7b6a34d68d18"), looks := false }, kinds := [], alts := [], laidByText := true, laidKinds := [.data, .data], laidTests := true, laidLooks := .later }
def TointAllCardSaid : Prop := Claim7.holds Tryd.pinned (.plain (OpenSpec.ofChange tointAllSpec)) tointAllCard

/-- THE TIED CARD OF 'hairsbreadthlaw26.TointKnown'. -/
def tointKnownCard : Claim7 := { stood := { row := tointKnownRow, standIns := [], harness := (true, "dc17ec693574d7a9d2e2d9ccb3151059af66f907f4f2c9eb975a7b6a34d68d18"), looks := false }, kinds := [], alts := [], laidByText := true, laidKinds := [.data, .data], laidTests := true, laidLooks := .later }
def TointKnownCardSaid : Prop := Claim7.holds Tryd.pinned (.plain (OpenSpec.ofChange tointKnownSpec)) tointKnownCard

/-- THE TIED CARD OF 'hairsbreadthlaw26.TointTurn'. -/
def tointTurnCard : Claim7 := { stood := { row := tointTurnRow, standIns := [], harness := (true, "dc17ec693574d7a9d2e2d9ccb3151059af66f907f4f2c9eb975a7b6a34d68d18"), looks := false }, kinds := [], alts := [], laidByText := true, laidKinds := [.data, .data], laidTests := true, laidLooks := .later }
def TointTurnCardSaid : Prop := Claim7.holds Tryd.pinned (.plain (OpenSpec.ofChange tointTurnSpec)) tointTurnCard

/-- THE TIED CARD OF 'hairsbreadthlaw26.TointOrder'. -/
def tointOrderCard : Claim7 := { stood := { row := tointOrderRow, standIns := [], harness := (true, "dc17ec693574d7a9d2e2d9ccb3151059af66f907f4f2c9eb975a7b6a34d68d18"), looks := false }, kinds := [], alts := [], laidByText := true, laidKinds := [.data, .data], laidTests := true, laidLooks := .later }
def TointOrderCardSaid : Prop := Claim7.holds Tryd.pinned (.plain (OpenSpec.ofChange tointOrderSpec)) tointOrderCard

/-- THE TIED CARD OF 'hairsbreadthlaw26.TointWide'. -/
def tointWideCard : Claim7 := { stood := { row := tointWideRow, standIns := [], harness := (true, "dc17ec693574d7a9d2e2d9ccb3151059af66f907f4f2c9eb975a7b6a34d68d18"), looks := false }, kinds := [], alts := [], laidByText := true, laidKinds := [.data, .data], laidTests := true, laidLooks := .later }
def TointWideCardSaid : Prop := Claim7.holds Tryd.pinned (.plain (OpenSpec.ofChange tointWideSpec)) tointWideCard

/-- THE TIED CARD OF 'hairsbreadthlaw26.TointRint'. -/
def tointRintCard : Claim7 := { stood := { row := tointRintRow, standIns := [], harness := (true, "dc17ec693574d7a9d2e2d9ccb3151059af66f907f4f2c9eb975a7b6a34d68d18"), looks := false }, kinds := [], alts := [], laidByText := true, laidKinds := [.data, .data], laidTests := true, laidLooks := .later }
def TointRintCardSaid : Prop := Claim7.holds Tryd.pinned (.plain (OpenSpec.ofChange tointRintSpec)) tointRintCard

/-- THE TIED CARD OF 'hairsbreadthlaw28.CompAll'. -/
def compAllCard : Claim7 := { stood := { row := compAllRow, standIns := [], harness := (true, "dc17ec693574d7a9d2e2d9ccb3151059af66f907f4f2c9eb975a7b6a34d68d18"), looks := false }, kinds := [], alts := [], laidByText := true, laidKinds := [.data], laidTests := true, laidLooks := .later }
def CompAllCardSaid : Prop := Claim7.holds Tryd.pinned (.plain (OpenSpec.ofChange compAllSpec)) compAllCard

/-- THE TIED CARD OF 'hairsbreadthlaw28.CompNan'. -/
def compNanCard : Claim7 := { stood := { row := compNanRow, standIns := [], harness := (true, "dc17ec693574d7a9d2e2d9ccb3151059af66f907f4f2c9eb975a7b6a34d68d18"), looks := false }, kinds := [], alts := [], laidByText := true, laidKinds := [.data], laidTests := true, laidLooks := .later }
def CompNanCardSaid : Prop := Claim7.holds Tryd.pinned (.plain (OpenSpec.ofChange compNanSpec)) compNanCard

/-- THE TIED CARD OF 'hairsbreadthlaw28.CompLeast'. -/
def compLeastCard : Claim7 := { stood := { row := compLeastRow, standIns := [], harness := (true, "dc17ec693574d7a9d2e2d9ccb3151059af66f907f4f2c9eb975a7b6a34d68d18"), looks := false }, kinds := [], alts := [], laidByText := true, laidKinds := [.data], laidTests := true, laidLooks := .later }
def CompLeastCardSaid : Prop := Claim7.holds Tryd.pinned (.plain (OpenSpec.ofChange compLeastSpec)) compLeastCard

/-- THE TIED CARD OF 'hairsbreadthlaw28.CompKnown'. -/
def compKnownCard : Claim7 := { stood := { row := compKnownRow, standIns := [], harness := (true, "dc17ec693574d7a9d2e2d9ccb3151059af66f907f4f2c9eb975a7b6a34d68d18"), looks := false }, kinds := [], alts := [], laidByText := true, laidKinds := [.data], laidTests := true, laidLooks := .later }
def CompKnownCardSaid : Prop := Claim7.holds Tryd.pinned (.plain (OpenSpec.ofChange compKnownSpec)) compKnownCard

/-- THE TIED CARD OF 'hairsbreadthlaw28.CompTotal'. -/
def compTotalCard : Claim7 := { stood := { row := compTotalRow, standIns := [], harness := (true, "dc17ec693574d7a9d2e2d9ccb3151059af66f907f4f2c9eb975a7b6a34d68d18"), looks := false }, kinds := [], alts := [], laidByText := true, laidKinds := [.data], laidTests := true, laidLooks := .later }
def CompTotalCardSaid : Prop := Claim7.holds Tryd.pinned (.plain (OpenSpec.ofChange compTotalSpec)) compTotalCard

/-- THE SECOND FORM's CARD OF 'hairsbreadthlaw26.TointKinds'. -/
def tointKindsUptoCard : Claim7 := { stood := { row := tointKindsUptoRow, standIns := [], harness := (true, "dc17ec693574d7a9d2e2d9ccb3151059af66f907f4f2c9eb975a7b6a34d68d18"), looks := false }, kinds := [], alts := [], laidByText := true, laidKinds := [.data, .data], laidTests := true, laidLooks := .later }
def TointKindsUptoCardSaid : Prop := Claim7.holds Tryd.pinned (.plain (OpenSpec.upto tointKindsSpec)) tointKindsUptoCard

/-- THE SECOND FORM's CARD OF 'hairsbreadthlaw26.TointAll'. -/
def tointAllUptoCard : Claim7 := { stood := { row := tointAllUptoRow, standIns := [], harness := (true, "dc17ec693574d7a9d2e2d9ccb3151059af66f907f4f2c9eb975a7b6a34d68d18"), looks := false }, kinds := [], alts := [], laidByText := true, laidKinds := [.data, .data], laidTests := true, laidLooks := .later }
def TointAllUptoCardSaid : Prop := Claim7.holds Tryd.pinned (.plain (OpenSpec.upto tointAllSpec)) tointAllUptoCard

/-- THE SECOND FORM's CARD OF 'hairsbreadthlaw26.TointKnown'. -/
def tointKnownUptoCard : Claim7 := { stood := { row := tointKnownUptoRow, standIns := [], harness := (true, "dc17ec693574d7a9d2e2d9ccb3151059af66f907f4f2c9eb975a7b6a34d68d18"), looks := false }, kinds := [], alts := [], laidByText := true, laidKinds := [.data, .data], laidTests := true, laidLooks := .later }
def TointKnownUptoCardSaid : Prop := Claim7.holds Tryd.pinned (.plain (OpenSpec.upto tointKnownSpec)) tointKnownUptoCard

/-- THE SECOND FORM's CARD OF 'hairsbreadthlaw26.TointTurn'. -/
def tointTurnUptoCard : Claim7 := { stood := { row := tointTurnUptoRow, standIns := [], harness := (true, "dc17ec693574d7a9d2e2d9ccb3151059af66f907f4f2c9eb975a7b6a34d68d18"), looks := false }, kinds := [], alts := [], laidByText := true, laidKinds := [.data, .data], laidTests := true, laidLooks := .later }
def TointTurnUptoCardSaid : Prop := Claim7.holds Tryd.pinned (.plain (OpenSpec.upto tointTurnSpec)) tointTurnUptoCard

/-- THE SECOND FORM's CARD OF 'hairsbreadthlaw26.TointOrder'. -/
def tointOrderUptoCard : Claim7 := { stood := { row := tointOrderUptoRow, standIns := [], harness := (true, "dc17ec693574d7a9d2e2d9ccb3151059af66f907f4f2c9eb975a7b6a34d68d18"), looks := false }, kinds := [], alts := [], laidByText := true, laidKinds := [.data, .data], laidTests := true, laidLooks := .later }
def TointOrderUptoCardSaid : Prop := Claim7.holds Tryd.pinned (.plain (OpenSpec.upto tointOrderSpec)) tointOrderUptoCard

/-- THE SECOND FORM's CARD OF 'hairsbreadthlaw26.TointWide'. -/
def tointWideUptoCard : Claim7 := { stood := { row := tointWideUptoRow, standIns := [], harness := (true, "dc17ec693574d7a9d2e2d9ccb3151059af66f907f4f2c9eb975a7b6a34d68d18"), looks := false }, kinds := [], alts := [], laidByText := true, laidKinds := [.data, .data], laidTests := true, laidLooks := .later }
def TointWideUptoCardSaid : Prop := Claim7.holds Tryd.pinned (.plain (OpenSpec.upto tointWideSpec)) tointWideUptoCard

/-- THE SECOND FORM's CARD OF 'hairsbreadthlaw26.TointRint'. -/
def tointRintUptoCard : Claim7 := { stood := { row := tointRintUptoRow, standIns := [], harness := (true, "dc17ec693574d7a9d2e2d9ccb3151059af66f907f4f2c9eb975a7b6a34d68d18"), looks := false }, kinds := [], alts := [], laidByText := true, laidKinds := [.data, .data], laidTests := true, laidLooks := .later }
def TointRintUptoCardSaid : Prop := Claim7.holds Tryd.pinned (.plain (OpenSpec.upto tointRintSpec)) tointRintUptoCard

/-- THE SECOND FORM's CARD OF 'hairsbreadthlaw28.CompAll'. -/
def compAllUptoCard : Claim7 := { stood := { row := compAllUptoRow, standIns := [], harness := (true, "dc17ec693574d7a9d2e2d9ccb3151059af66f907f4f2c9eb975a7b6a34d68d18"), looks := false }, kinds := [], alts := [], laidByText := true, laidKinds := [.data], laidTests := true, laidLooks := .later }
def CompAllUptoCardSaid : Prop := Claim7.holds Tryd.pinned (.plain (OpenSpec.upto compAllSpec)) compAllUptoCard

/-- THE SECOND FORM's CARD OF 'hairsbreadthlaw28.CompNan'. -/
def compNanUptoCard : Claim7 := { stood := { row := compNanUptoRow, standIns := [], harness := (true, "dc17ec693574d7a9d2e2d9ccb3151059af66f907f4f2c9eb975a7b6a34d68d18"), looks := false }, kinds := [], alts := [], laidByText := true, laidKinds := [.data], laidTests := true, laidLooks := .later }
def CompNanUptoCardSaid : Prop := Claim7.holds Tryd.pinned (.plain (OpenSpec.upto compNanSpec)) compNanUptoCard

/-- THE SECOND FORM's CARD OF 'hairsbreadthlaw28.CompLeast'. -/
def compLeastUptoCard : Claim7 := { stood := { row := compLeastUptoRow, standIns := [], harness := (true, "dc17ec693574d7a9d2e2d9ccb3151059af66f907f4f2c9eb975a7b6a34d68d18"), looks := false }, kinds := [], alts := [], laidByText := true, laidKinds := [.data], laidTests := true, laidLooks := .later }
def CompLeastUptoCardSaid : Prop := Claim7.holds Tryd.pinned (.plain (OpenSpec.upto compLeastSpec)) compLeastUptoCard

/-- THE SECOND FORM's CARD OF 'hairsbreadthlaw28.CompKnown'. -/
def compKnownUptoCard : Claim7 := { stood := { row := compKnownUptoRow, standIns := [], harness := (true, "dc17ec693574d7a9d2e2d9ccb3151059af66f907f4f2c9eb975a7b6a34d68d18"), looks := false }, kinds := [], alts := [], laidByText := true, laidKinds := [.data], laidTests := true, laidLooks := .later }
def CompKnownUptoCardSaid : Prop := Claim7.holds Tryd.pinned (.plain (OpenSpec.upto compKnownSpec)) compKnownUptoCard

/-- THE SECOND FORM's CARD OF 'hairsbreadthlaw28.CompTotal'. -/
def compTotalUptoCard : Claim7 := { stood := { row := compTotalUptoRow, standIns := [], harness := (true, "dc17ec693574d7a9d2e2d9ccb3151059af66f907f4f2c9eb975a7b6a34d68d18"), looks := false }, kinds := [], alts := [], laidByText := true, laidKinds := [.data], laidTests := true, laidLooks := .later }
def CompTotalUptoCardSaid : Prop := Claim7.holds Tryd.pinned (.plain (OpenSpec.upto compTotalSpec)) compTotalUptoCard
end Rows
end Go.Proofs.YtojcelokljghlaaDoor
