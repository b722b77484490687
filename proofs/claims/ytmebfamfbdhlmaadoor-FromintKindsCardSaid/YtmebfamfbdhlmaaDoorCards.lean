/-
  DERIVED. GIVEN WITH THE SEED: THE CARDS: each row of YtmebfamfbdhlmaaDoorRows.lean that lists a variable, with what it lists TIED to the program's text (the seventh form; the later family's looks); each row that meets fmt, with fmt's text TOLD by the authors' own Lean function (tested against real Go, not proved from fmt's source: count such statements apart). THE CARD IS WHAT COUNTS. Prove the row's statement (the work); the ties are given (YtmebfamfbdhlmaaDoorTie.lean); close each card by the builder's one call (the guide's Derived/Test/ToyasCard.lean, 'card_holds'). Laid BY PROGRAM, IN A SANDBOX (cutbox-door.mjs). By AI agents, Wed Nov 11 2026. No macro, syntax, notation, axiom, sorry.
-/
import Derived.Test.YtmebfamfbdhlmaaDoorRows
import GoSem.ClaimSeven
namespace Go.Proofs.YtmebfamfbdhlmaaDoor
namespace Rows

/-- THE TIED CARD OF 'hairsbreadthlaw27.FromintKinds'. -/
def fromintKindsCard : Claim7 := { stood := { row := fromintKindsRow, standIns := [], harness := (true, "3a85b7c5612159fa8a94bdac4e126e57569d34c93a099581f45f1a2e58befb90"), looks := false }, kinds := [], alts := [], laidByText := true, laidKinds := [.data], laidTests := true, laidLooks := .later }
def FromintKindsCardSaid : Prop := Claim7.holds Tryd.pinned (.plain (OpenSpec.ofChange fromintKindsSpec)) fromintKindsCard

/-- THE TIED CARD OF 'hairsbreadthlaw28.CompLeast'. -/
def compLeastCard : Claim7 := { stood := { row := compLeastRow, standIns := [], harness := (true, "3a85b7c5612159fa8a94bdac4e126e57569d34c93a099581f45f1a2e58befb90"), looks := false }, kinds := [], alts := [], laidByText := true, laidKinds := [.data], laidTests := true, laidLooks := .later }
def CompLeastCardSaid : Prop := Claim7.holds Tryd.pinned (.plain (OpenSpec.ofChange compLeastSpec)) compLeastCard

/-- THE TIED CARD OF 'hairsbreadthlaw28.CompKnown'. -/
def compKnownCard : Claim7 := { stood := { row := compKnownRow, standIns := [], harness := (true, "3a85b7c5612159fa8a94bdac4e126e57569d34c93a099581f45f1a2e58befb90"), looks := false }, kinds := [], alts := [], laidByText := true, laidKinds := [.data], laidTests := true, laidLooks := .later }
def CompKnownCardSaid : Prop := Claim7.holds Tryd.pinned (.plain (OpenSpec.ofChange compKnownSpec)) compKnownCard

/-- THE TIED CARD OF 'hairsbreadthlaw24.RintGreat'. -/
def rintGreatCard : Claim7 := { stood := { row := rintGreatRow, standIns := [], harness := (true, "3a85b7c5612159fa8a94bdac4e126e57569d34c93a099581f45f1a2e58befb90"), looks := false }, kinds := [], alts := [], laidByText := true, laidKinds := [.data], laidTests := true, laidLooks := .later }
def RintGreatCardSaid : Prop := Claim7.holds Tryd.pinned (.plain (OpenSpec.ofChange rintGreatSpec)) rintGreatCard

/-- THE TIED CARD OF 'hairsbreadthlaw24.RintKnown'. -/
def rintKnownCard : Claim7 := { stood := { row := rintKnownRow, standIns := [], harness := (true, "3a85b7c5612159fa8a94bdac4e126e57569d34c93a099581f45f1a2e58befb90"), looks := false }, kinds := [], alts := [], laidByText := true, laidKinds := [.data], laidTests := true, laidLooks := .later }
def RintKnownCardSaid : Prop := Claim7.holds Tryd.pinned (.plain (OpenSpec.ofChange rintKnownSpec)) rintKnownCard

/-- THE TIED CARD OF 'hairsbreadthlaw24.RintTurn'. -/
def rintTurnCard : Claim7 := { stood := { row := rintTurnRow, standIns := [], harness := (true, "3a85b7c5612159fa8a94bdac4e126e57569d34c93a099581f45f1a2e58befb90"), looks := false }, kinds := [], alts := [], laidByText := true, laidKinds := [.data], laidTests := true, laidLooks := .later }
def RintTurnCardSaid : Prop := Claim7.holds Tryd.pinned (.plain (OpenSpec.ofChange rintTurnSpec)) rintTurnCard

/-- THE TIED CARD OF 'hairsbreadthlaw26.TointWide'. -/
def tointWideCard : Claim7 := { stood := { row := tointWideRow, standIns := [], harness := (true, "3a85b7c5612159fa8a94bdac4e126e57569d34c93a099581f45f1a2e58befb90"), looks := false }, kinds := [], alts := [], laidByText := true, laidKinds := [.data, .data], laidTests := true, laidLooks := .later }
def TointWideCardSaid : Prop := Claim7.holds Tryd.pinned (.plain (OpenSpec.ofChange tointWideSpec)) tointWideCard

/-- THE TIED CARD OF 'hairsbreadthlaw26.TointRint'. -/
def tointRintCard : Claim7 := { stood := { row := tointRintRow, standIns := [], harness := (true, "3a85b7c5612159fa8a94bdac4e126e57569d34c93a099581f45f1a2e58befb90"), looks := false }, kinds := [], alts := [], laidByText := true, laidKinds := [.data, .data], laidTests := true, laidLooks := .later }
def TointRintCardSaid : Prop := Claim7.holds Tryd.pinned (.plain (OpenSpec.ofChange tointRintSpec)) tointRintCard

/-- THE TIED CARD OF 'hairsbreadthlaw27.FromintBack'. -/
def fromintBackCard : Claim7 := { stood := { row := fromintBackRow, standIns := [], harness := (true, "3a85b7c5612159fa8a94bdac4e126e57569d34c93a099581f45f1a2e58befb90"), looks := false }, kinds := [], alts := [], laidByText := true, laidKinds := [.data, .data], laidTests := true, laidLooks := .later }
def FromintBackCardSaid : Prop := Claim7.holds Tryd.pinned (.plain (OpenSpec.ofChange fromintBackSpec)) fromintBackCard

/-- THE SECOND FORM's CARD OF 'hairsbreadthlaw27.FromintKinds'. -/
def fromintKindsUptoCard : Claim7 := { stood := { row := fromintKindsUptoRow, standIns := [], harness := (true, "3a85b7c5612159fa8a94bdac4e126e57569d34c93a099581f45f1a2e58befb90"), looks := false }, kinds := [], alts := [], laidByText := true, laidKinds := [.data], laidTests := true, laidLooks := .later }
def FromintKindsUptoCardSaid : Prop := Claim7.holds Tryd.pinned (.plain (OpenSpec.upto fromintKindsSpec)) fromintKindsUptoCard

/-- THE SECOND FORM's CARD OF 'hairsbreadthlaw28.CompLeast'. -/
def compLeastUptoCard : Claim7 := { stood := { row := compLeastUptoRow, standIns := [], harness := (true, "3a85b7c5612159fa8a94bdac4e126e57569d34c93a099581f45f1a2e58befb90"), looks := false }, kinds := [], alts := [], laidByText := true, laidKinds := [.data], laidTests := true, laidLooks := .later }
def CompLeastUptoCardSaid : Prop := Claim7.holds Tryd.pinned (.plain (OpenSpec.upto compLeastSpec)) compLeastUptoCard

/-- THE SECOND FORM's CARD OF 'hairsbreadthlaw28.CompKnown'. -/
def compKnownUptoCard : Claim7 := { stood := { row := compKnownUptoRow, standIns := [], harness := (true, "3a85b7c5612159fa8a94bdac4e126e57569d34c93a099581f45f1a2e58befb90"), looks := false }, kinds := [], alts := [], laidByText := true, laidKinds := [.data], laidTests := true, laidLooks := .later }
def CompKnownUptoCardSaid : Prop := Claim7.holds Tryd.pinned (.plain (OpenSpec.upto compKnownSpec)) compKnownUptoCard

/-- THE SECOND FORM's CARD OF 'hairsbreadthlaw24.RintGreat'. -/
def rintGreatUptoCard : Claim7 := { stood := { row := rintGreatUptoRow, standIns := [], harness := (true, "3a85b7c5612159fa8a94bdac4e126e57569d34c93a099581f45f1a2e58befb90"), looks := false }, kinds := [], alts := [], laidByText := true, laidKinds := [.data], laidTests := true, laidLooks := .later }
def RintGreatUptoCardSaid : Prop := Claim7.holds Tryd.pinned (.plain (OpenSpec.upto rintGreatSpec)) rintGreatUptoCard

/-- THE SECOND FORM's CARD OF 'hairsbreadthlaw24.RintKnown'. -/
def rintKnownUptoCard : Claim7 := { stood := { row := rintKnownUptoRow, standIns := [], harness := (true, "3a85b7c5612159fa8a94bdac4e126e57569d34c93a099581f45f1a2e58befb90"), looks := false }, kinds := [], alts := [], laidByText := true, laidKinds := [.data], laidTests := true, laidLooks := .later }
def RintKnownUptoCardSaid : Prop := Claim7.holds Tryd.pinned (.plain (OpenSpec.upto rintKnownSpec)) rintKnownUptoCard

/-- THE SECOND FORM's CARD OF 'hairsbreadthlaw24.RintTurn'. -/
def rintTurnUptoCard : Claim7 := { stood := { row := rintTurnUptoRow, standIns := [], harness := (true, "3a85b7c5612159fa8a94bdac4e126e57569d34c93a099581f45f1a2e58befb90"), looks := false }, kinds := [], alts := [], laidByText := true, laidKinds := [.data], laidTests := true, laidLooks := .later }
def RintTurnUptoCardSaid : Prop := Claim7.holds Tryd.pinned (.plain (OpenSpec.upto rintTurnSpec)) rintTurnUptoCard

/-- THE SECOND FORM's CARD OF 'hairsbreadthlaw26.TointWide'. -/
def tointWideUptoCard : Claim7 := { stood := { row := tointWideUptoRow, standIns := [], harness := (true, "3a85b7c5612159fa8a94bdac4e126e57569d34c93a099581f45f1a2e58befb90"), looks := false }, kinds := [], alts := [], laidByText := true, laidKinds := [.data, .data], laidTests := true, laidLooks := .later }
def TointWideUptoCardSaid : Prop := Claim7.holds Tryd.pinned (.plain (OpenSpec.upto tointWideSpec)) tointWideUptoCard

/-- THE SECOND FORM's CARD OF 'hairsbreadthlaw26.TointRint'. -/
def tointRintUptoCard : Claim7 := { stood := { row := tointRintUptoRow, standIns := [], harness := (true, "3a85b7c5612159fa8a94bdac4e126e57569d34c93a099581f45f1a2e58befb90"), looks := false }, kinds := [], alts := [], laidByText := true, laidKinds := [.data, .data], laidTests := true, laidLooks := .later }
def TointRintUptoCardSaid : Prop := Claim7.holds Tryd.pinned (.plain (OpenSpec.upto tointRintSpec)) tointRintUptoCard

/-- THE SECOND FORM's CARD OF 'hairsbreadthlaw27.FromintBack'. -/
def fromintBackUptoCard : Claim7 := { stood := { row := fromintBackUptoRow, standIns := [], harness := (true, "3a85b7c5612159fa8a94bdac4e126e57569d34c93a099581f45f1a2e58befb90"), looks := false }, kinds := [], alts := [], laidByText := true, laidKinds := [.data, .data], laidTests := true, laidLooks := .later }
def FromintBackUptoCardSaid : Prop := Claim7.holds Tryd.pinned (.plain (OpenSpec.upto fromintBackSpec)) fromintBackUptoCard
end Rows
end Go.Proofs.YtmebfamfbdhlmaaDoor
