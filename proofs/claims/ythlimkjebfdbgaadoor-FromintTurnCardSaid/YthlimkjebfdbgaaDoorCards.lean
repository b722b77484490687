/-
  DERIVED. GIVEN WITH THE SEED: THE CARDS: each row of YthlimkjebfdbgaaDoorRows.lean that lists a variable, with what it lists TIED to the program's text (the seventh form; the later family's looks); each row that meets fmt, with fmt's text TOLD by the authors' own Lean function (tested against real Go, not proved from fmt's source: count such statements apart). THE CARD IS WHAT COUNTS. Prove the row's statement (the work); the ties are given (YthlimkjebfdbgaaDoorTie.lean); close each card by the builder's one call (the guide's Derived/Test/ToyasCard.lean, 'card_holds'). Laid BY PROGRAM, IN A SANDBOX (cutbox-door.mjs). By AI agents, Wed Nov 11 2026. No macro, syntax, notation, axiom, sorry.
-/
import Derived.Test.YthlimkjebfdbgaaDoorRows
import GoSem.ClaimSeven
namespace Go.Proofs.YthlimkjebfdbgaaDoor
namespace Rows

/-- THE TIED CARD OF 'hairsbreadthlaw27.FromintAll'. -/
def fromintAllCard : Claim7 := { stood := { row := fromintAllRow, standIns := [], harness := (true, "1738ebbf63000c8361f5221253ecfc78b5231204565b9da60bf3299fec0d5187"), looks := false }, kinds := [], alts := [], laidByText := true, laidKinds := [.data], laidTests := true, laidLooks := .later }
def FromintAllCardSaid : Prop := Claim7.holds Tryd.pinned (.plain (OpenSpec.ofChange fromintAllSpec)) fromintAllCard

/-- THE TIED CARD OF 'hairsbreadthlaw27.FromintOrder'. -/
def fromintOrderCard : Claim7 := { stood := { row := fromintOrderRow, standIns := [], harness := (true, "1738ebbf63000c8361f5221253ecfc78b5231204565b9da60bf3299fec0d5187"), looks := false }, kinds := [], alts := [], laidByText := true, laidKinds := [.data], laidTests := true, laidLooks := .later }
def FromintOrderCardSaid : Prop := Claim7.holds Tryd.pinned (.plain (OpenSpec.ofChange fromintOrderSpec)) fromintOrderCard

/-- THE TIED CARD OF 'hairsbreadthlaw27.FromintKinds'. -/
def fromintKindsCard : Claim7 := { stood := { row := fromintKindsRow, standIns := [], harness := (true, "1738ebbf63000c8361f5221253ecfc78b5231204565b9da60bf3299fec0d5187"), looks := false }, kinds := [], alts := [], laidByText := true, laidKinds := [.data], laidTests := true, laidLooks := .later }
def FromintKindsCardSaid : Prop := Claim7.holds Tryd.pinned (.plain (OpenSpec.ofChange fromintKindsSpec)) fromintKindsCard

/-- THE TIED CARD OF 'hairsbreadthlaw27.FromintKnown'. -/
def fromintKnownCard : Claim7 := { stood := { row := fromintKnownRow, standIns := [], harness := (true, "1738ebbf63000c8361f5221253ecfc78b5231204565b9da60bf3299fec0d5187"), looks := false }, kinds := [], alts := [], laidByText := true, laidKinds := [.data], laidTests := true, laidLooks := .later }
def FromintKnownCardSaid : Prop := Claim7.holds Tryd.pinned (.plain (OpenSpec.ofChange fromintKnownSpec)) fromintKnownCard

/-- THE TIED CARD OF 'hairsbreadthlaw27.FromintTurn'. -/
def fromintTurnCard : Claim7 := { stood := { row := fromintTurnRow, standIns := [], harness := (true, "1738ebbf63000c8361f5221253ecfc78b5231204565b9da60bf3299fec0d5187"), looks := false }, kinds := [], alts := [], laidByText := true, laidKinds := [.data], laidTests := true, laidLooks := .later }
def FromintTurnCardSaid : Prop := Claim7.holds Tryd.pinned (.plain (OpenSpec.ofChange fromintTurnSpec)) fromintTurnCard

/-- THE TIED CARD OF 'hairsbreadthlaw27.FromintBack'. -/
def fromintBackCard : Claim7 := { stood := { row := fromintBackRow, standIns := [], harness := (true, "1738ebbf63000c8361f5221253ecfc78b5231204565b9da60bf3299fec0d5187"), looks := false }, kinds := [], alts := [], laidByText := true, laidKinds := [.data, .data], laidTests := true, laidLooks := .later }
def FromintBackCardSaid : Prop := Claim7.holds Tryd.pinned (.plain (OpenSpec.ofChange fromintBackSpec)) fromintBackCard

/-- THE SECOND FORM's CARD OF 'hairsbreadthlaw27.FromintAll'. -/
def fromintAllUptoCard : Claim7 := { stood := { row := fromintAllUptoRow, standIns := [], harness := (true, "1738ebbf63000c8361f5221253ecfc78b5231204565b9da60bf3299fec0d5187"), looks := false }, kinds := [], alts := [], laidByText := true, laidKinds := [.data], laidTests := true, laidLooks := .later }
def FromintAllUptoCardSaid : Prop := Claim7.holds Tryd.pinned (.plain (OpenSpec.upto fromintAllSpec)) fromintAllUptoCard

/-- THE SECOND FORM's CARD OF 'hairsbreadthlaw27.FromintOrder'. -/
def fromintOrderUptoCard : Claim7 := { stood := { row := fromintOrderUptoRow, standIns := [], harness := (true, "1738ebbf63000c8361f5221253ecfc78b5231204565b9da60bf3299fec0d5187"), looks := false }, kinds := [], alts := [], laidByText := true, laidKinds := [.data], laidTests := true, laidLooks := .later }
def FromintOrderUptoCardSaid : Prop := Claim7.holds Tryd.pinned (.plain (OpenSpec.upto fromintOrderSpec)) fromintOrderUptoCard

/-- THE SECOND FORM's CARD OF 'hairsbreadthlaw27.FromintKinds'. -/
def fromintKindsUptoCard : Claim7 := { stood := { row := fromintKindsUptoRow, standIns := [], harness := (true, "1738ebbf63000c8361f5221253ecfc78b5231204565b9da60bf3299fec0d5187"), looks := false }, kinds := [], alts := [], laidByText := true, laidKinds := [.data], laidTests := true, laidLooks := .later }
def FromintKindsUptoCardSaid : Prop := Claim7.holds Tryd.pinned (.plain (OpenSpec.upto fromintKindsSpec)) fromintKindsUptoCard

/-- THE SECOND FORM's CARD OF 'hairsbreadthlaw27.FromintKnown'. -/
def fromintKnownUptoCard : Claim7 := { stood := { row := fromintKnownUptoRow, standIns := [], harness := (true, "1738ebbf63000c8361f5221253ecfc78b5231204565b9da60bf3299fec0d5187"), looks := false }, kinds := [], alts := [], laidByText := true, laidKinds := [.data], laidTests := true, laidLooks := .later }
def FromintKnownUptoCardSaid : Prop := Claim7.holds Tryd.pinned (.plain (OpenSpec.upto fromintKnownSpec)) fromintKnownUptoCard

/-- THE SECOND FORM's CARD OF 'hairsbreadthlaw27.FromintTurn'. -/
def fromintTurnUptoCard : Claim7 := { stood := { row := fromintTurnUptoRow, standIns := [], harness := (true, "1738ebbf63000c8361f5221253ecfc78b5231204565b9da60bf3299fec0d5187"), looks := false }, kinds := [], alts := [], laidByText := true, laidKinds := [.data], laidTests := true, laidLooks := .later }
def FromintTurnUptoCardSaid : Prop := Claim7.holds Tryd.pinned (.plain (OpenSpec.upto fromintTurnSpec)) fromintTurnUptoCard

/-- THE SECOND FORM's CARD OF 'hairsbreadthlaw27.FromintBack'. -/
def fromintBackUptoCard : Claim7 := { stood := { row := fromintBackUptoRow, standIns := [], harness := (true, "1738ebbf63000c8361f5221253ecfc78b5231204565b9da60bf3299fec0d5187"), looks := false }, kinds := [], alts := [], laidByText := true, laidKinds := [.data, .data], laidTests := true, laidLooks := .later }
def FromintBackUptoCardSaid : Prop := Claim7.holds Tryd.pinned (.plain (OpenSpec.upto fromintBackSpec)) fromintBackUptoCard
end Rows
end Go.Proofs.YthlimkjebfdbgaaDoor
