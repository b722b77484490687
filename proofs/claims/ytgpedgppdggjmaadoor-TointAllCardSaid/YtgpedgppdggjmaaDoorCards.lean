/-
  DERIVED. GIVEN WITH THE SEED: THE CARDS: each row of YtgpedgppdggjmaaDoorRows.lean that lists a variable, with what it lists TIED to the program's text (the seventh form; the later family's looks); each row that meets fmt, with fmt's text TOLD by the authors' own Lean function (tested against real Go, not proved from fmt's source: count such statements apart). THE CARD IS WHAT COUNTS. Prove the row's statement (the work); the ties are given (YtgpedgppdggjmaaDoorTie.lean); close each card by the builder's one call (the guide's Derived/Test/ToyasCard.lean, 'card_holds'). Laid BY PROGRAM, IN A SANDBOX (cutbox-door.mjs). By AI agents, Wed Nov 11 2026. No macro, syntax, notation, axiom, sorry.
-/
import Derived.Test.YtgpedgppdggjmaaDoorRows
import GoSem.ClaimSeven
namespace Go.Proofs.YtgpedgppdggjmaaDoor
namespace Rows

/-- THE TIED CARD OF 'hairsbreadthlaw14.OverEnds'. -/
def overEndsCard : Claim7 := { stood := { row := overEndsRow, standIns := [], harness := (true, "5c7176ea3495829e5d8bf8351d50910cd8f1600d49ead1a9928ad57e372306e6"), looks := false }, kinds := [], alts := [], laidByText := true, laidKinds := [.data], laidTests := true, laidLooks := .later }
def OverEndsCardSaid : Prop := Claim7.holds Tryd.pinned (.plain (OpenSpec.ofChange overEndsSpec)) overEndsCard

/-- THE TIED CARD OF 'hairsbreadthlaw16.PackRounds'. -/
def packRoundsCard : Claim7 := { stood := { row := packRoundsRow, standIns := [], harness := (true, "5c7176ea3495829e5d8bf8351d50910cd8f1600d49ead1a9928ad57e372306e6"), looks := false }, kinds := [], alts := [], laidByText := true, laidKinds := [.data], laidTests := true, laidLooks := .later }
def PackRoundsCardSaid : Prop := Claim7.holds Tryd.pinned (.plain (OpenSpec.ofChange packRoundsSpec)) packRoundsCard

/-- THE TIED CARD OF 'hairsbreadthlaw16.PackExact'. -/
def packExactCard : Claim7 := { stood := { row := packExactRow, standIns := [], harness := (true, "5c7176ea3495829e5d8bf8351d50910cd8f1600d49ead1a9928ad57e372306e6"), looks := false }, kinds := [], alts := [], laidByText := true, laidKinds := [.data], laidTests := true, laidLooks := .later }
def PackExactCardSaid : Prop := Claim7.holds Tryd.pinned (.plain (OpenSpec.ofChange packExactSpec)) packExactCard

/-- THE TIED CARD OF 'hairsbreadthlaw27.FromintAll'. -/
def fromintAllCard : Claim7 := { stood := { row := fromintAllRow, standIns := [], harness := (true, "5c7176ea3495829e5d8bf8351d50910cd8f1600d49ead1a9928ad57e372306e6"), looks := false }, kinds := [], alts := [], laidByText := true, laidKinds := [.data], laidTests := true, laidLooks := .later }
def FromintAllCardSaid : Prop := Claim7.holds Tryd.pinned (.plain (OpenSpec.ofChange fromintAllSpec)) fromintAllCard

/-- THE TIED CARD OF 'hairsbreadthlaw26.TointAll'. -/
def tointAllCard : Claim7 := { stood := { row := tointAllRow, standIns := [], harness := (true, "5c7176ea3495829e5d8bf8351d50910cd8f1600d49ead1a9928ad57e372306e6"), looks := false }, kinds := [], alts := [], laidByText := true, laidKinds := [.data, .data], laidTests := true, laidLooks := .later }
def TointAllCardSaid : Prop := Claim7.holds Tryd.pinned (.plain (OpenSpec.ofChange tointAllSpec)) tointAllCard

/-- THE TIED CARD OF 'hairsbreadthlaw28.CompAll'. -/
def compAllCard : Claim7 := { stood := { row := compAllRow, standIns := [], harness := (true, "5c7176ea3495829e5d8bf8351d50910cd8f1600d49ead1a9928ad57e372306e6"), looks := false }, kinds := [], alts := [], laidByText := true, laidKinds := [.data], laidTests := true, laidLooks := .later }
def CompAllCardSaid : Prop := Claim7.holds Tryd.pinned (.plain (OpenSpec.ofChange compAllSpec)) compAllCard

/-- THE TIED CARD OF 'hairsbreadthlaw26.TointWide'. -/
def tointWideCard : Claim7 := { stood := { row := tointWideRow, standIns := [], harness := (true, "5c7176ea3495829e5d8bf8351d50910cd8f1600d49ead1a9928ad57e372306e6"), looks := false }, kinds := [], alts := [], laidByText := true, laidKinds := [.data, .data], laidTests := true, laidLooks := .later }
def TointWideCardSaid : Prop := Claim7.holds Tryd.pinned (.plain (OpenSpec.ofChange tointWideSpec)) tointWideCard

/-- THE SECOND FORM's CARD OF 'hairsbreadthlaw14.OverEnds'. -/
def overEndsUptoCard : Claim7 := { stood := { row := overEndsUptoRow, standIns := [], harness := (true, "5c7176ea3495829e5d8bf8351d50910cd8f1600d49ead1a9928ad57e372306e6"), looks := false }, kinds := [], alts := [], laidByText := true, laidKinds := [.data], laidTests := true, laidLooks := .later }
def OverEndsUptoCardSaid : Prop := Claim7.holds Tryd.pinned (.plain (OpenSpec.upto overEndsSpec)) overEndsUptoCard

/-- THE SECOND FORM's CARD OF 'hairsbreadthlaw16.PackRounds'. -/
def packRoundsUptoCard : Claim7 := { stood := { row := packRoundsUptoRow, standIns := [], harness := (true, "5c7176ea3495829e5d8bf8351d50910cd8f1600d49ead1a9928ad57e372306e6"), looks := false }, kinds := [], alts := [], laidByText := true, laidKinds := [.data], laidTests := true, laidLooks := .later }
def PackRoundsUptoCardSaid : Prop := Claim7.holds Tryd.pinned (.plain (OpenSpec.upto packRoundsSpec)) packRoundsUptoCard

/-- THE SECOND FORM's CARD OF 'hairsbreadthlaw16.PackExact'. -/
def packExactUptoCard : Claim7 := { stood := { row := packExactUptoRow, standIns := [], harness := (true, "5c7176ea3495829e5d8bf8351d50910cd8f1600d49ead1a9928ad57e372306e6"), looks := false }, kinds := [], alts := [], laidByText := true, laidKinds := [.data], laidTests := true, laidLooks := .later }
def PackExactUptoCardSaid : Prop := Claim7.holds Tryd.pinned (.plain (OpenSpec.upto packExactSpec)) packExactUptoCard

/-- THE SECOND FORM's CARD OF 'hairsbreadthlaw27.FromintAll'. -/
def fromintAllUptoCard : Claim7 := { stood := { row := fromintAllUptoRow, standIns := [], harness := (true, "5c7176ea3495829e5d8bf8351d50910cd8f1600d49ead1a9928ad57e372306e6"), looks := false }, kinds := [], alts := [], laidByText := true, laidKinds := [.data], laidTests := true, laidLooks := .later }
def FromintAllUptoCardSaid : Prop := Claim7.holds Tryd.pinned (.plain (OpenSpec.upto fromintAllSpec)) fromintAllUptoCard

/-- THE SECOND FORM's CARD OF 'hairsbreadthlaw26.TointAll'. -/
def tointAllUptoCard : Claim7 := { stood := { row := tointAllUptoRow, standIns := [], harness := (true, "5c7176ea3495829e5d8bf8351d50910cd8f1600d49ead1a9928ad57e372306e6"), looks := false }, kinds := [], alts := [], laidByText := true, laidKinds := [.data, .data], laidTests := true, laidLooks := .later }
def TointAllUptoCardSaid : Prop := Claim7.holds Tryd.pinned (.plain (OpenSpec.upto tointAllSpec)) tointAllUptoCard

/-- THE SECOND FORM's CARD OF 'hairsbreadthlaw28.CompAll'. -/
def compAllUptoCard : Claim7 := { stood := { row := compAllUptoRow, standIns := [], harness := (true, "5c7176ea3495829e5d8bf8351d50910cd8f1600d49ead1a9928ad57e372306e6"), looks := false }, kinds := [], alts := [], laidByText := true, laidKinds := [.data], laidTests := true, laidLooks := .later }
def CompAllUptoCardSaid : Prop := Claim7.holds Tryd.pinned (.plain (OpenSpec.upto compAllSpec)) compAllUptoCard

/-- THE SECOND FORM's CARD OF 'hairsbreadthlaw26.TointWide'. -/
def tointWideUptoCard : Claim7 := { stood := { row := tointWideUptoRow, standIns := [], harness := (true, "5c7176ea3495829e5d8bf8351d50910cd8f1600d49ead1a9928ad57e372306e6"), looks := false }, kinds := [], alts := [], laidByText := true, laidKinds := [.data, .data], laidTests := true, laidLooks := .later }
def TointWideUptoCardSaid : Prop := Claim7.holds Tryd.pinned (.plain (OpenSpec.upto tointWideSpec)) tointWideUptoCard
end Rows
end Go.Proofs.YtgpedgppdggjmaaDoor
