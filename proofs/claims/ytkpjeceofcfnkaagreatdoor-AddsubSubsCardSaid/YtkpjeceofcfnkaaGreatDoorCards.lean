/-
  DERIVED. GIVEN WITH THE SEED: THE CARDS: each row of YtkpjeceofcfnkaaGreatDoorRows.lean that lists a variable, with what it lists TIED to the program's text (the seventh form; the later family's looks); each row that meets fmt, with fmt's text TOLD by the authors' own Lean function (tested against real Go, not proved from fmt's source: count such statements apart). THE CARD IS WHAT COUNTS. Prove the row's statement (the work); the ties are given (YtkpjeceofcfnkaaGreatDoorTie.lean); close each card by the builder's one call (the guide's Derived/Test/ToyasCard.lean, 'card_holds'). Laid BY PROGRAM, IN A SANDBOX (cutbox-door.mjs). By AI agents, Wed Nov 11 2026. No macro, syntax, notation, axiom, sorry.
-/
import Derived.Test.YtkpjeceofcfnkaaGreatDoorRows
import GoSem.ClaimSeven
namespace Go.Proofs.YtkpjeceofcfnkaaGreatDoor
namespace Rows

/-- THE TIED CARD OF 'hairsbreadthlaw24.RintAll'. -/
def rintAllCard : Claim7 := { stood := { row := rintAllRow, standIns := [], harness := (true, "a1ae15681c4a786a6a34cee195a82ef76e3deff3255ad99d31664bc9555ccc6e"), looks := false }, kinds := [], alts := [], laidByText := true, laidKinds := [.data], laidTests := true, laidLooks := .later }
def RintAllCardSaid : Prop := Claim7.holds Tryz.pinned (.plain (OpenSpec.ofChange rintAllSpec)) rintAllCard

/-- THE TIED CARD OF 'hairsbreadthlaw18.AddsubAdds'. -/
def addsubAddsCard : Claim7 := { stood := { row := addsubAddsRow, standIns := [], harness := (true, "a1ae15681c4a786a6a34cee195a82ef76e3deff3255ad99d31664bc9555ccc6e"), looks := false }, kinds := [], alts := [], laidByText := true, laidKinds := [.data], laidTests := true, laidLooks := .later }
def AddsubAddsCardSaid : Prop := Claim7.holds Tryz.pinned (.plain (OpenSpec.ofChange addsubAddsSpec)) addsubAddsCard

/-- THE TIED CARD OF 'hairsbreadthlaw18.AddsubSubs'. -/
def addsubSubsCard : Claim7 := { stood := { row := addsubSubsRow, standIns := [], harness := (true, "a1ae15681c4a786a6a34cee195a82ef76e3deff3255ad99d31664bc9555ccc6e"), looks := false }, kinds := [], alts := [], laidByText := true, laidKinds := [.data], laidTests := true, laidLooks := .later }
def AddsubSubsCardSaid : Prop := Claim7.holds Tryz.pinned (.plain (OpenSpec.ofChange addsubSubsSpec)) addsubSubsCard

/-- THE SECOND FORM's CARD OF 'hairsbreadthlaw24.RintAll'. -/
def rintAllUptoCard : Claim7 := { stood := { row := rintAllUptoRow, standIns := [], harness := (true, "a1ae15681c4a786a6a34cee195a82ef76e3deff3255ad99d31664bc9555ccc6e"), looks := false }, kinds := [], alts := [], laidByText := true, laidKinds := [.data], laidTests := true, laidLooks := .later }
def RintAllUptoCardSaid : Prop := Claim7.holds Tryz.pinned (.plain (OpenSpec.upto rintAllSpec)) rintAllUptoCard

/-- THE SECOND FORM's CARD OF 'hairsbreadthlaw18.AddsubAdds'. -/
def addsubAddsUptoCard : Claim7 := { stood := { row := addsubAddsUptoRow, standIns := [], harness := (true, "a1ae15681c4a786a6a34cee195a82ef76e3deff3255ad99d31664bc9555ccc6e"), looks := false }, kinds := [], alts := [], laidByText := true, laidKinds := [.data], laidTests := true, laidLooks := .later }
def AddsubAddsUptoCardSaid : Prop := Claim7.holds Tryz.pinned (.plain (OpenSpec.upto addsubAddsSpec)) addsubAddsUptoCard

/-- THE SECOND FORM's CARD OF 'hairsbreadthlaw18.AddsubSubs'. -/
def addsubSubsUptoCard : Claim7 := { stood := { row := addsubSubsUptoRow, standIns := [], harness := (true, "a1ae15681c4a786a6a34cee195a82ef76e3deff3255ad99d31664bc9555ccc6e"), looks := false }, kinds := [], alts := [], laidByText := true, laidKinds := [.data], laidTests := true, laidLooks := .later }
def AddsubSubsUptoCardSaid : Prop := Claim7.holds Tryz.pinned (.plain (OpenSpec.upto addsubSubsSpec)) addsubSubsUptoCard
end Rows
end Go.Proofs.YtkpjeceofcfnkaaGreatDoor
