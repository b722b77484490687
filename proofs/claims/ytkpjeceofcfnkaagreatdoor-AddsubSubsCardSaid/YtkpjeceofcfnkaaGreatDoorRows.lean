/-
  NARROWER THAN 'FOR EVERY INPUT', by the rows' own cells (each row's printed sentence says how): RintAll: laid · AddsubAdds: laid · AddsubSubs: laid.
  DERIVED. THE GIVEN ROWS OF THIS SEAT. 3 by the template 'for every input the law returns true; each argument reads behind the call as it read before'; 0 by the template 'total and deterministic' (their statements: YtkpjeceofcfnkaaGreatDoorTotals.lean).
  GIVEN WITH THE SEED: the statements are not yours to turn. If you find one false, say at which input.
  Laid BY PROGRAM, IN A SANDBOX (cutbox-rows.mjs): the forced cells as the released guide's own fill.sh prints them over the translation 230c26bb81e4c89d… (all of the seat's roots in one cut). By AI agents, Wed Nov 11 2026. No macro, syntax, notation, axiom, sorry.
-/
import Derived.Test.YtkpjeceofcfnkaaGreatDoorChecked
import GoSem.Claim
import GoSem.ClaimJoined
import GoSem.ClaimMapViews
import Derived.JoinedTies
import Derived.KernelRfl
namespace Go.Proofs.YtkpjeceofcfnkaaGreatDoor
/- THE CELL 'sum', in the pinned program and in every row, IS THE sha256 OF THE DUMP (.gsa) THAT YtkpjeceofcfnkaaGreatDoorProg.lean LOADS. Nothing in Lean hashes anything: it is a label: what it is worth is what the hold of that sum in a sandbox is worth. -/
noncomputable def Tryz.pinned : Pinned := { name := "ytkpjeceofcfnkaagreatdoor", sum := "230c26bb81e4c89df3f63553476091b2b470545d44424edb6849dbeee000ee2a", checked := Tryz.checked }
namespace Rows
def none {H : Type} : Left H := { results := [], args := [] }

/- WHAT THE LISTED PACKAGE-LEVEL VARIABLES READ AS WHEN THE CALL BEGINS. Each datum BY PROGRAM (the guide's laid-datum.mjs) off the statement by which the dump's own 'gosem.cut.vars' lays the variable. In a bare row this is a premise. The card (YtkpjeceofcfnkaaGreatDoorCards.lean) ties it to the program's text. -/
def laid_hairsbreadth_format_table {H : Type} : DataW H := .agg [.agg [.lit (.int .i64 16), .lit (.int .i64 11), .lit (.int .i64 15)], .agg [.lit (.int .i64 32), .lit (.int .i64 24), .lit (.int .i64 127)], .agg [.lit (.int .i64 64), .lit (.int .i64 53), .lit (.int .i64 1023)], .agg [.lit (.int .i64 128), .lit (.int .i64 113), .lit (.int .i64 16383)]]

/-- 'hairsbreadthlaw24.RintAll': WHATEVER THE INPUT: true; the input reads as it did. -/
def rintAllSpec : ChangeSpec := { name := "rintAll", fn := fun _ => fun
  | [d1, d2, d3, d4] => { results := [.lit (.bool true)], args := [d1, d2, d3, d4] }
  | _ => none }
def rintAllRow : OpenClaim := { program := "ytkpjeceofcfnkaagreatdoor", sum := "230c26bb81e4c89df3f63553476091b2b470545d44424edb6849dbeee000ee2a", func := "hairsbreadth/hairsbreadthlaw24.RintAll", spec := "rintAll", inPlace := ["math/bits.Add64"], unfollowed := true, recurses := true, named := ["hairsbreadth/format.table"], apart := false, laid := [("hairsbreadth/format.table", laid_hairsbreadth_format_table)] }
def RintAllSaid : Prop := rintAllRow.holds Tryz.pinned (OpenSpec.ofChange rintAllSpec)

/-- ITS FALSE NEIGHBOUR: 'it returns false'. Refute it at one input. -/
def rintAllWrong : ChangeSpec := { name := "rintAll", fn := fun _ => fun
  | [d1, d2, d3, d4] => { results := [.lit (.bool false)], args := [d1, d2, d3, d4] }
  | _ => none }
def RintAllWrongFalsely : Prop := rintAllRow.holds Tryz.pinned (OpenSpec.ofChange rintAllWrong)

/-- 'hairsbreadthlaw18.AddsubAdds': WHATEVER THE INPUT: true; the input reads as it did. -/
def addsubAddsSpec : ChangeSpec := { name := "addsubAdds", fn := fun _ => fun
  | [d1, d2, d3, d4] => { results := [.lit (.bool true)], args := [d1, d2, d3, d4] }
  | _ => none }
def addsubAddsRow : OpenClaim := { program := "ytkpjeceofcfnkaagreatdoor", sum := "230c26bb81e4c89df3f63553476091b2b470545d44424edb6849dbeee000ee2a", func := "hairsbreadth/hairsbreadthlaw18.AddsubAdds", spec := "addsubAdds", inPlace := ["math/bits.Add64", "math/bits.Sub64"], unfollowed := true, recurses := true, named := ["hairsbreadth/format.table"], apart := false, laid := [("hairsbreadth/format.table", laid_hairsbreadth_format_table)] }
def AddsubAddsSaid : Prop := addsubAddsRow.holds Tryz.pinned (OpenSpec.ofChange addsubAddsSpec)

/-- ITS FALSE NEIGHBOUR: 'it returns false'. Refute it at one input. -/
def addsubAddsWrong : ChangeSpec := { name := "addsubAdds", fn := fun _ => fun
  | [d1, d2, d3, d4] => { results := [.lit (.bool false)], args := [d1, d2, d3, d4] }
  | _ => none }
def AddsubAddsWrongFalsely : Prop := addsubAddsRow.holds Tryz.pinned (OpenSpec.ofChange addsubAddsWrong)

/-- 'hairsbreadthlaw18.AddsubSubs': WHATEVER THE INPUT: true; the input reads as it did. -/
def addsubSubsSpec : ChangeSpec := { name := "addsubSubs", fn := fun _ => fun
  | [d1, d2, d3, d4, d5, d6] => { results := [.lit (.bool true)], args := [d1, d2, d3, d4, d5, d6] }
  | _ => none }
def addsubSubsRow : OpenClaim := { program := "ytkpjeceofcfnkaagreatdoor", sum := "230c26bb81e4c89df3f63553476091b2b470545d44424edb6849dbeee000ee2a", func := "hairsbreadth/hairsbreadthlaw18.AddsubSubs", spec := "addsubSubs", inPlace := ["math/bits.Add64", "math/bits.Sub64"], unfollowed := true, recurses := true, named := ["hairsbreadth/format.table"], apart := false, laid := [("hairsbreadth/format.table", laid_hairsbreadth_format_table)] }
def AddsubSubsSaid : Prop := addsubSubsRow.holds Tryz.pinned (OpenSpec.ofChange addsubSubsSpec)

/-- ITS FALSE NEIGHBOUR: 'it returns false'. Refute it at one input. -/
def addsubSubsWrong : ChangeSpec := { name := "addsubSubs", fn := fun _ => fun
  | [d1, d2, d3, d4, d5, d6] => { results := [.lit (.bool false)], args := [d1, d2, d3, d4, d5, d6] }
  | _ => none }
def AddsubSubsWrongFalsely : Prop := addsubSubsRow.holds Tryz.pinned (OpenSpec.ofChange addsubSubsWrong)

/- THE SECOND FORM. 'bulk': how many values and letters a reading holds, each counted each time it is reached (what is shared counts as often as it is met; a slice's spare places count too). A statement '..UptoSaid' is the law's where the arguments, and the package variables that the reading takes, are together of bulk at most 1048576: NARROWER than '..Said'. Prove '..Said' where nothing that the law and all that it calls make is longer than what came in: it says more and counts as full. Else prove '..UptoSaid'. A law counts once. -/
mutual
def uptoBulk {H : Type} : DataW H → Nat
  | .lit (.string bytes) => bytes.length + 1
  | .lit _ => 1
  | .nil => 1
  | .ptr d => uptoBulk d + 1
  | .slice elems spare => uptoBulkAll elems + uptoBulkAll spare + 1
  | .agg parts => uptoBulkAll parts + 1
  | .iface _ d => uptoBulk d + 1
  | .map entries => uptoBulkEntries entries + 1
  | .held _ => 1
def uptoBulkAll {H : Type} : List (DataW H) → Nat
  | [] => 0
  | d :: r => uptoBulk d + uptoBulkAll r
def uptoBulkEntries {H : Type} : List (Lit × DataW H) → Nat
  | [] => 0
  | x :: r => uptoBulkEntry x + uptoBulkEntries r
def uptoBulkEntry {H : Type} : Lit × DataW H → Nat
  | (.string bytes, d) => bytes.length + uptoBulk d + 1
  | (_, d) => uptoBulk d + 1
 end
def uptoSmall : (H : Type) → List (DataW H) → Bool := fun _ ds => decide (uptoBulkAll ds ≤ 1048576)
def OpenSpec.upto (s : _root_.Go.ChangeSpec) : _root_.Go.OpenSpec := { _root_.Go.OpenSpec.ofChange s with cond := some uptoSmall }

/-- 'hairsbreadthlaw24.RintAll', WHERE WHAT IT READS IS OF BULK AT MOST 1048576: true; the input reads as it did. -/
def rintAllUptoRow : OpenClaim := { program := "ytkpjeceofcfnkaagreatdoor", sum := "230c26bb81e4c89df3f63553476091b2b470545d44424edb6849dbeee000ee2a", func := "hairsbreadth/hairsbreadthlaw24.RintAll", spec := "rintAll", inPlace := ["math/bits.Add64"], unfollowed := true, recurses := true, named := ["hairsbreadth/format.table"], apart := false, laid := [("hairsbreadth/format.table", laid_hairsbreadth_format_table)], narrowed := true }
def RintAllUptoSaid : Prop := rintAllUptoRow.holds Tryz.pinned (OpenSpec.upto rintAllSpec)

/-- 'hairsbreadthlaw18.AddsubAdds', WHERE WHAT IT READS IS OF BULK AT MOST 1048576: true; the input reads as it did. -/
def addsubAddsUptoRow : OpenClaim := { program := "ytkpjeceofcfnkaagreatdoor", sum := "230c26bb81e4c89df3f63553476091b2b470545d44424edb6849dbeee000ee2a", func := "hairsbreadth/hairsbreadthlaw18.AddsubAdds", spec := "addsubAdds", inPlace := ["math/bits.Add64", "math/bits.Sub64"], unfollowed := true, recurses := true, named := ["hairsbreadth/format.table"], apart := false, laid := [("hairsbreadth/format.table", laid_hairsbreadth_format_table)], narrowed := true }
def AddsubAddsUptoSaid : Prop := addsubAddsUptoRow.holds Tryz.pinned (OpenSpec.upto addsubAddsSpec)

/-- 'hairsbreadthlaw18.AddsubSubs', WHERE WHAT IT READS IS OF BULK AT MOST 1048576: true; the input reads as it did. -/
def addsubSubsUptoRow : OpenClaim := { program := "ytkpjeceofcfnkaagreatdoor", sum := "230c26bb81e4c89df3f63553476091b2b470545d44424edb6849dbeee000ee2a", func := "hairsbreadth/hairsbreadthlaw18.AddsubSubs", spec := "addsubSubs", inPlace := ["math/bits.Add64", "math/bits.Sub64"], unfollowed := true, recurses := true, named := ["hairsbreadth/format.table"], apart := false, laid := [("hairsbreadth/format.table", laid_hairsbreadth_format_table)], narrowed := true }
def AddsubSubsUptoSaid : Prop := addsubSubsUptoRow.holds Tryz.pinned (OpenSpec.upto addsubSubsSpec)

end Rows
end Go.Proofs.YtkpjeceofcfnkaaGreatDoor
