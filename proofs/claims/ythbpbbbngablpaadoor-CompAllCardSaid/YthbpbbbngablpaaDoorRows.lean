/-
  NARROWER THAN 'FOR EVERY INPUT', by the rows' own cells (each row's printed sentence says how): CompAll: laid · TointWide: laid.
  DERIVED. THE GIVEN ROWS OF THIS SEAT. 2 by the template 'for every input the law returns true; each argument reads behind the call as it read before'; 0 by the template 'total and deterministic' (their statements: YthbpbbbngablpaaDoorTotals.lean).
  GIVEN WITH THE SEED: the statements are not yours to turn. If you find one false, say at which input.
  Laid BY PROGRAM, IN A SANDBOX (cutbox-rows.mjs): the forced cells as the released guide's own fill.sh prints them over the translation cefbcac2741ca845… (all of the seat's roots in one cut). By AI agents, Wed Nov 11 2026. No macro, syntax, notation, axiom, sorry.
-/
import Derived.Test.YthbpbbbngablpaaDoorChecked
import GoSem.Claim
import GoSem.ClaimJoined
import GoSem.ClaimMapViews
import Derived.JoinedTies
import Derived.KernelRfl
namespace Go.Proofs.YthbpbbbngablpaaDoor
/- THE CELL 'sum', in the pinned program and in every row, IS THE sha256 OF THE DUMP (.gsa) THAT YthbpbbbngablpaaDoorProg.lean LOADS. Nothing in Lean hashes anything: it is a label: what it is worth is what the hold of that sum in a sandbox is worth. -/
noncomputable def Tryd.pinned : Pinned := { name := "ythbpbbbngablpaadoor", sum := "cefbcac2741ca8453a0b1c5a01053caf3de8afa0c64967235fedb6ba34aff1f3", checked := Tryd.checked }
namespace Rows
def none {H : Type} : Left H := { results := [], args := [] }

/- WHAT THE LISTED PACKAGE-LEVEL VARIABLES READ AS WHEN THE CALL BEGINS. Each datum BY PROGRAM (the guide's laid-datum.mjs) off the statement by which the dump's own 'gosem.cut.vars' lays the variable. In a bare row this is a premise. The card (YthbpbbbngablpaaDoorCards.lean) ties it to the program's text. -/
def laid_hairsbreadth_format_table {H : Type} : DataW H := .agg [.agg [.lit (.int .i64 16), .lit (.int .i64 11), .lit (.int .i64 15)], .agg [.lit (.int .i64 32), .lit (.int .i64 24), .lit (.int .i64 127)], .agg [.lit (.int .i64 64), .lit (.int .i64 53), .lit (.int .i64 1023)], .agg [.lit (.int .i64 128), .lit (.int .i64 113), .lit (.int .i64 16383)]]
def laid_hairsbreadth_toint_ends {H : Type} : DataW H := .agg [.agg [.lit (.int .u64 2147483648), .lit (.int .u64 2147483647)], .agg [.lit (.int .u64 0), .lit (.int .u64 4294967295)], .agg [.lit (.int .u64 9223372036854775808), .lit (.int .u64 9223372036854775807)], .agg [.lit (.int .u64 0), .lit (.int .u64 18446744073709551615)]]

/-- 'hairsbreadthlaw28.CompAll': WHATEVER THE INPUT: true; the input reads as it did. -/
def compAllSpec : ChangeSpec := { name := "compAll", fn := fun _ => fun
  | [d1, d2, d3] => { results := [.lit (.bool true)], args := [d1, d2, d3] }
  | _ => none }
def compAllRow : OpenClaim := { program := "ythbpbbbngablpaadoor", sum := "cefbcac2741ca8453a0b1c5a01053caf3de8afa0c64967235fedb6ba34aff1f3", func := "hairsbreadth/hairsbreadthlaw28.CompAll", spec := "compAll", inPlace := ["math/bits.Add64"], unfollowed := true, recurses := true, named := ["hairsbreadth/format.table"], apart := false, laid := [("hairsbreadth/format.table", laid_hairsbreadth_format_table)] }
def CompAllSaid : Prop := compAllRow.holds Tryd.pinned (OpenSpec.ofChange compAllSpec)

/-- ITS FALSE NEIGHBOUR: 'it returns false'. Refute it at one input. -/
def compAllWrong : ChangeSpec := { name := "compAll", fn := fun _ => fun
  | [d1, d2, d3] => { results := [.lit (.bool false)], args := [d1, d2, d3] }
  | _ => none }
def CompAllWrongFalsely : Prop := compAllRow.holds Tryd.pinned (OpenSpec.ofChange compAllWrong)

/-- 'hairsbreadthlaw26.TointWide': WHATEVER THE INPUT: true; the input reads as it did. -/
def tointWideSpec : ChangeSpec := { name := "tointWide", fn := fun _ => fun
  | [d1, d2, d3, d4, d5] => { results := [.lit (.bool true)], args := [d1, d2, d3, d4, d5] }
  | _ => none }
def tointWideRow : OpenClaim := { program := "ythbpbbbngablpaadoor", sum := "cefbcac2741ca8453a0b1c5a01053caf3de8afa0c64967235fedb6ba34aff1f3", func := "hairsbreadth/hairsbreadthlaw26.TointWide", spec := "tointWide", inPlace := ["math/bits.Add64"], unfollowed := true, recurses := true, named := ["hairsbreadth/format.table", "hairsbreadth/toint.ends"], apart := false, laid := [("hairsbreadth/format.table", laid_hairsbreadth_format_table), ("hairsbreadth/toint.ends", laid_hairsbreadth_toint_ends)] }
def TointWideSaid : Prop := tointWideRow.holds Tryd.pinned (OpenSpec.ofChange tointWideSpec)

/-- ITS FALSE NEIGHBOUR: 'it returns false'. Refute it at one input. -/
def tointWideWrong : ChangeSpec := { name := "tointWide", fn := fun _ => fun
  | [d1, d2, d3, d4, d5] => { results := [.lit (.bool false)], args := [d1, d2, d3, d4, d5] }
  | _ => none }
def TointWideWrongFalsely : Prop := tointWideRow.holds Tryd.pinned (OpenSpec.ofChange tointWideWrong)

/- THE SECOND FORM. 'bulk': how many values and letters a reading holds, each counted each time it is reached (what is shared counts as often as it is met; a slice's spare places count too). A statement '..UptoSaid' is the law's where the arguments, and the package variables that the reading takes, are together of bulk at most 1048576: NARROWER than '..Said'. Prove '..Said' where nothing that the law and all that it calls make is longer than what came in: it says more and counts as full. Else prove '..UptoSaid'. A law counts once. -/
mutual
def uptoBulk {H : Type} : DataW H → Nat
  | .lit (.string bytes) => bytes.length + 1
  | .lit _ => 1
  | .nil => 1
  | .ptr d => uptoBulk d + 1
  | .slice elems spare => uptoBulkAll elems + uptoBulkAll spare + 1
  | .agg parts => uptoBulkAll parts + 1
  | .iface _ d => uptoBulk d + 1
  | .map entries => uptoBulkEntries entries + 1
  | .held _ => 1
def uptoBulkAll {H : Type} : List (DataW H) → Nat
  | [] => 0
  | d :: r => uptoBulk d + uptoBulkAll r
def uptoBulkEntries {H : Type} : List (Lit × DataW H) → Nat
  | [] => 0
  | x :: r => uptoBulkEntry x + uptoBulkEntries r
def uptoBulkEntry {H : Type} : Lit × DataW H → Nat
  | (.string bytes, d) => bytes.length + uptoBulk d + 1
  | (_, d) => uptoBulk d + 1
 end
def uptoSmall : (H : Type) → List (DataW H) → Bool := fun _ ds => decide (uptoBulkAll ds ≤ 1048576)
def OpenSpec.upto (s : _root_.Go.ChangeSpec) : _root_.Go.OpenSpec := { _root_.Go.OpenSpec.ofChange s with cond := some uptoSmall }

/-- 'hairsbreadthlaw28.CompAll', WHERE WHAT IT READS IS OF BULK AT MOST 1048576: true; the input reads as it did. -/
def compAllUptoRow : OpenClaim := { program := "ythbpbbbngablpaadoor", sum := "cefbcac2741ca8453a0b1c5a01053caf3de8afa0c64967235fedb6ba34aff1f3", func := "hairsbreadth/hairsbreadthlaw28.CompAll", spec := "compAll", inPlace := ["math/bits.Add64"], unfollowed := true, recurses := true, named := ["hairsbreadth/format.table"], apart := false, laid := [("hairsbreadth/format.table", laid_hairsbreadth_format_table)], narrowed := true }
def CompAllUptoSaid : Prop := compAllUptoRow.holds Tryd.pinned (OpenSpec.upto compAllSpec)

/-- 'hairsbreadthlaw26.TointWide', WHERE WHAT IT READS IS OF BULK AT MOST 1048576: true; the input reads as it did. -/
def tointWideUptoRow : OpenClaim := { program := "ythbpbbbngablpaadoor", sum := "cefbcac2741ca8453a0b1c5a01053caf3de8afa0c64967235fedb6ba34aff1f3", func := "hairsbreadth/hairsbreadthlaw26.TointWide", spec := "tointWide", inPlace := ["math/bits.Add64"], unfollowed := true, recurses := true, named := ["hairsbreadth/format.table", "hairsbreadth/toint.ends"], apart := false, laid := [("hairsbreadth/format.table", laid_hairsbreadth_format_table), ("hairsbreadth/toint.ends", laid_hairsbreadth_toint_ends)], narrowed := true }
def TointWideUptoSaid : Prop := tointWideUptoRow.holds Tryd.pinned (OpenSpec.upto tointWideSpec)

end Rows
end Go.Proofs.YthbpbbbngablpaaDoor
