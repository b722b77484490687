/-
  NARROWER THAN 'FOR EVERY INPUT', by the rows' own cells (each row's printed sentence says how): RintGreat: laid · RintKnown: laid · RintTurn: laid · OverEnds: laid · OverNeighbours: laid · PackRounds: laid · PackExact: laid.
  DERIVED. THE GIVEN ROWS OF THIS SEAT. 7 by the template 'for every input the law returns true; each argument reads behind the call as it read before'; 0 by the template 'total and deterministic' (their statements: YtoldhhnmnackhaaDoorTotals.lean).
  GIVEN WITH THE SEED: the statements are not yours to turn. If you find one false, say at which input.
  Laid BY PROGRAM, IN A SANDBOX (cutbox-rows.mjs): the forced cells as the released guide's own fill.sh prints them over the translation 315d62d0db6d980d… (all of the seat's roots in one cut). By AI agents, Wed Nov 11 2026. No macro, syntax, notation, axiom, sorry.
-/
import Derived.Test.YtoldhhnmnackhaaDoorChecked
import GoSem.Claim
import GoSem.ClaimJoined
import GoSem.ClaimMapViews
import Derived.JoinedTies
import Derived.KernelRfl
namespace Go.Proofs.YtoldhhnmnackhaaDoor
/- THE CELL 'sum', in the pinned program and in every row, IS THE sha256 OF THE DUMP (.gsa) THAT YtoldhhnmnackhaaDoorProg.lean LOADS. Nothing in Lean hashes anything: it is a label: what it is worth is what the hold of that sum in a sandbox is worth. -/
noncomputable def Tryd.pinned : Pinned := { name := "ytoldhhnmnackhaadoor", sum := "315d62d0db6d980d021b728c4b9ea0be3c32f0d45e9c07f11cb5708a0a9baa34", checked := Tryd.checked }
namespace Rows
def none {H : Type} : Left H := { results := [], args := [] }

/- WHAT THE LISTED PACKAGE-LEVEL VARIABLES READ AS WHEN THE CALL BEGINS. Each datum BY PROGRAM (the guide's laid-datum.mjs) off the statement by which the dump's own 'gosem.cut.vars' lays the variable. In a bare row this is a premise. The card (YtoldhhnmnackhaaDoorCards.lean) ties it to the program's text. -/
def laid_hairsbreadth_format_table {H : Type} : DataW H := .agg [.agg [.lit (.int .i64 16), .lit (.int .i64 11), .lit (.int .i64 15)], .agg [.lit (.int .i64 32), .lit (.int .i64 24), .lit (.int .i64 127)], .agg [.lit (.int .i64 64), .lit (.int .i64 53), .lit (.int .i64 1023)], .agg [.lit (.int .i64 128), .lit (.int .i64 113), .lit (.int .i64 16383)]]

/-- 'hairsbreadthlaw24.RintGreat': WHATEVER THE INPUT: true; the input reads as it did. -/
def rintGreatSpec : ChangeSpec := { name := "rintGreat", fn := fun _ => fun
  | [d1, d2, d3, d4] => { results := [.lit (.bool true)], args := [d1, d2, d3, d4] }
  | _ => none }
def rintGreatRow : OpenClaim := { program := "ytoldhhnmnackhaadoor", sum := "315d62d0db6d980d021b728c4b9ea0be3c32f0d45e9c07f11cb5708a0a9baa34", func := "hairsbreadth/hairsbreadthlaw24.RintGreat", spec := "rintGreat", inPlace := ["math/bits.Add64"], unfollowed := true, recurses := true, named := ["hairsbreadth/format.table"], apart := false, laid := [("hairsbreadth/format.table", laid_hairsbreadth_format_table)] }
def RintGreatSaid : Prop := rintGreatRow.holds Tryd.pinned (OpenSpec.ofChange rintGreatSpec)

/-- ITS FALSE NEIGHBOUR: 'it returns false'. Refute it at one input. -/
def rintGreatWrong : ChangeSpec := { name := "rintGreat", fn := fun _ => fun
  | [d1, d2, d3, d4] => { results := [.lit (.bool false)], args := [d1, d2, d3, d4] }
  | _ => none }
def RintGreatWrongFalsely : Prop := rintGreatRow.holds Tryd.pinned (OpenSpec.ofChange rintGreatWrong)

/-- 'hairsbreadthlaw24.RintKnown': WHATEVER THE INPUT: true; the input reads as it did. -/
def rintKnownSpec : ChangeSpec := { name := "rintKnown", fn := fun _ => fun
  | [] => { results := [.lit (.bool true)], args := [] }
  | _ => none }
def rintKnownRow : OpenClaim := { program := "ytoldhhnmnackhaadoor", sum := "315d62d0db6d980d021b728c4b9ea0be3c32f0d45e9c07f11cb5708a0a9baa34", func := "hairsbreadth/hairsbreadthlaw24.RintKnown", spec := "rintKnown", inPlace := ["math/bits.Add64"], unfollowed := true, recurses := true, named := ["hairsbreadth/format.table"], apart := false, laid := [("hairsbreadth/format.table", laid_hairsbreadth_format_table)] }
def RintKnownSaid : Prop := rintKnownRow.holds Tryd.pinned (OpenSpec.ofChange rintKnownSpec)

/-- ITS FALSE NEIGHBOUR: 'it returns false'. Refute it at one input. -/
def rintKnownWrong : ChangeSpec := { name := "rintKnown", fn := fun _ => fun
  | [] => { results := [.lit (.bool false)], args := [] }
  | _ => none }
def RintKnownWrongFalsely : Prop := rintKnownRow.holds Tryd.pinned (OpenSpec.ofChange rintKnownWrong)

/-- 'hairsbreadthlaw24.RintTurn': WHATEVER THE INPUT: true; the input reads as it did. -/
def rintTurnSpec : ChangeSpec := { name := "rintTurn", fn := fun _ => fun
  | [d1, d2, d3, d4] => { results := [.lit (.bool true)], args := [d1, d2, d3, d4] }
  | _ => none }
def rintTurnRow : OpenClaim := { program := "ytoldhhnmnackhaadoor", sum := "315d62d0db6d980d021b728c4b9ea0be3c32f0d45e9c07f11cb5708a0a9baa34", func := "hairsbreadth/hairsbreadthlaw24.RintTurn", spec := "rintTurn", inPlace := ["math/bits.Add64"], unfollowed := true, recurses := true, named := ["hairsbreadth/format.table"], apart := false, laid := [("hairsbreadth/format.table", laid_hairsbreadth_format_table)] }
def RintTurnSaid : Prop := rintTurnRow.holds Tryd.pinned (OpenSpec.ofChange rintTurnSpec)

/-- ITS FALSE NEIGHBOUR: 'it returns false'. Refute it at one input. -/
def rintTurnWrong : ChangeSpec := { name := "rintTurn", fn := fun _ => fun
  | [d1, d2, d3, d4] => { results := [.lit (.bool false)], args := [d1, d2, d3, d4] }
  | _ => none }
def RintTurnWrongFalsely : Prop := rintTurnRow.holds Tryd.pinned (OpenSpec.ofChange rintTurnWrong)

/-- 'hairsbreadthlaw14.OverEnds': WHATEVER THE INPUT: true; the input reads as it did. -/
def overEndsSpec : ChangeSpec := { name := "overEnds", fn := fun _ => fun
  | [d1, d2, d3, d4] => { results := [.lit (.bool true)], args := [d1, d2, d3, d4] }
  | _ => none }
def overEndsRow : OpenClaim := { program := "ytoldhhnmnackhaadoor", sum := "315d62d0db6d980d021b728c4b9ea0be3c32f0d45e9c07f11cb5708a0a9baa34", func := "hairsbreadth/hairsbreadthlaw14.OverEnds", spec := "overEnds", inPlace := ["math/bits.Add64"], unfollowed := true, recurses := true, named := ["hairsbreadth/format.table"], apart := false, laid := [("hairsbreadth/format.table", laid_hairsbreadth_format_table)] }
def OverEndsSaid : Prop := overEndsRow.holds Tryd.pinned (OpenSpec.ofChange overEndsSpec)

/-- ITS FALSE NEIGHBOUR: 'it returns false'. Refute it at one input. -/
def overEndsWrong : ChangeSpec := { name := "overEnds", fn := fun _ => fun
  | [d1, d2, d3, d4] => { results := [.lit (.bool false)], args := [d1, d2, d3, d4] }
  | _ => none }
def OverEndsWrongFalsely : Prop := overEndsRow.holds Tryd.pinned (OpenSpec.ofChange overEndsWrong)

/-- 'hairsbreadthlaw14.OverNeighbours': WHATEVER THE INPUT: true; the input reads as it did. -/
def overNeighboursSpec : ChangeSpec := { name := "overNeighbours", fn := fun _ => fun
  | [d1, d2] => { results := [.lit (.bool true)], args := [d1, d2] }
  | _ => none }
def overNeighboursRow : OpenClaim := { program := "ytoldhhnmnackhaadoor", sum := "315d62d0db6d980d021b728c4b9ea0be3c32f0d45e9c07f11cb5708a0a9baa34", func := "hairsbreadth/hairsbreadthlaw14.OverNeighbours", spec := "overNeighbours", inPlace := ["math/bits.Add64", "math/bits.Sub64"], unfollowed := true, recurses := true, named := ["hairsbreadth/format.table"], apart := false, laid := [("hairsbreadth/format.table", laid_hairsbreadth_format_table)] }
def OverNeighboursSaid : Prop := overNeighboursRow.holds Tryd.pinned (OpenSpec.ofChange overNeighboursSpec)

/-- ITS FALSE NEIGHBOUR: 'it returns false'. Refute it at one input. -/
def overNeighboursWrong : ChangeSpec := { name := "overNeighbours", fn := fun _ => fun
  | [d1, d2] => { results := [.lit (.bool false)], args := [d1, d2] }
  | _ => none }
def OverNeighboursWrongFalsely : Prop := overNeighboursRow.holds Tryd.pinned (OpenSpec.ofChange overNeighboursWrong)

/-- 'hairsbreadthlaw16.PackRounds': WHATEVER THE INPUT: true; the input reads as it did. -/
def packRoundsSpec : ChangeSpec := { name := "packRounds", fn := fun _ => fun
  | [d1, d2, d3, d4, d5] => { results := [.lit (.bool true)], args := [d1, d2, d3, d4, d5] }
  | _ => none }
def packRoundsRow : OpenClaim := { program := "ytoldhhnmnackhaadoor", sum := "315d62d0db6d980d021b728c4b9ea0be3c32f0d45e9c07f11cb5708a0a9baa34", func := "hairsbreadth/hairsbreadthlaw16.PackRounds", spec := "packRounds", inPlace := ["math/bits.Add64"], unfollowed := true, recurses := true, named := ["hairsbreadth/format.table"], apart := false, laid := [("hairsbreadth/format.table", laid_hairsbreadth_format_table)] }
def PackRoundsSaid : Prop := packRoundsRow.holds Tryd.pinned (OpenSpec.ofChange packRoundsSpec)

/-- ITS FALSE NEIGHBOUR: 'it returns false'. Refute it at one input. -/
def packRoundsWrong : ChangeSpec := { name := "packRounds", fn := fun _ => fun
  | [d1, d2, d3, d4, d5] => { results := [.lit (.bool false)], args := [d1, d2, d3, d4, d5] }
  | _ => none }
def PackRoundsWrongFalsely : Prop := packRoundsRow.holds Tryd.pinned (OpenSpec.ofChange packRoundsWrong)

/-- 'hairsbreadthlaw16.PackExact': WHATEVER THE INPUT: true; the input reads as it did. -/
def packExactSpec : ChangeSpec := { name := "packExact", fn := fun _ => fun
  | [d1, d2, d3, d4] => { results := [.lit (.bool true)], args := [d1, d2, d3, d4] }
  | _ => none }
def packExactRow : OpenClaim := { program := "ytoldhhnmnackhaadoor", sum := "315d62d0db6d980d021b728c4b9ea0be3c32f0d45e9c07f11cb5708a0a9baa34", func := "hairsbreadth/hairsbreadthlaw16.PackExact", spec := "packExact", inPlace := ["math/bits.Add64"], unfollowed := true, recurses := true, named := ["hairsbreadth/format.table"], apart := false, laid := [("hairsbreadth/format.table", laid_hairsbreadth_format_table)] }
def PackExactSaid : Prop := packExactRow.holds Tryd.pinned (OpenSpec.ofChange packExactSpec)

/-- ITS FALSE NEIGHBOUR: 'it returns false'. Refute it at one input. -/
def packExactWrong : ChangeSpec := { name := "packExact", fn := fun _ => fun
  | [d1, d2, d3, d4] => { results := [.lit (.bool false)], args := [d1, d2, d3, d4] }
  | _ => none }
def PackExactWrongFalsely : Prop := packExactRow.holds Tryd.pinned (OpenSpec.ofChange packExactWrong)

/- THE SECOND FORM. 'bulk': how many values and letters a reading holds, each counted each time it is reached (what is shared counts as often as it is met; a slice's spare places count too). A statement '..UptoSaid' is the law's where the arguments, and the package variables that the reading takes, are together of bulk at most 1048576: NARROWER than '..Said'. Prove '..Said' where nothing that the law and all that it calls make is longer than what came in: it says more and counts as full. Else prove '..UptoSaid'. A law counts once. -/
mutual
def uptoBulk {H : Type} : DataW H → Nat
  | .lit (.string bytes) => bytes.length + 1
  | .lit _ => 1
  | .nil => 1
  | .ptr d => uptoBulk d + 1
  | .slice elems spare => uptoBulkAll elems + uptoBulkAll spare + 1
  | .agg parts => uptoBulkAll parts + 1
  | .iface _ d => uptoBulk d + 1
  | .map entries => uptoBulkEntries entries + 1
  | .held _ => 1
def uptoBulkAll {H : Type} : List (DataW H) → Nat
  | [] => 0
  | d :: r => uptoBulk d + uptoBulkAll r
def uptoBulkEntries {H : Type} : List (Lit × DataW H) → Nat
  | [] => 0
  | x :: r => uptoBulkEntry x + uptoBulkEntries r
def uptoBulkEntry {H : Type} : Lit × DataW H → Nat
  | (.string bytes, d) => bytes.length + uptoBulk d + 1
  | (_, d) => uptoBulk d + 1
 end
def uptoSmall : (H : Type) → List (DataW H) → Bool := fun _ ds => decide (uptoBulkAll ds ≤ 1048576)
def OpenSpec.upto (s : _root_.Go.ChangeSpec) : _root_.Go.OpenSpec := { _root_.Go.OpenSpec.ofChange s with cond := some uptoSmall }

/-- 'hairsbreadthlaw24.RintGreat', WHERE WHAT IT READS IS OF BULK AT MOST 1048576: true; the input reads as it did. -/
def rintGreatUptoRow : OpenClaim := { program := "ytoldhhnmnackhaadoor", sum := "315d62d0db6d980d021b728c4b9ea0be3c32f0d45e9c07f11cb5708a0a9baa34", func := "hairsbreadth/hairsbreadthlaw24.RintGreat", spec := "rintGreat", inPlace := ["math/bits.Add64"], unfollowed := true, recurses := true, named := ["hairsbreadth/format.table"], apart := false, laid := [("hairsbreadth/format.table", laid_hairsbreadth_format_table)], narrowed := true }
def RintGreatUptoSaid : Prop := rintGreatUptoRow.holds Tryd.pinned (OpenSpec.upto rintGreatSpec)

/-- 'hairsbreadthlaw24.RintKnown', WHERE WHAT IT READS IS OF BULK AT MOST 1048576: true; the input reads as it did. -/
def rintKnownUptoRow : OpenClaim := { program := "ytoldhhnmnackhaadoor", sum := "315d62d0db6d980d021b728c4b9ea0be3c32f0d45e9c07f11cb5708a0a9baa34", func := "hairsbreadth/hairsbreadthlaw24.RintKnown", spec := "rintKnown", inPlace := ["math/bits.Add64"], unfollowed := true, recurses := true, named := ["hairsbreadth/format.table"], apart := false, laid := [("hairsbreadth/format.table", laid_hairsbreadth_format_table)], narrowed := true }
def RintKnownUptoSaid : Prop := rintKnownUptoRow.holds Tryd.pinned (OpenSpec.upto rintKnownSpec)

/-- 'hairsbreadthlaw24.RintTurn', WHERE WHAT IT READS IS OF BULK AT MOST 1048576: true; the input reads as it did. -/
def rintTurnUptoRow : OpenClaim := { program := "ytoldhhnmnackhaadoor", sum := "315d62d0db6d980d021b728c4b9ea0be3c32f0d45e9c07f11cb5708a0a9baa34", func := "hairsbreadth/hairsbreadthlaw24.RintTurn", spec := "rintTurn", inPlace := ["math/bits.Add64"], unfollowed := true, recurses := true, named := ["hairsbreadth/format.table"], apart := false, laid := [("hairsbreadth/format.table", laid_hairsbreadth_format_table)], narrowed := true }
def RintTurnUptoSaid : Prop := rintTurnUptoRow.holds Tryd.pinned (OpenSpec.upto rintTurnSpec)

/-- 'hairsbreadthlaw14.OverEnds', WHERE WHAT IT READS IS OF BULK AT MOST 1048576: true; the input reads as it did. -/
def overEndsUptoRow : OpenClaim := { program := "ytoldhhnmnackhaadoor", sum := "315d62d0db6d980d021b728c4b9ea0be3c32f0d45e9c07f11cb5708a0a9baa34", func := "hairsbreadth/hairsbreadthlaw14.OverEnds", spec := "overEnds", inPlace := ["math/bits.Add64"], unfollowed := true, recurses := true, named := ["hairsbreadth/format.table"], apart := false, laid := [("hairsbreadth/format.table", laid_hairsbreadth_format_table)], narrowed := true }
def OverEndsUptoSaid : Prop := overEndsUptoRow.holds Tryd.pinned (OpenSpec.upto overEndsSpec)

/-- 'hairsbreadthlaw14.OverNeighbours', WHERE WHAT IT READS IS OF BULK AT MOST 1048576: true; the input reads as it did. -/
def overNeighboursUptoRow : OpenClaim := { program := "ytoldhhnmnackhaadoor", sum := "315d62d0db6d980d021b728c4b9ea0be3c32f0d45e9c07f11cb5708a0a9baa34", func := "hairsbreadth/hairsbreadthlaw14.OverNeighbours", spec := "overNeighbours", inPlace := ["math/bits.Add64", "math/bits.Sub64"], unfollowed := true, recurses := true, named := ["hairsbreadth/format.table"], apart := false, laid := [("hairsbreadth/format.table", laid_hairsbreadth_format_table)], narrowed := true }
def OverNeighboursUptoSaid : Prop := overNeighboursUptoRow.holds Tryd.pinned (OpenSpec.upto overNeighboursSpec)

/-- 'hairsbreadthlaw16.PackRounds', WHERE WHAT IT READS IS OF BULK AT MOST 1048576: true; the input reads as it did. -/
def packRoundsUptoRow : OpenClaim := { program := "ytoldhhnmnackhaadoor", sum := "315d62d0db6d980d021b728c4b9ea0be3c32f0d45e9c07f11cb5708a0a9baa34", func := "hairsbreadth/hairsbreadthlaw16.PackRounds", spec := "packRounds", inPlace := ["math/bits.Add64"], unfollowed := true, recurses := true, named := ["hairsbreadth/format.table"], apart := false, laid := [("hairsbreadth/format.table", laid_hairsbreadth_format_table)], narrowed := true }
def PackRoundsUptoSaid : Prop := packRoundsUptoRow.holds Tryd.pinned (OpenSpec.upto packRoundsSpec)

/-- 'hairsbreadthlaw16.PackExact', WHERE WHAT IT READS IS OF BULK AT MOST 1048576: true; the input reads as it did. -/
def packExactUptoRow : OpenClaim := { program := "ytoldhhnmnackhaadoor", sum := "315d62d0db6d980d021b728c4b9ea0be3c32f0d45e9c07f11cb5708a0a9baa34", func := "hairsbreadth/hairsbreadthlaw16.PackExact", spec := "packExact", inPlace := ["math/bits.Add64"], unfollowed := true, recurses := true, named := ["hairsbreadth/format.table"], apart := false, laid := [("hairsbreadth/format.table", laid_hairsbreadth_format_table)], narrowed := true }
def PackExactUptoSaid : Prop := packExactUptoRow.holds Tryd.pinned (OpenSpec.upto packExactSpec)

end Rows
end Go.Proofs.YtoldhhnmnackhaaDoor
