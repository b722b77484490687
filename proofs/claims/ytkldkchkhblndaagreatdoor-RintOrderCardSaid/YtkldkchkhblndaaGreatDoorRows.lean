/-
  NARROWER THAN 'FOR EVERY INPUT', by the rows' own cells (each row's printed sentence says how): AddsubNought: laid · AddsubKnown: laid · AddsubExact: laid · AddsubNear: laid · AddsubOrder: laid · AddsubTurn: laid · FromintAdd: laid · RintOrder: laid · RintNear: laid · CompOrder: laid.
  DERIVED. THE GIVEN ROWS OF THIS SEAT. 10 by the template 'for every input the law returns true; each argument reads behind the call as it read before'; 0 by the template 'total and deterministic' (their statements: YtkldkchkhblndaaGreatDoorTotals.lean).
  GIVEN WITH THE SEED: the statements are not yours to turn. If you find one false, say at which input.
  Laid BY PROGRAM, IN A SANDBOX (cutbox-rows.mjs): the forced cells as the released guide's own fill.sh prints them over the translation bb90a31817b3cdbe… (all of the seat's roots in one cut). By AI agents, Wed Nov 11 2026. No macro, syntax, notation, axiom, sorry.
-/
import Derived.Test.YtkldkchkhblndaaGreatDoorChecked
import GoSem.Claim
import GoSem.ClaimJoined
import GoSem.ClaimMapViews
import Derived.JoinedTies
import Derived.KernelRfl
namespace Go.Proofs.YtkldkchkhblndaaGreatDoor
/- THE CELL 'sum', in the pinned program and in every row, IS THE sha256 OF THE DUMP (.gsa) THAT YtkldkchkhblndaaGreatDoorProg.lean LOADS. Nothing in Lean hashes anything: it is a label: what it is worth is what the hold of that sum in a sandbox is worth. -/
noncomputable def Tryz.pinned : Pinned := { name := "ytkldkchkhblndaagreatdoor", sum := "bb90a31817b3cdbea3bc83f2940d616a66a3fba79cc71bfefc3043a9b6d00545", checked := Tryz.checked }
namespace Rows
def none {H : Type} : Left H := { results := [], args := [] }

/- WHAT THE LISTED PACKAGE-LEVEL VARIABLES READ AS WHEN THE CALL BEGINS. Each datum BY PROGRAM (the guide's laid-datum.mjs) off the statement by which the dump's own 'gosem.cut.vars' lays the variable. In a bare row this is a premise. The card (YtkldkchkhblndaaGreatDoorCards.lean) ties it to the program's text. -/
def laid_hairsbreadth_format_table {H : Type} : DataW H := .agg [.agg [.lit (.int .i64 16), .lit (.int .i64 11), .lit (.int .i64 15)], .agg [.lit (.int .i64 32), .lit (.int .i64 24), .lit (.int .i64 127)], .agg [.lit (.int .i64 64), .lit (.int .i64 53), .lit (.int .i64 1023)], .agg [.lit (.int .i64 128), .lit (.int .i64 113), .lit (.int .i64 16383)]]

/-- 'hairsbreadthlaw18.AddsubNought': WHATEVER THE INPUT: true; the input reads as it did. -/
def addsubNoughtSpec : ChangeSpec := { name := "addsubNought", fn := fun _ => fun
  | [d1, d2, d3, d4] => { results := [.lit (.bool true)], args := [d1, d2, d3, d4] }
  | _ => none }
def addsubNoughtRow : OpenClaim := { program := "ytkldkchkhblndaagreatdoor", sum := "bb90a31817b3cdbea3bc83f2940d616a66a3fba79cc71bfefc3043a9b6d00545", func := "hairsbreadth/hairsbreadthlaw18.AddsubNought", spec := "addsubNought", inPlace := ["math/bits.Add64", "math/bits.Sub64"], unfollowed := true, recurses := true, named := ["hairsbreadth/format.table"], apart := false, laid := [("hairsbreadth/format.table", laid_hairsbreadth_format_table)] }
def AddsubNoughtSaid : Prop := addsubNoughtRow.holds Tryz.pinned (OpenSpec.ofChange addsubNoughtSpec)

/-- ITS FALSE NEIGHBOUR: 'it returns false'. Refute it at one input. -/
def addsubNoughtWrong : ChangeSpec := { name := "addsubNought", fn := fun _ => fun
  | [d1, d2, d3, d4] => { results := [.lit (.bool false)], args := [d1, d2, d3, d4] }
  | _ => none }
def AddsubNoughtWrongFalsely : Prop := addsubNoughtRow.holds Tryz.pinned (OpenSpec.ofChange addsubNoughtWrong)

/-- 'hairsbreadthlaw18.AddsubKnown': WHATEVER THE INPUT: true; the input reads as it did. -/
def addsubKnownSpec : ChangeSpec := { name := "addsubKnown", fn := fun _ => fun
  | [] => { results := [.lit (.bool true)], args := [] }
  | _ => none }
def addsubKnownRow : OpenClaim := { program := "ytkldkchkhblndaagreatdoor", sum := "bb90a31817b3cdbea3bc83f2940d616a66a3fba79cc71bfefc3043a9b6d00545", func := "hairsbreadth/hairsbreadthlaw18.AddsubKnown", spec := "addsubKnown", inPlace := ["math/bits.Add64", "math/bits.Sub64"], unfollowed := true, recurses := true, named := ["hairsbreadth/format.table"], apart := false, laid := [("hairsbreadth/format.table", laid_hairsbreadth_format_table)] }
def AddsubKnownSaid : Prop := addsubKnownRow.holds Tryz.pinned (OpenSpec.ofChange addsubKnownSpec)

/-- ITS FALSE NEIGHBOUR: 'it returns false'. Refute it at one input. -/
def addsubKnownWrong : ChangeSpec := { name := "addsubKnown", fn := fun _ => fun
  | [] => { results := [.lit (.bool false)], args := [] }
  | _ => none }
def AddsubKnownWrongFalsely : Prop := addsubKnownRow.holds Tryz.pinned (OpenSpec.ofChange addsubKnownWrong)

/-- 'hairsbreadthlaw18.AddsubExact': WHATEVER THE INPUT: true; the input reads as it did. -/
def addsubExactSpec : ChangeSpec := { name := "addsubExact", fn := fun _ => fun
  | [d1, d2, d3, d4] => { results := [.lit (.bool true)], args := [d1, d2, d3, d4] }
  | _ => none }
def addsubExactRow : OpenClaim := { program := "ytkldkchkhblndaagreatdoor", sum := "bb90a31817b3cdbea3bc83f2940d616a66a3fba79cc71bfefc3043a9b6d00545", func := "hairsbreadth/hairsbreadthlaw18.AddsubExact", spec := "addsubExact", inPlace := ["math/bits.Add64", "math/bits.Sub64"], unfollowed := true, recurses := true, named := ["hairsbreadth/format.table"], apart := false, laid := [("hairsbreadth/format.table", laid_hairsbreadth_format_table)] }
def AddsubExactSaid : Prop := addsubExactRow.holds Tryz.pinned (OpenSpec.ofChange addsubExactSpec)

/-- ITS FALSE NEIGHBOUR: 'it returns false'. Refute it at one input. -/
def addsubExactWrong : ChangeSpec := { name := "addsubExact", fn := fun _ => fun
  | [d1, d2, d3, d4] => { results := [.lit (.bool false)], args := [d1, d2, d3, d4] }
  | _ => none }
def AddsubExactWrongFalsely : Prop := addsubExactRow.holds Tryz.pinned (OpenSpec.ofChange addsubExactWrong)

/-- 'hairsbreadthlaw18.AddsubNear': WHATEVER THE INPUT: true; the input reads as it did. -/
def addsubNearSpec : ChangeSpec := { name := "addsubNear", fn := fun _ => fun
  | [d1, d2, d3, d4] => { results := [.lit (.bool true)], args := [d1, d2, d3, d4] }
  | _ => none }
def addsubNearRow : OpenClaim := { program := "ytkldkchkhblndaagreatdoor", sum := "bb90a31817b3cdbea3bc83f2940d616a66a3fba79cc71bfefc3043a9b6d00545", func := "hairsbreadth/hairsbreadthlaw18.AddsubNear", spec := "addsubNear", inPlace := ["math/bits.Add64", "math/bits.Sub64"], unfollowed := true, recurses := true, named := ["hairsbreadth/format.table"], apart := false, laid := [("hairsbreadth/format.table", laid_hairsbreadth_format_table)] }
def AddsubNearSaid : Prop := addsubNearRow.holds Tryz.pinned (OpenSpec.ofChange addsubNearSpec)

/-- ITS FALSE NEIGHBOUR: 'it returns false'. Refute it at one input. -/
def addsubNearWrong : ChangeSpec := { name := "addsubNear", fn := fun _ => fun
  | [d1, d2, d3, d4] => { results := [.lit (.bool false)], args := [d1, d2, d3, d4] }
  | _ => none }
def AddsubNearWrongFalsely : Prop := addsubNearRow.holds Tryz.pinned (OpenSpec.ofChange addsubNearWrong)

/-- 'hairsbreadthlaw18.AddsubOrder': WHATEVER THE INPUT: true; the input reads as it did. -/
def addsubOrderSpec : ChangeSpec := { name := "addsubOrder", fn := fun _ => fun
  | [d1, d2, d3, d4, d5] => { results := [.lit (.bool true)], args := [d1, d2, d3, d4, d5] }
  | _ => none }
def addsubOrderRow : OpenClaim := { program := "ytkldkchkhblndaagreatdoor", sum := "bb90a31817b3cdbea3bc83f2940d616a66a3fba79cc71bfefc3043a9b6d00545", func := "hairsbreadth/hairsbreadthlaw18.AddsubOrder", spec := "addsubOrder", inPlace := ["math/bits.Add64", "math/bits.Sub64"], unfollowed := true, recurses := true, named := ["hairsbreadth/format.table"], apart := false, laid := [("hairsbreadth/format.table", laid_hairsbreadth_format_table)] }
def AddsubOrderSaid : Prop := addsubOrderRow.holds Tryz.pinned (OpenSpec.ofChange addsubOrderSpec)

/-- ITS FALSE NEIGHBOUR: 'it returns false'. Refute it at one input. -/
def addsubOrderWrong : ChangeSpec := { name := "addsubOrder", fn := fun _ => fun
  | [d1, d2, d3, d4, d5] => { results := [.lit (.bool false)], args := [d1, d2, d3, d4, d5] }
  | _ => none }
def AddsubOrderWrongFalsely : Prop := addsubOrderRow.holds Tryz.pinned (OpenSpec.ofChange addsubOrderWrong)

/-- 'hairsbreadthlaw18.AddsubTurn': WHATEVER THE INPUT: true; the input reads as it did. -/
def addsubTurnSpec : ChangeSpec := { name := "addsubTurn", fn := fun _ => fun
  | [d1, d2, d3, d4] => { results := [.lit (.bool true)], args := [d1, d2, d3, d4] }
  | _ => none }
def addsubTurnRow : OpenClaim := { program := "ytkldkchkhblndaagreatdoor", sum := "bb90a31817b3cdbea3bc83f2940d616a66a3fba79cc71bfefc3043a9b6d00545", func := "hairsbreadth/hairsbreadthlaw18.AddsubTurn", spec := "addsubTurn", inPlace := ["math/bits.Add64", "math/bits.Sub64"], unfollowed := true, recurses := true, named := ["hairsbreadth/format.table"], apart := false, laid := [("hairsbreadth/format.table", laid_hairsbreadth_format_table)] }
def AddsubTurnSaid : Prop := addsubTurnRow.holds Tryz.pinned (OpenSpec.ofChange addsubTurnSpec)

/-- ITS FALSE NEIGHBOUR: 'it returns false'. Refute it at one input. -/
def addsubTurnWrong : ChangeSpec := { name := "addsubTurn", fn := fun _ => fun
  | [d1, d2, d3, d4] => { results := [.lit (.bool false)], args := [d1, d2, d3, d4] }
  | _ => none }
def AddsubTurnWrongFalsely : Prop := addsubTurnRow.holds Tryz.pinned (OpenSpec.ofChange addsubTurnWrong)

/-- 'hairsbreadthlaw27.FromintAdd': WHATEVER THE INPUT: true; the input reads as it did. -/
def fromintAddSpec : ChangeSpec := { name := "fromintAdd", fn := fun _ => fun
  | [d1, d2, d3, d4] => { results := [.lit (.bool true)], args := [d1, d2, d3, d4] }
  | _ => none }
def fromintAddRow : OpenClaim := { program := "ytkldkchkhblndaagreatdoor", sum := "bb90a31817b3cdbea3bc83f2940d616a66a3fba79cc71bfefc3043a9b6d00545", func := "hairsbreadth/hairsbreadthlaw27.FromintAdd", spec := "fromintAdd", inPlace := ["math/bits.Add64", "math/bits.Sub64"], unfollowed := true, recurses := true, named := ["hairsbreadth/format.table"], apart := false, laid := [("hairsbreadth/format.table", laid_hairsbreadth_format_table)] }
def FromintAddSaid : Prop := fromintAddRow.holds Tryz.pinned (OpenSpec.ofChange fromintAddSpec)

/-- ITS FALSE NEIGHBOUR: 'it returns false'. Refute it at one input. -/
def fromintAddWrong : ChangeSpec := { name := "fromintAdd", fn := fun _ => fun
  | [d1, d2, d3, d4] => { results := [.lit (.bool false)], args := [d1, d2, d3, d4] }
  | _ => none }
def FromintAddWrongFalsely : Prop := fromintAddRow.holds Tryz.pinned (OpenSpec.ofChange fromintAddWrong)

/-- 'hairsbreadthlaw24.RintOrder': WHATEVER THE INPUT: true; the input reads as it did. -/
def rintOrderSpec : ChangeSpec := { name := "rintOrder", fn := fun _ => fun
  | [d1, d2, d3, d4] => { results := [.lit (.bool true)], args := [d1, d2, d3, d4] }
  | _ => none }
def rintOrderRow : OpenClaim := { program := "ytkldkchkhblndaagreatdoor", sum := "bb90a31817b3cdbea3bc83f2940d616a66a3fba79cc71bfefc3043a9b6d00545", func := "hairsbreadth/hairsbreadthlaw24.RintOrder", spec := "rintOrder", inPlace := ["math/bits.Add64", "math/bits.Sub64"], unfollowed := true, recurses := true, named := ["hairsbreadth/format.table"], apart := false, laid := [("hairsbreadth/format.table", laid_hairsbreadth_format_table)] }
def RintOrderSaid : Prop := rintOrderRow.holds Tryz.pinned (OpenSpec.ofChange rintOrderSpec)

/-- ITS FALSE NEIGHBOUR: 'it returns false'. Refute it at one input. -/
def rintOrderWrong : ChangeSpec := { name := "rintOrder", fn := fun _ => fun
  | [d1, d2, d3, d4] => { results := [.lit (.bool false)], args := [d1, d2, d3, d4] }
  | _ => none }
def RintOrderWrongFalsely : Prop := rintOrderRow.holds Tryz.pinned (OpenSpec.ofChange rintOrderWrong)

/-- 'hairsbreadthlaw24.RintNear': WHATEVER THE INPUT: true; the input reads as it did. -/
def rintNearSpec : ChangeSpec := { name := "rintNear", fn := fun _ => fun
  | [d1, d2, d3] => { results := [.lit (.bool true)], args := [d1, d2, d3] }
  | _ => none }
def rintNearRow : OpenClaim := { program := "ytkldkchkhblndaagreatdoor", sum := "bb90a31817b3cdbea3bc83f2940d616a66a3fba79cc71bfefc3043a9b6d00545", func := "hairsbreadth/hairsbreadthlaw24.RintNear", spec := "rintNear", inPlace := ["math/bits.Add64", "math/bits.Sub64"], unfollowed := true, recurses := true, named := ["hairsbreadth/format.table"], apart := false, laid := [("hairsbreadth/format.table", laid_hairsbreadth_format_table)] }
def RintNearSaid : Prop := rintNearRow.holds Tryz.pinned (OpenSpec.ofChange rintNearSpec)

/-- ITS FALSE NEIGHBOUR: 'it returns false'. Refute it at one input. -/
def rintNearWrong : ChangeSpec := { name := "rintNear", fn := fun _ => fun
  | [d1, d2, d3] => { results := [.lit (.bool false)], args := [d1, d2, d3] }
  | _ => none }
def RintNearWrongFalsely : Prop := rintNearRow.holds Tryz.pinned (OpenSpec.ofChange rintNearWrong)

/-- 'hairsbreadthlaw28.CompOrder': WHATEVER THE INPUT: true; the input reads as it did. -/
def compOrderSpec : ChangeSpec := { name := "compOrder", fn := fun _ => fun
  | [d1, d2, d3, d4] => { results := [.lit (.bool true)], args := [d1, d2, d3, d4] }
  | _ => none }
def compOrderRow : OpenClaim := { program := "ytkldkchkhblndaagreatdoor", sum := "bb90a31817b3cdbea3bc83f2940d616a66a3fba79cc71bfefc3043a9b6d00545", func := "hairsbreadth/hairsbreadthlaw28.CompOrder", spec := "compOrder", inPlace := ["math/bits.Add64", "math/bits.Sub64"], unfollowed := true, recurses := true, named := ["hairsbreadth/format.table"], apart := false, laid := [("hairsbreadth/format.table", laid_hairsbreadth_format_table)] }
def CompOrderSaid : Prop := compOrderRow.holds Tryz.pinned (OpenSpec.ofChange compOrderSpec)

/-- ITS FALSE NEIGHBOUR: 'it returns false'. Refute it at one input. -/
def compOrderWrong : ChangeSpec := { name := "compOrder", fn := fun _ => fun
  | [d1, d2, d3, d4] => { results := [.lit (.bool false)], args := [d1, d2, d3, d4] }
  | _ => none }
def CompOrderWrongFalsely : Prop := compOrderRow.holds Tryz.pinned (OpenSpec.ofChange compOrderWrong)

/- THE SECOND FORM. 'bulk': how many values and letters a reading holds, each counted each time it is reached (what is shared counts as often as it is met; a slice's spare places count too). A statement '..UptoSaid' is the law's where the arguments, and the package variables that the reading takes, are together of bulk at most 1048576: NARROWER than '..Said'. Prove '..Said' where nothing that the law and all that it calls make is longer than what came in: it says more and counts as full. Else prove '..UptoSaid'. A law counts once. -/
mutual
def uptoBulk {H : Type} : DataW H → Nat
  | .lit (.string bytes) => bytes.length + 1
  | .lit _ => 1
  | .nil => 1
  | .ptr d => uptoBulk d + 1
  | .slice elems spare => uptoBulkAll elems + uptoBulkAll spare + 1
  | .agg parts => uptoBulkAll parts + 1
  | .iface _ d => uptoBulk d + 1
  | .map entries => uptoBulkEntries entries + 1
  | .held _ => 1
def uptoBulkAll {H : Type} : List (DataW H) → Nat
  | [] => 0
  | d :: r => uptoBulk d + uptoBulkAll r
def uptoBulkEntries {H : Type} : List (Lit × DataW H) → Nat
  | [] => 0
  | x :: r => uptoBulkEntry x + uptoBulkEntries r
def uptoBulkEntry {H : Type} : Lit × DataW H → Nat
  | (.string bytes, d) => bytes.length + uptoBulk d + 1
  | (_, d) => uptoBulk d + 1
 end
def uptoSmall : (H : Type) → List (DataW H) → Bool := fun _ ds => decide (uptoBulkAll ds ≤ 1048576)
def OpenSpec.upto (s : _root_.Go.ChangeSpec) : _root_.Go.OpenSpec := { _root_.Go.OpenSpec.ofChange s with cond := some uptoSmall }

/-- 'hairsbreadthlaw18.AddsubNought', WHERE WHAT IT READS IS OF BULK AT MOST 1048576: true; the input reads as it did. -/
def addsubNoughtUptoRow : OpenClaim := { program := "ytkldkchkhblndaagreatdoor", sum := "bb90a31817b3cdbea3bc83f2940d616a66a3fba79cc71bfefc3043a9b6d00545", func := "hairsbreadth/hairsbreadthlaw18.AddsubNought", spec := "addsubNought", inPlace := ["math/bits.Add64", "math/bits.Sub64"], unfollowed := true, recurses := true, named := ["hairsbreadth/format.table"], apart := false, laid := [("hairsbreadth/format.table", laid_hairsbreadth_format_table)], narrowed := true }
def AddsubNoughtUptoSaid : Prop := addsubNoughtUptoRow.holds Tryz.pinned (OpenSpec.upto addsubNoughtSpec)

/-- 'hairsbreadthlaw18.AddsubKnown', WHERE WHAT IT READS IS OF BULK AT MOST 1048576: true; the input reads as it did. -/
def addsubKnownUptoRow : OpenClaim := { program := "ytkldkchkhblndaagreatdoor", sum := "bb90a31817b3cdbea3bc83f2940d616a66a3fba79cc71bfefc3043a9b6d00545", func := "hairsbreadth/hairsbreadthlaw18.AddsubKnown", spec := "addsubKnown", inPlace := ["math/bits.Add64", "math/bits.Sub64"], unfollowed := true, recurses := true, named := ["hairsbreadth/format.table"], apart := false, laid := [("hairsbreadth/format.table", laid_hairsbreadth_format_table)], narrowed := true }
def AddsubKnownUptoSaid : Prop := addsubKnownUptoRow.holds Tryz.pinned (OpenSpec.upto addsubKnownSpec)

/-- 'hairsbreadthlaw18.AddsubExact', WHERE WHAT IT READS IS OF BULK AT MOST 1048576: true; the input reads as it did. -/
def addsubExactUptoRow : OpenClaim := { program := "ytkldkchkhblndaagreatdoor", sum := "bb90a31817b3cdbea3bc83f2940d616a66a3fba79cc71bfefc3043a9b6d00545", func := "hairsbreadth/hairsbreadthlaw18.AddsubExact", spec := "addsubExact", inPlace := ["math/bits.Add64", "math/bits.Sub64"], unfollowed := true, recurses := true, named := ["hairsbreadth/format.table"], apart := false, laid := [("hairsbreadth/format.table", laid_hairsbreadth_format_table)], narrowed := true }
def AddsubExactUptoSaid : Prop := addsubExactUptoRow.holds Tryz.pinned (OpenSpec.upto addsubExactSpec)

/-- 'hairsbreadthlaw18.AddsubNear', WHERE WHAT IT READS IS OF BULK AT MOST 1048576: true; the input reads as it did. -/
def addsubNearUptoRow : OpenClaim := { program := "ytkldkchkhblndaagreatdoor", sum := "bb90a31817b3cdbea3bc83f2940d616a66a3fba79cc71bfefc3043a9b6d00545", func := "hairsbreadth/hairsbreadthlaw18.AddsubNear", spec := "addsubNear", inPlace := ["math/bits.Add64", "math/bits.Sub64"], unfollowed := true, recurses := true, named := ["hairsbreadth/format.table"], apart := false, laid := [("hairsbreadth/format.table", laid_hairsbreadth_format_table)], narrowed := true }
def AddsubNearUptoSaid : Prop := addsubNearUptoRow.holds Tryz.pinned (OpenSpec.upto addsubNearSpec)

/-- 'hairsbreadthlaw18.AddsubOrder', WHERE WHAT IT READS IS OF BULK AT MOST 1048576: true; the input reads as it did. -/
def addsubOrderUptoRow : OpenClaim := { program := "ytkldkchkhblndaagreatdoor", sum := "bb90a31817b3cdbea3bc83f2940d616a66a3fba79cc71bfefc3043a9b6d00545", func := "hairsbreadth/hairsbreadthlaw18.AddsubOrder", spec := "addsubOrder", inPlace := ["math/bits.Add64", "math/bits.Sub64"], unfollowed := true, recurses := true, named := ["hairsbreadth/format.table"], apart := false, laid := [("hairsbreadth/format.table", laid_hairsbreadth_format_table)], narrowed := true }
def AddsubOrderUptoSaid : Prop := addsubOrderUptoRow.holds Tryz.pinned (OpenSpec.upto addsubOrderSpec)

/-- 'hairsbreadthlaw18.AddsubTurn', WHERE WHAT IT READS IS OF BULK AT MOST 1048576: true; the input reads as it did. -/
def addsubTurnUptoRow : OpenClaim := { program := "ytkldkchkhblndaagreatdoor", sum := "bb90a31817b3cdbea3bc83f2940d616a66a3fba79cc71bfefc3043a9b6d00545", func := "hairsbreadth/hairsbreadthlaw18.AddsubTurn", spec := "addsubTurn", inPlace := ["math/bits.Add64", "math/bits.Sub64"], unfollowed := true, recurses := true, named := ["hairsbreadth/format.table"], apart := false, laid := [("hairsbreadth/format.table", laid_hairsbreadth_format_table)], narrowed := true }
def AddsubTurnUptoSaid : Prop := addsubTurnUptoRow.holds Tryz.pinned (OpenSpec.upto addsubTurnSpec)

/-- 'hairsbreadthlaw27.FromintAdd', WHERE WHAT IT READS IS OF BULK AT MOST 1048576: true; the input reads as it did. -/
def fromintAddUptoRow : OpenClaim := { program := "ytkldkchkhblndaagreatdoor", sum := "bb90a31817b3cdbea3bc83f2940d616a66a3fba79cc71bfefc3043a9b6d00545", func := "hairsbreadth/hairsbreadthlaw27.FromintAdd", spec := "fromintAdd", inPlace := ["math/bits.Add64", "math/bits.Sub64"], unfollowed := true, recurses := true, named := ["hairsbreadth/format.table"], apart := false, laid := [("hairsbreadth/format.table", laid_hairsbreadth_format_table)], narrowed := true }
def FromintAddUptoSaid : Prop := fromintAddUptoRow.holds Tryz.pinned (OpenSpec.upto fromintAddSpec)

/-- 'hairsbreadthlaw24.RintOrder', WHERE WHAT IT READS IS OF BULK AT MOST 1048576: true; the input reads as it did. -/
def rintOrderUptoRow : OpenClaim := { program := "ytkldkchkhblndaagreatdoor", sum := "bb90a31817b3cdbea3bc83f2940d616a66a3fba79cc71bfefc3043a9b6d00545", func := "hairsbreadth/hairsbreadthlaw24.RintOrder", spec := "rintOrder", inPlace := ["math/bits.Add64", "math/bits.Sub64"], unfollowed := true, recurses := true, named := ["hairsbreadth/format.table"], apart := false, laid := [("hairsbreadth/format.table", laid_hairsbreadth_format_table)], narrowed := true }
def RintOrderUptoSaid : Prop := rintOrderUptoRow.holds Tryz.pinned (OpenSpec.upto rintOrderSpec)

/-- 'hairsbreadthlaw24.RintNear', WHERE WHAT IT READS IS OF BULK AT MOST 1048576: true; the input reads as it did. -/
def rintNearUptoRow : OpenClaim := { program := "ytkldkchkhblndaagreatdoor", sum := "bb90a31817b3cdbea3bc83f2940d616a66a3fba79cc71bfefc3043a9b6d00545", func := "hairsbreadth/hairsbreadthlaw24.RintNear", spec := "rintNear", inPlace := ["math/bits.Add64", "math/bits.Sub64"], unfollowed := true, recurses := true, named := ["hairsbreadth/format.table"], apart := false, laid := [("hairsbreadth/format.table", laid_hairsbreadth_format_table)], narrowed := true }
def RintNearUptoSaid : Prop := rintNearUptoRow.holds Tryz.pinned (OpenSpec.upto rintNearSpec)

/-- 'hairsbreadthlaw28.CompOrder', WHERE WHAT IT READS IS OF BULK AT MOST 1048576: true; the input reads as it did. -/
def compOrderUptoRow : OpenClaim := { program := "ytkldkchkhblndaagreatdoor", sum := "bb90a31817b3cdbea3bc83f2940d616a66a3fba79cc71bfefc3043a9b6d00545", func := "hairsbreadth/hairsbreadthlaw28.CompOrder", spec := "compOrder", inPlace := ["math/bits.Add64", "math/bits.Sub64"], unfollowed := true, recurses := true, named := ["hairsbreadth/format.table"], apart := false, laid := [("hairsbreadth/format.table", laid_hairsbreadth_format_table)], narrowed := true }
def CompOrderUptoSaid : Prop := compOrderUptoRow.holds Tryz.pinned (OpenSpec.upto compOrderSpec)

end Rows
end Go.Proofs.YtkldkchkhblndaaGreatDoor
