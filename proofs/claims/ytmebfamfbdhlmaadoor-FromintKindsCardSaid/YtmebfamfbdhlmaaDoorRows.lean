/-
  NARROWER THAN 'FOR EVERY INPUT', by the rows' own cells (each row's printed sentence says how): FromintKinds: laid · CompLeast: laid · CompKnown: laid · RintGreat: laid · RintKnown: laid · RintTurn: laid · TointWide: laid · TointRint: laid · FromintBack: laid.
  DERIVED. THE GIVEN ROWS OF THIS SEAT. 9 by the template 'for every input the law returns true; each argument reads behind the call as it read before'; 0 by the template 'total and deterministic' (their statements: YtmebfamfbdhlmaaDoorTotals.lean).
  GIVEN WITH THE SEED: the statements are not yours to turn. If you find one false, say at which input.
  Laid BY PROGRAM, IN A SANDBOX (cutbox-rows.mjs): the forced cells as the released guide's own fill.sh prints them over the translation 43d34665eb64f993… (all of the seat's roots in one cut). By AI agents, Wed Nov 11 2026. No macro, syntax, notation, axiom, sorry.
-/
import Derived.Test.YtmebfamfbdhlmaaDoorChecked
import GoSem.Claim
import GoSem.ClaimJoined
import GoSem.ClaimMapViews
import Derived.JoinedTies
import Derived.KernelRfl
namespace Go.Proofs.YtmebfamfbdhlmaaDoor
/- THE CELL 'sum', in the pinned program and in every row, IS THE sha256 OF THE DUMP (.gsa) THAT YtmebfamfbdhlmaaDoorProg.lean LOADS. Nothing in Lean hashes anything: it is a label: what it is worth is what the hold of that sum in a sandbox is worth. -/
noncomputable def Tryd.pinned : Pinned := { name := "ytmebfamfbdhlmaadoor", sum := "43d34665eb64f993d396b5567d49bda8756eddd1e285d1498ca60bf1cec4b808", checked := Tryd.checked }
namespace Rows
def none {H : Type} : Left H := { results := [], args := [] }

/- WHAT THE LISTED PACKAGE-LEVEL VARIABLES READ AS WHEN THE CALL BEGINS. Each datum BY PROGRAM (the guide's laid-datum.mjs) off the statement by which the dump's own 'gosem.cut.vars' lays the variable. In a bare row this is a premise. The card (YtmebfamfbdhlmaaDoorCards.lean) ties it to the program's text. -/
def laid_hairsbreadth_format_table {H : Type} : DataW H := .agg [.agg [.lit (.int .i64 16), .lit (.int .i64 11), .lit (.int .i64 15)], .agg [.lit (.int .i64 32), .lit (.int .i64 24), .lit (.int .i64 127)], .agg [.lit (.int .i64 64), .lit (.int .i64 53), .lit (.int .i64 1023)], .agg [.lit (.int .i64 128), .lit (.int .i64 113), .lit (.int .i64 16383)]]
def laid_hairsbreadth_toint_ends {H : Type} : DataW H := .agg [.agg [.lit (.int .u64 2147483648), .lit (.int .u64 2147483647)], .agg [.lit (.int .u64 0), .lit (.int .u64 4294967295)], .agg [.lit (.int .u64 9223372036854775808), .lit (.int .u64 9223372036854775807)], .agg [.lit (.int .u64 0), .lit (.int .u64 18446744073709551615)]]

/-- 'hairsbreadthlaw27.FromintKinds': WHATEVER THE INPUT: true; the input reads as it did. -/
def fromintKindsSpec : ChangeSpec := { name := "fromintKinds", fn := fun _ => fun
  | [d1, d2, d3, d4, d5, d6] => { results := [.lit (.bool true)], args := [d1, d2, d3, d4, d5, d6] }
  | _ => none }
def fromintKindsRow : OpenClaim := { program := "ytmebfamfbdhlmaadoor", sum := "43d34665eb64f993d396b5567d49bda8756eddd1e285d1498ca60bf1cec4b808", func := "hairsbreadth/hairsbreadthlaw27.FromintKinds", spec := "fromintKinds", inPlace := ["math/bits.Add64"], unfollowed := true, recurses := true, named := ["hairsbreadth/format.table"], apart := false, laid := [("hairsbreadth/format.table", laid_hairsbreadth_format_table)] }
def FromintKindsSaid : Prop := fromintKindsRow.holds Tryd.pinned (OpenSpec.ofChange fromintKindsSpec)

/-- ITS FALSE NEIGHBOUR: 'it returns false'. Refute it at one input. -/
def fromintKindsWrong : ChangeSpec := { name := "fromintKinds", fn := fun _ => fun
  | [d1, d2, d3, d4, d5, d6] => { results := [.lit (.bool false)], args := [d1, d2, d3, d4, d5, d6] }
  | _ => none }
def FromintKindsWrongFalsely : Prop := fromintKindsRow.holds Tryd.pinned (OpenSpec.ofChange fromintKindsWrong)

/-- 'hairsbreadthlaw28.CompLeast': WHATEVER THE INPUT: true; the input reads as it did. -/
def compLeastSpec : ChangeSpec := { name := "compLeast", fn := fun _ => fun
  | [d1, d2] => { results := [.lit (.bool true)], args := [d1, d2] }
  | _ => none }
def compLeastRow : OpenClaim := { program := "ytmebfamfbdhlmaadoor", sum := "43d34665eb64f993d396b5567d49bda8756eddd1e285d1498ca60bf1cec4b808", func := "hairsbreadth/hairsbreadthlaw28.CompLeast", spec := "compLeast", inPlace := ["math/bits.Add64"], unfollowed := true, recurses := true, named := ["hairsbreadth/format.table"], apart := false, laid := [("hairsbreadth/format.table", laid_hairsbreadth_format_table)] }
def CompLeastSaid : Prop := compLeastRow.holds Tryd.pinned (OpenSpec.ofChange compLeastSpec)

/-- ITS FALSE NEIGHBOUR: 'it returns false'. Refute it at one input. -/
def compLeastWrong : ChangeSpec := { name := "compLeast", fn := fun _ => fun
  | [d1, d2] => { results := [.lit (.bool false)], args := [d1, d2] }
  | _ => none }
def CompLeastWrongFalsely : Prop := compLeastRow.holds Tryd.pinned (OpenSpec.ofChange compLeastWrong)

/-- 'hairsbreadthlaw28.CompKnown': WHATEVER THE INPUT: true; the input reads as it did. -/
def compKnownSpec : ChangeSpec := { name := "compKnown", fn := fun _ => fun
  | [] => { results := [.lit (.bool true)], args := [] }
  | _ => none }
def compKnownRow : OpenClaim := { program := "ytmebfamfbdhlmaadoor", sum := "43d34665eb64f993d396b5567d49bda8756eddd1e285d1498ca60bf1cec4b808", func := "hairsbreadth/hairsbreadthlaw28.CompKnown", spec := "compKnown", inPlace := ["math/bits.Add64"], unfollowed := true, recurses := true, named := ["hairsbreadth/format.table"], apart := false, laid := [("hairsbreadth/format.table", laid_hairsbreadth_format_table)] }
def CompKnownSaid : Prop := compKnownRow.holds Tryd.pinned (OpenSpec.ofChange compKnownSpec)

/-- ITS FALSE NEIGHBOUR: 'it returns false'. Refute it at one input. -/
def compKnownWrong : ChangeSpec := { name := "compKnown", fn := fun _ => fun
  | [] => { results := [.lit (.bool false)], args := [] }
  | _ => none }
def CompKnownWrongFalsely : Prop := compKnownRow.holds Tryd.pinned (OpenSpec.ofChange compKnownWrong)

/-- 'hairsbreadthlaw24.RintGreat': WHATEVER THE INPUT: true; the input reads as it did. -/
def rintGreatSpec : ChangeSpec := { name := "rintGreat", fn := fun _ => fun
  | [d1, d2, d3, d4] => { results := [.lit (.bool true)], args := [d1, d2, d3, d4] }
  | _ => none }
def rintGreatRow : OpenClaim := { program := "ytmebfamfbdhlmaadoor", sum := "43d34665eb64f993d396b5567d49bda8756eddd1e285d1498ca60bf1cec4b808", func := "hairsbreadth/hairsbreadthlaw24.RintGreat", spec := "rintGreat", inPlace := ["math/bits.Add64"], unfollowed := true, recurses := true, named := ["hairsbreadth/format.table"], apart := false, laid := [("hairsbreadth/format.table", laid_hairsbreadth_format_table)] }
def RintGreatSaid : Prop := rintGreatRow.holds Tryd.pinned (OpenSpec.ofChange rintGreatSpec)

/-- ITS FALSE NEIGHBOUR: 'it returns false'. Refute it at one input. -/
def rintGreatWrong : ChangeSpec := { name := "rintGreat", fn := fun _ => fun
  | [d1, d2, d3, d4] => { results := [.lit (.bool false)], args := [d1, d2, d3, d4] }
  | _ => none }
def RintGreatWrongFalsely : Prop := rintGreatRow.holds Tryd.pinned (OpenSpec.ofChange rintGreatWrong)

/-- 'hairsbreadthlaw24.RintKnown': WHATEVER THE INPUT: true; the input reads as it did. -/
def rintKnownSpec : ChangeSpec := { name := "rintKnown", fn := fun _ => fun
  | [] => { results := [.lit (.bool true)], args := [] }
  | _ => none }
def rintKnownRow : OpenClaim := { program := "ytmebfamfbdhlmaadoor", sum := "43d34665eb64f993d396b5567d49bda8756eddd1e285d1498ca60bf1cec4b808", func := "hairsbreadth/hairsbreadthlaw24.RintKnown", spec := "rintKnown", inPlace := ["math/bits.Add64"], unfollowed := true, recurses := true, named := ["hairsbreadth/format.table"], apart := false, laid := [("hairsbreadth/format.table", laid_hairsbreadth_format_table)] }
def RintKnownSaid : Prop := rintKnownRow.holds Tryd.pinned (OpenSpec.ofChange rintKnownSpec)

/-- ITS FALSE NEIGHBOUR: 'it returns false'. Refute it at one input. -/
def rintKnownWrong : ChangeSpec := { name := "rintKnown", fn := fun _ => fun
  | [] => { results := [.lit (.bool false)], args := [] }
  | _ => none }
def RintKnownWrongFalsely : Prop := rintKnownRow.holds Tryd.pinned (OpenSpec.ofChange rintKnownWrong)

/-- 'hairsbreadthlaw24.RintTurn': WHATEVER THE INPUT: true; the input reads as it did. -/
def rintTurnSpec : ChangeSpec := { name := "rintTurn", fn := fun _ => fun
  | [d1, d2, d3, d4] => { results := [.lit (.bool true)], args := [d1, d2, d3, d4] }
  | _ => none }
def rintTurnRow : OpenClaim := { program := "ytmebfamfbdhlmaadoor", sum := "43d34665eb64f993d396b5567d49bda8756eddd1e285d1498ca60bf1cec4b808", func := "hairsbreadth/hairsbreadthlaw24.RintTurn", spec := "rintTurn", inPlace := ["math/bits.Add64"], unfollowed := true, recurses := true, named := ["hairsbreadth/format.table"], apart := false, laid := [("hairsbreadth/format.table", laid_hairsbreadth_format_table)] }
def RintTurnSaid : Prop := rintTurnRow.holds Tryd.pinned (OpenSpec.ofChange rintTurnSpec)

/-- ITS FALSE NEIGHBOUR: 'it returns false'. Refute it at one input. -/
def rintTurnWrong : ChangeSpec := { name := "rintTurn", fn := fun _ => fun
  | [d1, d2, d3, d4] => { results := [.lit (.bool false)], args := [d1, d2, d3, d4] }
  | _ => none }
def RintTurnWrongFalsely : Prop := rintTurnRow.holds Tryd.pinned (OpenSpec.ofChange rintTurnWrong)

/-- 'hairsbreadthlaw26.TointWide': WHATEVER THE INPUT: true; the input reads as it did. -/
def tointWideSpec : ChangeSpec := { name := "tointWide", fn := fun _ => fun
  | [d1, d2, d3, d4, d5] => { results := [.lit (.bool true)], args := [d1, d2, d3, d4, d5] }
  | _ => none }
def tointWideRow : OpenClaim := { program := "ytmebfamfbdhlmaadoor", sum := "43d34665eb64f993d396b5567d49bda8756eddd1e285d1498ca60bf1cec4b808", func := "hairsbreadth/hairsbreadthlaw26.TointWide", spec := "tointWide", inPlace := ["math/bits.Add64"], unfollowed := true, recurses := true, named := ["hairsbreadth/format.table", "hairsbreadth/toint.ends"], apart := false, laid := [("hairsbreadth/format.table", laid_hairsbreadth_format_table), ("hairsbreadth/toint.ends", laid_hairsbreadth_toint_ends)] }
def TointWideSaid : Prop := tointWideRow.holds Tryd.pinned (OpenSpec.ofChange tointWideSpec)

/-- ITS FALSE NEIGHBOUR: 'it returns false'. Refute it at one input. -/
def tointWideWrong : ChangeSpec := { name := "tointWide", fn := fun _ => fun
  | [d1, d2, d3, d4, d5] => { results := [.lit (.bool false)], args := [d1, d2, d3, d4, d5] }
  | _ => none }
def TointWideWrongFalsely : Prop := tointWideRow.holds Tryd.pinned (OpenSpec.ofChange tointWideWrong)

/-- 'hairsbreadthlaw26.TointRint': WHATEVER THE INPUT: true; the input reads as it did. -/
def tointRintSpec : ChangeSpec := { name := "tointRint", fn := fun _ => fun
  | [d1, d2, d3, d4] => { results := [.lit (.bool true)], args := [d1, d2, d3, d4] }
  | _ => none }
def tointRintRow : OpenClaim := { program := "ytmebfamfbdhlmaadoor", sum := "43d34665eb64f993d396b5567d49bda8756eddd1e285d1498ca60bf1cec4b808", func := "hairsbreadth/hairsbreadthlaw26.TointRint", spec := "tointRint", inPlace := ["math/bits.Add64"], unfollowed := true, recurses := true, named := ["hairsbreadth/format.table", "hairsbreadth/toint.ends"], apart := false, laid := [("hairsbreadth/format.table", laid_hairsbreadth_format_table), ("hairsbreadth/toint.ends", laid_hairsbreadth_toint_ends)] }
def TointRintSaid : Prop := tointRintRow.holds Tryd.pinned (OpenSpec.ofChange tointRintSpec)

/-- ITS FALSE NEIGHBOUR: 'it returns false'. Refute it at one input. -/
def tointRintWrong : ChangeSpec := { name := "tointRint", fn := fun _ => fun
  | [d1, d2, d3, d4] => { results := [.lit (.bool false)], args := [d1, d2, d3, d4] }
  | _ => none }
def TointRintWrongFalsely : Prop := tointRintRow.holds Tryd.pinned (OpenSpec.ofChange tointRintWrong)

/-- 'hairsbreadthlaw27.FromintBack': WHATEVER THE INPUT: true; the input reads as it did. -/
def fromintBackSpec : ChangeSpec := { name := "fromintBack", fn := fun _ => fun
  | [d1, d2, d3, d4, d5] => { results := [.lit (.bool true)], args := [d1, d2, d3, d4, d5] }
  | _ => none }
def fromintBackRow : OpenClaim := { program := "ytmebfamfbdhlmaadoor", sum := "43d34665eb64f993d396b5567d49bda8756eddd1e285d1498ca60bf1cec4b808", func := "hairsbreadth/hairsbreadthlaw27.FromintBack", spec := "fromintBack", inPlace := ["math/bits.Add64"], unfollowed := true, recurses := true, named := ["hairsbreadth/format.table", "hairsbreadth/toint.ends"], apart := false, laid := [("hairsbreadth/format.table", laid_hairsbreadth_format_table), ("hairsbreadth/toint.ends", laid_hairsbreadth_toint_ends)] }
def FromintBackSaid : Prop := fromintBackRow.holds Tryd.pinned (OpenSpec.ofChange fromintBackSpec)

/-- ITS FALSE NEIGHBOUR: 'it returns false'. Refute it at one input. -/
def fromintBackWrong : ChangeSpec := { name := "fromintBack", fn := fun _ => fun
  | [d1, d2, d3, d4, d5] => { results := [.lit (.bool false)], args := [d1, d2, d3, d4, d5] }
  | _ => none }
def FromintBackWrongFalsely : Prop := fromintBackRow.holds Tryd.pinned (OpenSpec.ofChange fromintBackWrong)

/- THE SECOND FORM. 'bulk': how many values and letters a reading holds, each counted each time it is reached (what is shared counts as often as it is met; a slice's spare places count too). A statement '..UptoSaid' is the law's where the arguments, and the package variables that the reading takes, are together of bulk at most 1048576: NARROWER than '..Said'. Prove '..Said' where nothing that the law and all that it calls make is longer than what came in: it says more and counts as full. Else prove '..UptoSaid'. A law counts once. -/
mutual
def uptoBulk {H : Type} : DataW H → Nat
  | .lit (.string bytes) => bytes.length + 1
  | .lit _ => 1
  | .nil => 1
  | .ptr d => uptoBulk d + 1
  | .slice elems spare => uptoBulkAll elems + uptoBulkAll spare + 1
  | .agg parts => uptoBulkAll parts + 1
  | .iface _ d => uptoBulk d + 1
  | .map entries => uptoBulkEntries entries + 1
  | .held _ => 1
def uptoBulkAll {H : Type} : List (DataW H) → Nat
  | [] => 0
  | d :: r => uptoBulk d + uptoBulkAll r
def uptoBulkEntries {H : Type} : List (Lit × DataW H) → Nat
  | [] => 0
  | x :: r => uptoBulkEntry x + uptoBulkEntries r
def uptoBulkEntry {H : Type} : Lit × DataW H → Nat
  | (.string bytes, d) => bytes.length + uptoBulk d + 1
  | (_, d) => uptoBulk d + 1
 end
def uptoSmall : (H : Type) → List (DataW H) → Bool := fun _ ds => decide (uptoBulkAll ds ≤ 1048576)
def OpenSpec.upto (s : _root_.Go.ChangeSpec) : _root_.Go.OpenSpec := { _root_.Go.OpenSpec.ofChange s with cond := some uptoSmall }

/-- 'hairsbreadthlaw27.FromintKinds', WHERE WHAT IT READS IS OF BULK AT MOST 1048576: true; the input reads as it did. -/
def fromintKindsUptoRow : OpenClaim := { program := "ytmebfamfbdhlmaadoor", sum := "43d34665eb64f993d396b5567d49bda8756eddd1e285d1498ca60bf1cec4b808", func := "hairsbreadth/hairsbreadthlaw27.FromintKinds", spec := "fromintKinds", inPlace := ["math/bits.Add64"], unfollowed := true, recurses := true, named := ["hairsbreadth/format.table"], apart := false, laid := [("hairsbreadth/format.table", laid_hairsbreadth_format_table)], narrowed := true }
def FromintKindsUptoSaid : Prop := fromintKindsUptoRow.holds Tryd.pinned (OpenSpec.upto fromintKindsSpec)

/-- 'hairsbreadthlaw28.CompLeast', WHERE WHAT IT READS IS OF BULK AT MOST 1048576: true; the input reads as it did. -/
def compLeastUptoRow : OpenClaim := { program := "ytmebfamfbdhlmaadoor", sum := "43d34665eb64f993d396b5567d49bda8756eddd1e285d1498ca60bf1cec4b808", func := "hairsbreadth/hairsbreadthlaw28.CompLeast", spec := "compLeast", inPlace := ["math/bits.Add64"], unfollowed := true, recurses := true, named := ["hairsbreadth/format.table"], apart := false, laid := [("hairsbreadth/format.table", laid_hairsbreadth_format_table)], narrowed := true }
def CompLeastUptoSaid : Prop := compLeastUptoRow.holds Tryd.pinned (OpenSpec.upto compLeastSpec)

/-- 'hairsbreadthlaw28.CompKnown', WHERE WHAT IT READS IS OF BULK AT MOST 1048576: true; the input reads as it did. -/
def compKnownUptoRow : OpenClaim := { program := "ytmebfamfbdhlmaadoor", sum := "43d34665eb64f993d396b5567d49bda8756eddd1e285d1498ca60bf1cec4b808", func := "hairsbreadth/hairsbreadthlaw28.CompKnown", spec := "compKnown", inPlace := ["math/bits.Add64"], unfollowed := true, recurses := true, named := ["hairsbreadth/format.table"], apart := false, laid := [("hairsbreadth/format.table", laid_hairsbreadth_format_table)], narrowed := true }
def CompKnownUptoSaid : Prop := compKnownUptoRow.holds Tryd.pinned (OpenSpec.upto compKnownSpec)

/-- 'hairsbreadthlaw24.RintGreat', WHERE WHAT IT READS IS OF BULK AT MOST 1048576: true; the input reads as it did. -/
def rintGreatUptoRow : OpenClaim := { program := "ytmebfamfbdhlmaadoor", sum := "43d34665eb64f993d396b5567d49bda8756eddd1e285d1498ca60bf1cec4b808", func := "hairsbreadth/hairsbreadthlaw24.RintGreat", spec := "rintGreat", inPlace := ["math/bits.Add64"], unfollowed := true, recurses := true, named := ["hairsbreadth/format.table"], apart := false, laid := [("hairsbreadth/format.table", laid_hairsbreadth_format_table)], narrowed := true }
def RintGreatUptoSaid : Prop := rintGreatUptoRow.holds Tryd.pinned (OpenSpec.upto rintGreatSpec)

/-- 'hairsbreadthlaw24.RintKnown', WHERE WHAT IT READS IS OF BULK AT MOST 1048576: true; the input reads as it did. -/
def rintKnownUptoRow : OpenClaim := { program := "ytmebfamfbdhlmaadoor", sum := "43d34665eb64f993d396b5567d49bda8756eddd1e285d1498ca60bf1cec4b808", func := "hairsbreadth/hairsbreadthlaw24.RintKnown", spec := "rintKnown", inPlace := ["math/bits.Add64"], unfollowed := true, recurses := true, named := ["hairsbreadth/format.table"], apart := false, laid := [("hairsbreadth/format.table", laid_hairsbreadth_format_table)], narrowed := true }
def RintKnownUptoSaid : Prop := rintKnownUptoRow.holds Tryd.pinned (OpenSpec.upto rintKnownSpec)

/-- 'hairsbreadthlaw24.RintTurn', WHERE WHAT IT READS IS OF BULK AT MOST 1048576: true; the input reads as it did. -/
def rintTurnUptoRow : OpenClaim := { program := "ytmebfamfbdhlmaadoor", sum := "43d34665eb64f993d396b5567d49bda8756eddd1e285d1498ca60bf1cec4b808", func := "hairsbreadth/hairsbreadthlaw24.RintTurn", spec := "rintTurn", inPlace := ["math/bits.Add64"], unfollowed := true, recurses := true, named := ["hairsbreadth/format.table"], apart := false, laid := [("hairsbreadth/format.table", laid_hairsbreadth_format_table)], narrowed := true }
def RintTurnUptoSaid : Prop := rintTurnUptoRow.holds Tryd.pinned (OpenSpec.upto rintTurnSpec)

/-- 'hairsbreadthlaw26.TointWide', WHERE WHAT IT READS IS OF BULK AT MOST 1048576: true; the input reads as it did. -/
def tointWideUptoRow : OpenClaim := { program := "ytmebfamfbdhlmaadoor", sum := "43d34665eb64f993d396b5567d49bda8756eddd1e285d1498ca60bf1cec4b808", func := "hairsbreadth/hairsbreadthlaw26.TointWide", spec := "tointWide", inPlace := ["math/bits.Add64"], unfollowed := true, recurses := true, named := ["hairsbreadth/format.table", "hairsbreadth/toint.ends"], apart := false, laid := [("hairsbreadth/format.table", laid_hairsbreadth_format_table), ("hairsbreadth/toint.ends", laid_hairsbreadth_toint_ends)], narrowed := true }
def TointWideUptoSaid : Prop := tointWideUptoRow.holds Tryd.pinned (OpenSpec.upto tointWideSpec)

/-- 'hairsbreadthlaw26.TointRint', WHERE WHAT IT READS IS OF BULK AT MOST 1048576: true; the input reads as it did. -/
def tointRintUptoRow : OpenClaim := { program := "ytmebfamfbdhlmaadoor", sum := "43d34665eb64f993d396b5567d49bda8756eddd1e285d1498ca60bf1cec4b808", func := "hairsbreadth/hairsbreadthlaw26.TointRint", spec := "tointRint", inPlace := ["math/bits.Add64"], unfollowed := true, recurses := true, named := ["hairsbreadth/format.table", "hairsbreadth/toint.ends"], apart := false, laid := [("hairsbreadth/format.table", laid_hairsbreadth_format_table), ("hairsbreadth/toint.ends", laid_hairsbreadth_toint_ends)], narrowed := true }
def TointRintUptoSaid : Prop := tointRintUptoRow.holds Tryd.pinned (OpenSpec.upto tointRintSpec)

/-- 'hairsbreadthlaw27.FromintBack', WHERE WHAT IT READS IS OF BULK AT MOST 1048576: true; the input reads as it did. -/
def fromintBackUptoRow : OpenClaim := { program := "ytmebfamfbdhlmaadoor", sum := "43d34665eb64f993d396b5567d49bda8756eddd1e285d1498ca60bf1cec4b808", func := "hairsbreadth/hairsbreadthlaw27.FromintBack", spec := "fromintBack", inPlace := ["math/bits.Add64"], unfollowed := true, recurses := true, named := ["hairsbreadth/format.table", "hairsbreadth/toint.ends"], apart := false, laid := [("hairsbreadth/format.table", laid_hairsbreadth_format_table), ("hairsbreadth/toint.ends", laid_hairsbreadth_toint_ends)], narrowed := true }
def FromintBackUptoSaid : Prop := fromintBackUptoRow.holds Tryd.pinned (OpenSpec.upto fromintBackSpec)

end Rows
end Go.Proofs.YtmebfamfbdhlmaaDoor
