/-
  NARROWER THAN 'FOR EVERY INPUT', by the rows' own cells (each row's printed sentence says how): FromintAll: laid · FromintOrder: laid · FromintKinds: laid · FromintKnown: laid · FromintTurn: laid · FromintBack: laid.
  DERIVED. THE GIVEN ROWS OF THIS SEAT. 6 by the template 'for every input the law returns true; each argument reads behind the call as it read before'; 0 by the template 'total and deterministic' (their statements: YthlimkjebfdbgaaDoorTotals.lean).
  GIVEN WITH THE SEED: the statements are not yours to turn. If you find one false, say at which input.
  Laid BY PROGRAM, IN A SANDBOX (cutbox-rows.mjs): the forced cells as the released guide's own fill.sh prints them over the translation bf48ed1b0fc42211… (all of the seat's roots in one cut). By AI agents, Wed Nov 11 2026. No macro, syntax, notation, axiom, sorry.
-/
import Derived.Test.YthlimkjebfdbgaaDoorChecked
import GoSem.Claim
import GoSem.ClaimJoined
import GoSem.ClaimMapViews
import Derived.JoinedTies
import Derived.KernelRfl
namespace Go.Proofs.YthlimkjebfdbgaaDoor
/- THE CELL 'sum', in the pinned program and in every row, IS THE sha256 OF THE DUMP (.gsa) THAT YthlimkjebfdbgaaDoorProg.lean LOADS. Nothing in Lean hashes anything: it is a label: what it is worth is what the hold of that sum in a sandbox is worth. -/
noncomputable def Tryd.pinned : Pinned := { name := "ythlimkjebfdbgaadoor", sum := "bf48ed1b0fc42211677422a97d377e646a6cbbef769822749117f5aaf5399afa", checked := Tryd.checked }
namespace Rows
def none {H : Type} : Left H := { results := [], args := [] }

/- WHAT THE LISTED PACKAGE-LEVEL VARIABLES READ AS WHEN THE CALL BEGINS. Each datum BY PROGRAM (the guide's laid-datum.mjs) off the statement by which the dump's own 'gosem.cut.vars' lays the variable. In a bare row this is a premise. The card (YthlimkjebfdbgaaDoorCards.lean) ties it to the program's text. -/
def laid_hairsbreadth_format_table {H : Type} : DataW H := .agg [.agg [.lit (.int .i64 16), .lit (.int .i64 11), .lit (.int .i64 15)], .agg [.lit (.int .i64 32), .lit (.int .i64 24), .lit (.int .i64 127)], .agg [.lit (.int .i64 64), .lit (.int .i64 53), .lit (.int .i64 1023)], .agg [.lit (.int .i64 128), .lit (.int .i64 113), .lit (.int .i64 16383)]]
def laid_hairsbreadth_toint_ends {H : Type} : DataW H := .agg [.agg [.lit (.int .u64 2147483648), .lit (.int .u64 2147483647)], .agg [.lit (.int .u64 0), .lit (.int .u64 4294967295)], .agg [.lit (.int .u64 9223372036854775808), .lit (.int .u64 9223372036854775807)], .agg [.lit (.int .u64 0), .lit (.int .u64 18446744073709551615)]]

/-- 'hairsbreadthlaw27.FromintAll': WHATEVER THE INPUT: true; the input reads as it did. -/
def fromintAllSpec : ChangeSpec := { name := "fromintAll", fn := fun _ => fun
  | [d1, d2, d3, d4] => { results := [.lit (.bool true)], args := [d1, d2, d3, d4] }
  | _ => none }
def fromintAllRow : OpenClaim := { program := "ythlimkjebfdbgaadoor", sum := "bf48ed1b0fc42211677422a97d377e646a6cbbef769822749117f5aaf5399afa", func := "hairsbreadth/hairsbreadthlaw27.FromintAll", spec := "fromintAll", inPlace := ["math/bits.Add64"], unfollowed := true, recurses := true, named := ["hairsbreadth/format.table"], apart := false, laid := [("hairsbreadth/format.table", laid_hairsbreadth_format_table)] }
def FromintAllSaid : Prop := fromintAllRow.holds Tryd.pinned (OpenSpec.ofChange fromintAllSpec)

/-- ITS FALSE NEIGHBOUR: 'it returns false'. Refute it at one input. -/
def fromintAllWrong : ChangeSpec := { name := "fromintAll", fn := fun _ => fun
  | [d1, d2, d3, d4] => { results := [.lit (.bool false)], args := [d1, d2, d3, d4] }
  | _ => none }
def FromintAllWrongFalsely : Prop := fromintAllRow.holds Tryd.pinned (OpenSpec.ofChange fromintAllWrong)

/-- 'hairsbreadthlaw27.FromintOrder': WHATEVER THE INPUT: true; the input reads as it did. -/
def fromintOrderSpec : ChangeSpec := { name := "fromintOrder", fn := fun _ => fun
  | [d1, d2, d3, d4] => { results := [.lit (.bool true)], args := [d1, d2, d3, d4] }
  | _ => none }
def fromintOrderRow : OpenClaim := { program := "ythlimkjebfdbgaadoor", sum := "bf48ed1b0fc42211677422a97d377e646a6cbbef769822749117f5aaf5399afa", func := "hairsbreadth/hairsbreadthlaw27.FromintOrder", spec := "fromintOrder", inPlace := ["math/bits.Add64"], unfollowed := true, recurses := true, named := ["hairsbreadth/format.table"], apart := false, laid := [("hairsbreadth/format.table", laid_hairsbreadth_format_table)] }
def FromintOrderSaid : Prop := fromintOrderRow.holds Tryd.pinned (OpenSpec.ofChange fromintOrderSpec)

/-- ITS FALSE NEIGHBOUR: 'it returns false'. Refute it at one input. -/
def fromintOrderWrong : ChangeSpec := { name := "fromintOrder", fn := fun _ => fun
  | [d1, d2, d3, d4] => { results := [.lit (.bool false)], args := [d1, d2, d3, d4] }
  | _ => none }
def FromintOrderWrongFalsely : Prop := fromintOrderRow.holds Tryd.pinned (OpenSpec.ofChange fromintOrderWrong)

/-- 'hairsbreadthlaw27.FromintKinds': WHATEVER THE INPUT: true; the input reads as it did. -/
def fromintKindsSpec : ChangeSpec := { name := "fromintKinds", fn := fun _ => fun
  | [d1, d2, d3, d4, d5, d6] => { results := [.lit (.bool true)], args := [d1, d2, d3, d4, d5, d6] }
  | _ => none }
def fromintKindsRow : OpenClaim := { program := "ythlimkjebfdbgaadoor", sum := "bf48ed1b0fc42211677422a97d377e646a6cbbef769822749117f5aaf5399afa", func := "hairsbreadth/hairsbreadthlaw27.FromintKinds", spec := "fromintKinds", inPlace := ["math/bits.Add64"], unfollowed := true, recurses := true, named := ["hairsbreadth/format.table"], apart := false, laid := [("hairsbreadth/format.table", laid_hairsbreadth_format_table)] }
def FromintKindsSaid : Prop := fromintKindsRow.holds Tryd.pinned (OpenSpec.ofChange fromintKindsSpec)

/-- ITS FALSE NEIGHBOUR: 'it returns false'. Refute it at one input. -/
def fromintKindsWrong : ChangeSpec := { name := "fromintKinds", fn := fun _ => fun
  | [d1, d2, d3, d4, d5, d6] => { results := [.lit (.bool false)], args := [d1, d2, d3, d4, d5, d6] }
  | _ => none }
def FromintKindsWrongFalsely : Prop := fromintKindsRow.holds Tryd.pinned (OpenSpec.ofChange fromintKindsWrong)

/-- 'hairsbreadthlaw27.FromintKnown': WHATEVER THE INPUT: true; the input reads as it did. -/
def fromintKnownSpec : ChangeSpec := { name := "fromintKnown", fn := fun _ => fun
  | [] => { results := [.lit (.bool true)], args := [] }
  | _ => none }
def fromintKnownRow : OpenClaim := { program := "ythlimkjebfdbgaadoor", sum := "bf48ed1b0fc42211677422a97d377e646a6cbbef769822749117f5aaf5399afa", func := "hairsbreadth/hairsbreadthlaw27.FromintKnown", spec := "fromintKnown", inPlace := ["math/bits.Add64"], unfollowed := true, recurses := true, named := ["hairsbreadth/format.table"], apart := false, laid := [("hairsbreadth/format.table", laid_hairsbreadth_format_table)] }
def FromintKnownSaid : Prop := fromintKnownRow.holds Tryd.pinned (OpenSpec.ofChange fromintKnownSpec)

/-- ITS FALSE NEIGHBOUR: 'it returns false'. Refute it at one input. -/
def fromintKnownWrong : ChangeSpec := { name := "fromintKnown", fn := fun _ => fun
  | [] => { results := [.lit (.bool false)], args := [] }
  | _ => none }
def FromintKnownWrongFalsely : Prop := fromintKnownRow.holds Tryd.pinned (OpenSpec.ofChange fromintKnownWrong)

/-- 'hairsbreadthlaw27.FromintTurn': WHATEVER THE INPUT: true; the input reads as it did. -/
def fromintTurnSpec : ChangeSpec := { name := "fromintTurn", fn := fun _ => fun
  | [d1, d2, d3] => { results := [.lit (.bool true)], args := [d1, d2, d3] }
  | _ => none }
def fromintTurnRow : OpenClaim := { program := "ythlimkjebfdbgaadoor", sum := "bf48ed1b0fc42211677422a97d377e646a6cbbef769822749117f5aaf5399afa", func := "hairsbreadth/hairsbreadthlaw27.FromintTurn", spec := "fromintTurn", inPlace := ["math/bits.Add64"], unfollowed := true, recurses := true, named := ["hairsbreadth/format.table"], apart := false, laid := [("hairsbreadth/format.table", laid_hairsbreadth_format_table)] }
def FromintTurnSaid : Prop := fromintTurnRow.holds Tryd.pinned (OpenSpec.ofChange fromintTurnSpec)

/-- ITS FALSE NEIGHBOUR: 'it returns false'. Refute it at one input. -/
def fromintTurnWrong : ChangeSpec := { name := "fromintTurn", fn := fun _ => fun
  | [d1, d2, d3] => { results := [.lit (.bool false)], args := [d1, d2, d3] }
  | _ => none }
def FromintTurnWrongFalsely : Prop := fromintTurnRow.holds Tryd.pinned (OpenSpec.ofChange fromintTurnWrong)

/-- 'hairsbreadthlaw27.FromintBack': WHATEVER THE INPUT: true; the input reads as it did. -/
def fromintBackSpec : ChangeSpec := { name := "fromintBack", fn := fun _ => fun
  | [d1, d2, d3, d4, d5] => { results := [.lit (.bool true)], args := [d1, d2, d3, d4, d5] }
  | _ => none }
def fromintBackRow : OpenClaim := { program := "ythlimkjebfdbgaadoor", sum := "bf48ed1b0fc42211677422a97d377e646a6cbbef769822749117f5aaf5399afa", func := "hairsbreadth/hairsbreadthlaw27.FromintBack", spec := "fromintBack", inPlace := ["math/bits.Add64"], unfollowed := true, recurses := true, named := ["hairsbreadth/format.table", "hairsbreadth/toint.ends"], apart := false, laid := [("hairsbreadth/format.table", laid_hairsbreadth_format_table), ("hairsbreadth/toint.ends", laid_hairsbreadth_toint_ends)] }
def FromintBackSaid : Prop := fromintBackRow.holds Tryd.pinned (OpenSpec.ofChange fromintBackSpec)

/-- ITS FALSE NEIGHBOUR: 'it returns false'. Refute it at one input. -/
def fromintBackWrong : ChangeSpec := { name := "fromintBack", fn := fun _ => fun
  | [d1, d2, d3, d4, d5] => { results := [.lit (.bool false)], args := [d1, d2, d3, d4, d5] }
  | _ => none }
def FromintBackWrongFalsely : Prop := fromintBackRow.holds Tryd.pinned (OpenSpec.ofChange fromintBackWrong)

/- THE SECOND FORM. 'bulk': how many values and letters a reading holds, each counted each time it is reached (what is shared counts as often as it is met; a slice's spare places count too). A statement '..UptoSaid' is the law's where the arguments, and the package variables that the reading takes, are together of bulk at most 1048576: NARROWER than '..Said'. Prove '..Said' where nothing that the law and all that it calls make is longer than what came in: it says more and counts as full. Else prove '..UptoSaid'. A law counts once. -/
mutual
def uptoBulk {H : Type} : DataW H → Nat
  | .lit (.string bytes) => bytes.length + 1
  | .lit _ => 1
  | .nil => 1
  | .ptr d => uptoBulk d + 1
  | .slice elems spare => uptoBulkAll elems + uptoBulkAll spare + 1
  | .agg parts => uptoBulkAll parts + 1
  | .iface _ d => uptoBulk d + 1
  | .map entries => uptoBulkEntries entries + 1
  | .held _ => 1
def uptoBulkAll {H : Type} : List (DataW H) → Nat
  | [] => 0
  | d :: r => uptoBulk d + uptoBulkAll r
def uptoBulkEntries {H : Type} : List (Lit × DataW H) → Nat
  | [] => 0
  | x :: r => uptoBulkEntry x + uptoBulkEntries r
def uptoBulkEntry {H : Type} : Lit × DataW H → Nat
  | (.string bytes, d) => bytes.length + uptoBulk d + 1
  | (_, d) => uptoBulk d + 1
 end
def uptoSmall : (H : Type) → List (DataW H) → Bool := fun _ ds => decide (uptoBulkAll ds ≤ 1048576)
def OpenSpec.upto (s : _root_.Go.ChangeSpec) : _root_.Go.OpenSpec := { _root_.Go.OpenSpec.ofChange s with cond := some uptoSmall }

/-- 'hairsbreadthlaw27.FromintAll', WHERE WHAT IT READS IS OF BULK AT MOST 1048576: true; the input reads as it did. -/
def fromintAllUptoRow : OpenClaim := { program := "ythlimkjebfdbgaadoor", sum := "bf48ed1b0fc42211677422a97d377e646a6cbbef769822749117f5aaf5399afa", func := "hairsbreadth/hairsbreadthlaw27.FromintAll", spec := "fromintAll", inPlace := ["math/bits.Add64"], unfollowed := true, recurses := true, named := ["hairsbreadth/format.table"], apart := false, laid := [("hairsbreadth/format.table", laid_hairsbreadth_format_table)], narrowed := true }
def FromintAllUptoSaid : Prop := fromintAllUptoRow.holds Tryd.pinned (OpenSpec.upto fromintAllSpec)

/-- 'hairsbreadthlaw27.FromintOrder', WHERE WHAT IT READS IS OF BULK AT MOST 1048576: true; the input reads as it did. -/
def fromintOrderUptoRow : OpenClaim := { program := "ythlimkjebfdbgaadoor", sum := "bf48ed1b0fc42211677422a97d377e646a6cbbef769822749117f5aaf5399afa", func := "hairsbreadth/hairsbreadthlaw27.FromintOrder", spec := "fromintOrder", inPlace := ["math/bits.Add64"], unfollowed := true, recurses := true, named := ["hairsbreadth/format.table"], apart := false, laid := [("hairsbreadth/format.table", laid_hairsbreadth_format_table)], narrowed := true }
def FromintOrderUptoSaid : Prop := fromintOrderUptoRow.holds Tryd.pinned (OpenSpec.upto fromintOrderSpec)

/-- 'hairsbreadthlaw27.FromintKinds', WHERE WHAT IT READS IS OF BULK AT MOST 1048576: true; the input reads as it did. -/
def fromintKindsUptoRow : OpenClaim := { program := "ythlimkjebfdbgaadoor", sum := "bf48ed1b0fc42211677422a97d377e646a6cbbef769822749117f5aaf5399afa", func := "hairsbreadth/hairsbreadthlaw27.FromintKinds", spec := "fromintKinds", inPlace := ["math/bits.Add64"], unfollowed := true, recurses := true, named := ["hairsbreadth/format.table"], apart := false, laid := [("hairsbreadth/format.table", laid_hairsbreadth_format_table)], narrowed := true }
def FromintKindsUptoSaid : Prop := fromintKindsUptoRow.holds Tryd.pinned (OpenSpec.upto fromintKindsSpec)

/-- 'hairsbreadthlaw27.FromintKnown', WHERE WHAT IT READS IS OF BULK AT MOST 1048576: true; the input reads as it did. -/
def fromintKnownUptoRow : OpenClaim := { program := "ythlimkjebfdbgaadoor", sum := "bf48ed1b0fc42211677422a97d377e646a6cbbef769822749117f5aaf5399afa", func := "hairsbreadth/hairsbreadthlaw27.FromintKnown", spec := "fromintKnown", inPlace := ["math/bits.Add64"], unfollowed := true, recurses := true, named := ["hairsbreadth/format.table"], apart := false, laid := [("hairsbreadth/format.table", laid_hairsbreadth_format_table)], narrowed := true }
def FromintKnownUptoSaid : Prop := fromintKnownUptoRow.holds Tryd.pinned (OpenSpec.upto fromintKnownSpec)

/-- 'hairsbreadthlaw27.FromintTurn', WHERE WHAT IT READS IS OF BULK AT MOST 1048576: true; the input reads as it did. -/
def fromintTurnUptoRow : OpenClaim := { program := "ythlimkjebfdbgaadoor", sum := "bf48ed1b0fc42211677422a97d377e646a6cbbef769822749117f5aaf5399afa", func := "hairsbreadth/hairsbreadthlaw27.FromintTurn", spec := "fromintTurn", inPlace := ["math/bits.Add64"], unfollowed := true, recurses := true, named := ["hairsbreadth/format.table"], apart := false, laid := [("hairsbreadth/format.table", laid_hairsbreadth_format_table)], narrowed := true }
def FromintTurnUptoSaid : Prop := fromintTurnUptoRow.holds Tryd.pinned (OpenSpec.upto fromintTurnSpec)

/-- 'hairsbreadthlaw27.FromintBack', WHERE WHAT IT READS IS OF BULK AT MOST 1048576: true; the input reads as it did. -/
def fromintBackUptoRow : OpenClaim := { program := "ythlimkjebfdbgaadoor", sum := "bf48ed1b0fc42211677422a97d377e646a6cbbef769822749117f5aaf5399afa", func := "hairsbreadth/hairsbreadthlaw27.FromintBack", spec := "fromintBack", inPlace := ["math/bits.Add64"], unfollowed := true, recurses := true, named := ["hairsbreadth/format.table", "hairsbreadth/toint.ends"], apart := false, laid := [("hairsbreadth/format.table", laid_hairsbreadth_format_table), ("hairsbreadth/toint.ends", laid_hairsbreadth_toint_ends)], narrowed := true }
def FromintBackUptoSaid : Prop := fromintBackUptoRow.holds Tryd.pinned (OpenSpec.upto fromintBackSpec)

end Rows
end Go.Proofs.YthlimkjebfdbgaaDoor
