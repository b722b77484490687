/-
  NARROWER THAN 'FOR EVERY INPUT', by the rows' own cells (each row's printed sentence says how): TointKinds: laid · TointAll: laid · TointKnown: laid · TointTurn: laid · TointOrder: laid · TointWide: laid · TointRint: laid · CompAll: laid · CompNan: laid · CompLeast: laid · CompKnown: laid · CompTotal: laid.
  DERIVED. THE GIVEN ROWS OF THIS SEAT. 12 by the template 'for every input the law returns true; each argument reads behind the call as it read before'; 0 by the template 'total and deterministic' (their statements: YtojcelokljghlaaDoorTotals.lean).
  GIVEN WITH THE SEED: the statements are not yours to turn. If you find one false, say at which input.
  Laid BY PROGRAM, IN A SANDBOX (cutbox-rows.mjs): the forced cells as the released guide's own fill.sh prints them over the translation 521d125f7d24abc1… (all of the seat's roots in one cut). By AI agents, Wed Nov 11 2026. No macro, syntax, notation, axiom, sorry.
-/
import Derived.Test.YtojcelokljghlaaDoorChecked
import GoSem.Claim
import GoSem.ClaimJoined
import GoSem.ClaimMapViews
import Derived.JoinedTies
import Derived.KernelRfl
namespace Go.Proofs.YtojcelokljghlaaDoor
/- THE CELL 'sum', in the pinned program and in every row, IS THE sha256 OF THE DUMP (.gsa) THAT YtojcelokljghlaaDoorProg.lean LOADS. Nothing in Lean hashes anything: it is a label: what it is worth is what the hold of that sum in a sandbox is worth. -/
noncomputable def Tryd.pinned : Pinned := { name := "ytojcelokljghlaadoor", sum := "521d125f7d24abc187b5be8eb455d6dd90d61d055308f83e51ae03634bbbc4fe", checked := Tryd.checked }
namespace Rows
def none {H : Type} : Left H := { results := [], args := [] }

/- WHAT THE LISTED PACKAGE-LEVEL VARIABLES READ AS WHEN THE CALL BEGINS. Each datum BY PROGRAM (the guide's laid-datum.mjs) off the statement by which the dump's own 'gosem.cut.vars' lays the variable. In a bare row this is a premise. The card (YtojcelokljghlaaDoorCards.lean) ties it to the program's text. -/
def laid_hairsbreadth_format_table {H : Type} : DataW H := .agg [.agg [.lit (.int .i64 16), .lit (.int .i64 11), .lit (.int .i64 15)], .agg [.lit (.int .i64 32), .lit (.int .i64 24), .lit (.int .i64 127)], .agg [.lit (.int .i64 64), .lit (.int .i64 53), .lit (.int .i64 1023)], .agg [.lit (.int .i64 128), .lit (.int .i64 113), .lit (.int .i64 16383)]]
def laid_hairsbreadth_toint_ends {H : Type} : DataW H := .agg [.agg [.lit (.int .u64 2147483648), .lit (.int .u64 2147483647)], .agg [.lit (.int .u64 0), .lit (.int .u64 4294967295)], .agg [.lit (.int .u64 9223372036854775808), .lit (.int .u64 9223372036854775807)], .agg [.lit (.int .u64 0), .lit (.int .u64 18446744073709551615)]]

/-- 'hairsbreadthlaw26.TointKinds': WHATEVER THE INPUT: true; the input reads as it did. -/
def tointKindsSpec : ChangeSpec := { name := "tointKinds", fn := fun _ => fun
  | [d1, d2, d3] => { results := [.lit (.bool true)], args := [d1, d2, d3] }
  | _ => none }
def tointKindsRow : OpenClaim := { program := "ytojcelokljghlaadoor", sum := "521d125f7d24abc187b5be8eb455d6dd90d61d055308f83e51ae03634bbbc4fe", func := "hairsbreadth/hairsbreadthlaw26.TointKinds", spec := "tointKinds", inPlace := ["math/bits.Add64"], unfollowed := true, recurses := true, named := ["hairsbreadth/format.table", "hairsbreadth/toint.ends"], apart := false, laid := [("hairsbreadth/format.table", laid_hairsbreadth_format_table), ("hairsbreadth/toint.ends", laid_hairsbreadth_toint_ends)] }
def TointKindsSaid : Prop := tointKindsRow.holds Tryd.pinned (OpenSpec.ofChange tointKindsSpec)

/-- ITS FALSE NEIGHBOUR: 'it returns false'. Refute it at one input. -/
def tointKindsWrong : ChangeSpec := { name := "tointKinds", fn := fun _ => fun
  | [d1, d2, d3] => { results := [.lit (.bool false)], args := [d1, d2, d3] }
  | _ => none }
def TointKindsWrongFalsely : Prop := tointKindsRow.holds Tryd.pinned (OpenSpec.ofChange tointKindsWrong)

/-- 'hairsbreadthlaw26.TointAll': WHATEVER THE INPUT: true; the input reads as it did. -/
def tointAllSpec : ChangeSpec := { name := "tointAll", fn := fun _ => fun
  | [d1, d2, d3, d4] => { results := [.lit (.bool true)], args := [d1, d2, d3, d4] }
  | _ => none }
def tointAllRow : OpenClaim := { program := "ytojcelokljghlaadoor", sum := "521d125f7d24abc187b5be8eb455d6dd90d61d055308f83e51ae03634bbbc4fe", func := "hairsbreadth/hairsbreadthlaw26.TointAll", spec := "tointAll", inPlace := ["math/bits.Add64"], unfollowed := true, recurses := true, named := ["hairsbreadth/format.table", "hairsbreadth/toint.ends"], apart := false, laid := [("hairsbreadth/format.table", laid_hairsbreadth_format_table), ("hairsbreadth/toint.ends", laid_hairsbreadth_toint_ends)] }
def TointAllSaid : Prop := tointAllRow.holds Tryd.pinned (OpenSpec.ofChange tointAllSpec)

/-- ITS FALSE NEIGHBOUR: 'it returns false'. Refute it at one input. -/
def tointAllWrong : ChangeSpec := { name := "tointAll", fn := fun _ => fun
  | [d1, d2, d3, d4] => { results := [.lit (.bool false)], args := [d1, d2, d3, d4] }
  | _ => none }
def TointAllWrongFalsely : Prop := tointAllRow.holds Tryd.pinned (OpenSpec.ofChange tointAllWrong)

/-- 'hairsbreadthlaw26.TointKnown': WHATEVER THE INPUT: true; the input reads as it did. -/
def tointKnownSpec : ChangeSpec := { name := "tointKnown", fn := fun _ => fun
  | [] => { results := [.lit (.bool true)], args := [] }
  | _ => none }
def tointKnownRow : OpenClaim := { program := "ytojcelokljghlaadoor", sum := "521d125f7d24abc187b5be8eb455d6dd90d61d055308f83e51ae03634bbbc4fe", func := "hairsbreadth/hairsbreadthlaw26.TointKnown", spec := "tointKnown", inPlace := ["math/bits.Add64"], unfollowed := true, recurses := true, named := ["hairsbreadth/format.table", "hairsbreadth/toint.ends"], apart := false, laid := [("hairsbreadth/format.table", laid_hairsbreadth_format_table), ("hairsbreadth/toint.ends", laid_hairsbreadth_toint_ends)] }
def TointKnownSaid : Prop := tointKnownRow.holds Tryd.pinned (OpenSpec.ofChange tointKnownSpec)

/-- ITS FALSE NEIGHBOUR: 'it returns false'. Refute it at one input. -/
def tointKnownWrong : ChangeSpec := { name := "tointKnown", fn := fun _ => fun
  | [] => { results := [.lit (.bool false)], args := [] }
  | _ => none }
def TointKnownWrongFalsely : Prop := tointKnownRow.holds Tryd.pinned (OpenSpec.ofChange tointKnownWrong)

/-- 'hairsbreadthlaw26.TointTurn': WHATEVER THE INPUT: true; the input reads as it did. -/
def tointTurnSpec : ChangeSpec := { name := "tointTurn", fn := fun _ => fun
  | [d1, d2, d3, d4] => { results := [.lit (.bool true)], args := [d1, d2, d3, d4] }
  | _ => none }
def tointTurnRow : OpenClaim := { program := "ytojcelokljghlaadoor", sum := "521d125f7d24abc187b5be8eb455d6dd90d61d055308f83e51ae03634bbbc4fe", func := "hairsbreadth/hairsbreadthlaw26.TointTurn", spec := "tointTurn", inPlace := ["math/bits.Add64"], unfollowed := true, recurses := true, named := ["hairsbreadth/format.table", "hairsbreadth/toint.ends"], apart := false, laid := [("hairsbreadth/format.table", laid_hairsbreadth_format_table), ("hairsbreadth/toint.ends", laid_hairsbreadth_toint_ends)] }
def TointTurnSaid : Prop := tointTurnRow.holds Tryd.pinned (OpenSpec.ofChange tointTurnSpec)

/-- ITS FALSE NEIGHBOUR: 'it returns false'. Refute it at one input. -/
def tointTurnWrong : ChangeSpec := { name := "tointTurn", fn := fun _ => fun
  | [d1, d2, d3, d4] => { results := [.lit (.bool false)], args := [d1, d2, d3, d4] }
  | _ => none }
def TointTurnWrongFalsely : Prop := tointTurnRow.holds Tryd.pinned (OpenSpec.ofChange tointTurnWrong)

/-- 'hairsbreadthlaw26.TointOrder': WHATEVER THE INPUT: true; the input reads as it did. -/
def tointOrderSpec : ChangeSpec := { name := "tointOrder", fn := fun _ => fun
  | [d1, d2, d3, d4, d5] => { results := [.lit (.bool true)], args := [d1, d2, d3, d4, d5] }
  | _ => none }
def tointOrderRow : OpenClaim := { program := "ytojcelokljghlaadoor", sum := "521d125f7d24abc187b5be8eb455d6dd90d61d055308f83e51ae03634bbbc4fe", func := "hairsbreadth/hairsbreadthlaw26.TointOrder", spec := "tointOrder", inPlace := ["math/bits.Add64"], unfollowed := true, recurses := true, named := ["hairsbreadth/format.table", "hairsbreadth/toint.ends"], apart := false, laid := [("hairsbreadth/format.table", laid_hairsbreadth_format_table), ("hairsbreadth/toint.ends", laid_hairsbreadth_toint_ends)] }
def TointOrderSaid : Prop := tointOrderRow.holds Tryd.pinned (OpenSpec.ofChange tointOrderSpec)

/-- ITS FALSE NEIGHBOUR: 'it returns false'. Refute it at one input. -/
def tointOrderWrong : ChangeSpec := { name := "tointOrder", fn := fun _ => fun
  | [d1, d2, d3, d4, d5] => { results := [.lit (.bool false)], args := [d1, d2, d3, d4, d5] }
  | _ => none }
def TointOrderWrongFalsely : Prop := tointOrderRow.holds Tryd.pinned (OpenSpec.ofChange tointOrderWrong)

/-- 'hairsbreadthlaw26.TointWide': WHATEVER THE INPUT: true; the input reads as it did. -/
def tointWideSpec : ChangeSpec := { name := "tointWide", fn := fun _ => fun
  | [d1, d2, d3, d4, d5] => { results := [.lit (.bool true)], args := [d1, d2, d3, d4, d5] }
  | _ => none }
def tointWideRow : OpenClaim := { program := "ytojcelokljghlaadoor", sum := "521d125f7d24abc187b5be8eb455d6dd90d61d055308f83e51ae03634bbbc4fe", func := "hairsbreadth/hairsbreadthlaw26.TointWide", spec := "tointWide", inPlace := ["math/bits.Add64"], unfollowed := true, recurses := true, named := ["hairsbreadth/format.table", "hairsbreadth/toint.ends"], apart := false, laid := [("hairsbreadth/format.table", laid_hairsbreadth_format_table), ("hairsbreadth/toint.ends", laid_hairsbreadth_toint_ends)] }
def TointWideSaid : Prop := tointWideRow.holds Tryd.pinned (OpenSpec.ofChange tointWideSpec)

/-- ITS FALSE NEIGHBOUR: 'it returns false'. Refute it at one input. -/
def tointWideWrong : ChangeSpec := { name := "tointWide", fn := fun _ => fun
  | [d1, d2, d3, d4, d5] => { results := [.lit (.bool false)], args := [d1, d2, d3, d4, d5] }
  | _ => none }
def TointWideWrongFalsely : Prop := tointWideRow.holds Tryd.pinned (OpenSpec.ofChange tointWideWrong)

/-- 'hairsbreadthlaw26.TointRint': WHATEVER THE INPUT: true; the input reads as it did. -/
def tointRintSpec : ChangeSpec := { name := "tointRint", fn := fun _ => fun
  | [d1, d2, d3, d4] => { results := [.lit (.bool true)], args := [d1, d2, d3, d4] }
  | _ => none }
def tointRintRow : OpenClaim := { program := "ytojcelokljghlaadoor", sum := "521d125f7d24abc187b5be8eb455d6dd90d61d055308f83e51ae03634bbbc4fe", func := "hairsbreadth/hairsbreadthlaw26.TointRint", spec := "tointRint", inPlace := ["math/bits.Add64"], unfollowed := true, recurses := true, named := ["hairsbreadth/format.table", "hairsbreadth/toint.ends"], apart := false, laid := [("hairsbreadth/format.table", laid_hairsbreadth_format_table), ("hairsbreadth/toint.ends", laid_hairsbreadth_toint_ends)] }
def TointRintSaid : Prop := tointRintRow.holds Tryd.pinned (OpenSpec.ofChange tointRintSpec)

/-- ITS FALSE NEIGHBOUR: 'it returns false'. Refute it at one input. -/
def tointRintWrong : ChangeSpec := { name := "tointRint", fn := fun _ => fun
  | [d1, d2, d3, d4] => { results := [.lit (.bool false)], args := [d1, d2, d3, d4] }
  | _ => none }
def TointRintWrongFalsely : Prop := tointRintRow.holds Tryd.pinned (OpenSpec.ofChange tointRintWrong)

/-- 'hairsbreadthlaw28.CompAll': WHATEVER THE INPUT: true; the input reads as it did. -/
def compAllSpec : ChangeSpec := { name := "compAll", fn := fun _ => fun
  | [d1, d2, d3] => { results := [.lit (.bool true)], args := [d1, d2, d3] }
  | _ => none }
def compAllRow : OpenClaim := { program := "ytojcelokljghlaadoor", sum := "521d125f7d24abc187b5be8eb455d6dd90d61d055308f83e51ae03634bbbc4fe", func := "hairsbreadth/hairsbreadthlaw28.CompAll", spec := "compAll", inPlace := ["math/bits.Add64"], unfollowed := true, recurses := true, named := ["hairsbreadth/format.table"], apart := false, laid := [("hairsbreadth/format.table", laid_hairsbreadth_format_table)] }
def CompAllSaid : Prop := compAllRow.holds Tryd.pinned (OpenSpec.ofChange compAllSpec)

/-- ITS FALSE NEIGHBOUR: 'it returns false'. Refute it at one input. -/
def compAllWrong : ChangeSpec := { name := "compAll", fn := fun _ => fun
  | [d1, d2, d3] => { results := [.lit (.bool false)], args := [d1, d2, d3] }
  | _ => none }
def CompAllWrongFalsely : Prop := compAllRow.holds Tryd.pinned (OpenSpec.ofChange compAllWrong)

/-- 'hairsbreadthlaw28.CompNan': WHATEVER THE INPUT: true; the input reads as it did. -/
def compNanSpec : ChangeSpec := { name := "compNan", fn := fun _ => fun
  | [d1, d2, d3] => { results := [.lit (.bool true)], args := [d1, d2, d3] }
  | _ => none }
def compNanRow : OpenClaim := { program := "ytojcelokljghlaadoor", sum := "521d125f7d24abc187b5be8eb455d6dd90d61d055308f83e51ae03634bbbc4fe", func := "hairsbreadth/hairsbreadthlaw28.CompNan", spec := "compNan", inPlace := ["math/bits.Add64"], unfollowed := true, recurses := true, named := ["hairsbreadth/format.table"], apart := false, laid := [("hairsbreadth/format.table", laid_hairsbreadth_format_table)] }
def CompNanSaid : Prop := compNanRow.holds Tryd.pinned (OpenSpec.ofChange compNanSpec)

/-- ITS FALSE NEIGHBOUR: 'it returns false'. Refute it at one input. -/
def compNanWrong : ChangeSpec := { name := "compNan", fn := fun _ => fun
  | [d1, d2, d3] => { results := [.lit (.bool false)], args := [d1, d2, d3] }
  | _ => none }
def CompNanWrongFalsely : Prop := compNanRow.holds Tryd.pinned (OpenSpec.ofChange compNanWrong)

/-- 'hairsbreadthlaw28.CompLeast': WHATEVER THE INPUT: true; the input reads as it did. -/
def compLeastSpec : ChangeSpec := { name := "compLeast", fn := fun _ => fun
  | [d1, d2] => { results := [.lit (.bool true)], args := [d1, d2] }
  | _ => none }
def compLeastRow : OpenClaim := { program := "ytojcelokljghlaadoor", sum := "521d125f7d24abc187b5be8eb455d6dd90d61d055308f83e51ae03634bbbc4fe", func := "hairsbreadth/hairsbreadthlaw28.CompLeast", spec := "compLeast", inPlace := ["math/bits.Add64"], unfollowed := true, recurses := true, named := ["hairsbreadth/format.table"], apart := false, laid := [("hairsbreadth/format.table", laid_hairsbreadth_format_table)] }
def CompLeastSaid : Prop := compLeastRow.holds Tryd.pinned (OpenSpec.ofChange compLeastSpec)

/-- ITS FALSE NEIGHBOUR: 'it returns false'. Refute it at one input. -/
def compLeastWrong : ChangeSpec := { name := "compLeast", fn := fun _ => fun
  | [d1, d2] => { results := [.lit (.bool false)], args := [d1, d2] }
  | _ => none }
def CompLeastWrongFalsely : Prop := compLeastRow.holds Tryd.pinned (OpenSpec.ofChange compLeastWrong)

/-- 'hairsbreadthlaw28.CompKnown': WHATEVER THE INPUT: true; the input reads as it did. -/
def compKnownSpec : ChangeSpec := { name := "compKnown", fn := fun _ => fun
  | [] => { results := [.lit (.bool true)], args := [] }
  | _ => none }
def compKnownRow : OpenClaim := { program := "ytojcelokljghlaadoor", sum := "521d125f7d24abc187b5be8eb455d6dd90d61d055308f83e51ae03634bbbc4fe", func := "hairsbreadth/hairsbreadthlaw28.CompKnown", spec := "compKnown", inPlace := ["math/bits.Add64"], unfollowed := true, recurses := true, named := ["hairsbreadth/format.table"], apart := false, laid := [("hairsbreadth/format.table", laid_hairsbreadth_format_table)] }
def CompKnownSaid : Prop := compKnownRow.holds Tryd.pinned (OpenSpec.ofChange compKnownSpec)

/-- ITS FALSE NEIGHBOUR: 'it returns false'. Refute it at one input. -/
def compKnownWrong : ChangeSpec := { name := "compKnown", fn := fun _ => fun
  | [] => { results := [.lit (.bool false)], args := [] }
  | _ => none }
def CompKnownWrongFalsely : Prop := compKnownRow.holds Tryd.pinned (OpenSpec.ofChange compKnownWrong)

/-- 'hairsbreadthlaw28.CompTotal': WHATEVER THE INPUT: true; the input reads as it did. -/
def compTotalSpec : ChangeSpec := { name := "compTotal", fn := fun _ => fun
  | [d1, d2, d3, d4] => { results := [.lit (.bool true)], args := [d1, d2, d3, d4] }
  | _ => none }
def compTotalRow : OpenClaim := { program := "ytojcelokljghlaadoor", sum := "521d125f7d24abc187b5be8eb455d6dd90d61d055308f83e51ae03634bbbc4fe", func := "hairsbreadth/hairsbreadthlaw28.CompTotal", spec := "compTotal", inPlace := ["math/bits.Add64"], unfollowed := true, recurses := true, named := ["hairsbreadth/format.table"], apart := false, laid := [("hairsbreadth/format.table", laid_hairsbreadth_format_table)] }
def CompTotalSaid : Prop := compTotalRow.holds Tryd.pinned (OpenSpec.ofChange compTotalSpec)

/-- ITS FALSE NEIGHBOUR: 'it returns false'. Refute it at one input. -/
def compTotalWrong : ChangeSpec := { name := "compTotal", fn := fun _ => fun
  | [d1, d2, d3, d4] => { results := [.lit (.bool false)], args := [d1, d2, d3, d4] }
  | _ => none }
def CompTotalWrongFalsely : Prop := compTotalRow.holds Tryd.pinned (OpenSpec.ofChange compTotalWrong)

/- THE SECOND FORM. 'bulk': how many values and letters a reading holds, each counted each time it is reached (what is shared counts as often as it is met; a slice's spare places count too). A statement '..UptoSaid' is the law's where the arguments, and the package variables that the reading takes, are together of bulk at most 1048576: NARROWER than '..Said'. Prove '..Said' where nothing that the law and all that it calls make is longer than what came in: it says more and counts as full. Else prove '..UptoSaid'. A law counts once. -/
mutual
def uptoBulk {H : Type} : DataW H → Nat
  | .lit (.string bytes) => bytes.length + 1
  | .lit _ => 1
  | .nil => 1
  | .ptr d => uptoBulk d + 1
  | .slice elems spare => uptoBulkAll elems + uptoBulkAll spare + 1
  | .agg parts => uptoBulkAll parts + 1
  | .iface _ d => uptoBulk d + 1
  | .map entries => uptoBulkEntries entries + 1
  | .held _ => 1
def uptoBulkAll {H : Type} : List (DataW H) → Nat
  | [] => 0
  | d :: r => uptoBulk d + uptoBulkAll r
def uptoBulkEntries {H : Type} : List (Lit × DataW H) → Nat
  | [] => 0
  | x :: r => uptoBulkEntry x + uptoBulkEntries r
def uptoBulkEntry {H : Type} : Lit × DataW H → Nat
  | (.string bytes, d) => bytes.length + uptoBulk d + 1
  | (_, d) => uptoBulk d + 1
 end
def uptoSmall : (H : Type) → List (DataW H) → Bool := fun _ ds => decide (uptoBulkAll ds ≤ 1048576)
def OpenSpec.upto (s : _root_.Go.ChangeSpec) : _root_.Go.OpenSpec := { _root_.Go.OpenSpec.ofChange s with cond := some uptoSmall }

/-- 'hairsbreadthlaw26.TointKinds', WHERE WHAT IT READS IS OF BULK AT MOST 1048576: true; the input reads as it did. -/
def tointKindsUptoRow : OpenClaim := { program := "ytojcelokljghlaadoor", sum := "521d125f7d24abc187b5be8eb455d6dd90d61d055308f83e51ae03634bbbc4fe", func := "hairsbreadth/hairsbreadthlaw26.TointKinds", spec := "tointKinds", inPlace := ["math/bits.Add64"], unfollowed := true, recurses := true, named := ["hairsbreadth/format.table", "hairsbreadth/toint.ends"], apart := false, laid := [("hairsbreadth/format.table", laid_hairsbreadth_format_table), ("hairsbreadth/toint.ends", laid_hairsbreadth_toint_ends)], narrowed := true }
def TointKindsUptoSaid : Prop := tointKindsUptoRow.holds Tryd.pinned (OpenSpec.upto tointKindsSpec)

/-- 'hairsbreadthlaw26.TointAll', WHERE WHAT IT READS IS OF BULK AT MOST 1048576: true; the input reads as it did. -/
def tointAllUptoRow : OpenClaim := { program := "ytojcelokljghlaadoor", sum := "521d125f7d24abc187b5be8eb455d6dd90d61d055308f83e51ae03634bbbc4fe", func := "hairsbreadth/hairsbreadthlaw26.TointAll", spec := "tointAll", inPlace := ["math/bits.Add64"], unfollowed := true, recurses := true, named := ["hairsbreadth/format.table", "hairsbreadth/toint.ends"], apart := false, laid := [("hairsbreadth/format.table", laid_hairsbreadth_format_table), ("hairsbreadth/toint.ends", laid_hairsbreadth_toint_ends)], narrowed := true }
def TointAllUptoSaid : Prop := tointAllUptoRow.holds Tryd.pinned (OpenSpec.upto tointAllSpec)

/-- 'hairsbreadthlaw26.TointKnown', WHERE WHAT IT READS IS OF BULK AT MOST 1048576: true; the input reads as it did. -/
def tointKnownUptoRow : OpenClaim := { program := "ytojcelokljghlaadoor", sum := "521d125f7d24abc187b5be8eb455d6dd90d61d055308f83e51ae03634bbbc4fe", func := "hairsbreadth/hairsbreadthlaw26.TointKnown", spec := "tointKnown", inPlace := ["math/bits.Add64"], unfollowed := true, recurses := true, named := ["hairsbreadth/format.table", "hairsbreadth/toint.ends"], apart := false, laid := [("hairsbreadth/format.table", laid_hairsbreadth_format_table), ("hairsbreadth/toint.ends", laid_hairsbreadth_toint_ends)], narrowed := true }
def TointKnownUptoSaid : Prop := tointKnownUptoRow.holds Tryd.pinned (OpenSpec.upto tointKnownSpec)

/-- 'hairsbreadthlaw26.TointTurn', WHERE WHAT IT READS IS OF BULK AT MOST 1048576: true; the input reads as it did. -/
def tointTurnUptoRow : OpenClaim := { program := "ytojcelokljghlaadoor", sum := "521d125f7d24abc187b5be8eb455d6dd90d61d055308f83e51ae03634bbbc4fe", func := "hairsbreadth/hairsbreadthlaw26.TointTurn", spec := "tointTurn", inPlace := ["math/bits.Add64"], unfollowed := true, recurses := true, named := ["hairsbreadth/format.table", "hairsbreadth/toint.ends"], apart := false, laid := [("hairsbreadth/format.table", laid_hairsbreadth_format_table), ("hairsbreadth/toint.ends", laid_hairsbreadth_toint_ends)], narrowed := true }
def TointTurnUptoSaid : Prop := tointTurnUptoRow.holds Tryd.pinned (OpenSpec.upto tointTurnSpec)

/-- 'hairsbreadthlaw26.TointOrder', WHERE WHAT IT READS IS OF BULK AT MOST 1048576: true; the input reads as it did. -/
def tointOrderUptoRow : OpenClaim := { program := "ytojcelokljghlaadoor", sum := "521d125f7d24abc187b5be8eb455d6dd90d61d055308f83e51ae03634bbbc4fe", func := "hairsbreadth/hairsbreadthlaw26.TointOrder", spec := "tointOrder", inPlace := ["math/bits.Add64"], unfollowed := true, recurses := true, named := ["hairsbreadth/format.table", "hairsbreadth/toint.ends"], apart := false, laid := [("hairsbreadth/format.table", laid_hairsbreadth_format_table), ("hairsbreadth/toint.ends", laid_hairsbreadth_toint_ends)], narrowed := true }
def TointOrderUptoSaid : Prop := tointOrderUptoRow.holds Tryd.pinned (OpenSpec.upto tointOrderSpec)

/-- 'hairsbreadthlaw26.TointWide', WHERE WHAT IT READS IS OF BULK AT MOST 1048576: true; the input reads as it did. -/
def tointWideUptoRow : OpenClaim := { program := "ytojcelokljghlaadoor", sum := "521d125f7d24abc187b5be8eb455d6dd90d61d055308f83e51ae03634bbbc4fe", func := "hairsbreadth/hairsbreadthlaw26.TointWide", spec := "tointWide", inPlace := ["math/bits.Add64"], unfollowed := true, recurses := true, named := ["hairsbreadth/format.table", "hairsbreadth/toint.ends"], apart := false, laid := [("hairsbreadth/format.table", laid_hairsbreadth_format_table), ("hairsbreadth/toint.ends", laid_hairsbreadth_toint_ends)], narrowed := true }
def TointWideUptoSaid : Prop := tointWideUptoRow.holds Tryd.pinned (OpenSpec.upto tointWideSpec)

/-- 'hairsbreadthlaw26.TointRint', WHERE WHAT IT READS IS OF BULK AT MOST 1048576: true; the input reads as it did. -/
def tointRintUptoRow : OpenClaim := { program := "ytojcelokljghlaadoor", sum := "521d125f7d24abc187b5be8eb455d6dd90d61d055308f83e51ae03634bbbc4fe", func := "hairsbreadth/hairsbreadthlaw26.TointRint", spec := "tointRint", inPlace := ["math/bits.Add64"], unfollowed := true, recurses := true, named := ["hairsbreadth/format.table", "hairsbreadth/toint.ends"], apart := false, laid := [("hairsbreadth/format.table", laid_hairsbreadth_format_table), ("hairsbreadth/toint.ends", laid_hairsbreadth_toint_ends)], narrowed := true }
def TointRintUptoSaid : Prop := tointRintUptoRow.holds Tryd.pinned (OpenSpec.upto tointRintSpec)

/-- 'hairsbreadthlaw28.CompAll', WHERE WHAT IT READS IS OF BULK AT MOST 1048576: true; the input reads as it did. -/
def compAllUptoRow : OpenClaim := { program := "ytojcelokljghlaadoor", sum := "521d125f7d24abc187b5be8eb455d6dd90d61d055308f83e51ae03634bbbc4fe", func := "hairsbreadth/hairsbreadthlaw28.CompAll", spec := "compAll", inPlace := ["math/bits.Add64"], unfollowed := true, recurses := true, named := ["hairsbreadth/format.table"], apart := false, laid := [("hairsbreadth/format.table", laid_hairsbreadth_format_table)], narrowed := true }
def CompAllUptoSaid : Prop := compAllUptoRow.holds Tryd.pinned (OpenSpec.upto compAllSpec)

/-- 'hairsbreadthlaw28.CompNan', WHERE WHAT IT READS IS OF BULK AT MOST 1048576: true; the input reads as it did. -/
def compNanUptoRow : OpenClaim := { program := "ytojcelokljghlaadoor", sum := "521d125f7d24abc187b5be8eb455d6dd90d61d055308f83e51ae03634bbbc4fe", func := "hairsbreadth/hairsbreadthlaw28.CompNan", spec := "compNan", inPlace := ["math/bits.Add64"], unfollowed := true, recurses := true, named := ["hairsbreadth/format.table"], apart := false, laid := [("hairsbreadth/format.table", laid_hairsbreadth_format_table)], narrowed := true }
def CompNanUptoSaid : Prop := compNanUptoRow.holds Tryd.pinned (OpenSpec.upto compNanSpec)

/-- 'hairsbreadthlaw28.CompLeast', WHERE WHAT IT READS IS OF BULK AT MOST 1048576: true; the input reads as it did. -/
def compLeastUptoRow : OpenClaim := { program := "ytojcelokljghlaadoor", sum := "521d125f7d24abc187b5be8eb455d6dd90d61d055308f83e51ae03634bbbc4fe", func := "hairsbreadth/hairsbreadthlaw28.CompLeast", spec := "compLeast", inPlace := ["math/bits.Add64"], unfollowed := true, recurses := true, named := ["hairsbreadth/format.table"], apart := false, laid := [("hairsbreadth/format.table", laid_hairsbreadth_format_table)], narrowed := true }
def CompLeastUptoSaid : Prop := compLeastUptoRow.holds Tryd.pinned (OpenSpec.upto compLeastSpec)

/-- 'hairsbreadthlaw28.CompKnown', WHERE WHAT IT READS IS OF BULK AT MOST 1048576: true; the input reads as it did. -/
def compKnownUptoRow : OpenClaim := { program := "ytojcelokljghlaadoor", sum := "521d125f7d24abc187b5be8eb455d6dd90d61d055308f83e51ae03634bbbc4fe", func := "hairsbreadth/hairsbreadthlaw28.CompKnown", spec := "compKnown", inPlace := ["math/bits.Add64"], unfollowed := true, recurses := true, named := ["hairsbreadth/format.table"], apart := false, laid := [("hairsbreadth/format.table", laid_hairsbreadth_format_table)], narrowed := true }
def CompKnownUptoSaid : Prop := compKnownUptoRow.holds Tryd.pinned (OpenSpec.upto compKnownSpec)

/-- 'hairsbreadthlaw28.CompTotal', WHERE WHAT IT READS IS OF BULK AT MOST 1048576: true; the input reads as it did. -/
def compTotalUptoRow : OpenClaim := { program := "ytojcelokljghlaadoor", sum := "521d125f7d24abc187b5be8eb455d6dd90d61d055308f83e51ae03634bbbc4fe", func := "hairsbreadth/hairsbreadthlaw28.CompTotal", spec := "compTotal", inPlace := ["math/bits.Add64"], unfollowed := true, recurses := true, named := ["hairsbreadth/format.table"], apart := false, laid := [("hairsbreadth/format.table", laid_hairsbreadth_format_table)], narrowed := true }
def CompTotalUptoSaid : Prop := compTotalUptoRow.holds Tryd.pinned (OpenSpec.upto compTotalSpec)

end Rows
end Go.Proofs.YtojcelokljghlaaDoor
