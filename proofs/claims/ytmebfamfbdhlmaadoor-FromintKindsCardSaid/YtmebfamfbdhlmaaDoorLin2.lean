/- Drawn regions in lexical order, behind a wall: the walk's goal is not looked into (long runs of unwanted operations). -/
import Derived.Test.YtmebfamfbdhlmaaDoorLin
set_option linter.unusedSimpArgs false
set_option linter.unusedVariables false
namespace Go.Lin
open Go.RowKit
structure Blk (p : Prop) : Prop where
  out : p
variable {P : Program} {ops : Array Oper} {C : World → Prop} {Fin : Nat → Array Bool → Act → Prop} {o : Oper} {l : List Oper} {k m : Nat} {listed : Array Bool} {a : Act}
theorem bl_rest (h : restOp o.op = true) (hn : Blk (wpLex P ops C Fin l (k + 1) m listed a)) : Blk (wpLex P ops C Fin (o :: l) k m listed a) := ⟨lex_rest h hn.out⟩
theorem bl_skip (h : restOp o.op = false) (hw : Region.wanted o (yielded ops a.tmps) = false) (hn : Blk (wpLex P ops C Fin l (k + 1) m (listed.setIfInBounds k true) (a.put o.dst undef))) : Blk (wpLex P ops C Fin (o :: l) k (m + 1) listed a) := ⟨lex_skip h hw hn.out⟩
theorem bl_val (h : restOp o.op = false) (hlo : looseOp o.op = false) (hw : Region.wanted o (yielded ops a.tmps) = true) (hv : ∃ v, (∀ w, C w → linUpon P w v ((execOp a.eval o).run P w)) ∧ Blk (wpLex P ops C Fin l (k + 1) m (listed.setIfInBounds k true) (a.put o.dst v))) : Blk (wpLex P ops C Fin (o :: l) k (m + 1) listed a) :=
  let ⟨v, h1, h2⟩ := hv
  ⟨lex_take h hlo hw v h1 h2.out⟩
theorem bl_loose (h : restOp o.op = false) (hlo : looseOp o.op = true) (hw : Region.wanted o (yielded ops a.tmps) = true) (hv : ∃ v, (∀ w, (execOp a.eval o).run P w = .ok (.value v) w) ∧ Blk (wpLex P ops C Fin l (k + 1) m (listed.setIfInBounds k true) (a.put o.dst v))) : Blk (wpLex P ops C Fin (o :: l) k (m + 1) listed a) :=
  let ⟨v, h1, h2⟩ := hv
  ⟨lex_loose h hlo hw ⟨v, h1, h2.out⟩⟩
theorem bl_end (h : Fin m listed a) : Blk (wpLex P ops C Fin [] k m listed a) := ⟨lex_end h⟩
end Go.Lin
namespace Go.Proofs.YtmebfamfbdhlmaaDoor
end Go.Proofs.YtmebfamfbdhlmaaDoor
