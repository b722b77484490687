/- The frame of the rows: an argument that is a list of 128-bit numbers, opened; the end of a law that leaves old memory as it was. -/
import Derived.Test.YtkmgheabjcieaaaDoorRow
import Derived.Deep.SlicePairs
import Derived.Carry
set_option linter.unusedSimpArgs false
set_option linter.unusedVariables false
namespace Go.Proofs.YtkmgheabjcieaaaDoor
open Go.ChangeShapes Go.WideShapes Go.RowKit Go.Hb
section
variable {H : Type} {enc : TypeId × Value → H} {P : Program} {w : World} {base : Nat} {sp : Nat → Bool} {held : Bool}
def valI : Value → Int
  | .int _ n => n
  | _ => 0
/-- A list of pairs of words: its length, its cells. -/
theorem open_list {t e : TypeId} {f0 f1 : Field} {v : Value} {d : DataW H} {ps : List MemPlace} (ht : P.underlying t = some (.slice e)) (he : P.underlying e = some (.struct #[f0, f1]))
    (ce : P.cellsOf e = 2) (o0 : f0.offset = 0) (o1 : f1.offset = 1) (c0 : P.cellsOf f0.type = 1) (c1 : P.cellsOf f1.type = 1) (h0 : P.underlying f0.type = some (.int .u64)) (h1 : P.underlying f1.type = some (.int .u64))
    {r : Reach} {b0 : Nat} (hv : Value.okWide P w r b0 t v) (hd : DataW.Trod enc P w base sp held t v d ps) :
    ∃ (q : Option Addr) (n cap : Nat), v = .slice q n cap ∧ (n = 0 ∨ ∃ (b off : Nat) (A B : Nat → Int), q = some ⟨b, off, none⟩ ∧ (∀ i, U64 (A i)) ∧ (∀ i, U64 (B i)) ∧ ∀ i, i < n → w.cell? ⟨b, off + i * 2, none⟩ = some (.int .u64 (A i)) ∧ w.cell? ⟨b, off + i * 2 + 1, none⟩ = some (.int .u64 (B i))) := by
  have hone : v.cells = #[v] := by
    unfold Value.okWide at hv
    rw [ht] at hv
    cases v
    case agg xs => exact absurd hv (by simp [Cell.okWide, Cell.ok, ht])
    all_goals rfl
  obtain ⟨fuel, hf⟩ := hd
  rcases Deep.open_slice_pairs ht he ce o0 o1 c0 c1 hf with ⟨hc, hx⟩ | ⟨a, len, cap, m, k, V0, V1, D0, D1, P0, P1, hc, _, hl, hm, hmm, hx, hall⟩
  · rw [hone] at hc
    simp only [List.cons.injEq, and_true] at hc
    exact ⟨none, 0, 0, hc, Or.inl rfl⟩
  · rw [hone] at hc
    simp only [List.cons.injEq, and_true] at hc
    refine ⟨some a, len, cap, hc, ?_⟩
    by_cases hz : len = 0
    · exact Or.inl hz
    right
    have hlm : len ≤ m := by rw [hmm]; split <;> omega
    obtain ⟨b, off, spot⟩ := a
    have hspot : spot = none := by simpa [Addr.add] using World.cell?_spot (hall 0 (by omega)).1
    subst hspot
    have hV0 : ∀ i, i < len → V0 i = .int .u64 (valI (V0 i)) ∧ U64 (valI (V0 i)) := fun i hi => by
      obtain ⟨x, h2, h3, h4⟩ := DataW.trod_int h0 (hall i (by omega)).2.2.1
      simp only [List.cons.injEq, and_true] at h2
      rw [h2]
      exact ⟨rfl, u64_wf h4⟩
    have hV1 : ∀ i, i < len → V1 i = .int .u64 (valI (V1 i)) ∧ U64 (valI (V1 i)) := fun i hi => by
      obtain ⟨x, h2, h3, h4⟩ := DataW.trod_int h1 (hall i (by omega)).2.2.2
      simp only [List.cons.injEq, and_true] at h2
      rw [h2]
      exact ⟨rfl, u64_wf h4⟩
    have z64 : U64 0 := ⟨by omega, by omega⟩
    refine ⟨b, off, fun i => if i < len then valI (V0 i) else 0, fun i => if i < len then valI (V1 i) else 0, rfl, fun i => ?_, fun i => ?_, fun i hi => ?_⟩
    · dsimp only; split
      · exact (hV0 i (by assumption)).2
      · exact z64
    · dsimp only; split
      · exact (hV1 i (by assumption)).2
      · exact z64
    · dsimp only
      rw [if_pos hi, if_pos hi, ← (hV0 i hi).1, ← (hV1 i hi).1]
      have g := hall i (by omega)
      exact ⟨by simpa [Addr.add_lit] using g.1, by simpa [Addr.add_lit, Nat.add_assoc] using g.2.1⟩
/-- The end of a law whose arguments lie in old memory, which is left as it was. -/
theorem post_old {f : Func} {s : ChangeSpec} {apart fresh handsOn : Bool} {W W' : World} {args : Array Value} {v : Value} {ds gs : List (DataW H)} {before pa : List MemPlace}
    (hW : DataW.Whole enc P f.params.toList s.vars apart W args.toList ds gs before)
    (hres : ∀ (b : Nat) (sp : Nat → Bool) (hd : Bool), DataW.TrodAll enc P W' b sp hd f.resultTypes.toList (v.resultList f.resultTypes.size) (s.fn H (ds ++ gs)).results [])
    (hargs : DataW.TrodAll enc P W' 0 (fun b => decide (b < W.heap.size)) true f.params.toList args.toList (s.fn H (ds ++ gs)).args pa)
    (hvars : ∀ sp : Nat → Bool, DataW.TrodVars enc P W' sp s.vars (s.fn H (ds ++ gs)).vars []) (hb : Below W.heap.size W W') :
    s.post enc P f apart fresh handsOn false W args v W' :=
  ⟨ds, gs, before, [], pa, [], hW, hres _ _ _, hargs, hvars _, hb.frame _, fun h => by cases h⟩
end
end Go.Proofs.YtkmgheabjcieaaaDoor
