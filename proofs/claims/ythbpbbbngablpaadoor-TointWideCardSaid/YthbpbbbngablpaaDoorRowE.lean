/- The listed tables, both, as the walks ask them. No condition. -/
import Derived.Test.YthbpbbbngablpaaDoorRow
import Derived.Test.YthbpbbbngablpaaDoorToint
set_option linter.unusedSimpArgs false
set_option linter.unusedVariables false
namespace Go.Proofs.YthbpbbbngablpaaDoor
open Go.ChangeShapes Go.WideShapes Go.RowKit Go.Hb
theorem gEnds : Tryd.prog.globalNamed "hairsbreadth/toint.ends" = some 0 := by kernel_rfl
theorem tEnds : (Tryd.prog.globals[0]?).map (·.type) = some 117 := by kernel_rfl
theorem cEnds : Tryd.prog.cellsOf 117 = 8 := by kernel_rfl
theorem cSize : Tryd.prog.cellsOf 70 = 2 := by kernel_rfl
theorem cU64 : Tryd.prog.cellsOf 23 = 1 := by kernel_rfl
set_option maxRecDepth 100000 in
theorem size_cells {W : World} {m : Nat} {a b : Value} {x y : Int} {y0 : DataW Unit × List MemPlace} {base : Nat} {sp : Nat → Bool} {held : Bool} {enc : TypeId × Value → Unit}
    (h : DataW.trod enc Tryd.prog W base sp held m 70 [a, b] = some y0) (e : y0.1 = .agg [.lit (.int .u64 x), .lit (.int .u64 y)]) :
    a = .int .u64 x ∧ b = .int .u64 y := by
  obtain ⟨xs, n, _, rfl, hl, hlen, hf⟩ := DataW.trod_struct Tryd.underlying70 h
  match xs, hlen with
  | [y0, y1], _ =>
    simp only [List.map_cons, List.map_nil, DataW.agg.injEq, List.cons.injEq, and_true] at e
    obtain ⟨e0, e1⟩ := e
    have h0 : DataW.trod enc Tryd.prog W base sp held n 23 [a] = some y0 := hf 0 _ rfl
    have h1 : DataW.trod enc Tryd.prog W base sp held n 23 [b] = some y1 := hf 1 _ rfl
    obtain ⟨a', ha, hx0, _⟩ := DataW.trod_int Tryd.underlying23 h0
    obtain ⟨b', hb, hx1, _⟩ := DataW.trod_int Tryd.underlying23 h1
    simp at ha hb hx0 hx1
    subst hx0; subst hx1
    simp at e0 e1
    subst ha; subst hb; subst e0; subst e1
    exact ⟨rfl, rfl⟩
set_option maxRecDepth 100000 in
theorem laid2_of {W : World} (h : laidMetH Tryd.prog [("hairsbreadth/format.table", Rows.laid_hairsbreadth_format_table), ("hairsbreadth/toint.ends", Rows.laid_hairsbreadth_toint_ends)] W) : Laid W ∧ LaidE W := by
  rw [MakeChecks.laidMetH_plain _ _ _ (by kernel_rfl)] at h
  obtain ⟨ps, ⟨g0, t0, cs0, f0, p0, q0, hg0, ht0, hv0, hd0, ⟨g1, t1, cs1, f1, p1, q1, hg1, ht1, hv1, hd1, _, _⟩, _⟩, _, _⟩ := h
  constructor
  · clear hg1 ht1 hv1 hd1
    obtain rfl := Option.some.inj (gTable.symm.trans hg0)
    obtain rfl := Option.some.inj (tTable.symm.trans ht0)
    have cell := fun i => World.var?_cell hg0 hv0 i
    obtain ⟨l⟩ := cs0
    obtain ⟨xs, m1, rfl, hx1, hlen, hn, hel⟩ := DataW.trod_array Tryd.underlying139 hd0
    rw [cTable] at hlen
    simp only at hlen
    match l, hlen with
    | [c0, c1, c2, c3, c4, c5, c6, c7, c8, c9, c10, c11], _ =>
      match xs, hn with
      | [x0, x1, x2, x3], _ =>
        simp only [Prod.mk.injEq, Rows.laid_hairsbreadth_format_table, DataW.agg.injEq, List.map_cons, List.map_nil, List.cons.injEq, and_true] at hx1
        obtain ⟨⟨e0, e1, e2, e3⟩, _⟩ := hx1
        have h0 := hel 0 (by decide)
        have h1 := hel 1 (by decide)
        have h2 := hel 2 (by decide)
        have h3 := hel 3 (by decide)
        rw [cRow] at h0 h1 h2 h3
        obtain ⟨r0, r1, r2⟩ := row_cells (show DataW.trod _ _ _ _ _ _ _ _ [c0, c1, c2] = some x0 from h0) e0.symm
        obtain ⟨r3, r4, r5⟩ := row_cells (show DataW.trod _ _ _ _ _ _ _ _ [c3, c4, c5] = some x1 from h1) e1.symm
        obtain ⟨r6, r7, r8⟩ := row_cells (show DataW.trod _ _ _ _ _ _ _ _ [c6, c7, c8] = some x2 from h2) e2.symm
        obtain ⟨r9, r10, r11⟩ := row_cells (show DataW.trod _ _ _ _ _ _ _ _ [c9, c10, c11] = some x3 from h3) e3.symm
        subst r0; subst r1; subst r2; subst r3; subst r4; subst r5; subst r6; subst r7; subst r8; subst r9; subst r10; subst r11
        exact ⟨cell 0, cell 1, cell 2, cell 3, cell 4, cell 5, cell 6, cell 7, cell 8, cell 9, cell 10, cell 11⟩
  · clear hg0 ht0 hv0 hd0
    obtain rfl := Option.some.inj (gEnds.symm.trans hg1)
    obtain rfl := Option.some.inj (tEnds.symm.trans ht1)
    have cell := fun i => World.var?_cell hg1 hv1 i
    obtain ⟨l⟩ := cs1
    obtain ⟨xs, m1, rfl, hx1, hlen, hn, hel⟩ := DataW.trod_array Tryd.underlying117 hd1
    rw [cEnds] at hlen
    simp only at hlen
    match l, hlen with
    | [c0, c1, c2, c3, c4, c5, c6, c7], _ =>
      match xs, hn with
      | [x0, x1, x2, x3], _ =>
        simp only [Prod.mk.injEq, Rows.laid_hairsbreadth_toint_ends, DataW.agg.injEq, List.map_cons, List.map_nil, List.cons.injEq, and_true] at hx1
        obtain ⟨⟨e0, e1, e2, e3⟩, _⟩ := hx1
        have h0 := hel 0 (by decide)
        have h1 := hel 1 (by decide)
        have h2 := hel 2 (by decide)
        have h3 := hel 3 (by decide)
        rw [cSize] at h0 h1 h2 h3
        obtain ⟨r0, r1⟩ := size_cells (show DataW.trod _ _ _ _ _ _ _ _ [c0, c1] = some x0 from h0) e0.symm
        obtain ⟨r2, r3⟩ := size_cells (show DataW.trod _ _ _ _ _ _ _ _ [c2, c3] = some x1 from h1) e1.symm
        obtain ⟨r4, r5⟩ := size_cells (show DataW.trod _ _ _ _ _ _ _ _ [c4, c5] = some x2 from h2) e2.symm
        obtain ⟨r6, r7⟩ := size_cells (show DataW.trod _ _ _ _ _ _ _ _ [c6, c7] = some x3 from h3) e3.symm
        subst r0; subst r1; subst r2; subst r3; subst r4; subst r5; subst r6; subst r7
        exact ⟨cell 0, cell 1, cell 2, cell 3, cell 4, cell 5, cell 6, cell 7⟩
set_option maxRecDepth 100000 in
/-- The door's own heap meets the condition. -/
theorem door_met2 (os : Os) (args : Array Value) : laidMetH Tryd.prog [("hairsbreadth/format.table", Rows.laid_hairsbreadth_format_table), ("hairsbreadth/toint.ends", Rows.laid_hairsbreadth_toint_ends)] ((World.doorLaid Tryd.prog 400 os).forCall (fun _ _ => 0) ⟨#[], args, []⟩).memory :=
  laidMetH_of_parts3 (fuel := 8) (laidMet_of_run' 8 (by kernel_rfl) (by kernel_rfl)) (by kernel_rfl) (by kernel_rfl)
end Go.Proofs.YthbpbbbngablpaaDoor
