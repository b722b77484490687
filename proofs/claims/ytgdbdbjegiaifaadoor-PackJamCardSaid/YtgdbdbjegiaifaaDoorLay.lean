/- What the rows' condition on the listed table gives: the table's twelve cells; and that the door's own heap meets it. No condition. -/
import Derived.Test.YtgdbdbjegiaifaaDoorRow
set_option linter.unusedSimpArgs false
set_option linter.unusedVariables false
namespace Go.Proofs.YtgdbdbjegiaifaaDoor
open Go.ChangeShapes Go.WideShapes Go.RowKit Go.Hb
theorem own0 : ownKnob Tryd.prog.godebug = none := by kernel_rfl
theorem gTable : Tryd.prog.globalNamed "hairsbreadth/format.table" = some 0 := by kernel_rfl
theorem tTable : (Tryd.prog.globals[0]?).map (·.type) = some 125 := by kernel_rfl
theorem cTable : Tryd.prog.cellsOf 125 = 12 := by kernel_rfl
theorem cRow : Tryd.prog.cellsOf 91 = 3 := by kernel_rfl
theorem cInt : Tryd.prog.cellsOf 3 = 1 := by kernel_rfl
theorem row_cells {W : World} {m : Nat} {a b c : Value} {x y z : Int} {y0 : DataW Unit × List MemPlace} {base : Nat} {sp : Nat → Bool} {held : Bool} {enc : TypeId × Value → Unit}
    (h : DataW.trod enc Tryd.prog W base sp held m 91 [a, b, c] = some y0) (e : y0.1 = .agg [.lit (.int .i64 x), .lit (.int .i64 y), .lit (.int .i64 z)]) :
    a = .int .i64 x ∧ b = .int .i64 y ∧ c = .int .i64 z := by
  obtain ⟨z0, z1, z2, n, hx, _, h0, h1, h2⟩ := Deep.trod_struct3 Tryd.underlying91 h
  subst hx
  simp only [DataW.agg.injEq, List.cons.injEq, and_true] at e
  obtain ⟨e0, e1, e2⟩ := e
  rw [cInt] at h0 h1 h2
  obtain ⟨a', ha, rfl, _⟩ := DataW.trod_int Tryd.underlying3 h0
  obtain ⟨b', hb, rfl, _⟩ := DataW.trod_int Tryd.underlying3 h1
  obtain ⟨c', hc, rfl, _⟩ := DataW.trod_int Tryd.underlying3 h2
  simp at ha hb hc e0 e1 e2
  subst ha; subst hb; subst hc; subst e0; subst e1; subst e2
  exact ⟨rfl, rfl, rfl⟩
set_option maxRecDepth 100000 in
theorem laid_of {W : World} (h : laidMetH Tryd.prog [("hairsbreadth/format.table", Rows.laid_hairsbreadth_format_table)] W) : Laid W := by
  rw [MakeChecks.laidMetH_plain _ _ _ (by kernel_rfl)] at h
  obtain ⟨ps, ⟨g0, t0, cs0, f0, p0, q0, hg0, ht0, hv0, hd0, _, _⟩, _, _⟩ := h
  obtain rfl := Option.some.inj (gTable.symm.trans hg0)
  obtain rfl := Option.some.inj (tTable.symm.trans ht0)
  have cell := fun i => World.var?_cell hg0 hv0 i
  obtain ⟨l⟩ := cs0
  obtain ⟨xs, m1, rfl, hx1, hlen, hn, hel⟩ := DataW.trod_array Tryd.underlying125 hd0
  rw [cTable] at hlen
  simp only at hlen
  match l, hlen with
  | [c0, c1, c2, c3, c4, c5, c6, c7, c8, c9, c10, c11], _ =>
    match xs, hn with
    | [x0, x1, x2, x3], _ =>
      simp only [Prod.mk.injEq, Rows.laid_hairsbreadth_format_table, DataW.agg.injEq, List.map_cons, List.map_nil, List.cons.injEq, and_true] at hx1
      obtain ⟨⟨e0, e1, e2, e3⟩, _⟩ := hx1
      have h0 := hel 0 (by decide)
      have h1 := hel 1 (by decide)
      have h2 := hel 2 (by decide)
      have h3 := hel 3 (by decide)
      rw [cRow] at h0 h1 h2 h3
      obtain ⟨r0, r1, r2⟩ := row_cells (show DataW.trod _ _ _ _ _ _ _ _ [c0, c1, c2] = some x0 from h0) e0.symm
      obtain ⟨r3, r4, r5⟩ := row_cells (show DataW.trod _ _ _ _ _ _ _ _ [c3, c4, c5] = some x1 from h1) e1.symm
      obtain ⟨r6, r7, r8⟩ := row_cells (show DataW.trod _ _ _ _ _ _ _ _ [c6, c7, c8] = some x2 from h2) e2.symm
      obtain ⟨r9, r10, r11⟩ := row_cells (show DataW.trod _ _ _ _ _ _ _ _ [c9, c10, c11] = some x3 from h3) e3.symm
      subst r0; subst r1; subst r2; subst r3; subst r4; subst r5; subst r6; subst r7; subst r8; subst r9; subst r10; subst r11
      exact ⟨cell 0, cell 1, cell 2, cell 3, cell 4, cell 5, cell 6, cell 7, cell 8, cell 9, cell 10, cell 11⟩
set_option maxRecDepth 100000 in
/-- The door's own heap meets the condition. -/
theorem door_met (os : Os) (args : Array Value) : laidMetH Tryd.prog [("hairsbreadth/format.table", Rows.laid_hairsbreadth_format_table)] ((World.doorLaid Tryd.prog 400 os).forCall (fun _ _ => 0) ⟨#[], args, []⟩).memory :=
  laidMetH_of_parts3 (fuel := 8) (laidMet_of_run' 8 (by kernel_rfl) (by kernel_rfl)) (by kernel_rfl) (by kernel_rfl)
end Go.Proofs.YtgdbdbjegiaifaaDoor
