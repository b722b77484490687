/- The frame of the rows: arguments of plain data opened and shut again, the listed table read, the end of a law that answers true. No condition. What the rows' condition on the listed table gives: the table's twelve cells; and that the door's own heap meets it. No condition. -/
import Derived.Test.YtkpjeceofcfnkaaGreatDoorRows
import Derived.Test.YtkpjeceofcfnkaaGreatDoorFormat
import Derived.Test.YtkpjeceofcfnkaaGreatDoorMath
import Derived.Below
import Derived.ChangeSame
import Derived.ChangeVars
import Derived.OpenShut
import Derived.JoinedOf
import Derived.RowKit
import Derived.LaidLaws
import Derived.LaidHandle
import Derived.LaidMore
import Derived.ProofKit
import Derived.Stop.Joined
import Derived.Lib.SmallJoins
import Derived.Laws.IdiomArrays
set_option maxRecDepth 100000
set_option maxHeartbeats 1000000
set_option linter.unusedSimpArgs false
set_option linter.unusedVariables false
namespace Go.Proofs.YtkpjeceofcfnkaaGreatDoor
open Go.ChangeShapes Go.WideShapes Go.RowKit Go.Hb

section
variable {H : Type} {enc : TypeId × Value → H} {P : Program} {w : World} {base : Nat} {sp : Nat → Bool} {held : Bool}
/-- A reading that goes through no memory: it stands in every world. -/
def PlainAt (enc : TypeId × Value → H) (P : Program) (t : TypeId) (v : Value) (d : DataW H) : Prop := ∀ (w : World) (base : Nat) (sp : Nat → Bool) (held : Bool), DataW.Trod enc P w base sp held t v d []
theorem plain_int {r : Reach} {b0 : Nat} {t : TypeId} {k : IntKind} {v : Value} {d : DataW H} {ps : List MemPlace} (ht : P.underlying t = some (.int k)) (hval : Value.okWide P w r b0 t v) (hd : DataW.Trod enc P w base sp held t v d ps) :
    ∃ n, v = .int k n ∧ ps = [] ∧ (Lit.int k n).wf = true ∧ PlainAt enc P t (.int k n) d := by
  obtain ⟨n, rfl, rfl, rfl, hw⟩ := open_int ht hval hd
  exact ⟨n, rfl, rfl, hw, fun _ _ _ _ => shut_int ht hw⟩
theorem plain_bool {r : Reach} {b0 : Nat} {t : TypeId} {v : Value} {d : DataW H} {ps : List MemPlace} (ht : P.underlying t = some .bool) (hval : Value.okWide P w r b0 t v) (hd : DataW.Trod enc P w base sp held t v d ps) :
    ∃ b, v = .bool b ∧ ps = [] ∧ PlainAt enc P t (.bool b) d := by
  obtain ⟨b, rfl, rfl, rfl⟩ := open_bool ht hval hd
  exact ⟨b, rfl, rfl, fun _ _ _ _ => shut_bool ht b⟩
theorem cell_int {w : World} {base : Nat} {sp : Nat → Bool} {held : Bool} {t : TypeId} {k : IntKind} {n : Int} (ht : P.underlying t = some (.int k)) (hw : (Lit.int k n).wf = true) : ∃ m, DataW.trod enc P w base sp held m t [.int k n] = some (.lit (.int k n), []) := by
  have h := shut_int (enc := enc) (w := w) (base := base) (spare := sp) (held := held) ht hw
  obtain ⟨m, h⟩ := h
  exact ⟨m, by simpa [Value.cells] using h⟩
theorem cell_bool {w : World} {base : Nat} {sp : Nat → Bool} {held : Bool} {t : TypeId} {b : Bool} (ht : P.underlying t = some .bool) : ∃ m, DataW.trod enc P w base sp held m t [.bool b] = some (.lit (.bool b), []) := by
  have h := shut_bool (enc := enc) (w := w) (base := base) (spare := sp) (held := held) ht b
  obtain ⟨m, h⟩ := h
  exact ⟨m, by simpa [Value.cells] using h⟩
/-- 128 bits. -/
theorem plain_two {r : Reach} {b0 : Nat} {t : TypeId} {f0 f1 : Field} {k0 k1 : IntKind} {v : Value} {d : DataW H} {ps : List MemPlace} (hs : P.underlying t = some (.struct #[f0, f1])) (hone : Deep.oneCellFields P #[f0, f1] = true) (hC : P.cellsOf t = 2)
    (h0 : P.underlying f0.type = some (.int k0)) (h1 : P.underlying f1.type = some (.int k1)) (hv : Value.okWide P w r b0 t v) (hd : DataW.Trod enc P w base sp held t v d ps) :
    ∃ x y, v = .agg #[.int k0 x, .int k1 y] ∧ ps = [] ∧ (Lit.int k0 x).wf = true ∧ (Lit.int k1 y).wf = true ∧ PlainAt enc P t (.agg #[.int k0 x, .int k1 y]) d := by
  obtain ⟨v0, v1, y0, y1, n, rfl, rfl, rfl, e0, e1⟩ := Joins.open_agg2 hs hone hC hv hd
  obtain ⟨x, hx, rfl, wx⟩ := DataW.trod_int h0 e0
  obtain ⟨y, hy, rfl, wy⟩ := DataW.trod_int h1 e1
  simp only [List.cons.injEq, and_true] at hx hy
  subst hx; subst hy
  exact ⟨x, y, rfl, rfl, wx, wy, fun _ _ _ _ => Joins.shut_agg2 hs hone hC (cell_int h0 wx) (cell_int h1 wy)⟩
/-- A mode and a bool. -/
theorem plain_env {r : Reach} {b0 : Nat} {t : TypeId} {f0 f1 : Field} {k0 : IntKind} {v : Value} {d : DataW H} {ps : List MemPlace} (hs : P.underlying t = some (.struct #[f0, f1])) (hone : Deep.oneCellFields P #[f0, f1] = true) (hC : P.cellsOf t = 2)
    (h0 : P.underlying f0.type = some (.int k0)) (h1 : P.underlying f1.type = some .bool) (hv : Value.okWide P w r b0 t v) (hd : DataW.Trod enc P w base sp held t v d ps) :
    ∃ x y, v = .agg #[.int k0 x, .bool y] ∧ ps = [] ∧ (Lit.int k0 x).wf = true ∧ PlainAt enc P t (.agg #[.int k0 x, .bool y]) d := by
  obtain ⟨v0, v1, y0, y1, n, rfl, rfl, rfl, e0, e1⟩ := Joins.open_agg2 hs hone hC hv hd
  obtain ⟨x, hx, rfl, wx⟩ := DataW.trod_int h0 e0
  obtain ⟨y, hy, rfl⟩ := DataW.trod_bool h1 e1
  simp only [List.cons.injEq, and_true] at hx hy
  subst hx; subst hy
  exact ⟨x, y, rfl, rfl, wx, fun _ _ _ _ => Joins.shut_agg2 hs hone hC (cell_int h0 wx) (cell_bool h1)⟩
/-- 256 bits. -/
theorem plain_four {r : Reach} {b0 : Nat} {t e : TypeId} {k : IntKind} {v : Value} {d : DataW H} {ps : List MemPlace} (hs : P.underlying t = some (.array 4 e)) (hC : P.cellsOf t = 4) (hce : P.cellsOf e = 1)
    (h0 : P.underlying e = some (.int k)) (hv : Value.okWide P w r b0 t v) (hd : DataW.Trod enc P w base sp held t v d ps) :
    ∃ a b c x, v = .agg #[.int k a, .int k b, .int k c, .int k x] ∧ ps = [] ∧ (Lit.int k a).wf = true ∧ (Lit.int k b).wf = true ∧ (Lit.int k c).wf = true ∧ (Lit.int k x).wf = true ∧ PlainAt enc P t (.agg #[.int k a, .int k b, .int k c, .int k x]) d := by
  obtain ⟨cs, rfl, hsz⟩ : ∃ cs, v = .agg cs ∧ cs.size = P.cellsOf t := by
    unfold Value.okWide at hv; rw [hs] at hv; obtain ⟨cs, h, h2, _⟩ := hv; exact ⟨cs, h, h2⟩
  obtain ⟨c0, c1, c2, c3, rfl⟩ := Joins.array4 (hsz.trans hC)
  obtain ⟨fuel, hf⟩ := hd
  have hf0 := hf
  obtain ⟨y0, y1, y2, y3, n, hx, e0, e1, e2, e3⟩ := trod_array4 hs hce (by simpa [Value.cells] using hf)
  obtain ⟨a, ha, rfl, wa⟩ := DataW.trod_int h0 e0
  obtain ⟨b, hb, rfl, wb⟩ := DataW.trod_int h0 e1
  obtain ⟨c, hc, rfl, wc⟩ := DataW.trod_int h0 e2
  obtain ⟨x, hx', rfl, wx⟩ := DataW.trod_int h0 e3
  simp only [List.cons.injEq, and_true] at ha hb hc hx'
  subst ha; subst hb; subst hc; subst hx'
  simp only [Prod.mk.injEq] at hx
  obtain ⟨rfl, rfl⟩ := hx
  refine ⟨a, b, c, x, rfl, rfl, wa, wb, wc, wx, fun w' base' sp' held' => ?_⟩
  refine ⟨2, ?_⟩
  have r4 : List.range 4 = [0, 1, 2, 3] := rfl
  have one : ∀ z : Int, (Lit.int k z).wf = true → DataW.trod enc P w' base' sp' held' 1 e [.int k z] = some (.lit (.int k z), []) := fun z hz => by simp [DataW.trod, h0, hz]
  unfold DataW.trod
  simp [hs, Value.cells, hC, hce, r4, one a wa, one b wb, one c wc, one x wx]
/-- The end of a law whose arguments go through no memory. -/
theorem post_plain {f : Func} {s : ChangeSpec} {apart fresh handsOn again : Bool} {W W' : World} {args : Array Value} {v : Value} {ds gs : List (DataW H)}
    (hW : DataW.Whole enc P f.params.toList s.vars apart W args.toList ds gs [])
    (hres : ∀ (b : Nat) (sp : Nat → Bool) (hd : Bool), DataW.TrodAll enc P W' b sp hd f.resultTypes.toList (v.resultList f.resultTypes.size) (s.fn H (ds ++ gs)).results [])
    (hargs : ∀ sp : Nat → Bool, DataW.TrodAll enc P W' 0 sp true f.params.toList args.toList (s.fn H (ds ++ gs)).args [])
    (hvars : ∀ sp : Nat → Bool, DataW.TrodVars enc P W' sp s.vars (s.fn H (ds ++ gs)).vars []) (hb : Below W.heap.size W W')
    (hok : ∀ (j : Nat) (t : TypeId) (r : Value), f.resultTypes[j]? = some t → (v.resultList f.resultTypes.size)[j]? = some r → Value.okWide P W' .any 0 t r) :
    s.post enc P f apart fresh handsOn again W args v W' := by
  refine ⟨ds, gs, [], [], [], [], hW, hres _ _ _, hargs _, hvars _, hb.frame _, fun _ => ?_⟩
  refine ⟨hok, _, _, [], ⟨[], [], trodAll_append (hargs _) (hres _ _ _), hvars _, rfl, ?_, ?_⟩, ?_⟩
  · intro b off hp; cases hp
  · intro _; exact List.nodup_nil
  · intro p hp; cases hp
theorem trodAll_nil_mk {w : World} {base : Nat} {sp : Nat → Bool} {held : Bool} {t : TypeId} {ts : List TypeId} {v : Value} {vs : List Value} {d : DataW H} {ds : List (DataW H)}
    (h : DataW.Trod enc P w base sp held t v d []) (hs : DataW.TrodAll enc P w base sp held ts vs ds []) : DataW.TrodAll enc P w base sp held (t :: ts) (v :: vs) (d :: ds) [] := ⟨[], [], h, hs, rfl⟩
theorem trodAll_peel {w : World} {base : Nat} {sp : Nat → Bool} {held : Bool} {t : TypeId} {ts : List TypeId} {args : List Value} {ds : List (DataW H)} {p : List MemPlace}
    (h : DataW.TrodAll enc P w base sp held (t :: ts) args ds p) : ∃ v vs d ds' p1 p2, args = v :: vs ∧ ds = d :: ds' ∧ DataW.Trod enc P w base sp held t v d p1 ∧ DataW.TrodAll enc P w base sp held ts vs ds' p2 ∧ p = p1 ++ p2 := by
  cases args with
  | nil => cases ds <;> exact h.elim
  | cons v vs =>
    cases ds with
    | nil => exact h.elim
    | cons d ds' =>
      obtain ⟨p1, p2, h1, h2, rfl⟩ := h
      exact ⟨v, vs, d, ds', p1, p2, rfl, rfl, h1, h2, rfl⟩
theorem trodAll_end {w : World} {base : Nat} {sp : Nat → Bool} {held : Bool} {args : List Value} {ds : List (DataW H)} {p : List MemPlace}
    (h : DataW.TrodAll enc P w base sp held [] args ds p) : args = [] ∧ ds = [] ∧ p = [] := by
  cases args with
  | nil =>
    cases ds with
    | nil => exact ⟨rfl, rfl, h⟩
    | cons d ds' => exact h.elim
  | cons v vs => cases ds <;> exact h.elim
theorem trodAll_none {w : World} {base : Nat} {sp : Nat → Bool} {held : Bool} : DataW.TrodAll enc P w base sp held [] [] [] [] := rfl
end
theorem u8_wf {n : Int} (h : (Lit.int .u8 n).wf = true) : U8 n := by
  simp only [Lit.wf, Bool.and_eq_true, decide_eq_true_eq] at h
  have h1 : IntKind.min .u8 = 0 := by decide
  have h2 : IntKind.max .u8 = 255 := by decide
  exact ⟨by omega, by omega⟩
theorem u64_wf {n : Int} (h : (Lit.int .u64 n).wf = true) : U64 n := by
  simp only [Lit.wf, Bool.and_eq_true, decide_eq_true_eq] at h
  have h1 : IntKind.min .u64 = 0 := by decide
  have h2 : IntKind.max .u64 = 18446744073709551615 := by decide
  exact ⟨by omega, by omega⟩
theorem i64_wf {n : Int} (h : (Lit.int .i64 n).wf = true) : I64 n := by
  simp only [Lit.wf, Bool.and_eq_true, decide_eq_true_eq] at h
  have h1 : IntKind.min .i64 = -9223372036854775808 := by decide
  have h2 : IntKind.max .i64 = 9223372036854775807 := by decide
  exact ⟨by omega, by omega⟩
end Go.Proofs.YtkpjeceofcfnkaaGreatDoor

namespace Go.Proofs.YtkpjeceofcfnkaaGreatDoor
open Go.ChangeShapes Go.WideShapes Go.RowKit Go.Hb
theorem own0 : ownKnob Tryz.prog.godebug = none := by kernel_rfl
theorem gTable : Tryz.prog.globalNamed "hairsbreadth/format.table" = some 0 := by kernel_rfl
theorem tTable : (Tryz.prog.globals[0]?).map (·.type) = some 144 := by kernel_rfl
theorem cTable : Tryz.prog.cellsOf 144 = 12 := by kernel_rfl
theorem cRow : Tryz.prog.cellsOf 114 = 3 := by kernel_rfl
theorem cInt : Tryz.prog.cellsOf 3 = 1 := by kernel_rfl
theorem row_cells {W : World} {m : Nat} {a b c : Value} {x y z : Int} {y0 : DataW Unit × List MemPlace} {base : Nat} {sp : Nat → Bool} {held : Bool} {enc : TypeId × Value → Unit}
    (h : DataW.trod enc Tryz.prog W base sp held m 114 [a, b, c] = some y0) (e : y0.1 = .agg [.lit (.int .i64 x), .lit (.int .i64 y), .lit (.int .i64 z)]) :
    a = .int .i64 x ∧ b = .int .i64 y ∧ c = .int .i64 z := by
  obtain ⟨z0, z1, z2, n, hx, _, h0, h1, h2⟩ := Deep.trod_struct3 Tryz.underlying114 h
  subst hx
  simp only [DataW.agg.injEq, List.cons.injEq, and_true] at e
  obtain ⟨e0, e1, e2⟩ := e
  rw [cInt] at h0 h1 h2
  obtain ⟨a', ha, rfl, _⟩ := DataW.trod_int Tryz.underlying3 h0
  obtain ⟨b', hb, rfl, _⟩ := DataW.trod_int Tryz.underlying3 h1
  obtain ⟨c', hc, rfl, _⟩ := DataW.trod_int Tryz.underlying3 h2
  simp at ha hb hc e0 e1 e2
  subst ha; subst hb; subst hc; subst e0; subst e1; subst e2
  exact ⟨rfl, rfl, rfl⟩
theorem laid_of {W : World} (h : laidMetH Tryz.prog [("hairsbreadth/format.table", Rows.laid_hairsbreadth_format_table)] W) : Laid W := by
  rw [MakeChecks.laidMetH_plain _ _ _ (by kernel_rfl)] at h
  obtain ⟨ps, ⟨g0, t0, cs0, f0, p0, q0, hg0, ht0, hv0, hd0, _, _⟩, _, _⟩ := h
  obtain rfl := Option.some.inj (gTable.symm.trans hg0)
  obtain rfl := Option.some.inj (tTable.symm.trans ht0)
  have cell := fun i => World.var?_cell hg0 hv0 i
  obtain ⟨l⟩ := cs0
  obtain ⟨xs, m1, rfl, hx1, hlen, hn, hel⟩ := DataW.trod_array Tryz.underlying144 hd0
  rw [cTable] at hlen
  simp only at hlen
  match l, hlen with
  | [c0, c1, c2, c3, c4, c5, c6, c7, c8, c9, c10, c11], _ =>
    match xs, hn with
    | [x0, x1, x2, x3], _ =>
      simp only [Prod.mk.injEq, Rows.laid_hairsbreadth_format_table, DataW.agg.injEq, List.map_cons, List.map_nil, List.cons.injEq, and_true] at hx1
      obtain ⟨⟨e0, e1, e2, e3⟩, _⟩ := hx1
      have h0 := hel 0 (by decide)
      have h1 := hel 1 (by decide)
      have h2 := hel 2 (by decide)
      have h3 := hel 3 (by decide)
      rw [cRow] at h0 h1 h2 h3
      obtain ⟨r0, r1, r2⟩ := row_cells (show DataW.trod _ _ _ _ _ _ _ _ [c0, c1, c2] = some x0 from h0) e0.symm
      obtain ⟨r3, r4, r5⟩ := row_cells (show DataW.trod _ _ _ _ _ _ _ _ [c3, c4, c5] = some x1 from h1) e1.symm
      obtain ⟨r6, r7, r8⟩ := row_cells (show DataW.trod _ _ _ _ _ _ _ _ [c6, c7, c8] = some x2 from h2) e2.symm
      obtain ⟨r9, r10, r11⟩ := row_cells (show DataW.trod _ _ _ _ _ _ _ _ [c9, c10, c11] = some x3 from h3) e3.symm
      subst r0; subst r1; subst r2; subst r3; subst r4; subst r5; subst r6; subst r7; subst r8; subst r9; subst r10; subst r11
      exact ⟨cell 0, cell 1, cell 2, cell 3, cell 4, cell 5, cell 6, cell 7, cell 8, cell 9, cell 10, cell 11⟩
/-- The door's own heap meets the condition. -/
theorem door_met (os : Os) (args : Array Value) : laidMetH Tryz.prog [("hairsbreadth/format.table", Rows.laid_hairsbreadth_format_table)] ((World.doorLaid Tryz.prog 400 os).forCall (fun _ _ => 0) ⟨#[], args, []⟩).memory :=
  laidMetH_of_parts3 (fuel := 8) (laidMet_of_run' 8 (by kernel_rfl) (by kernel_rfl)) (by kernel_rfl) (by kernel_rfl)
end Go.Proofs.YtkpjeceofcfnkaaGreatDoor
