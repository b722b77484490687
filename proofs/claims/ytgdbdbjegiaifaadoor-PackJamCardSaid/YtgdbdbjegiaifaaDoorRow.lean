/- The frame of the rows: arguments of plain data opened and shut again, the listed table read, the end of a law that answers true. No condition. -/
import Derived.Test.YtgdbdbjegiaifaaDoorRows
import Derived.Test.YtgdbdbjegiaifaaDoorFormat
import Derived.Test.YtgdbdbjegiaifaaDoorInts
import Derived.Below
import Derived.ChangeSame
import Derived.ChangeVars
import Derived.OpenShut
import Derived.JoinedOf
import Derived.RowKit
import Derived.LaidLaws
import Derived.LaidHandle
import Derived.LaidMore
import Derived.ProofKit
import Derived.Stop.Joined
import Derived.Lib.SmallJoins
import Derived.Laws.IdiomArrays
set_option linter.unusedSimpArgs false
set_option linter.unusedVariables false
namespace Go.Proofs.YtgdbdbjegiaifaaDoor
open Go.ChangeShapes Go.WideShapes Go.RowKit Go.Hb

section
variable {H : Type} {enc : TypeId × Value → H} {P : Program} {w : World} {base : Nat} {sp : Nat → Bool} {held : Bool}
/-- A reading that goes through no memory: it stands in every world. -/
def PlainAt (enc : TypeId × Value → H) (P : Program) (t : TypeId) (v : Value) (d : DataW H) : Prop := ∀ (w : World) (base : Nat) (sp : Nat → Bool) (held : Bool), DataW.Trod enc P w base sp held t v d []
theorem plain_int {r : Reach} {b0 : Nat} {t : TypeId} {k : IntKind} {v : Value} {d : DataW H} {ps : List MemPlace} (ht : P.underlying t = some (.int k)) (hval : Value.okWide P w r b0 t v) (hd : DataW.Trod enc P w base sp held t v d ps) :
    ∃ n, v = .int k n ∧ ps = [] ∧ (Lit.int k n).wf = true ∧ PlainAt enc P t (.int k n) d := by
  obtain ⟨n, rfl, rfl, rfl, hw⟩ := open_int ht hval hd
  exact ⟨n, rfl, rfl, hw, fun _ _ _ _ => shut_int ht hw⟩
theorem plain_bool {r : Reach} {b0 : Nat} {t : TypeId} {v : Value} {d : DataW H} {ps : List MemPlace} (ht : P.underlying t = some .bool) (hval : Value.okWide P w r b0 t v) (hd : DataW.Trod enc P w base sp held t v d ps) :
    ∃ b, v = .bool b ∧ ps = [] ∧ PlainAt enc P t (.bool b) d := by
  obtain ⟨b, rfl, rfl, rfl⟩ := open_bool ht hval hd
  exact ⟨b, rfl, rfl, fun _ _ _ _ => shut_bool ht b⟩
theorem cell_int {w : World} {base : Nat} {sp : Nat → Bool} {held : Bool} {t : TypeId} {k : IntKind} {n : Int} (ht : P.underlying t = some (.int k)) (hw : (Lit.int k n).wf = true) : ∃ m, DataW.trod enc P w base sp held m t [.int k n] = some (.lit (.int k n), []) := by
  have h := shut_int (enc := enc) (w := w) (base := base) (spare := sp) (held := held) ht hw
  obtain ⟨m, h⟩ := h
  exact ⟨m, by simpa [Value.cells] using h⟩
theorem cell_bool {w : World} {base : Nat} {sp : Nat → Bool} {held : Bool} {t : TypeId} {b : Bool} (ht : P.underlying t = some .bool) : ∃ m, DataW.trod enc P w base sp held m t [.bool b] = some (.lit (.bool b), []) := by
  have h := shut_bool (enc := enc) (w := w) (base := base) (spare := sp) (held := held) ht b
  obtain ⟨m, h⟩ := h
  exact ⟨m, by simpa [Value.cells] using h⟩
/-- 128 bits. -/
theorem plain_two {r : Reach} {b0 : Nat} {t : TypeId} {f0 f1 : Field} {k0 k1 : IntKind} {v : Value} {d : DataW H} {ps : List MemPlace} (hs : P.underlying t = some (.struct #[f0, f1])) (hone : Deep.oneCellFields P #[f0, f1] = true) (hC : P.cellsOf t = 2)
    (h0 : P.underlying f0.type = some (.int k0)) (h1 : P.underlying f1.type = some (.int k1)) (hv : Value.okWide P w r b0 t v) (hd : DataW.Trod enc P w base sp held t v d ps) :
    ∃ x y, v = .agg #[.int k0 x, .int k1 y] ∧ ps = [] ∧ (Lit.int k0 x).wf = true ∧ (Lit.int k1 y).wf = true ∧ PlainAt enc P t (.agg #[.int k0 x, .int k1 y]) d := by
  obtain ⟨v0, v1, y0, y1, n, rfl, rfl, rfl, e0, e1⟩ := Joins.open_agg2 hs hone hC hv hd
  obtain ⟨x, hx, rfl, wx⟩ := DataW.trod_int h0 e0
  obtain ⟨y, hy, rfl, wy⟩ := DataW.trod_int h1 e1
  simp only [List.cons.injEq, and_true] at hx hy
  subst hx; subst hy
  exact ⟨x, y, rfl, rfl, wx, wy, fun _ _ _ _ => Joins.shut_agg2 hs hone hC (cell_int h0 wx) (cell_int h1 wy)⟩
/-- A mode and a bool. -/
theorem plain_env {r : Reach} {b0 : Nat} {t : TypeId} {f0 f1 : Field} {k0 : IntKind} {v : Value} {d : DataW H} {ps : List MemPlace} (hs : P.underlying t = some (.struct #[f0, f1])) (hone : Deep.oneCellFields P #[f0, f1] = true) (hC : P.cellsOf t = 2)
    (h0 : P.underlying f0.type = some (.int k0)) (h1 : P.underlying f1.type = some .bool) (hv : Value.okWide P w r b0 t v) (hd : DataW.Trod enc P w base sp held t v d ps) :
    ∃ x y, v = .agg #[.int k0 x, .bool y] ∧ ps = [] ∧ (Lit.int k0 x).wf = true ∧ PlainAt enc P t (.agg #[.int k0 x, .bool y]) d := by
  obtain ⟨v0, v1, y0, y1, n, rfl, rfl, rfl, e0, e1⟩ := Joins.open_agg2 hs hone hC hv hd
  obtain ⟨x, hx, rfl, wx⟩ := DataW.trod_int h0 e0
  obtain ⟨y, hy, rfl⟩ := DataW.trod_bool h1 e1
  simp only [List.cons.injEq, and_true] at hx hy
  subst hx; subst hy
  exact ⟨x, y, rfl, rfl, wx, fun _ _ _ _ => Joins.shut_agg2 hs hone hC (cell_int h0 wx) (cell_bool h1)⟩
/-- 256 bits. -/
theorem plain_four {r : Reach} {b0 : Nat} {t e : TypeId} {k : IntKind} {v : Value} {d : DataW H} {ps : List MemPlace} (hs : P.underlying t = some (.array 4 e)) (hC : P.cellsOf t = 4) (hce : P.cellsOf e = 1)
    (h0 : P.underlying e = some (.int k)) (hv : Value.okWide P w r b0 t v) (hd : DataW.Trod enc P w base sp held t v d ps) :
    ∃ a b c x, v = .agg #[.int k a, .int k b, .int k c, .int k x] ∧ ps = [] ∧ (Lit.int k a).wf = true ∧ (Lit.int k b).wf = true ∧ (Lit.int k c).wf = true ∧ (Lit.int k x).wf = true ∧ PlainAt enc P t (.agg #[.int k a, .int k b, .int k c, .int k x]) d := by
  obtain ⟨cs, rfl, hsz⟩ : ∃ cs, v = .agg cs ∧ cs.size = P.cellsOf t := by
    unfold Value.okWide at hv; rw [hs] at hv; obtain ⟨cs, h, h2, _⟩ := hv; exact ⟨cs, h, h2⟩
  obtain ⟨c0, c1, c2, c3, rfl⟩ := Joins.array4 (hsz.trans hC)
  obtain ⟨fuel, hf⟩ := hd
  have hf0 := hf
  obtain ⟨y0, y1, y2, y3, n, hx, e0, e1, e2, e3⟩ := trod_array4 hs hce (by simpa [Value.cells] using hf)
  obtain ⟨a, ha, rfl, wa⟩ := DataW.trod_int h0 e0
  obtain ⟨b, hb, rfl, wb⟩ := DataW.trod_int h0 e1
  obtain ⟨c, hc, rfl, wc⟩ := DataW.trod_int h0 e2
  obtain ⟨x, hx', rfl, wx⟩ := DataW.trod_int h0 e3
  simp only [List.cons.injEq, and_true] at ha hb hc hx'
  subst ha; subst hb; subst hc; subst hx'
  simp only [Prod.mk.injEq] at hx
  obtain ⟨rfl, rfl⟩ := hx
  refine ⟨a, b, c, x, rfl, rfl, wa, wb, wc, wx, fun w' base' sp' held' => ?_⟩
  refine ⟨2, ?_⟩
  have r4 : List.range 4 = [0, 1, 2, 3] := rfl
  have one : ∀ z : Int, (Lit.int k z).wf = true → DataW.trod enc P w' base' sp' held' 1 e [.int k z] = some (.lit (.int k z), []) := fun z hz => by simp [DataW.trod, h0, hz]
  unfold DataW.trod
  simp [hs, Value.cells, hC, hce, r4, one a wa, one b wb, one c wc, one x wx]
/-- The end of a law whose arguments go through no memory. -/
theorem post_plain {f : Func} {s : ChangeSpec} {apart fresh handsOn again : Bool} {W W' : World} {args : Array Value} {v : Value} {ds gs : List (DataW H)}
    (hW : DataW.Whole enc P f.params.toList s.vars apart W args.toList ds gs [])
    (hres : ∀ (b : Nat) (sp : Nat → Bool) (hd : Bool), DataW.TrodAll enc P W' b sp hd f.resultTypes.toList (v.resultList f.resultTypes.size) (s.fn H (ds ++ gs)).results [])
    (hargs : ∀ sp : Nat → Bool, DataW.TrodAll enc P W' 0 sp true f.params.toList args.toList (s.fn H (ds ++ gs)).args [])
    (hvars : ∀ sp : Nat → Bool, DataW.TrodVars enc P W' sp s.vars (s.fn H (ds ++ gs)).vars []) (hb : Below W.heap.size W W')
    (hok : ∀ (j : Nat) (t : TypeId) (r : Value), f.resultTypes[j]? = some t → (v.resultList f.resultTypes.size)[j]? = some r → Value.okWide P W' .any 0 t r) :
    s.post enc P f apart fresh handsOn again W args v W' := by
  refine ⟨ds, gs, [], [], [], [], hW, hres _ _ _, hargs _, hvars _, hb.frame _, fun _ => ?_⟩
  refine ⟨hok, _, _, [], ⟨[], [], trodAll_append (hargs _) (hres _ _ _), hvars _, rfl, ?_, ?_⟩, ?_⟩
  · intro b off hp; cases hp
  · intro _; exact List.nodup_nil
  · intro p hp; cases hp
theorem trodAll_nil_mk {w : World} {base : Nat} {sp : Nat → Bool} {held : Bool} {t : TypeId} {ts : List TypeId} {v : Value} {vs : List Value} {d : DataW H} {ds : List (DataW H)}
    (h : DataW.Trod enc P w base sp held t v d []) (hs : DataW.TrodAll enc P w base sp held ts vs ds []) : DataW.TrodAll enc P w base sp held (t :: ts) (v :: vs) (d :: ds) [] := ⟨[], [], h, hs, rfl⟩
theorem trodAll_peel {w : World} {base : Nat} {sp : Nat → Bool} {held : Bool} {t : TypeId} {ts : List TypeId} {args : List Value} {ds : List (DataW H)} {p : List MemPlace}
    (h : DataW.TrodAll enc P w base sp held (t :: ts) args ds p) : ∃ v vs d ds' p1 p2, args = v :: vs ∧ ds = d :: ds' ∧ DataW.Trod enc P w base sp held t v d p1 ∧ DataW.TrodAll enc P w base sp held ts vs ds' p2 ∧ p = p1 ++ p2 := by
  cases args with
  | nil => cases ds <;> exact h.elim
  | cons v vs =>
    cases ds with
    | nil => exact h.elim
    | cons d ds' =>
      obtain ⟨p1, p2, h1, h2, rfl⟩ := h
      exact ⟨v, vs, d, ds', p1, p2, rfl, rfl, h1, h2, rfl⟩
theorem trodAll_end {w : World} {base : Nat} {sp : Nat → Bool} {held : Bool} {args : List Value} {ds : List (DataW H)} {p : List MemPlace}
    (h : DataW.TrodAll enc P w base sp held [] args ds p) : args = [] ∧ ds = [] ∧ p = [] := by
  cases args with
  | nil =>
    cases ds with
    | nil => exact ⟨rfl, rfl, h⟩
    | cons d ds' => exact h.elim
  | cons v vs => cases ds <;> exact h.elim
theorem trodAll_none {w : World} {base : Nat} {sp : Nat → Bool} {held : Bool} : DataW.TrodAll enc P w base sp held [] [] [] [] := rfl
end
theorem u8_wf {n : Int} (h : (Lit.int .u8 n).wf = true) : U8 n := by
  simp only [Lit.wf, Bool.and_eq_true, decide_eq_true_eq] at h
  have h1 : IntKind.min .u8 = 0 := by decide
  have h2 : IntKind.max .u8 = 255 := by decide
  exact ⟨by omega, by omega⟩
theorem u64_wf {n : Int} (h : (Lit.int .u64 n).wf = true) : U64 n := by
  simp only [Lit.wf, Bool.and_eq_true, decide_eq_true_eq] at h
  have h1 : IntKind.min .u64 = 0 := by decide
  have h2 : IntKind.max .u64 = 18446744073709551615 := by decide
  exact ⟨by omega, by omega⟩
theorem i64_wf {n : Int} (h : (Lit.int .i64 n).wf = true) : I64 n := by
  simp only [Lit.wf, Bool.and_eq_true, decide_eq_true_eq] at h
  have h1 : IntKind.min .i64 = -9223372036854775808 := by decide
  have h2 : IntKind.max .i64 = 9223372036854775807 := by decide
  exact ⟨by omega, by omega⟩
end Go.Proofs.YtgdbdbjegiaifaaDoor
