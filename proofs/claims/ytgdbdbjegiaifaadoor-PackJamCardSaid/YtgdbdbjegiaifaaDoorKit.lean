/- Small lemmas for the walks: what a call leaves of older cells; results; the table of formats. No condition. -/
import Derived.Test.YtgdbdbjegiaifaaDoorProg
import Derived.Test.YtgdbdbjegiaifaaDoorMath
import Derived.WalkKit
import Derived.WalkSpells
import Derived.WalkLawsBesides
import Derived.Handy
import Derived.Laws.Externs
import Derived.Deep.RegionHeld3
import Derived.Deep.QuietTactic
import Derived.BigQuiet
import Derived.Deep.RegionWith
import Derived.Deep.DeepCutAuto
import Derived.Lib.Hide
set_option linter.unusedSimpArgs false
set_option linter.unusedVariables false
namespace Go.Proofs.YtgdbdbjegiaifaaDoor
open Go.RowKit Go.Hb

theorem bcell {W w1 : World} (hb : Below W.heap.size W w1) : (∀ b o, b < W.heap.size → w1.cell? ⟨b, o, none⟩ = W.cell? ⟨b, o, none⟩) ∧ (∀ b o, b < W.heap.size → w1.frozen? ⟨b, o, none⟩ = W.frozen? ⟨b, o, none⟩) :=
  ⟨fun b o h => hb.cell (p := ⟨b, o, none⟩) h, fun b o h => hb.frozen (p := ⟨b, o, none⟩) h⟩

theorem below_after {w W w1 : World} (h : Below w.heap.size w W) (hB : Below W.heap.size W w1) : Below w.heap.size w w1 := h.trans (hB.mono h.size)
theorem ret_int {k : IntKind} {a b : Int} (h : a = b) : Ending.returned (.int k a) = Ending.returned (.int k b) := by rw [h]
theorem ret_bool {a b : Bool} (h : a = b) : Ending.returned (.bool a) = Ending.returned (.bool b) := by rw [h]
theorem ret_bits {a b c d : Int} (h : a = c ∧ b = d) : Ending.returned (.agg #[.int .u64 (a), .int .u64 (b)]) = Ending.returned (.agg #[.int .u64 (c), .int .u64 (d)]) := by rw [h.1, h.2]
theorem ret_wide {a b c d a' b' c' d' : Int} (h : a = a' ∧ b = b' ∧ c = c' ∧ d = d') : Ending.returned (.agg #[.int .u64 (a), .int .u64 (b), .int .u64 (c), .int .u64 (d)]) = Ending.returned (.agg #[.int .u64 (a'), .int .u64 (b'), .int .u64 (c'), .int .u64 (d')]) := by rw [h.1, h.2.1, h.2.2.1, h.2.2.2]
theorem ret_bits_bool {a b c d : Int} {x y : Bool} (h : a = c ∧ b = d) (hx : x = y) : Ending.returned (.tuple #[.agg #[.int .u64 (a), .int .u64 (b)], .bool x]) = Ending.returned (.tuple #[.agg #[.int .u64 (c), .int .u64 (d)], .bool y]) := by rw [h.1, h.2, hx]
theorem heap_alloc_at (w : World) (o : Obj) : (w.alloc o).heap[w.heap.size]? = some o := by
  show (w.heap.push o)[w.heap.size]? = some o
  simp
theorem run_getMap {P : Program} (w : World) (es : Array MapEntry) (c : Nat) : (getObj w.heap.size).run P (w.alloc (.map es c)) = .ok (.map es c) (w.alloc (.map es c)) := by
  simp only [getObj, Sem.run, heap_alloc_at]
theorem run_setMap {P : Program} (w : World) (es es' : Array MapEntry) (c c' : Nat) : (setObj w.heap.size (.map es' c')).run P (w.alloc (.map es c)) = .ok () (w.alloc (.map es' c')) := by
  simp only [setObj, Sem.run]
  rw [heap_alloc_at]
  have e : (w.alloc (.map es c)).heap.setIfInBounds w.heap.size (.map es' c') = w.heap.push (.map es' c') := by
    show (w.heap.push _).setIfInBounds w.heap.size _ = _
    apply Array.ext_getElem?
    intro i
    rw [Array.getElem?_setIfInBounds, Array.getElem?_push, Array.getElem?_push]
    by_cases h : w.heap.size = i
    · subst h; simp
    · rw [if_neg h, if_neg (fun e => h e.symm), if_neg (fun e => h e.symm)]
  show Result.ok () _ = _
  rw [e]
  rfl
theorem run_insert_new {P : Program} {t kt et : TypeId} (w : World) (n : Nat) (hn : n = w.heap.size) (es : Array MapEntry) (c : Nat) (k : Int) (v : Value) (hu : P.underlying t = some (.map kt et)) (hk : P.underlying kt = some (.int .u8))
    (hf : Instr.findNow (.int .u8) (.int .u8 k) es.toList 0 = some none) :
    (Instr.mapUpdate t (.map (some n)) (.int .u8 k) v).run P (w.alloc (.map es c)) = .ok () (w.alloc (.map (es.push { key := .int .u8 k, val := v, born := c }) (c + 1))) := by
  subst hn
  have hc : (Instr.checkKey false 10000 kt (.int .u8 k)).run P (w.alloc (.map es c)) = .ok () (w.alloc (.map es c)) := by
    unfold Instr.checkKey
    simp [run_underlying hk]
  have hf2 : (Instr.findKey kt (.int .u8 k) es.toList).run P (w.alloc (.map es c)) = .ok none (w.alloc (.map es c)) := by
    simp [Instr.findKey, run_underlying hk, hf]
  simp only [Instr.mapUpdate, Sem.run_bind, run_underlying hu, Result.andThen, run_getMap, hc, hf2, run_setMap]
theorem run_lookup_new {P : Program} {t kt et : TypeId} (w : World) (n : Nat) (hn : n = w.heap.size) (es : Array MapEntry) (c : Nat) (k : Int) (v : Value) (j : Nat) (hu : P.underlying t = some (.map kt et)) (hk : P.underlying kt = some (.int .u8))
    (hf : Instr.findNow (.int .u8) (.int .u8 k) es.toList 0 = some (some (j, v))) :
    (Instr.lookup t (.map (some n)) (.int .u8 k) true).run P (w.alloc (.map es c)) = .ok (.tuple #[v, .bool true]) (w.alloc (.map es c)) := by
  subst hn
  have hc : ∀ b, (Instr.checkKey b 10000 kt (.int .u8 k)).run P (w.alloc (.map es c)) = .ok () (w.alloc (.map es c)) := by
    intro b
    unfold Instr.checkKey
    simp [run_underlying hk]
  have hf2 : (Instr.findKey kt (.int .u8 k) es.toList).run P (w.alloc (.map es c)) = .ok (some (j, v)) (w.alloc (.map es c)) := by
    simp [Instr.findKey, run_underlying hk, hf]
  simp only [Instr.lookup, Sem.run_bind, Sem.run_pure, run_underlying hu, Result.andThen, run_getMap, hc, hf2, if_true]
theorem run_lookup_none {P : Program} {t kt et : TypeId} (w : World) (n : Nat) (hn : n = w.heap.size) (es : Array MapEntry) (c : Nat) (k : Int) (z : Value) (hu : P.underlying t = some (.map kt et)) (hk : P.underlying kt = some (.int .u8))
    (hz : ∀ w, (zeroValue et).run P w = .ok z w) (hf : Instr.findNow (.int .u8) (.int .u8 k) es.toList 0 = some none) :
    (Instr.lookup t (.map (some n)) (.int .u8 k) true).run P (w.alloc (.map es c)) = .ok (.tuple #[z, .bool false]) (w.alloc (.map es c)) := by
  subst hn
  have hc : ∀ b, (Instr.checkKey b 10000 kt (.int .u8 k)).run P (w.alloc (.map es c)) = .ok () (w.alloc (.map es c)) := by
    intro b
    unfold Instr.checkKey
    simp [run_underlying hk]
  have hf2 : (Instr.findKey kt (.int .u8 k) es.toList).run P (w.alloc (.map es c)) = .ok none (w.alloc (.map es c)) := by
    simp [Instr.findKey, run_underlying hk, hf]
  simp only [Instr.lookup, Sem.run_bind, Sem.run_pure, run_underlying hu, Result.andThen, run_getMap, hc, hf2, hz, if_true]
end Go.Proofs.YtgdbdbjegiaifaaDoor
