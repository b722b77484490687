/- Small lemmas for the walks: what a call leaves of older cells; results; the table of formats. No condition. Equality of small structs: 128 bits; a result. No condition. Equality of results and of bits, as a drawn region asks it. No condition. -/
import Derived.Test.YtkpjeceofcfnkaaGreatDoorProg
import Derived.Test.YtkpjeceofcfnkaaGreatDoorMath
import Derived.WalkKit
import Derived.WalkSpells
import Derived.WalkLawsBesides
import Derived.Handy
import Derived.Laws.Externs
import Derived.Deep.RegionHeld3
import Derived.Deep.QuietTactic
import Derived.BigQuiet
import Derived.Deep.RegionWith
import Derived.Deep.DeepCutAuto
import Derived.Lib.Hide
set_option maxRecDepth 100000
set_option maxHeartbeats 1000000
set_option linter.unusedSimpArgs false
set_option linter.unusedVariables false
namespace Go.Proofs.YtkpjeceofcfnkaaGreatDoor
open Go.RowKit Go.Hb

theorem bcell {W w1 : World} (hb : Below W.heap.size W w1) : (∀ b o, b < W.heap.size → w1.cell? ⟨b, o, none⟩ = W.cell? ⟨b, o, none⟩) ∧ (∀ b o, b < W.heap.size → w1.frozen? ⟨b, o, none⟩ = W.frozen? ⟨b, o, none⟩) :=
  ⟨fun b o h => hb.cell (p := ⟨b, o, none⟩) h, fun b o h => hb.frozen (p := ⟨b, o, none⟩) h⟩

theorem below_after {w W w1 : World} (h : Below w.heap.size w W) (hB : Below W.heap.size W w1) : Below w.heap.size w w1 := h.trans (hB.mono h.size)
theorem cell_grown {w W w1 : World} {a : Addr} {x : Value} (_c : w.cell? a = some x) (h : Below w.heap.size w W) (hB : Below W.heap.size W w1) : Below w.heap.size w w1 := below_after h hB
theorem named {w : World} {a : Addr} {x : Value} (_c : w.cell? a = some x) (W : World) (h : Below w.heap.size w W) : Below w.heap.size w W := h
theorem cl {w W : World} {a : Addr} {x : Value} (hb : Below w.heap.size w W) (c : w.cell? a = some x) : W.cell? a = some x := cell_later hb c
theorem fl {w W : World} {a : Addr} {x : Value} (hb : Below w.heap.size w W) (f : w.frozen? a = false) (c : w.cell? a = some x) : W.frozen? a = false := (hb.frozen (p := a) (World.block_lt_of_cell? _ _ c)).trans f
theorem pf {w W : World} {a : Addr} {x : Value} (hb : Below w.heap.size w W) (c : w.cell? a = some x) (f : w.frozen? a = false) : W.cell? a = some x ∧ W.frozen? a = false := ⟨cell_later hb c, fl hb f c⟩
theorem rn {W V w : World} {a : Addr} {x : Value} (h : W = V) (_c : w.cell? a = some x) (c : V.cell? a = some x) : W.cell? a = some x := h ▸ c
theorem rf {W V w : World} {a : Addr} (h : W = V) (_c : w.frozen? a = false) (c : V.frozen? a = false) : W.frozen? a = false := h ▸ c
theorem an {a b : Prop} (x : a) (y : b) : a ∧ b := ⟨x, y⟩
theorem nl {W : World} {b o : Nat} {x : Value} (c : W.cell? ⟨b, o, none⟩ = some x) : b < W.heap.size ∧ b ≠ W.heap.size ∧ W.heap.size ≠ b ∧ b ≠ W.heap.size + 1 ∧ W.heap.size + 1 ≠ b := by
  have h : b < W.heap.size := World.block_lt_of_cell? _ _ c
  omega
theorem ret_int {k : IntKind} {a b : Int} (h : a = b) : Ending.returned (.int k a) = Ending.returned (.int k b) := by rw [h]
theorem ret_bool {a b : Bool} (h : a = b) : Ending.returned (.bool a) = Ending.returned (.bool b) := by rw [h]
theorem ret_bits {a b c d : Int} (h : a = c ∧ b = d) : Ending.returned (.agg #[.int .u64 (a), .int .u64 (b)]) = Ending.returned (.agg #[.int .u64 (c), .int .u64 (d)]) := by rw [h.1, h.2]
theorem ret_wide {a b c d a' b' c' d' : Int} (h : a = a' ∧ b = b' ∧ c = c' ∧ d = d') : Ending.returned (.agg #[.int .u64 (a), .int .u64 (b), .int .u64 (c), .int .u64 (d)]) = Ending.returned (.agg #[.int .u64 (a'), .int .u64 (b'), .int .u64 (c'), .int .u64 (d')]) := by rw [h.1, h.2.1, h.2.2.1, h.2.2.2]
theorem ret_bits_bool {a b c d : Int} {x y : Bool} (h : a = c ∧ b = d) (hx : x = y) : Ending.returned (.tuple #[.agg #[.int .u64 (a), .int .u64 (b)], .bool x]) = Ending.returned (.tuple #[.agg #[.int .u64 (c), .int .u64 (d)], .bool y]) := by rw [h.1, h.2, hx]
theorem heap_alloc_at (w : World) (o : Obj) : (w.alloc o).heap[w.heap.size]? = some o := by
  show (w.heap.push o)[w.heap.size]? = some o
  simp
theorem run_getMap {P : Program} (w : World) (es : Array MapEntry) (c : Nat) : (getObj w.heap.size).run P (w.alloc (.map es c)) = .ok (.map es c) (w.alloc (.map es c)) := by
  simp only [getObj, Sem.run, heap_alloc_at]
theorem run_setMap {P : Program} (w : World) (es es' : Array MapEntry) (c c' : Nat) : (setObj w.heap.size (.map es' c')).run P (w.alloc (.map es c)) = .ok () (w.alloc (.map es' c')) := by
  simp only [setObj, Sem.run]
  rw [heap_alloc_at]
  have e : (w.alloc (.map es c)).heap.setIfInBounds w.heap.size (.map es' c') = w.heap.push (.map es' c') := by
    show (w.heap.push _).setIfInBounds w.heap.size _ = _
    apply Array.ext_getElem?
    intro i
    rw [Array.getElem?_setIfInBounds, Array.getElem?_push, Array.getElem?_push]
    by_cases h : w.heap.size = i
    · subst h; simp
    · rw [if_neg h, if_neg (fun e => h e.symm), if_neg (fun e => h e.symm)]
  show Result.ok () _ = _
  rw [e]
  rfl
theorem run_insert_new {P : Program} {t kt et : TypeId} (w : World) (n : Nat) (hn : n = w.heap.size) (es : Array MapEntry) (c : Nat) (k : Int) (v : Value) (hu : P.underlying t = some (.map kt et)) (hk : P.underlying kt = some (.int .u8))
    (hf : Instr.findNow (.int .u8) (.int .u8 k) es.toList 0 = some none) :
    (Instr.mapUpdate t (.map (some n)) (.int .u8 k) v).run P (w.alloc (.map es c)) = .ok () (w.alloc (.map (es.push { key := .int .u8 k, val := v, born := c }) (c + 1))) := by
  subst hn
  have hc : (Instr.checkKey false 10000 kt (.int .u8 k)).run P (w.alloc (.map es c)) = .ok () (w.alloc (.map es c)) := by
    unfold Instr.checkKey
    simp [run_underlying hk]
  have hf2 : (Instr.findKey kt (.int .u8 k) es.toList).run P (w.alloc (.map es c)) = .ok none (w.alloc (.map es c)) := by
    simp [Instr.findKey, run_underlying hk, hf]
  simp only [Instr.mapUpdate, Sem.run_bind, run_underlying hu, Result.andThen, run_getMap, hc, hf2, run_setMap]
theorem run_lookup_new {P : Program} {t kt et : TypeId} (w : World) (n : Nat) (hn : n = w.heap.size) (es : Array MapEntry) (c : Nat) (k : Int) (v : Value) (j : Nat) (hu : P.underlying t = some (.map kt et)) (hk : P.underlying kt = some (.int .u8))
    (hf : Instr.findNow (.int .u8) (.int .u8 k) es.toList 0 = some (some (j, v))) :
    (Instr.lookup t (.map (some n)) (.int .u8 k) true).run P (w.alloc (.map es c)) = .ok (.tuple #[v, .bool true]) (w.alloc (.map es c)) := by
  subst hn
  have hc : ∀ b, (Instr.checkKey b 10000 kt (.int .u8 k)).run P (w.alloc (.map es c)) = .ok () (w.alloc (.map es c)) := by
    intro b
    unfold Instr.checkKey
    simp [run_underlying hk]
  have hf2 : (Instr.findKey kt (.int .u8 k) es.toList).run P (w.alloc (.map es c)) = .ok (some (j, v)) (w.alloc (.map es c)) := by
    simp [Instr.findKey, run_underlying hk, hf]
  simp only [Instr.lookup, Sem.run_bind, Sem.run_pure, run_underlying hu, Result.andThen, run_getMap, hc, hf2, if_true]
theorem run_lookup_none {P : Program} {t kt et : TypeId} (w : World) (n : Nat) (hn : n = w.heap.size) (es : Array MapEntry) (c : Nat) (k : Int) (z : Value) (hu : P.underlying t = some (.map kt et)) (hk : P.underlying kt = some (.int .u8))
    (hz : ∀ w, (zeroValue et).run P w = .ok z w) (hf : Instr.findNow (.int .u8) (.int .u8 k) es.toList 0 = some none) :
    (Instr.lookup t (.map (some n)) (.int .u8 k) true).run P (w.alloc (.map es c)) = .ok (.tuple #[z, .bool false]) (w.alloc (.map es c)) := by
  subst hn
  have hc : ∀ b, (Instr.checkKey b 10000 kt (.int .u8 k)).run P (w.alloc (.map es c)) = .ok () (w.alloc (.map es c)) := by
    intro b
    unfold Instr.checkKey
    simp [run_underlying hk]
  have hf2 : (Instr.findKey kt (.int .u8 k) es.toList).run P (w.alloc (.map es c)) = .ok none (w.alloc (.map es c)) := by
    simp [Instr.findKey, run_underlying hk, hf]
  simp only [Instr.lookup, Sem.run_bind, Sem.run_pure, run_underlying hu, Result.andThen, run_getMap, hc, hf2, hz, if_true]
end Go.Proofs.YtkpjeceofcfnkaaGreatDoor

namespace Go.Proofs.YtkpjeceofcfnkaaGreatDoor
open Go.RowKit Go.Hb
theorem eqIn_u64 (d : Nat) (a b : Int) (W : World) : (Op.equalIn (d + 1) 24 (.int .u64 a) (.int .u64 b)).run Tryz.prog W = .ok (a == b) W := run_equalIn_int W d 24 .u64 .u64 a b Tryz.underlying24
@[go_sem] theorem eqIn_bits (d : Nat) (a b a' b' : Int) (W : World) : (Op.equalIn (d + 1 + 1) 26 (.agg #[.int .u64 a, .int .u64 b]) (.agg #[.int .u64 a', .int .u64 b'])).run Tryz.prog W = .ok (decide (a = a' ∧ b = b')) W := by
  have p0 : ∀ (a b : Int) W, (part 24 #[.int .u64 a, .int .u64 b] 0).run Tryz.prog W = .ok (.int .u64 a) W := fun a b W => by kernel_rfl
  have p1 : ∀ (a b : Int) W, (part 24 #[.int .u64 a, .int .u64 b] 1).run Tryz.prog W = .ok (.int .u64 b) W := fun a b W => by kernel_rfl
  rw [run_equalIn_struct W (d + 1) 26 _ _ (by kernel_rfl) (by kernel_rfl)]
  simp only [Program.fieldsOf, Tryz.underlying26]
  by_cases h0 : a = a' <;> by_cases h1 : b = b' <;> simp [Op.eqFields, Sem.run_bind, Result.andThen, p0, p1, eqIn_u64, h0, h1]
@[go_sem] theorem eqIn_res (d : Nat) (a b c a' b' c' : Int) (W : World) : (Op.equalIn (d + 1 + 1 + 1) 36 (.agg #[.int .u64 a, .int .u64 b, .int .u8 c]) (.agg #[.int .u64 a', .int .u64 b', .int .u8 c'])).run Tryz.prog W = .ok (decide ((a = a' ∧ b = b') ∧ c = c')) W := by
  have p0 : ∀ (a b c : Int) W, (part 26 #[.int .u64 a, .int .u64 b, .int .u8 c] 0).run Tryz.prog W = .ok (.agg #[.int .u64 a, .int .u64 b]) W := fun a b c W => by kernel_rfl
  have p1 : ∀ (a b c : Int) W, (part 34 #[.int .u64 a, .int .u64 b, .int .u8 c] 2).run Tryz.prog W = .ok (.int .u8 c) W := fun a b c W => by kernel_rfl
  have e8 : ∀ d (a b : Int) W, (Op.equalIn (d + 1) 34 (.int .u8 a) (.int .u8 b)).run Tryz.prog W = .ok (a == b) W := fun d a b W => run_equalIn_int W d 34 .u8 .u8 a b Tryz.underlying34
  rw [run_equalIn_struct W (d + 1 + 1) 36 _ _ (by kernel_rfl) (by kernel_rfl)]
  simp only [Program.fieldsOf, Tryz.underlying36]
  by_cases h0 : a = a' ∧ b = b' <;> by_cases h1 : c = c' <;> simp [Op.eqFields, Sem.run_bind, Result.andThen, p0, p1, eqIn_bits, e8, h0, h1]
@[go_sem] theorem res_field0 (a b c : Int) (W : World) : (Instr.field 36 (.agg #[.int .u64 a, .int .u64 b, .int .u8 c]) 0).run Tryz.prog W = .ok (.agg #[.int .u64 a, .int .u64 b]) W := by kernel_rfl
@[go_sem] theorem res_field1 (a b c : Int) (W : World) : (Instr.field 36 (.agg #[.int .u64 a, .int .u64 b, .int .u8 c]) 1).run Tryz.prog W = .ok (.int .u8 c) W := by kernel_rfl
end Go.Proofs.YtkpjeceofcfnkaaGreatDoor

namespace Go.Proofs.YtkpjeceofcfnkaaGreatDoor
open Go.RowKit Go.Hb
theorem run_eql_res (W : World) (a b c a' b' c' : Int) : (binOp .eql 36 (.agg #[.int .u64 a, .int .u64 b, .int .u8 c]) (.agg #[.int .u64 a', .int .u64 b', .int .u8 c'])).run Tryz.prog W = .ok (.bool (decide ((a = a' ∧ b = b') ∧ c = c'))) W := by
  rw [run_eql_struct, eqIn_res 9997]; rfl
theorem run_neq_res (W : World) (a b c a' b' c' : Int) : (binOp .neq 36 (.agg #[.int .u64 a, .int .u64 b, .int .u8 c]) (.agg #[.int .u64 a', .int .u64 b', .int .u8 c'])).run Tryz.prog W = .ok (.bool (!decide ((a = a' ∧ b = b') ∧ c = c'))) W := by
  rw [run_neq_struct, eqIn_res 9997]; rfl
theorem run_eql_bits (W : World) (a b a' b' : Int) : (binOp .eql 26 (.agg #[.int .u64 a, .int .u64 b]) (.agg #[.int .u64 a', .int .u64 b'])).run Tryz.prog W = .ok (.bool (decide (a = a' ∧ b = b'))) W := by
  rw [run_eql_struct, eqIn_bits 9998]; rfl
theorem run_neq_bits (W : World) (a b a' b' : Int) : (binOp .neq 26 (.agg #[.int .u64 a, .int .u64 b]) (.agg #[.int .u64 a', .int .u64 b'])).run Tryz.prog W = .ok (.bool (!decide (a = a' ∧ b = b'))) W := by
  rw [run_neq_struct, eqIn_bits 9998]; rfl
theorem eql_res_same (W : World) (a b c : Int) : (binOp .eql 36 (.agg #[.int .u64 a, .int .u64 b, .int .u8 c]) (.agg #[.int .u64 a, .int .u64 b, .int .u8 c])).run Tryz.prog W = .ok (.bool true) W := by
  rw [run_eql_res]; simp
theorem neq_res_same (W : World) (a b c : Int) : (binOp .neq 36 (.agg #[.int .u64 a, .int .u64 b, .int .u8 c]) (.agg #[.int .u64 a, .int .u64 b, .int .u8 c])).run Tryz.prog W = .ok (.bool false) W := by
  rw [run_neq_res]; simp
theorem eql_bits_same (W : World) (a b : Int) : (binOp .eql 26 (.agg #[.int .u64 a, .int .u64 b]) (.agg #[.int .u64 a, .int .u64 b])).run Tryz.prog W = .ok (.bool true) W := by
  rw [run_eql_bits]; simp
theorem neq_bits_same (W : World) (a b : Int) : (binOp .neq 26 (.agg #[.int .u64 a, .int .u64 b]) (.agg #[.int .u64 a, .int .u64 b])).run Tryz.prog W = .ok (.bool false) W := by
  rw [run_neq_bits]; simp
/-- Two numbers' bits: equal just if the numbers are, below 2^128. -/
theorem hl_iff (x y : Nat) (hx : x < 2 ^ 128) (hy : y < 2 ^ 128) : (hi x = hi y ∧ lo x = lo y) ↔ x = y := by
  have e : (2 : Nat) ^ 128 = 340282366920938463463374607431768211456 := rfl
  rw [e] at hx hy
  constructor
  · intro h; rw [← cat_hl x hx, ← cat_hl y hy, h.1, h.2]
  · intro h; rw [h]; exact ⟨rfl, rfl⟩
theorem eql_bits_nat (W : World) (x y : Nat) (hx : x < 2 ^ 128) (hy : y < 2 ^ 128) : (binOp .eql 26 (.agg #[.int .u64 (hi (x)), .int .u64 (lo (x))]) (.agg #[.int .u64 (hi (y)), .int .u64 (lo (y))])).run Tryz.prog W = .ok (.bool (decide (x = y))) W := by
  rw [run_eql_bits]; congr 2; rw [decide_eq_decide]; exact hl_iff x y hx hy
theorem neq_bits_nat (W : World) (x y : Nat) (hx : x < 2 ^ 128) (hy : y < 2 ^ 128) : (binOp .neq 26 (.agg #[.int .u64 (hi (x)), .int .u64 (lo (x))]) (.agg #[.int .u64 (hi (y)), .int .u64 (lo (y))])).run Tryz.prog W = .ok (.bool (!decide (x = y))) W := by
  rw [run_neq_bits]; congr 3; rw [decide_eq_decide]; exact hl_iff x y hx hy
end Go.Proofs.YtkpjeceofcfnkaaGreatDoor
