/- The contracts of package fromint: for every input. Condition: the listed table is laid. The contract of fromint.Has; the walks of chapter 27: goes, FromintKnown. Condition: the listed table is laid. -/
import Derived.Test.YtgpedgppdggjmaaDoorPack6
import Derived.Test.YtgpedgppdggjmaaDoorMode
set_option linter.unusedSimpArgs false
set_option linter.unusedVariables false
namespace Go.Proofs.YtgpedgppdggjmaaDoor
open Go.RowKit Go.Hb
theorem run_lookup_one {P : Program} {t kt et : TypeId} (w : World) (n : Nat) (hn : n = w.heap.size) (es : Array MapEntry) (c : Nat) (k : Int) (v : Value) (j : Nat) (hu : P.underlying t = some (.map kt et)) (hk : P.underlying kt = some (.int .u8))
    (hf : Instr.findNow (.int .u8) (.int .u8 k) es.toList 0 = some (some (j, v))) :
    (Instr.lookup t (.map (some n)) (.int .u8 k) false).run P (w.alloc (.map es c)) = .ok v (w.alloc (.map es c)) := by
  subst hn
  have hc : ∀ b, (Instr.checkKey b 10000 kt (.int .u8 k)).run P (w.alloc (.map es c)) = .ok () (w.alloc (.map es c)) := by
    intro b
    unfold Instr.checkKey
    simp [run_underlying hk]
  have hf2 : (Instr.findKey kt (.int .u8 k) es.toList).run P (w.alloc (.map es c)) = .ok (some (j, v)) (w.alloc (.map es c)) := by
    simp [Instr.findKey, run_underlying hk, hf]
  simp [Instr.lookup, Sem.run_bind, Sem.run_pure, run_underlying hu, Result.andThen, run_getMap, hc, hf2]
/-- What bits of a kind are, as 64 of them. -/
def kindV (k b : Int) : Int := if k = 0 then (if b % 4294967296 < 2147483648 then b % 4294967296 else b % 4294967296 + 18446744069414584320) else if k = 1 then b % 4294967296 else b
instance u64_kindV (k b : Int) [h : U64 b] : U64 (kindV k b) := by
  have h0 := h.ge
  have h1 := h.lt
  constructor <;> (unfold kindV; repeat' split) <;> omega
theorem kind1 (b : Int) [hb : U64 b] (w : World) :
    Calls Tryd.prog 120 #[.int .u64 b] w fun e w' => e = .returned (.int .u64 (kindV 0 b)) ∧ w = w' := by
  have h0 := hb.ge
  have h1 := hb.lt
  go_enter Tryd.func120, Tryd.ntmps120
  go_wp2
  go_returns
  refine ⟨ret_int ?_, rfl⟩
  show IntKind.u64.wrap (wrap64 (wrap32 b)) = kindV 0 b
  rw [IntKind.wrap_u64]
  unfold kindV wrap64 wrap32
  rw [if_pos rfl]
  split <;> omega
theorem kind2 (b : Int) [hb : U64 b] (w : World) :
    Calls Tryd.prog 121 #[.int .u64 b] w fun e w' => e = .returned (.int .u64 (kindV 1 b)) ∧ w = w' := by
  go_enter Tryd.func121, Tryd.ntmps121
  go_wp2
  go_returns
  exact ⟨rfl, rfl⟩
theorem kind3 (b : Int) [hb : U64 b] (w : World) :
    Calls Tryd.prog 122 #[.int .u64 b] w fun e w' => e = .returned (.int .u64 (kindV 2 b)) ∧ w = w' := by
  go_enter Tryd.func122, Tryd.ntmps122
  go_wp2
  go_returns
  exact ⟨rfl, rfl⟩
theorem kind4 (b : Int) [hb : U64 b] (w : World) :
    Calls Tryd.prog 123 #[.int .u64 b] w fun e w' => e = .returned (.int .u64 (kindV 3 b)) ∧ w = w' := by
  go_enter Tryd.func123, Tryd.ntmps123
  go_wp2
  go_returns
  exact ⟨rfl, rfl⟩
def kindEs : Array MapEntry := #[{ key := .int .u8 0, val := .func (.func 120) #[] #[], born := 0 }, { key := .int .u8 1, val := .func (.func 121) #[] #[], born := 1 }, { key := .int .u8 2, val := .func (.func 122) #[] #[], born := 2 }, { key := .int .u8 3, val := .func (.func 123) #[] #[], born := 3 }]
theorem fromint_kinds (w : World) :
    Calls Tryd.prog 78 #[] w fun e w' => e = .returned (.map (some w.heap.size)) ∧ w.alloc (.map kindEs 4) = w' := by
  have hmm := @run_makeMap Tryd.prog
  have i0 := run_insert_new (P := Tryd.prog) w _ rfl #[] 0 0 (.func (.func 120) #[] #[]) Tryd.underlying103 Tryd.underlying51 rfl
  have i1 := run_insert_new (P := Tryd.prog) w _ rfl #[{ key := .int .u8 0, val := .func (.func 120) #[] #[], born := 0 }] 1 1 (.func (.func 121) #[] #[]) Tryd.underlying103 Tryd.underlying51 rfl
  have i2 := run_insert_new (P := Tryd.prog) w _ rfl #[{ key := .int .u8 0, val := .func (.func 120) #[] #[], born := 0 }, { key := .int .u8 1, val := .func (.func 121) #[] #[], born := 1 }] 2 2 (.func (.func 122) #[] #[]) Tryd.underlying103 Tryd.underlying51 rfl
  have i3 := run_insert_new (P := Tryd.prog) w _ rfl #[{ key := .int .u8 0, val := .func (.func 120) #[] #[], born := 0 }, { key := .int .u8 1, val := .func (.func 121) #[] #[], born := 1 }, { key := .int .u8 2, val := .func (.func 122) #[] #[], born := 2 }] 3 3 (.func (.func 123) #[] #[]) Tryd.underlying103 Tryd.underlying51 rfl
  go_enter Tryd.func78, Tryd.ntmps78
  go_wp2
  go_returns
  exact ⟨rfl, rfl⟩
def negK (k b : Int) : Bool := (decide (k = 0) || decide (k = 2)) && decide (9223372036854775808 ≤ kindV k b)
def sizeK (k b : Int) : Int := if negK k b then 18446744073709551616 - kindV k b else kindV k b
instance u64_sizeK (k b : Int) [h : U64 b] : U64 (sizeK k b) := by
  have h0 := U64.ge (x := kindV k b)
  have h1 := U64.lt (x := kindV k b)
  unfold sizeK
  by_cases hn : negK k b = true
  · rw [if_pos hn]
    have : 9223372036854775808 ≤ kindV k b := by unfold negK at hn; simp at hn; exact hn.2
    constructor <;> omega
  · rw [if_neg hn]; exact ⟨h0, h1⟩
/-- What From answers. -/
def fromB (k f m b : Int) : Nat := if k < 4 then resB f m (negK k b) 255 (cat4 (sizeK k b) 0 0 0) else 0
def fromFl (k f m : Int) (aft : Bool) (b : Int) : Int := if k < 4 then resFl f m aft (negK k b) 255 (cat4 (sizeK k b) 0 0 0) else 0
theorem toint_Known (k : Int) [h : U8 k] (w : World) :
    Calls Tryd.prog 36 #[.int .u8 k] w fun e w' => e = .returned (.bool (decide (k < 4))) ∧ Below w.heap.size w w' := by
  have h0 := h.ge
  have h1 := h.le
  go_enter Tryd.func36, Tryd.ntmps36
  go_wp2
  go_returns
  exact ⟨ret_bool rfl, by go_grown⟩
theorem shr_top (x : Int) (h0 : 0 ≤ x) (h1 : x < 18446744073709551616) : (x / 2 ^ 63 == 1) = decide (9223372036854775808 ≤ x) := by
  rw [Bool.eq_iff_iff]; simp; omega
set_option maxRecDepth 100000 in
set_option maxHeartbeats 8000000 in
theorem from_0_n (f m b : Int) (aft : Bool) [hU : U8 f] [hM : U8 m] [hb : U64 b] (w : World) [hLay : Laid w] (hf : f < 4) (hm : m ≤ 4) (hs : 9223372036854775808 ≤ kindV 0 b) :
    Calls Tryd.prog 27 #[.int .u8 0, .int .u8 f, .agg #[.int .u8 m, .bool aft], .int .u64 b] w fun en w' => en = .returned (.agg #[.int .u64 (hi (resB f m true 255 (cat4 (18446744073709551616 - kindV 0 b) 0 0 0))), .int .u64 (lo (resB f m true 255 (cat4 (18446744073709551616 - kindV 0 b) 0 0 0))), .int .u8 (resFl f m aft true 255 (cat4 (18446744073709551616 - kindV 0 b) 0 0 0))]) ∧ Below w.heap.size w w' := by
  have hfd : decide (f < 4) = true := decide_eq_true hf
  have hmd : decide (m ≤ 4) = true := decide_eq_true hm
  have lk := fun w : World => run_lookup_one (P := Tryd.prog) w _ rfl kindEs 4 0 (.func (.func 120) #[] #[]) 0 Tryd.underlying103 Tryd.underlying51 rfl
  have g0 := U64.ge (x := kindV 0 b)
  have g1 := U64.lt (x := kindV 0 b)
  have hsh := shr_top (kindV 0 b) g0 g1
  rw [decide_eq_true hs] at hsh
  have hwn : IntKind.u64.wrap (-(kindV 0 b)) = 18446744073709551616 - kindV 0 b := by rw [IntKind.wrap_u64]; omega
  haveI : U64 (18446744073709551616 - kindV 0 b) := ⟨by omega, by omega⟩
  clear hs
  clear hf hm
  go_enter Tryd.func27, Tryd.ntmps27
  skip
  (go_wp2_with fail; refine (toint_Known _ _).mono ?_; rintro en v1 ⟨rfl, hB_v1⟩; have lay_v1 := laid_after hB_v1; have cc1 := cl hB_v1 (show World.cell? _ ⟨w.heap.size, 0, none⟩ = some (.int .u8 m) by go_simp); have cc2 := cl hB_v1 (show World.cell? _ ⟨w.heap.size, 1, none⟩ = some (.bool aft) by go_simp); obtain ⟨cc3, fcc3⟩ := pf hB_v1 (show World.cell? _ ⟨w.heap.size + 1, 0, none⟩ = some (.int .u64 0) by go_simp) (by go_simp); obtain ⟨cc4, fcc4⟩ := pf hB_v1 (show World.cell? _ ⟨w.heap.size + 1, 1, none⟩ = some (.int .u64 0) by go_simp) (by go_simp); obtain ⟨cc5, fcc5⟩ := pf hB_v1 (show World.cell? _ ⟨w.heap.size + 1, 2, none⟩ = some (.int .u8 0) by go_simp) (by go_simp); have hs_v1 := hB_v1.size; (try simp only [World.size_alloc, World.size_setCell, World.size_drew] at hs_v1); have hBW : Below w.heap.size w v1 := below_after (w := w) (by go_grown) hB_v1; have hn_v1 := an (nl cc1) (nl cc3); clear hB_v1)
  (go_wp2_with fail; refine (format_Known_b _ _).mono ?_; rintro en v2 ⟨rfl, hB_v2⟩; have lay_v2 := laid_after hB_v2; have hG := cell_grown cc1 (by go_grown) hB_v2; replace cc1 := cl hG cc1; replace cc2 := cl hG cc2; replace fcc3 := fl hG fcc3 cc3; replace cc3 := cl hG cc3; replace fcc4 := fl hG fcc4 cc4; replace cc4 := cl hG cc4; replace fcc5 := fl hG fcc5 cc5; replace cc5 := cl hG cc5; have hs_v2 := hG.size; clear hG; replace hBW : Below w.heap.size w v2 := below_after (w := w) (by go_grown) hB_v2; have hn_v2 := an (nl cc1) (nl cc3); clear hB_v2)
  (go_wp2_with fail; refine (mode_Known_b _ _).mono ?_; rintro en v3 ⟨rfl, hB_v3⟩; have lay_v3 := laid_after hB_v3; have hG := cell_grown cc1 (by go_grown) hB_v3; replace cc1 := cl hG cc1; replace cc2 := cl hG cc2; replace fcc3 := fl hG fcc3 cc3; replace cc3 := cl hG cc3; replace fcc4 := fl hG fcc4 cc4; replace cc4 := cl hG cc4; replace fcc5 := fl hG fcc5 cc5; replace cc5 := cl hG cc5; have hs_v3 := hG.size; clear hG; replace hBW : Below w.heap.size w v3 := below_after (w := w) (by go_grown) hB_v3; have hn_v3 := an (nl cc1) (nl cc3); clear hB_v3)
  go_wp2_with fail
  refine (fromint_kinds _).mono ?_
  rintro e w1 ⟨rfl, rfl⟩
  go_wp2_with fail
  refine (kind1 _ _).mono ?_
  rintro e w1 ⟨rfl, rfl⟩
  (go_wp2_with fail; refine (pack_Round _ _ _ _ _ _ _ _ _ _).mono ?_; rintro en v5 ⟨rfl, hB_v5⟩; have lay_v5 := laid_after hB_v5; have hG := cell_grown cc1 (by go_grown) hB_v5; replace cc1 := cl hG cc1; replace cc2 := cl hG cc2; replace fcc3 := fl hG fcc3 cc3; replace cc3 := cl hG cc3; replace fcc4 := fl hG fcc4 cc4; replace cc4 := cl hG cc4; replace fcc5 := fl hG fcc5 cc5; replace cc5 := cl hG cc5; have hs_v5 := hG.size; clear hG; replace hBW : Below w.heap.size w v5 := below_after (w := w) (by go_grown) hB_v5; have hn_v5 := an (nl cc1) (nl cc3); clear hB_v5)
  go_wp2_with fail
  refine bodyPost_ret (by simp [results, Tryd.results27, go_sem, cc3, cc4, cc5]; try rfl) rfl ?_
  exact ⟨rfl, by go_grown⟩
set_option maxRecDepth 100000 in
set_option maxHeartbeats 8000000 in
theorem from_0_p (f m b : Int) (aft : Bool) [hU : U8 f] [hM : U8 m] [hb : U64 b] (w : World) [hLay : Laid w] (hf : f < 4) (hm : m ≤ 4) (hs : ¬ 9223372036854775808 ≤ kindV 0 b) :
    Calls Tryd.prog 27 #[.int .u8 0, .int .u8 f, .agg #[.int .u8 m, .bool aft], .int .u64 b] w fun en w' => en = .returned (.agg #[.int .u64 (hi (resB f m false 255 (cat4 (kindV 0 b) 0 0 0))), .int .u64 (lo (resB f m false 255 (cat4 (kindV 0 b) 0 0 0))), .int .u8 (resFl f m aft false 255 (cat4 (kindV 0 b) 0 0 0))]) ∧ Below w.heap.size w w' := by
  have hfd : decide (f < 4) = true := decide_eq_true hf
  have hmd : decide (m ≤ 4) = true := decide_eq_true hm
  have lk := fun w : World => run_lookup_one (P := Tryd.prog) w _ rfl kindEs 4 0 (.func (.func 120) #[] #[]) 0 Tryd.underlying103 Tryd.underlying51 rfl
  have g0 := U64.ge (x := kindV 0 b)
  have g1 := U64.lt (x := kindV 0 b)
  have hsh := shr_top (kindV 0 b) g0 g1
  rw [decide_eq_false hs] at hsh
  clear hf hm
  go_enter Tryd.func27, Tryd.ntmps27
  skip
  (go_wp2_with fail; refine (toint_Known _ _).mono ?_; rintro en v1 ⟨rfl, hB_v1⟩; have lay_v1 := laid_after hB_v1; have cc1 := cl hB_v1 (show World.cell? _ ⟨w.heap.size, 0, none⟩ = some (.int .u8 m) by go_simp); have cc2 := cl hB_v1 (show World.cell? _ ⟨w.heap.size, 1, none⟩ = some (.bool aft) by go_simp); obtain ⟨cc3, fcc3⟩ := pf hB_v1 (show World.cell? _ ⟨w.heap.size + 1, 0, none⟩ = some (.int .u64 0) by go_simp) (by go_simp); obtain ⟨cc4, fcc4⟩ := pf hB_v1 (show World.cell? _ ⟨w.heap.size + 1, 1, none⟩ = some (.int .u64 0) by go_simp) (by go_simp); obtain ⟨cc5, fcc5⟩ := pf hB_v1 (show World.cell? _ ⟨w.heap.size + 1, 2, none⟩ = some (.int .u8 0) by go_simp) (by go_simp); have hs_v1 := hB_v1.size; (try simp only [World.size_alloc, World.size_setCell, World.size_drew] at hs_v1); have hBW : Below w.heap.size w v1 := below_after (w := w) (by go_grown) hB_v1; have hn_v1 := an (nl cc1) (nl cc3); clear hB_v1)
  (go_wp2_with fail; refine (format_Known_b _ _).mono ?_; rintro en v2 ⟨rfl, hB_v2⟩; have lay_v2 := laid_after hB_v2; have hG := cell_grown cc1 (by go_grown) hB_v2; replace cc1 := cl hG cc1; replace cc2 := cl hG cc2; replace fcc3 := fl hG fcc3 cc3; replace cc3 := cl hG cc3; replace fcc4 := fl hG fcc4 cc4; replace cc4 := cl hG cc4; replace fcc5 := fl hG fcc5 cc5; replace cc5 := cl hG cc5; have hs_v2 := hG.size; clear hG; replace hBW : Below w.heap.size w v2 := below_after (w := w) (by go_grown) hB_v2; have hn_v2 := an (nl cc1) (nl cc3); clear hB_v2)
  (go_wp2_with fail; refine (mode_Known_b _ _).mono ?_; rintro en v3 ⟨rfl, hB_v3⟩; have lay_v3 := laid_after hB_v3; have hG := cell_grown cc1 (by go_grown) hB_v3; replace cc1 := cl hG cc1; replace cc2 := cl hG cc2; replace fcc3 := fl hG fcc3 cc3; replace cc3 := cl hG cc3; replace fcc4 := fl hG fcc4 cc4; replace cc4 := cl hG cc4; replace fcc5 := fl hG fcc5 cc5; replace cc5 := cl hG cc5; have hs_v3 := hG.size; clear hG; replace hBW : Below w.heap.size w v3 := below_after (w := w) (by go_grown) hB_v3; have hn_v3 := an (nl cc1) (nl cc3); clear hB_v3)
  go_wp2_with fail
  refine (fromint_kinds _).mono ?_
  rintro e w1 ⟨rfl, rfl⟩
  go_wp2_with fail
  refine (kind1 _ _).mono ?_
  rintro e w1 ⟨rfl, rfl⟩
  (go_wp2_with fail; refine (pack_Round _ _ _ _ _ _ _ _ _ _).mono ?_; rintro en v5 ⟨rfl, hB_v5⟩; have lay_v5 := laid_after hB_v5; have hG := cell_grown cc1 (by go_grown) hB_v5; replace cc1 := cl hG cc1; replace cc2 := cl hG cc2; replace fcc3 := fl hG fcc3 cc3; replace cc3 := cl hG cc3; replace fcc4 := fl hG fcc4 cc4; replace cc4 := cl hG cc4; replace fcc5 := fl hG fcc5 cc5; replace cc5 := cl hG cc5; have hs_v5 := hG.size; clear hG; replace hBW : Below w.heap.size w v5 := below_after (w := w) (by go_grown) hB_v5; have hn_v5 := an (nl cc1) (nl cc3); clear hB_v5)
  go_wp2_with fail
  refine bodyPost_ret (by simp [results, Tryd.results27, go_sem, cc3, cc4, cc5]; try rfl) rfl ?_
  exact ⟨rfl, by go_grown⟩
set_option maxRecDepth 100000 in
set_option maxHeartbeats 8000000 in
theorem from_1_p (f m b : Int) (aft : Bool) [hU : U8 f] [hM : U8 m] [hb : U64 b] (w : World) [hLay : Laid w] (hf : f < 4) (hm : m ≤ 4) :
    Calls Tryd.prog 27 #[.int .u8 1, .int .u8 f, .agg #[.int .u8 m, .bool aft], .int .u64 b] w fun en w' => en = .returned (.agg #[.int .u64 (hi (resB f m false 255 (cat4 (kindV 1 b) 0 0 0))), .int .u64 (lo (resB f m false 255 (cat4 (kindV 1 b) 0 0 0))), .int .u8 (resFl f m aft false 255 (cat4 (kindV 1 b) 0 0 0))]) ∧ Below w.heap.size w w' := by
  have hfd : decide (f < 4) = true := decide_eq_true hf
  have hmd : decide (m ≤ 4) = true := decide_eq_true hm
  have lk := fun w : World => run_lookup_one (P := Tryd.prog) w _ rfl kindEs 4 1 (.func (.func 121) #[] #[]) 1 Tryd.underlying103 Tryd.underlying51 rfl
  clear hf hm
  go_enter Tryd.func27, Tryd.ntmps27
  skip
  (go_wp2_with fail; refine (toint_Known _ _).mono ?_; rintro en v1 ⟨rfl, hB_v1⟩; have lay_v1 := laid_after hB_v1; have cc1 := cl hB_v1 (show World.cell? _ ⟨w.heap.size, 0, none⟩ = some (.int .u8 m) by go_simp); have cc2 := cl hB_v1 (show World.cell? _ ⟨w.heap.size, 1, none⟩ = some (.bool aft) by go_simp); obtain ⟨cc3, fcc3⟩ := pf hB_v1 (show World.cell? _ ⟨w.heap.size + 1, 0, none⟩ = some (.int .u64 0) by go_simp) (by go_simp); obtain ⟨cc4, fcc4⟩ := pf hB_v1 (show World.cell? _ ⟨w.heap.size + 1, 1, none⟩ = some (.int .u64 0) by go_simp) (by go_simp); obtain ⟨cc5, fcc5⟩ := pf hB_v1 (show World.cell? _ ⟨w.heap.size + 1, 2, none⟩ = some (.int .u8 0) by go_simp) (by go_simp); have hs_v1 := hB_v1.size; (try simp only [World.size_alloc, World.size_setCell, World.size_drew] at hs_v1); have hBW : Below w.heap.size w v1 := below_after (w := w) (by go_grown) hB_v1; have hn_v1 := an (nl cc1) (nl cc3); clear hB_v1)
  (go_wp2_with fail; refine (format_Known_b _ _).mono ?_; rintro en v2 ⟨rfl, hB_v2⟩; have lay_v2 := laid_after hB_v2; have hG := cell_grown cc1 (by go_grown) hB_v2; replace cc1 := cl hG cc1; replace cc2 := cl hG cc2; replace fcc3 := fl hG fcc3 cc3; replace cc3 := cl hG cc3; replace fcc4 := fl hG fcc4 cc4; replace cc4 := cl hG cc4; replace fcc5 := fl hG fcc5 cc5; replace cc5 := cl hG cc5; have hs_v2 := hG.size; clear hG; replace hBW : Below w.heap.size w v2 := below_after (w := w) (by go_grown) hB_v2; have hn_v2 := an (nl cc1) (nl cc3); clear hB_v2)
  (go_wp2_with fail; refine (mode_Known_b _ _).mono ?_; rintro en v3 ⟨rfl, hB_v3⟩; have lay_v3 := laid_after hB_v3; have hG := cell_grown cc1 (by go_grown) hB_v3; replace cc1 := cl hG cc1; replace cc2 := cl hG cc2; replace fcc3 := fl hG fcc3 cc3; replace cc3 := cl hG cc3; replace fcc4 := fl hG fcc4 cc4; replace cc4 := cl hG cc4; replace fcc5 := fl hG fcc5 cc5; replace cc5 := cl hG cc5; have hs_v3 := hG.size; clear hG; replace hBW : Below w.heap.size w v3 := below_after (w := w) (by go_grown) hB_v3; have hn_v3 := an (nl cc1) (nl cc3); clear hB_v3)
  go_wp2_with fail
  refine (fromint_kinds _).mono ?_
  rintro e w1 ⟨rfl, rfl⟩
  go_wp2_with fail
  refine (kind2 _ _).mono ?_
  rintro e w1 ⟨rfl, rfl⟩
  (go_wp2_with fail; refine (pack_Round _ _ _ _ _ _ _ _ _ _).mono ?_; rintro en v5 ⟨rfl, hB_v5⟩; have lay_v5 := laid_after hB_v5; have hG := cell_grown cc1 (by go_grown) hB_v5; replace cc1 := cl hG cc1; replace cc2 := cl hG cc2; replace fcc3 := fl hG fcc3 cc3; replace cc3 := cl hG cc3; replace fcc4 := fl hG fcc4 cc4; replace cc4 := cl hG cc4; replace fcc5 := fl hG fcc5 cc5; replace cc5 := cl hG cc5; have hs_v5 := hG.size; clear hG; replace hBW : Below w.heap.size w v5 := below_after (w := w) (by go_grown) hB_v5; have hn_v5 := an (nl cc1) (nl cc3); clear hB_v5)
  go_wp2_with fail
  refine bodyPost_ret (by simp [results, Tryd.results27, go_sem, cc3, cc4, cc5]; try rfl) rfl ?_
  exact ⟨rfl, by go_grown⟩
set_option maxRecDepth 100000 in
set_option maxHeartbeats 8000000 in
theorem from_2_n (f m b : Int) (aft : Bool) [hU : U8 f] [hM : U8 m] [hb : U64 b] (w : World) [hLay : Laid w] (hf : f < 4) (hm : m ≤ 4) (hs : 9223372036854775808 ≤ kindV 2 b) :
    Calls Tryd.prog 27 #[.int .u8 2, .int .u8 f, .agg #[.int .u8 m, .bool aft], .int .u64 b] w fun en w' => en = .returned (.agg #[.int .u64 (hi (resB f m true 255 (cat4 (18446744073709551616 - kindV 2 b) 0 0 0))), .int .u64 (lo (resB f m true 255 (cat4 (18446744073709551616 - kindV 2 b) 0 0 0))), .int .u8 (resFl f m aft true 255 (cat4 (18446744073709551616 - kindV 2 b) 0 0 0))]) ∧ Below w.heap.size w w' := by
  have hfd : decide (f < 4) = true := decide_eq_true hf
  have hmd : decide (m ≤ 4) = true := decide_eq_true hm
  have lk := fun w : World => run_lookup_one (P := Tryd.prog) w _ rfl kindEs 4 2 (.func (.func 122) #[] #[]) 2 Tryd.underlying103 Tryd.underlying51 rfl
  have g0 := U64.ge (x := kindV 2 b)
  have g1 := U64.lt (x := kindV 2 b)
  have hsh := shr_top (kindV 2 b) g0 g1
  rw [decide_eq_true hs] at hsh
  have hwn : IntKind.u64.wrap (-(kindV 2 b)) = 18446744073709551616 - kindV 2 b := by rw [IntKind.wrap_u64]; omega
  haveI : U64 (18446744073709551616 - kindV 2 b) := ⟨by omega, by omega⟩
  clear hs
  clear hf hm
  go_enter Tryd.func27, Tryd.ntmps27
  skip
  (go_wp2_with fail; refine (toint_Known _ _).mono ?_; rintro en v1 ⟨rfl, hB_v1⟩; have lay_v1 := laid_after hB_v1; have cc1 := cl hB_v1 (show World.cell? _ ⟨w.heap.size, 0, none⟩ = some (.int .u8 m) by go_simp); have cc2 := cl hB_v1 (show World.cell? _ ⟨w.heap.size, 1, none⟩ = some (.bool aft) by go_simp); obtain ⟨cc3, fcc3⟩ := pf hB_v1 (show World.cell? _ ⟨w.heap.size + 1, 0, none⟩ = some (.int .u64 0) by go_simp) (by go_simp); obtain ⟨cc4, fcc4⟩ := pf hB_v1 (show World.cell? _ ⟨w.heap.size + 1, 1, none⟩ = some (.int .u64 0) by go_simp) (by go_simp); obtain ⟨cc5, fcc5⟩ := pf hB_v1 (show World.cell? _ ⟨w.heap.size + 1, 2, none⟩ = some (.int .u8 0) by go_simp) (by go_simp); have hs_v1 := hB_v1.size; (try simp only [World.size_alloc, World.size_setCell, World.size_drew] at hs_v1); have hBW : Below w.heap.size w v1 := below_after (w := w) (by go_grown) hB_v1; have hn_v1 := an (nl cc1) (nl cc3); clear hB_v1)
  (go_wp2_with fail; refine (format_Known_b _ _).mono ?_; rintro en v2 ⟨rfl, hB_v2⟩; have lay_v2 := laid_after hB_v2; have hG := cell_grown cc1 (by go_grown) hB_v2; replace cc1 := cl hG cc1; replace cc2 := cl hG cc2; replace fcc3 := fl hG fcc3 cc3; replace cc3 := cl hG cc3; replace fcc4 := fl hG fcc4 cc4; replace cc4 := cl hG cc4; replace fcc5 := fl hG fcc5 cc5; replace cc5 := cl hG cc5; have hs_v2 := hG.size; clear hG; replace hBW : Below w.heap.size w v2 := below_after (w := w) (by go_grown) hB_v2; have hn_v2 := an (nl cc1) (nl cc3); clear hB_v2)
  (go_wp2_with fail; refine (mode_Known_b _ _).mono ?_; rintro en v3 ⟨rfl, hB_v3⟩; have lay_v3 := laid_after hB_v3; have hG := cell_grown cc1 (by go_grown) hB_v3; replace cc1 := cl hG cc1; replace cc2 := cl hG cc2; replace fcc3 := fl hG fcc3 cc3; replace cc3 := cl hG cc3; replace fcc4 := fl hG fcc4 cc4; replace cc4 := cl hG cc4; replace fcc5 := fl hG fcc5 cc5; replace cc5 := cl hG cc5; have hs_v3 := hG.size; clear hG; replace hBW : Below w.heap.size w v3 := below_after (w := w) (by go_grown) hB_v3; have hn_v3 := an (nl cc1) (nl cc3); clear hB_v3)
  go_wp2_with fail
  refine (fromint_kinds _).mono ?_
  rintro e w1 ⟨rfl, rfl⟩
  go_wp2_with fail
  refine (kind3 _ _).mono ?_
  rintro e w1 ⟨rfl, rfl⟩
  (go_wp2_with fail; refine (pack_Round _ _ _ _ _ _ _ _ _ _).mono ?_; rintro en v5 ⟨rfl, hB_v5⟩; have lay_v5 := laid_after hB_v5; have hG := cell_grown cc1 (by go_grown) hB_v5; replace cc1 := cl hG cc1; replace cc2 := cl hG cc2; replace fcc3 := fl hG fcc3 cc3; replace cc3 := cl hG cc3; replace fcc4 := fl hG fcc4 cc4; replace cc4 := cl hG cc4; replace fcc5 := fl hG fcc5 cc5; replace cc5 := cl hG cc5; have hs_v5 := hG.size; clear hG; replace hBW : Below w.heap.size w v5 := below_after (w := w) (by go_grown) hB_v5; have hn_v5 := an (nl cc1) (nl cc3); clear hB_v5)
  go_wp2_with fail
  refine bodyPost_ret (by simp [results, Tryd.results27, go_sem, cc3, cc4, cc5]; try rfl) rfl ?_
  exact ⟨rfl, by go_grown⟩
set_option maxRecDepth 100000 in
set_option maxHeartbeats 8000000 in
theorem from_2_p (f m b : Int) (aft : Bool) [hU : U8 f] [hM : U8 m] [hb : U64 b] (w : World) [hLay : Laid w] (hf : f < 4) (hm : m ≤ 4) (hs : ¬ 9223372036854775808 ≤ kindV 2 b) :
    Calls Tryd.prog 27 #[.int .u8 2, .int .u8 f, .agg #[.int .u8 m, .bool aft], .int .u64 b] w fun en w' => en = .returned (.agg #[.int .u64 (hi (resB f m false 255 (cat4 (kindV 2 b) 0 0 0))), .int .u64 (lo (resB f m false 255 (cat4 (kindV 2 b) 0 0 0))), .int .u8 (resFl f m aft false 255 (cat4 (kindV 2 b) 0 0 0))]) ∧ Below w.heap.size w w' := by
  have hfd : decide (f < 4) = true := decide_eq_true hf
  have hmd : decide (m ≤ 4) = true := decide_eq_true hm
  have lk := fun w : World => run_lookup_one (P := Tryd.prog) w _ rfl kindEs 4 2 (.func (.func 122) #[] #[]) 2 Tryd.underlying103 Tryd.underlying51 rfl
  have g0 := U64.ge (x := kindV 2 b)
  have g1 := U64.lt (x := kindV 2 b)
  have hsh := shr_top (kindV 2 b) g0 g1
  rw [decide_eq_false hs] at hsh
  clear hf hm
  go_enter Tryd.func27, Tryd.ntmps27
  skip
  (go_wp2_with fail; refine (toint_Known _ _).mono ?_; rintro en v1 ⟨rfl, hB_v1⟩; have lay_v1 := laid_after hB_v1; have cc1 := cl hB_v1 (show World.cell? _ ⟨w.heap.size, 0, none⟩ = some (.int .u8 m) by go_simp); have cc2 := cl hB_v1 (show World.cell? _ ⟨w.heap.size, 1, none⟩ = some (.bool aft) by go_simp); obtain ⟨cc3, fcc3⟩ := pf hB_v1 (show World.cell? _ ⟨w.heap.size + 1, 0, none⟩ = some (.int .u64 0) by go_simp) (by go_simp); obtain ⟨cc4, fcc4⟩ := pf hB_v1 (show World.cell? _ ⟨w.heap.size + 1, 1, none⟩ = some (.int .u64 0) by go_simp) (by go_simp); obtain ⟨cc5, fcc5⟩ := pf hB_v1 (show World.cell? _ ⟨w.heap.size + 1, 2, none⟩ = some (.int .u8 0) by go_simp) (by go_simp); have hs_v1 := hB_v1.size; (try simp only [World.size_alloc, World.size_setCell, World.size_drew] at hs_v1); have hBW : Below w.heap.size w v1 := below_after (w := w) (by go_grown) hB_v1; have hn_v1 := an (nl cc1) (nl cc3); clear hB_v1)
  (go_wp2_with fail; refine (format_Known_b _ _).mono ?_; rintro en v2 ⟨rfl, hB_v2⟩; have lay_v2 := laid_after hB_v2; have hG := cell_grown cc1 (by go_grown) hB_v2; replace cc1 := cl hG cc1; replace cc2 := cl hG cc2; replace fcc3 := fl hG fcc3 cc3; replace cc3 := cl hG cc3; replace fcc4 := fl hG fcc4 cc4; replace cc4 := cl hG cc4; replace fcc5 := fl hG fcc5 cc5; replace cc5 := cl hG cc5; have hs_v2 := hG.size; clear hG; replace hBW : Below w.heap.size w v2 := below_after (w := w) (by go_grown) hB_v2; have hn_v2 := an (nl cc1) (nl cc3); clear hB_v2)
  (go_wp2_with fail; refine (mode_Known_b _ _).mono ?_; rintro en v3 ⟨rfl, hB_v3⟩; have lay_v3 := laid_after hB_v3; have hG := cell_grown cc1 (by go_grown) hB_v3; replace cc1 := cl hG cc1; replace cc2 := cl hG cc2; replace fcc3 := fl hG fcc3 cc3; replace cc3 := cl hG cc3; replace fcc4 := fl hG fcc4 cc4; replace cc4 := cl hG cc4; replace fcc5 := fl hG fcc5 cc5; replace cc5 := cl hG cc5; have hs_v3 := hG.size; clear hG; replace hBW : Below w.heap.size w v3 := below_after (w := w) (by go_grown) hB_v3; have hn_v3 := an (nl cc1) (nl cc3); clear hB_v3)
  go_wp2_with fail
  refine (fromint_kinds _).mono ?_
  rintro e w1 ⟨rfl, rfl⟩
  go_wp2_with fail
  refine (kind3 _ _).mono ?_
  rintro e w1 ⟨rfl, rfl⟩
  (go_wp2_with fail; refine (pack_Round _ _ _ _ _ _ _ _ _ _).mono ?_; rintro en v5 ⟨rfl, hB_v5⟩; have lay_v5 := laid_after hB_v5; have hG := cell_grown cc1 (by go_grown) hB_v5; replace cc1 := cl hG cc1; replace cc2 := cl hG cc2; replace fcc3 := fl hG fcc3 cc3; replace cc3 := cl hG cc3; replace fcc4 := fl hG fcc4 cc4; replace cc4 := cl hG cc4; replace fcc5 := fl hG fcc5 cc5; replace cc5 := cl hG cc5; have hs_v5 := hG.size; clear hG; replace hBW : Below w.heap.size w v5 := below_after (w := w) (by go_grown) hB_v5; have hn_v5 := an (nl cc1) (nl cc3); clear hB_v5)
  go_wp2_with fail
  refine bodyPost_ret (by simp [results, Tryd.results27, go_sem, cc3, cc4, cc5]; try rfl) rfl ?_
  exact ⟨rfl, by go_grown⟩
set_option maxRecDepth 100000 in
set_option maxHeartbeats 8000000 in
theorem from_3_p (f m b : Int) (aft : Bool) [hU : U8 f] [hM : U8 m] [hb : U64 b] (w : World) [hLay : Laid w] (hf : f < 4) (hm : m ≤ 4) :
    Calls Tryd.prog 27 #[.int .u8 3, .int .u8 f, .agg #[.int .u8 m, .bool aft], .int .u64 b] w fun en w' => en = .returned (.agg #[.int .u64 (hi (resB f m false 255 (cat4 (kindV 3 b) 0 0 0))), .int .u64 (lo (resB f m false 255 (cat4 (kindV 3 b) 0 0 0))), .int .u8 (resFl f m aft false 255 (cat4 (kindV 3 b) 0 0 0))]) ∧ Below w.heap.size w w' := by
  have hfd : decide (f < 4) = true := decide_eq_true hf
  have hmd : decide (m ≤ 4) = true := decide_eq_true hm
  have lk := fun w : World => run_lookup_one (P := Tryd.prog) w _ rfl kindEs 4 3 (.func (.func 123) #[] #[]) 3 Tryd.underlying103 Tryd.underlying51 rfl
  clear hf hm
  go_enter Tryd.func27, Tryd.ntmps27
  skip
  (go_wp2_with fail; refine (toint_Known _ _).mono ?_; rintro en v1 ⟨rfl, hB_v1⟩; have lay_v1 := laid_after hB_v1; have cc1 := cl hB_v1 (show World.cell? _ ⟨w.heap.size, 0, none⟩ = some (.int .u8 m) by go_simp); have cc2 := cl hB_v1 (show World.cell? _ ⟨w.heap.size, 1, none⟩ = some (.bool aft) by go_simp); obtain ⟨cc3, fcc3⟩ := pf hB_v1 (show World.cell? _ ⟨w.heap.size + 1, 0, none⟩ = some (.int .u64 0) by go_simp) (by go_simp); obtain ⟨cc4, fcc4⟩ := pf hB_v1 (show World.cell? _ ⟨w.heap.size + 1, 1, none⟩ = some (.int .u64 0) by go_simp) (by go_simp); obtain ⟨cc5, fcc5⟩ := pf hB_v1 (show World.cell? _ ⟨w.heap.size + 1, 2, none⟩ = some (.int .u8 0) by go_simp) (by go_simp); have hs_v1 := hB_v1.size; (try simp only [World.size_alloc, World.size_setCell, World.size_drew] at hs_v1); have hBW : Below w.heap.size w v1 := below_after (w := w) (by go_grown) hB_v1; have hn_v1 := an (nl cc1) (nl cc3); clear hB_v1)
  (go_wp2_with fail; refine (format_Known_b _ _).mono ?_; rintro en v2 ⟨rfl, hB_v2⟩; have lay_v2 := laid_after hB_v2; have hG := cell_grown cc1 (by go_grown) hB_v2; replace cc1 := cl hG cc1; replace cc2 := cl hG cc2; replace fcc3 := fl hG fcc3 cc3; replace cc3 := cl hG cc3; replace fcc4 := fl hG fcc4 cc4; replace cc4 := cl hG cc4; replace fcc5 := fl hG fcc5 cc5; replace cc5 := cl hG cc5; have hs_v2 := hG.size; clear hG; replace hBW : Below w.heap.size w v2 := below_after (w := w) (by go_grown) hB_v2; have hn_v2 := an (nl cc1) (nl cc3); clear hB_v2)
  (go_wp2_with fail; refine (mode_Known_b _ _).mono ?_; rintro en v3 ⟨rfl, hB_v3⟩; have lay_v3 := laid_after hB_v3; have hG := cell_grown cc1 (by go_grown) hB_v3; replace cc1 := cl hG cc1; replace cc2 := cl hG cc2; replace fcc3 := fl hG fcc3 cc3; replace cc3 := cl hG cc3; replace fcc4 := fl hG fcc4 cc4; replace cc4 := cl hG cc4; replace fcc5 := fl hG fcc5 cc5; replace cc5 := cl hG cc5; have hs_v3 := hG.size; clear hG; replace hBW : Below w.heap.size w v3 := below_after (w := w) (by go_grown) hB_v3; have hn_v3 := an (nl cc1) (nl cc3); clear hB_v3)
  go_wp2_with fail
  refine (fromint_kinds _).mono ?_
  rintro e w1 ⟨rfl, rfl⟩
  go_wp2_with fail
  refine (kind4 _ _).mono ?_
  rintro e w1 ⟨rfl, rfl⟩
  (go_wp2_with fail; refine (pack_Round _ _ _ _ _ _ _ _ _ _).mono ?_; rintro en v5 ⟨rfl, hB_v5⟩; have lay_v5 := laid_after hB_v5; have hG := cell_grown cc1 (by go_grown) hB_v5; replace cc1 := cl hG cc1; replace cc2 := cl hG cc2; replace fcc3 := fl hG fcc3 cc3; replace cc3 := cl hG cc3; replace fcc4 := fl hG fcc4 cc4; replace cc4 := cl hG cc4; replace fcc5 := fl hG fcc5 cc5; replace cc5 := cl hG cc5; have hs_v5 := hG.size; clear hG; replace hBW : Below w.heap.size w v5 := below_after (w := w) (by go_grown) hB_v5; have hn_v5 := an (nl cc1) (nl cc3); clear hB_v5)
  go_wp2_with fail
  refine bodyPost_ret (by simp [results, Tryd.results27, go_sem, cc3, cc4, cc5]; try rfl) rfl ?_
  exact ⟨rfl, by go_grown⟩
set_option maxRecDepth 100000 in
set_option maxHeartbeats 8000000 in
theorem from_u1 (k f m b : Int) (aft : Bool) [hK : U8 k] [hU : U8 f] [hM : U8 m] [hb : U64 b] (w : World) [hLay : Laid w] (hk : decide (k < 4) = false) :
    Calls Tryd.prog 27 #[.int .u8 k, .int .u8 f, .agg #[.int .u8 m, .bool aft], .int .u64 b] w fun en w' => en = .returned (.agg #[.int .u64 0, .int .u64 0, .int .u8 0]) ∧ Below w.heap.size w w' := by
  go_enter Tryd.func27, Tryd.ntmps27
  skip
  (go_wp2_with fail; refine (toint_Known _ _).mono ?_; rintro en v1 ⟨rfl, hB_v1⟩; have lay_v1 := laid_after hB_v1; have cc1 := cl hB_v1 (show World.cell? _ ⟨w.heap.size, 0, none⟩ = some (.int .u8 m) by go_simp); have cc2 := cl hB_v1 (show World.cell? _ ⟨w.heap.size, 1, none⟩ = some (.bool aft) by go_simp); obtain ⟨cc3, fcc3⟩ := pf hB_v1 (show World.cell? _ ⟨w.heap.size + 1, 0, none⟩ = some (.int .u64 0) by go_simp) (by go_simp); obtain ⟨cc4, fcc4⟩ := pf hB_v1 (show World.cell? _ ⟨w.heap.size + 1, 1, none⟩ = some (.int .u64 0) by go_simp) (by go_simp); obtain ⟨cc5, fcc5⟩ := pf hB_v1 (show World.cell? _ ⟨w.heap.size + 1, 2, none⟩ = some (.int .u8 0) by go_simp) (by go_simp); have hs_v1 := hB_v1.size; (try simp only [World.size_alloc, World.size_setCell, World.size_drew] at hs_v1); have hBW : Below w.heap.size w v1 := below_after (w := w) (by go_grown) hB_v1; have hn_v1 := an (nl cc1) (nl cc3); clear hB_v1)
  go_wp2_with fail
  refine bodyPost_ret (by simp [results, Tryd.results27, go_sem, cc3, cc4, cc5]; try rfl) rfl ?_
  exact ⟨rfl, by go_grown⟩
set_option maxRecDepth 100000 in
set_option maxHeartbeats 8000000 in
theorem from_u2 (k f m b : Int) (aft : Bool) [hK : U8 k] [hU : U8 f] [hM : U8 m] [hb : U64 b] (w : World) [hLay : Laid w] (hk : decide (k < 4) = true) (hf : decide (f < 4) = false) :
    Calls Tryd.prog 27 #[.int .u8 k, .int .u8 f, .agg #[.int .u8 m, .bool aft], .int .u64 b] w fun en w' => en = .returned (.agg #[.int .u64 0, .int .u64 0, .int .u8 0]) ∧ Below w.heap.size w w' := by
  go_enter Tryd.func27, Tryd.ntmps27
  skip
  (go_wp2_with fail; refine (toint_Known _ _).mono ?_; rintro en v1 ⟨rfl, hB_v1⟩; have lay_v1 := laid_after hB_v1; have cc1 := cl hB_v1 (show World.cell? _ ⟨w.heap.size, 0, none⟩ = some (.int .u8 m) by go_simp); have cc2 := cl hB_v1 (show World.cell? _ ⟨w.heap.size, 1, none⟩ = some (.bool aft) by go_simp); obtain ⟨cc3, fcc3⟩ := pf hB_v1 (show World.cell? _ ⟨w.heap.size + 1, 0, none⟩ = some (.int .u64 0) by go_simp) (by go_simp); obtain ⟨cc4, fcc4⟩ := pf hB_v1 (show World.cell? _ ⟨w.heap.size + 1, 1, none⟩ = some (.int .u64 0) by go_simp) (by go_simp); obtain ⟨cc5, fcc5⟩ := pf hB_v1 (show World.cell? _ ⟨w.heap.size + 1, 2, none⟩ = some (.int .u8 0) by go_simp) (by go_simp); have hs_v1 := hB_v1.size; (try simp only [World.size_alloc, World.size_setCell, World.size_drew] at hs_v1); have hBW : Below w.heap.size w v1 := below_after (w := w) (by go_grown) hB_v1; have hn_v1 := an (nl cc1) (nl cc3); clear hB_v1)
  (go_wp2_with fail; refine (format_Known_b _ _).mono ?_; rintro en v2 ⟨rfl, hB_v2⟩; have lay_v2 := laid_after hB_v2; have hG := cell_grown cc1 (by go_grown) hB_v2; replace cc1 := cl hG cc1; replace cc2 := cl hG cc2; replace fcc3 := fl hG fcc3 cc3; replace cc3 := cl hG cc3; replace fcc4 := fl hG fcc4 cc4; replace cc4 := cl hG cc4; replace fcc5 := fl hG fcc5 cc5; replace cc5 := cl hG cc5; have hs_v2 := hG.size; clear hG; replace hBW : Below w.heap.size w v2 := below_after (w := w) (by go_grown) hB_v2; have hn_v2 := an (nl cc1) (nl cc3); clear hB_v2)
  go_wp2_with fail
  refine bodyPost_ret (by simp [results, Tryd.results27, go_sem, cc3, cc4, cc5]; try rfl) rfl ?_
  exact ⟨rfl, by go_grown⟩
set_option maxRecDepth 100000 in
set_option maxHeartbeats 8000000 in
theorem from_u3 (k f m b : Int) (aft : Bool) [hK : U8 k] [hU : U8 f] [hM : U8 m] [hb : U64 b] (w : World) [hLay : Laid w] (hk : decide (k < 4) = true) (hf : decide (f < 4) = true) (hm : decide (m ≤ 4) = false) :
    Calls Tryd.prog 27 #[.int .u8 k, .int .u8 f, .agg #[.int .u8 m, .bool aft], .int .u64 b] w fun en w' => en = .returned (.agg #[.int .u64 0, .int .u64 0, .int .u8 0]) ∧ Below w.heap.size w w' := by
  go_enter Tryd.func27, Tryd.ntmps27
  skip
  (go_wp2_with fail; refine (toint_Known _ _).mono ?_; rintro en v1 ⟨rfl, hB_v1⟩; have lay_v1 := laid_after hB_v1; have cc1 := cl hB_v1 (show World.cell? _ ⟨w.heap.size, 0, none⟩ = some (.int .u8 m) by go_simp); have cc2 := cl hB_v1 (show World.cell? _ ⟨w.heap.size, 1, none⟩ = some (.bool aft) by go_simp); obtain ⟨cc3, fcc3⟩ := pf hB_v1 (show World.cell? _ ⟨w.heap.size + 1, 0, none⟩ = some (.int .u64 0) by go_simp) (by go_simp); obtain ⟨cc4, fcc4⟩ := pf hB_v1 (show World.cell? _ ⟨w.heap.size + 1, 1, none⟩ = some (.int .u64 0) by go_simp) (by go_simp); obtain ⟨cc5, fcc5⟩ := pf hB_v1 (show World.cell? _ ⟨w.heap.size + 1, 2, none⟩ = some (.int .u8 0) by go_simp) (by go_simp); have hs_v1 := hB_v1.size; (try simp only [World.size_alloc, World.size_setCell, World.size_drew] at hs_v1); have hBW : Below w.heap.size w v1 := below_after (w := w) (by go_grown) hB_v1; have hn_v1 := an (nl cc1) (nl cc3); clear hB_v1)
  (go_wp2_with fail; refine (format_Known_b _ _).mono ?_; rintro en v2 ⟨rfl, hB_v2⟩; have lay_v2 := laid_after hB_v2; have hG := cell_grown cc1 (by go_grown) hB_v2; replace cc1 := cl hG cc1; replace cc2 := cl hG cc2; replace fcc3 := fl hG fcc3 cc3; replace cc3 := cl hG cc3; replace fcc4 := fl hG fcc4 cc4; replace cc4 := cl hG cc4; replace fcc5 := fl hG fcc5 cc5; replace cc5 := cl hG cc5; have hs_v2 := hG.size; clear hG; replace hBW : Below w.heap.size w v2 := below_after (w := w) (by go_grown) hB_v2; have hn_v2 := an (nl cc1) (nl cc3); clear hB_v2)
  (go_wp2_with fail; refine (mode_Known_b _ _).mono ?_; rintro en v3 ⟨rfl, hB_v3⟩; have lay_v3 := laid_after hB_v3; have hG := cell_grown cc1 (by go_grown) hB_v3; replace cc1 := cl hG cc1; replace cc2 := cl hG cc2; replace fcc3 := fl hG fcc3 cc3; replace cc3 := cl hG cc3; replace fcc4 := fl hG fcc4 cc4; replace cc4 := cl hG cc4; replace fcc5 := fl hG fcc5 cc5; replace cc5 := cl hG cc5; have hs_v3 := hG.size; clear hG; replace hBW : Below w.heap.size w v3 := below_after (w := w) (by go_grown) hB_v3; have hn_v3 := an (nl cc1) (nl cc3); clear hB_v3)
  go_wp2_with fail
  refine bodyPost_ret (by simp [results, Tryd.results27, go_sem, cc3, cc4, cc5]; try rfl) rfl ?_
  exact ⟨rfl, by go_grown⟩
theorem neg_eq (k b : Int) (x : Bool) (V : Int) (hn : negK k b = x) (hs : sizeK k b = V) (hk : k < 4) (f m : Int) (aft : Bool) : fromB k f m b = resB f m x 255 (cat4 V 0 0 0) ∧ fromFl k f m aft b = resFl f m aft x 255 (cat4 V 0 0 0) := by
  unfold fromB fromFl; rw [if_pos hk, if_pos hk, hn, hs]; exact ⟨rfl, rfl⟩
theorem fromint_From (k f m b : Int) (aft : Bool) [hK : U8 k] [hU : U8 f] [hM : U8 m] [hb : U64 b] (w : World) [hLay : Laid w] :
    Calls Tryd.prog 27 #[.int .u8 k, .int .u8 f, .agg #[.int .u8 m, .bool aft], .int .u64 b] w fun en w' => en = .returned (.agg #[.int .u64 (hi (fromB k f m b)), .int .u64 (lo (fromB k f m b)), .int .u8 (fromFl k f m aft b)]) ∧ Below w.heap.size w w' := by
  have h0 := hK.ge
  by_cases hk : k < 4
  · by_cases hf : f < 4
    · by_cases hm : m ≤ 4
      · have hk4 : k = 0 ∨ k = 1 ∨ k = 2 ∨ k = 3 := by omega
        rcases hk4 with rfl | rfl | rfl | rfl
        · by_cases hs : 9223372036854775808 ≤ kindV 0 b
          · have hn : negK 0 b = true := by unfold negK; rw [decide_eq_true hs]; rfl
            obtain ⟨e1, e2⟩ := neg_eq 0 b true _ hn (by unfold sizeK; rw [if_pos hn]) hk f m aft
            rw [e1, e2]; exact from_0_n f m b aft w hf hm hs
          · have hn : negK 0 b = false := by unfold negK; rw [decide_eq_false hs]; rfl
            obtain ⟨e1, e2⟩ := neg_eq 0 b false _ hn (by unfold sizeK; rw [if_neg (by rw [hn]; decide)]) hk f m aft
            rw [e1, e2]; exact from_0_p f m b aft w hf hm hs
        · have hn : negK 1 b = false := by unfold negK; simp
          obtain ⟨e1, e2⟩ := neg_eq 1 b false _ hn (by unfold sizeK; rw [if_neg (by rw [hn]; decide)]) hk f m aft
          rw [e1, e2]; exact from_1_p f m b aft w hf hm
        · by_cases hs : 9223372036854775808 ≤ kindV 2 b
          · have hn : negK 2 b = true := by unfold negK; rw [decide_eq_true hs]; rfl
            obtain ⟨e1, e2⟩ := neg_eq 2 b true _ hn (by unfold sizeK; rw [if_pos hn]) hk f m aft
            rw [e1, e2]; exact from_2_n f m b aft w hf hm hs
          · have hn : negK 2 b = false := by unfold negK; rw [decide_eq_false hs]; rfl
            obtain ⟨e1, e2⟩ := neg_eq 2 b false _ hn (by unfold sizeK; rw [if_neg (by rw [hn]; decide)]) hk f m aft
            rw [e1, e2]; exact from_2_p f m b aft w hf hm hs
        · have hn : negK 3 b = false := by unfold negK; simp
          obtain ⟨e1, e2⟩ := neg_eq 3 b false _ hn (by unfold sizeK; rw [if_neg (by rw [hn]; decide)]) hk f m aft
          rw [e1, e2]; exact from_3_p f m b aft w hf hm
      · have e1 : fromB k f m b = 0 := by unfold fromB; rw [if_pos hk]; unfold resB; rw [if_neg (fun h => hm h.2)]
        have e2 : fromFl k f m aft b = 0 := by unfold fromFl; rw [if_pos hk]; unfold resFl; rw [if_neg (fun h => hm h.2)]
        rw [e1, e2]; exact from_u3 k f m b aft w (decide_eq_true hk) (decide_eq_true hf) (decide_eq_false hm)
    · have e1 : fromB k f m b = 0 := by unfold fromB; rw [if_pos hk]; unfold resB; rw [if_neg (fun h => hf h.1)]
      have e2 : fromFl k f m aft b = 0 := by unfold fromFl; rw [if_pos hk]; unfold resFl; rw [if_neg (fun h => hf h.1)]
      rw [e1, e2]; exact from_u2 k f m b aft w (decide_eq_true hk) (decide_eq_false hf)
  · have e1 : fromB k f m b = 0 := by unfold fromB; rw [if_neg hk]
    have e2 : fromFl k f m aft b = 0 := by unfold fromFl; rw [if_neg hk]
    rw [e1, e2]; exact from_u1 k f m b aft w (decide_eq_false hk)
end Go.Proofs.YtgpedgppdggjmaaDoor

namespace Go.Proofs.YtgpedgppdggjmaaDoor
open Go.RowKit Go.Hb
def hasB (k b : Int) : Bool := decide (k < 4) && (kindV k b == b)
theorem zeroKind (w : World) : (zeroValue 102).run Tryd.prog w = .ok .nilFunc w := by kernel_rfl
theorem find_kind_none (k : Int) (h : 4 ≤ k) : Instr.findNow (.int .u8) (.int .u8 k) kindEs.toList 0 = some none := by
  have h0 : (k == 0) = false := by simp; omega
  have h1 : (k == 1) = false := by simp; omega
  have h2 : (k == 2) = false := by simp; omega
  have h3 : (k == 3) = false := by simp; omega
  simp [kindEs, Instr.findNow, Instr.sameNow, h0, h1, h2, h3]
set_option maxHeartbeats 4000000 in
theorem fromint_Has (k b : Int) [hK : U8 k] [hb : U64 b] (w : World) [hLay : Laid w] :
    Calls Tryd.prog 29 #[.int .u8 k, .int .u64 b] w fun e w' => e = .returned (.bool (hasB k b)) ∧ Below w.heap.size w w' := by
  have h0 := hK.ge
  have : 4 ≤ k ∨ k = 0 ∨ k = 1 ∨ k = 2 ∨ k = 3 := by omega
  rcases this with hm | rfl | rfl | rfl | rfl
  · have lk := fun w : World => run_lookup_none (P := Tryd.prog) w _ rfl kindEs 4 k .nilFunc Tryd.underlying103 Tryd.underlying51 zeroKind (find_kind_none k hm)
    have hr : hasB k b = false := by unfold hasB; rw [decide_eq_false (by omega)]; rfl
    rw [hr]
    clear hr hm
    go_enter Tryd.func29, Tryd.ntmps29
    go_wp2_with (go_at_call 78; refine (fromint_kinds _).mono ?_; rintro e w' ⟨rfl, rfl⟩)
    go_returns
    exact ⟨rfl, by go_grown⟩
  · have lk := fun w : World => run_lookup_new (P := Tryd.prog) w _ rfl kindEs 4 0 (.func (.func 120) #[] #[]) 0 Tryd.underlying103 Tryd.underlying51 rfl
    have hr : hasB 0 b = (kindV 0 b == b) := rfl
    rw [hr]
    clear hr
    go_enter Tryd.func29, Tryd.ntmps29
    go_wp2_with (first | (go_at_call 78; refine (fromint_kinds _).mono ?_; rintro e w' ⟨rfl, rfl⟩) | (go_at_call 120; refine (kind1 _ _).mono ?_; rintro e w' ⟨rfl, rfl⟩))
    go_returns
    exact ⟨rfl, by go_grown⟩
  · have lk := fun w : World => run_lookup_new (P := Tryd.prog) w _ rfl kindEs 4 1 (.func (.func 121) #[] #[]) 1 Tryd.underlying103 Tryd.underlying51 rfl
    have hr : hasB 1 b = (kindV 1 b == b) := rfl
    rw [hr]
    clear hr
    go_enter Tryd.func29, Tryd.ntmps29
    go_wp2_with (first | (go_at_call 78; refine (fromint_kinds _).mono ?_; rintro e w' ⟨rfl, rfl⟩) | (go_at_call 121; refine (kind2 _ _).mono ?_; rintro e w' ⟨rfl, rfl⟩))
    go_returns
    exact ⟨rfl, by go_grown⟩
  · have lk := fun w : World => run_lookup_new (P := Tryd.prog) w _ rfl kindEs 4 2 (.func (.func 122) #[] #[]) 2 Tryd.underlying103 Tryd.underlying51 rfl
    have hr : hasB 2 b = (kindV 2 b == b) := rfl
    rw [hr]
    clear hr
    go_enter Tryd.func29, Tryd.ntmps29
    go_wp2_with (first | (go_at_call 78; refine (fromint_kinds _).mono ?_; rintro e w' ⟨rfl, rfl⟩) | (go_at_call 122; refine (kind3 _ _).mono ?_; rintro e w' ⟨rfl, rfl⟩))
    go_returns
    exact ⟨rfl, by go_grown⟩
  · have lk := fun w : World => run_lookup_new (P := Tryd.prog) w _ rfl kindEs 4 3 (.func (.func 123) #[] #[]) 3 Tryd.underlying103 Tryd.underlying51 rfl
    have hr : hasB 3 b = (kindV 3 b == b) := rfl
    rw [hr]
    clear hr
    go_enter Tryd.func29, Tryd.ntmps29
    go_wp2_with (first | (go_at_call 78; refine (fromint_kinds _).mono ?_; rintro e w' ⟨rfl, rfl⟩) | (go_at_call 123; refine (kind4 _ _).mono ?_; rintro e w' ⟨rfl, rfl⟩))
    go_returns
    exact ⟨rfl, by go_grown⟩
instance u64_From2 : U64 65520 := ⟨by omega, by omega⟩
instance u64_From3 : U64 16777217 := ⟨by omega, by omega⟩
instance u64_From4 : U64 2147483647 := ⟨by omega, by omega⟩
instance u64_From5 : U64 2147483648 := ⟨by omega, by omega⟩
instance u64_From6 : U64 4294967295 := ⟨by omega, by omega⟩
instance u64_From7 : U64 4294967296 := ⟨by omega, by omega⟩
instance u64_From8 : U64 9223372036854775808 := ⟨by omega, by omega⟩
instance u64_From9 : U64 18446744073709551613 := ⟨by omega, by omega⟩
instance u64_From10 : U64 18446744073709551615 := ⟨by omega, by omega⟩
set_option maxRecDepth 100000 in
set_option maxHeartbeats 8000000 in
theorem law27_goes (w : World) [hLay : Laid w] :
    Calls Tryd.prog 30 #[] w fun en w' => en = .returned (.bool true) ∧ Below w.heap.size w w' := by
  have g0a : hi (fromB 0 0 0 18446744073709551613) = 0 := by decide +kernel
  have g0b : lo (fromB 0 0 0 18446744073709551613) = 49664 := by decide +kernel
  have g0c : fromFl 0 0 0 false 18446744073709551613 = 0 := by decide +kernel
  have g1a : hi (fromB 1 0 0 65520) = 0 := by decide +kernel
  have g1b : lo (fromB 1 0 0 65520) = 31744 := by decide +kernel
  have g1c : fromFl 1 0 0 false 65520 = 20 := by decide +kernel
  have g2a : hi (fromB 1 1 0 16777217) = 0 := by decide +kernel
  have g2b : lo (fromB 1 1 0 16777217) = 1266679808 := by decide +kernel
  have g2c : fromFl 1 1 0 false 16777217 = 16 := by decide +kernel
  have h1 : hasB 0 18446744073709551615 = true := by decide +kernel
  have h2 : hasB 1 4294967296 = false := by decide +kernel
  go_enter Tryd.func30, Tryd.ntmps30
  skip
  (go_wp2_with fail; refine (fromint_From _ _ _ _ _ _).mono ?_; rw [g0a, g0b, g0c]; rintro en v1 ⟨rfl, hB_v1⟩; have lay_v1 := laid_after hB_v1; have cc1 := cl hB_v1 (show World.cell? _ ⟨w.heap.size, 0, none⟩ = some (.int .u8 0) by go_simp); have cc2 := cl hB_v1 (show World.cell? _ ⟨w.heap.size, 1, none⟩ = some (.bool false) by go_simp); have hs_v1 := hB_v1.size; (try simp only [World.size_alloc, World.size_setCell, World.size_drew] at hs_v1); have hBW : Below w.heap.size w v1 := below_after (w := w) (by go_grown) hB_v1; have hn_v1 := nl cc1; clear hB_v1)
  (go_wp2_with fail; refine (fromint_From _ _ _ _ _ _).mono ?_; rw [g1a, g1b, g1c]; rintro en v2 ⟨rfl, hB_v2⟩; have lay_v2 := laid_after hB_v2; have hG := cell_grown cc1 (by go_grown) hB_v2; replace cc1 := cl hG cc1; replace cc2 := cl hG cc2; have hs_v2 := hG.size; clear hG; replace hBW : Below w.heap.size w v2 := below_after (w := w) (by go_grown) hB_v2; have hn_v2 := nl cc1; clear hB_v2)
  (go_wp2_with fail; refine (fromint_From _ _ _ _ _ _).mono ?_; rw [g2a, g2b, g2c]; rintro en v3 ⟨rfl, hB_v3⟩; have lay_v3 := laid_after hB_v3; have hG := cell_grown cc1 (by go_grown) hB_v3; replace cc1 := cl hG cc1; replace cc2 := cl hG cc2; have hs_v3 := hG.size; clear hG; replace hBW : Below w.heap.size w v3 := below_after (w := w) (by go_grown) hB_v3; have hn_v3 := nl cc1; clear hB_v3)
  (go_wp2_with fail; refine (fromint_Has _ _ _).mono ?_; rw [h1]; rintro en v4 ⟨rfl, hB_v4⟩; have lay_v4 := laid_after hB_v4; have hG := cell_grown cc1 (by go_grown) hB_v4; replace cc1 := cl hG cc1; replace cc2 := cl hG cc2; have hs_v4 := hG.size; clear hG; replace hBW : Below w.heap.size w v4 := below_after (w := w) (by go_grown) hB_v4; have hn_v4 := nl cc1; clear hB_v4)
  (go_wp2_with fail; refine (fromint_Has _ _ _).mono ?_; rw [h2]; rintro en v5 ⟨rfl, hB_v5⟩; have lay_v5 := laid_after hB_v5; have hG := cell_grown cc1 (by go_grown) hB_v5; replace cc1 := cl hG cc1; replace cc2 := cl hG cc2; have hs_v5 := hG.size; clear hG; replace hBW : Below w.heap.size w v5 := below_after (w := w) (by go_grown) hB_v5; have hn_v5 := nl cc1; clear hB_v5)
  go_wp2_with fail
  go_returns
  exact ⟨rfl, by go_grown⟩
end Go.Proofs.YtgpedgppdggjmaaDoor
