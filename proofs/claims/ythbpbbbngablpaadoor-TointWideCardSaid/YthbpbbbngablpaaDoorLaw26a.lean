/- The walks of chapter 26: goes, TointKnown. -/
import Derived.Test.YthbpbbbngablpaaDoorToint4
set_option linter.unusedSimpArgs false
set_option linter.unusedVariables false
namespace Go.Proofs.YthbpbbbngablpaaDoor
open Go.RowKit Go.Hb
set_option maxHeartbeats 1000000 in
@[go_sem] theorem eqIn_whole (d : Nat) (a b a' b' : Int) (W : World) : (Op.equalIn (d + 1 + 1) 38 (.agg #[.int .u64 a, .int .u8 b]) (.agg #[.int .u64 a', .int .u8 b'])).run Tryd.prog W = .ok (decide (a = a' ∧ b = b')) W := by
  have p0 : ∀ (a b : Int) W, (part 23 #[.int .u64 a, .int .u8 b] 0).run Tryd.prog W = .ok (.int .u64 a) W := fun a b W => by kernel_rfl
  have p1 : ∀ (a b : Int) W, (part 27 #[.int .u64 a, .int .u8 b] 1).run Tryd.prog W = .ok (.int .u8 b) W := fun a b W => by kernel_rfl
  have e8 : ∀ d (a b : Int) W, (Op.equalIn (d + 1) 27 (.int .u8 a) (.int .u8 b)).run Tryd.prog W = .ok (a == b) W := fun d a b W => run_equalIn_int W d 27 .u8 .u8 a b Tryd.underlying27
  rw [run_equalIn_struct W (d + 1) 38 _ _ (by kernel_rfl) (by kernel_rfl)]
  simp only [Program.fieldsOf, Tryd.underlying38]
  by_cases h0 : a = a' <;> by_cases h1 : b = b' <;> simp [Op.eqFields, Sem.run_bind, Result.andThen, p0, p1, eqIn_u64, e8, h0, h1]
theorem run_eql_whole (W : World) (a b a' b' : Int) : (binOp .eql 38 (.agg #[.int .u64 a, .int .u8 b]) (.agg #[.int .u64 a', .int .u8 b'])).run Tryd.prog W = .ok (.bool (decide (a = a' ∧ b = b'))) W := by
  rw [run_eql_struct, eqIn_whole 9998]; rfl
theorem run_neq_whole (W : World) (a b a' b' : Int) : (binOp .neq 38 (.agg #[.int .u64 a, .int .u8 b]) (.agg #[.int .u64 a', .int .u8 b'])).run Tryd.prog W = .ok (.bool (!decide (a = a' ∧ b = b'))) W := by
  rw [run_neq_struct, eqIn_whole 9998]; rfl
theorem eql_whole_same (W : World) (a b : Int) : (binOp .eql 38 (.agg #[.int .u64 a, .int .u8 b]) (.agg #[.int .u64 a, .int .u8 b])).run Tryd.prog W = .ok (.bool true) W := by
  rw [run_eql_whole]; simp
theorem neq_whole_same (W : World) (a b : Int) : (binOp .neq 38 (.agg #[.int .u64 a, .int .u8 b]) (.agg #[.int .u64 a, .int .u8 b])).run Tryd.prog W = .ok (.bool false) W := by
  rw [run_neq_whole]; simp
theorem law26_half (v : Int) (w : World) :
    Calls Tryd.prog 31 #[.int .u64 v] w fun en w' => en = .returned (.agg #[.int .u64 (0), .int .u64 (v)]) ∧ Below w.heap.size w w' := by
  go_enter Tryd.func31, Tryd.ntmps31
  skip
  go_wp2_with fail
  refine bodyPost_ret (by simp [results, Tryd.results31, go_sem]; try rfl) rfl ?_
  exact ⟨rfl, by go_grown⟩

instance u64_L26_0 : U64 15360 := ⟨by omega, by omega⟩
instance u64_L26_1 : U64 16640 := ⟨by omega, by omega⟩
instance u64_L26_2 : U64 31744 := ⟨by omega, by omega⟩
instance u64_L26_3 : U64 32256 := ⟨by omega, by omega⟩
instance u64_L26_4 : U64 32768 := ⟨by omega, by omega⟩
instance u64_L26_5 : U64 47104 := ⟨by omega, by omega⟩
instance u64_L26_6 : U64 48128 := ⟨by omega, by omega⟩
instance u64_L26_7 : U64 49408 := ⟨by omega, by omega⟩
instance u64_L26_8 : U64 64512 := ⟨by omega, by omega⟩
instance u64_L26_9 : U64 1325400064 := ⟨by omega, by omega⟩
instance u64_L26_10 : U64 3472883712 := ⟨by omega, by omega⟩
instance u64_L26_11 : U64 4751297606873776128 := ⟨by omega, by omega⟩
instance u64_L26_12 : U64 4751297606874824704 := ⟨by omega, by omega⟩
instance u64_L26_13 : U64 4895412794951729151 := ⟨by omega, by omega⟩
instance u64_L26_14 : U64 4895412794951729152 := ⟨by omega, by omega⟩
instance u8_L26_7 : U8 7 := ⟨by omega, by omega⟩
set_option maxRecDepth 100000 in
set_option maxHeartbeats 8000000 in
theorem law26_goes (w : World) [hLay : Laid w] [hLE : LaidE w] :
    Calls Tryd.prog 12 #[] w fun en w' => en = .returned (.bool true) ∧ Below w.heap.size w w' := by
  have g0a : intV 0 0 0 (cat 0 16640) = 2 := by decide +kernel
  have g0b : intF 0 0 0 (cat 0 16640) = 16 := by decide +kernel
  have g1a : intV 0 0 4 (cat 0 49408) = 18446744073709551614 := by decide +kernel
  have g1b : intF 0 0 4 (cat 0 49408) = 16 := by decide +kernel
  have g2a : intV 0 1 0 (cat 0 48128) = 0 := by decide +kernel
  have g2b : intF 0 1 0 (cat 0 48128) = 1 := by decide +kernel
  have g3a : intV 0 1 4 (cat 0 47104) = 0 := by decide +kernel
  have g3b : intF 0 1 4 (cat 0 47104) = 16 := by decide +kernel
  have m3 : mostK 3 = 18446744073709551615 := rfl
  go_enter Tryd.func12, Tryd.ntmps12
  skip
  (go_wp2_with fail; refine (law26_half _ _).mono ?_; rintro en h1 ⟨rfl, hB_h1⟩; have lay_h1 := laid_after hB_h1; (try have layE_h1 := laidE_after hB_h1); have hs_h1 := hB_h1.size; (try simp only [World.size_alloc, World.size_setCell, World.size_drew] at hs_h1); have hBW : Below w.heap.size w h1 := below_after (w := w) (by go_grown) hB_h1; clear hB_h1)
  (go_wp2_with fail; refine (toint_Int _ _ _ _ _ _).mono ?_; rw [g0a, g0b]; rintro en v1 ⟨rfl, hB_v1⟩; have lay_v1 := laid_after hB_v1; (try have layE_v1 := laidE_after hB_v1); have hs_v1 := hB_v1.size; (try simp only [World.size_alloc, World.size_setCell, World.size_drew] at hs_v1); replace hBW : Below w.heap.size w v1 := below_after (w := w) (by go_grown) hB_v1; clear hB_v1)
  (go_wp2_with fail; refine (law26_half _ _).mono ?_; rintro en h2 ⟨rfl, hB_h2⟩; have lay_h2 := laid_after hB_h2; (try have layE_h2 := laidE_after hB_h2); have hs_h2 := hB_h2.size; (try simp only [World.size_alloc, World.size_setCell, World.size_drew] at hs_h2); replace hBW : Below w.heap.size w h2 := below_after (w := w) (by go_grown) hB_h2; clear hB_h2)
  (go_wp2_with fail; refine (toint_Int _ _ _ _ _ _).mono ?_; rw [g1a, g1b]; rintro en v2 ⟨rfl, hB_v2⟩; have lay_v2 := laid_after hB_v2; (try have layE_v2 := laidE_after hB_v2); have hs_v2 := hB_v2.size; (try simp only [World.size_alloc, World.size_setCell, World.size_drew] at hs_v2); replace hBW : Below w.heap.size w v2 := below_after (w := w) (by go_grown) hB_v2; clear hB_v2)
  (go_wp2_with fail; refine (law26_half _ _).mono ?_; rintro en h3 ⟨rfl, hB_h3⟩; have lay_h3 := laid_after hB_h3; (try have layE_h3 := laidE_after hB_h3); have hs_h3 := hB_h3.size; (try simp only [World.size_alloc, World.size_setCell, World.size_drew] at hs_h3); replace hBW : Below w.heap.size w h3 := below_after (w := w) (by go_grown) hB_h3; clear hB_h3)
  (go_wp2_with fail; refine (toint_Int _ _ _ _ _ _).mono ?_; rw [g2a, g2b]; rintro en v3 ⟨rfl, hB_v3⟩; have lay_v3 := laid_after hB_v3; (try have layE_v3 := laidE_after hB_v3); have hs_v3 := hB_v3.size; (try simp only [World.size_alloc, World.size_setCell, World.size_drew] at hs_v3); replace hBW : Below w.heap.size w v3 := below_after (w := w) (by go_grown) hB_v3; clear hB_v3)
  (go_wp2_with fail; refine (law26_half _ _).mono ?_; rintro en h4 ⟨rfl, hB_h4⟩; have lay_h4 := laid_after hB_h4; (try have layE_h4 := laidE_after hB_h4); have hs_h4 := hB_h4.size; (try simp only [World.size_alloc, World.size_setCell, World.size_drew] at hs_h4); replace hBW : Below w.heap.size w h4 := below_after (w := w) (by go_grown) hB_h4; clear hB_h4)
  (go_wp2_with fail; refine (toint_Int _ _ _ _ _ _).mono ?_; rw [g3a, g3b]; rintro en v4 ⟨rfl, hB_v4⟩; have lay_v4 := laid_after hB_v4; (try have layE_v4 := laidE_after hB_v4); have hs_v4 := hB_v4.size; (try simp only [World.size_alloc, World.size_setCell, World.size_drew] at hs_v4); replace hBW : Below w.heap.size w v4 := below_after (w := w) (by go_grown) hB_v4; clear hB_v4)
  (go_wp2_with fail; refine (toint_Most _ _).mono ?_; rw [m3]; rintro en v8 ⟨rfl, hB_v8⟩; have lay_v8 := laid_after hB_v8; (try have layE_v8 := laidE_after hB_v8); have hs_v8 := hB_v8.size; (try simp only [World.size_alloc, World.size_setCell, World.size_drew] at hs_v8); replace hBW : Below w.heap.size w v8 := below_after (w := w) (by go_grown) hB_v8; clear hB_v8)
  (go_wp2_with fail; refine (toint_KnownE _ _).mono ?_; rintro en v9 ⟨rfl, hB_v9⟩; have lay_v9 := laid_after hB_v9; (try have layE_v9 := laidE_after hB_v9); have hs_v9 := hB_v9.size; (try simp only [World.size_alloc, World.size_setCell, World.size_drew] at hs_v9); replace hBW : Below w.heap.size w v9 := below_after (w := w) (by go_grown) hB_v9; clear hB_v9)
  go_wp2_with fail
  go_returns
  exact ⟨rfl, by go_grown⟩
end Go.Proofs.YthbpbbbngablpaaDoor
