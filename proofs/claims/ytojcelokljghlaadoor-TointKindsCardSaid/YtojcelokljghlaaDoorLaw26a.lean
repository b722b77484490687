/- The walks of chapter 26: goes, TointKnown. -/
import Derived.Test.YtojcelokljghlaaDoorToint4
set_option linter.unusedSimpArgs false
set_option linter.unusedVariables false
namespace Go.Proofs.YtojcelokljghlaaDoor
open Go.RowKit Go.Hb
set_option maxHeartbeats 1000000 in
@[go_sem] theorem eqIn_whole (d : Nat) (a b a' b' : Int) (W : World) : (Op.equalIn (d + 1 + 1) 29 (.agg #[.int .u64 a, .int .u8 b]) (.agg #[.int .u64 a', .int .u8 b'])).run Tryd.prog W = .ok (decide (a = a' ∧ b = b')) W := by
  have p0 : ∀ (a b : Int) W, (part 24 #[.int .u64 a, .int .u8 b] 0).run Tryd.prog W = .ok (.int .u64 a) W := fun a b W => by kernel_rfl
  have p1 : ∀ (a b : Int) W, (part 27 #[.int .u64 a, .int .u8 b] 1).run Tryd.prog W = .ok (.int .u8 b) W := fun a b W => by kernel_rfl
  have e8 : ∀ d (a b : Int) W, (Op.equalIn (d + 1) 27 (.int .u8 a) (.int .u8 b)).run Tryd.prog W = .ok (a == b) W := fun d a b W => run_equalIn_int W d 27 .u8 .u8 a b Tryd.underlying27
  rw [run_equalIn_struct W (d + 1) 29 _ _ (by kernel_rfl) (by kernel_rfl)]
  simp only [Program.fieldsOf, Tryd.underlying29]
  by_cases h0 : a = a' <;> by_cases h1 : b = b' <;> simp [Op.eqFields, Sem.run_bind, Result.andThen, p0, p1, eqIn_u64, e8, h0, h1]
theorem run_eql_whole (W : World) (a b a' b' : Int) : (binOp .eql 29 (.agg #[.int .u64 a, .int .u8 b]) (.agg #[.int .u64 a', .int .u8 b'])).run Tryd.prog W = .ok (.bool (decide (a = a' ∧ b = b'))) W := by
  rw [run_eql_struct, eqIn_whole 9998]; rfl
theorem run_neq_whole (W : World) (a b a' b' : Int) : (binOp .neq 29 (.agg #[.int .u64 a, .int .u8 b]) (.agg #[.int .u64 a', .int .u8 b'])).run Tryd.prog W = .ok (.bool (!decide (a = a' ∧ b = b'))) W := by
  rw [run_neq_struct, eqIn_whole 9998]; rfl
theorem eql_whole_same (W : World) (a b : Int) : (binOp .eql 29 (.agg #[.int .u64 a, .int .u8 b]) (.agg #[.int .u64 a, .int .u8 b])).run Tryd.prog W = .ok (.bool true) W := by
  rw [run_eql_whole]; simp
theorem neq_whole_same (W : World) (a b : Int) : (binOp .neq 29 (.agg #[.int .u64 a, .int .u8 b]) (.agg #[.int .u64 a, .int .u8 b])).run Tryd.prog W = .ok (.bool false) W := by
  rw [run_neq_whole]; simp
theorem law26_half (v : Int) (w : World) :
    Calls Tryd.prog 23 #[.int .u64 v] w fun en w' => en = .returned (.agg #[.int .u64 (0), .int .u64 (v)]) ∧ Below w.heap.size w w' := by
  go_enter Tryd.func23, Tryd.ntmps23
  skip
  go_wp2_with fail
  refine bodyPost_ret (by simp [results, Tryd.results23, go_sem]; try rfl) rfl ?_
  exact ⟨rfl, by go_grown⟩

instance u64_L26_0 : U64 15360 := ⟨by omega, by omega⟩
instance u64_L26_1 : U64 16640 := ⟨by omega, by omega⟩
instance u64_L26_2 : U64 31744 := ⟨by omega, by omega⟩
instance u64_L26_3 : U64 32256 := ⟨by omega, by omega⟩
instance u64_L26_4 : U64 32768 := ⟨by omega, by omega⟩
instance u64_L26_5 : U64 47104 := ⟨by omega, by omega⟩
instance u64_L26_6 : U64 48128 := ⟨by omega, by omega⟩
instance u64_L26_7 : U64 49408 := ⟨by omega, by omega⟩
instance u64_L26_8 : U64 64512 := ⟨by omega, by omega⟩
instance u64_L26_9 : U64 1325400064 := ⟨by omega, by omega⟩
instance u64_L26_10 : U64 3472883712 := ⟨by omega, by omega⟩
instance u64_L26_11 : U64 4751297606873776128 := ⟨by omega, by omega⟩
instance u64_L26_12 : U64 4751297606874824704 := ⟨by omega, by omega⟩
instance u64_L26_13 : U64 4895412794951729151 := ⟨by omega, by omega⟩
instance u64_L26_14 : U64 4895412794951729152 := ⟨by omega, by omega⟩
instance u8_L26_7 : U8 7 := ⟨by omega, by omega⟩
set_option maxRecDepth 100000 in
set_option maxHeartbeats 8000000 in
theorem law26_goes (w : World) [hLay : Laid w] [hLE : LaidE w] :
    Calls Tryd.prog 16 #[] w fun en w' => en = .returned (.bool true) ∧ Below w.heap.size w w' := by
  have g0a : intV 0 0 0 (cat 0 16640) = 2 := by decide +kernel
  have g0b : intF 0 0 0 (cat 0 16640) = 16 := by decide +kernel
  have g1a : intV 0 0 4 (cat 0 49408) = 18446744073709551614 := by decide +kernel
  have g1b : intF 0 0 4 (cat 0 49408) = 16 := by decide +kernel
  have g2a : intV 0 1 0 (cat 0 48128) = 0 := by decide +kernel
  have g2b : intF 0 1 0 (cat 0 48128) = 1 := by decide +kernel
  have g3a : intV 0 1 4 (cat 0 47104) = 0 := by decide +kernel
  have g3b : intF 0 1 4 (cat 0 47104) = 16 := by decide +kernel
  have m3 : mostK 3 = 18446744073709551615 := rfl
  go_enter Tryd.func16, Tryd.ntmps16
  skip
  (go_wp2_with fail; refine (law26_half _ _).mono ?_; rintro en h1 ⟨rfl, hB_h1⟩; have lay_h1 := laid_after hB_h1; (try have layE_h1 := laidE_after hB_h1); have hs_h1 := hB_h1.size; (try simp only [World.size_alloc, World.size_setCell, World.size_drew] at hs_h1); have hBW : Below w.heap.size w h1 := below_after (w := w) (by go_grown) hB_h1; clear hB_h1)
  (go_wp2_with fail; refine (toint_Int _ _ _ _ _ _).mono ?_; rw [g0a, g0b]; rintro en v1 ⟨rfl, hB_v1⟩; have lay_v1 := laid_after hB_v1; (try have layE_v1 := laidE_after hB_v1); have hs_v1 := hB_v1.size; (try simp only [World.size_alloc, World.size_setCell, World.size_drew] at hs_v1); replace hBW : Below w.heap.size w v1 := below_after (w := w) (by go_grown) hB_v1; clear hB_v1)
  (go_wp2_with fail; refine (law26_half _ _).mono ?_; rintro en h2 ⟨rfl, hB_h2⟩; have lay_h2 := laid_after hB_h2; (try have layE_h2 := laidE_after hB_h2); have hs_h2 := hB_h2.size; (try simp only [World.size_alloc, World.size_setCell, World.size_drew] at hs_h2); replace hBW : Below w.heap.size w h2 := below_after (w := w) (by go_grown) hB_h2; clear hB_h2)
  (go_wp2_with fail; refine (toint_Int _ _ _ _ _ _).mono ?_; rw [g1a, g1b]; rintro en v2 ⟨rfl, hB_v2⟩; have lay_v2 := laid_after hB_v2; (try have layE_v2 := laidE_after hB_v2); have hs_v2 := hB_v2.size; (try simp only [World.size_alloc, World.size_setCell, World.size_drew] at hs_v2); replace hBW : Below w.heap.size w v2 := below_after (w := w) (by go_grown) hB_v2; clear hB_v2)
  (go_wp2_with fail; refine (law26_half _ _).mono ?_; rintro en h3 ⟨rfl, hB_h3⟩; have lay_h3 := laid_after hB_h3; (try have layE_h3 := laidE_after hB_h3); have hs_h3 := hB_h3.size; (try simp only [World.size_alloc, World.size_setCell, World.size_drew] at hs_h3); replace hBW : Below w.heap.size w h3 := below_after (w := w) (by go_grown) hB_h3; clear hB_h3)
  (go_wp2_with fail; refine (toint_Int _ _ _ _ _ _).mono ?_; rw [g2a, g2b]; rintro en v3 ⟨rfl, hB_v3⟩; have lay_v3 := laid_after hB_v3; (try have layE_v3 := laidE_after hB_v3); have hs_v3 := hB_v3.size; (try simp only [World.size_alloc, World.size_setCell, World.size_drew] at hs_v3); replace hBW : Below w.heap.size w v3 := below_after (w := w) (by go_grown) hB_v3; clear hB_v3)
  (go_wp2_with fail; refine (law26_half _ _).mono ?_; rintro en h4 ⟨rfl, hB_h4⟩; have lay_h4 := laid_after hB_h4; (try have layE_h4 := laidE_after hB_h4); have hs_h4 := hB_h4.size; (try simp only [World.size_alloc, World.size_setCell, World.size_drew] at hs_h4); replace hBW : Below w.heap.size w h4 := below_after (w := w) (by go_grown) hB_h4; clear hB_h4)
  (go_wp2_with fail; refine (toint_Int _ _ _ _ _ _).mono ?_; rw [g3a, g3b]; rintro en v4 ⟨rfl, hB_v4⟩; have lay_v4 := laid_after hB_v4; (try have layE_v4 := laidE_after hB_v4); have hs_v4 := hB_v4.size; (try simp only [World.size_alloc, World.size_setCell, World.size_drew] at hs_v4); replace hBW : Below w.heap.size w v4 := below_after (w := w) (by go_grown) hB_v4; clear hB_v4)
  (go_wp2_with fail; refine (toint_Most _ _).mono ?_; rw [m3]; rintro en v8 ⟨rfl, hB_v8⟩; have lay_v8 := laid_after hB_v8; (try have layE_v8 := laidE_after hB_v8); have hs_v8 := hB_v8.size; (try simp only [World.size_alloc, World.size_setCell, World.size_drew] at hs_v8); replace hBW : Below w.heap.size w v8 := below_after (w := w) (by go_grown) hB_v8; clear hB_v8)
  (go_wp2_with fail; refine (toint_KnownE _ _).mono ?_; rintro en v9 ⟨rfl, hB_v9⟩; have lay_v9 := laid_after hB_v9; (try have layE_v9 := laidE_after hB_v9); have hs_v9 := hB_v9.size; (try simp only [World.size_alloc, World.size_setCell, World.size_drew] at hs_v9); replace hBW : Below w.heap.size w v9 := below_after (w := w) (by go_grown) hB_v9; clear hB_v9)
  go_wp2_with fail
  go_returns
  exact ⟨rfl, by go_grown⟩
set_option maxRecDepth 100000 in
set_option maxHeartbeats 16000000 in
theorem walk_TointKnown (w : World) [hLay : Laid w] [hLE : LaidE w] :
    Calls Tryd.prog 5 #[] w fun en w' => en = .returned (.bool true) ∧ Below w.heap.size w w' := by
  have k0a : intV 0 0 0 (cat 0 32256) = 0 := by decide +kernel
  have k0b : intF 0 0 0 (cat 0 32256) = 1 := by decide +kernel
  have k1a : intV 0 0 0 (cat 0 64512) = 18446744071562067968 := by decide +kernel
  have k1b : intF 0 0 0 (cat 0 64512) = 1 := by decide +kernel
  have k2a : intV 0 3 0 (cat 0 31744) = 18446744073709551615 := by decide +kernel
  have k2b : intF 0 3 0 (cat 0 31744) = 1 := by decide +kernel
  have k3a : intV 1 0 0 (cat 0 1325400064) = 2147483647 := by decide +kernel
  have k3b : intF 1 0 0 (cat 0 1325400064) = 1 := by decide +kernel
  have k4a : intV 1 0 0 (cat 0 3472883712) = 18446744071562067968 := by decide +kernel
  have k4b : intF 1 0 0 (cat 0 3472883712) = 0 := by decide +kernel
  have k5a : intV 2 3 2 (cat 0 4895412794951729152) = 18446744073709551615 := by decide +kernel
  have k5b : intF 2 3 2 (cat 0 4895412794951729152) = 1 := by decide +kernel
  have k6a : intV 2 3 0 (cat 0 4895412794951729151) = 18446744073709549568 := by decide +kernel
  have k6b : intF 2 3 0 (cat 0 4895412794951729151) = 0 := by decide +kernel
  have k7a : intV 2 1 0 (cat 0 4751297606873776128) = 4294967295 := by decide +kernel
  have k7b : intF 2 1 0 (cat 0 4751297606873776128) = 0 := by decide +kernel
  have k8a : intV 2 1 0 (cat 0 4751297606874824704) = 4294967295 := by decide +kernel
  have k8b : intF 2 1 0 (cat 0 4751297606874824704) = 1 := by decide +kernel
  have k9a : intV 0 0 0 (cat 0 32768) = 0 := by decide +kernel
  have k9b : intF 0 0 0 (cat 0 32768) = 0 := by decide +kernel
  have k10a : intV 4 0 0 (cat 0 15360) = 0 := by decide +kernel
  have k10b : intF 4 0 0 (cat 0 15360) = 0 := by decide +kernel
  have k11a : intV 0 4 0 (cat 0 15360) = 0 := by decide +kernel
  have k11b : intF 0 4 0 (cat 0 15360) = 0 := by decide +kernel
  have k12a : intV 0 0 5 (cat 0 15360) = 0 := by decide +kernel
  have k12b : intF 0 0 5 (cat 0 15360) = 0 := by decide +kernel
  have l2 : IntKind.u64.wrap (-(leastK 2)) = 9223372036854775808 := by decide +kernel
  have l1 : IntKind.u64.wrap (-(leastK 1)) = 0 := by decide +kernel
  have m7 : mostK 7 = 0 := rfl
  go_enter Tryd.func5, Tryd.ntmps5
  skip
  (go_wp2_with fail; refine (law26_half _ _).mono ?_; rintro en h1 ⟨rfl, hB_h1⟩; have lay_h1 := laid_after hB_h1; (try have layE_h1 := laidE_after hB_h1); have hs_h1 := hB_h1.size; (try simp only [World.size_alloc, World.size_setCell, World.size_drew] at hs_h1); have hBW : Below w.heap.size w h1 := below_after (w := w) (by go_grown) hB_h1; clear hB_h1)
  (go_wp2_with fail; refine (toint_Int _ _ _ _ _ _).mono ?_; rw [k0a, k0b]; rintro en v1 ⟨rfl, hB_v1⟩; have lay_v1 := laid_after hB_v1; (try have layE_v1 := laidE_after hB_v1); have hs_v1 := hB_v1.size; (try simp only [World.size_alloc, World.size_setCell, World.size_drew] at hs_v1); replace hBW : Below w.heap.size w v1 := below_after (w := w) (by go_grown) hB_v1; clear hB_v1)
  (go_wp2_with fail; refine (law26_half _ _).mono ?_; rintro en h2 ⟨rfl, hB_h2⟩; have lay_h2 := laid_after hB_h2; (try have layE_h2 := laidE_after hB_h2); have hs_h2 := hB_h2.size; (try simp only [World.size_alloc, World.size_setCell, World.size_drew] at hs_h2); replace hBW : Below w.heap.size w h2 := below_after (w := w) (by go_grown) hB_h2; clear hB_h2)
  (go_wp2_with fail; refine (toint_Int _ _ _ _ _ _).mono ?_; rw [k1a, k1b]; rintro en v2 ⟨rfl, hB_v2⟩; have lay_v2 := laid_after hB_v2; (try have layE_v2 := laidE_after hB_v2); have hs_v2 := hB_v2.size; (try simp only [World.size_alloc, World.size_setCell, World.size_drew] at hs_v2); replace hBW : Below w.heap.size w v2 := below_after (w := w) (by go_grown) hB_v2; clear hB_v2)
  (go_wp2_with fail; refine (law26_half _ _).mono ?_; rintro en h3 ⟨rfl, hB_h3⟩; have lay_h3 := laid_after hB_h3; (try have layE_h3 := laidE_after hB_h3); have hs_h3 := hB_h3.size; (try simp only [World.size_alloc, World.size_setCell, World.size_drew] at hs_h3); replace hBW : Below w.heap.size w h3 := below_after (w := w) (by go_grown) hB_h3; clear hB_h3)
  (go_wp2_with fail; refine (toint_Int _ _ _ _ _ _).mono ?_; rw [k2a, k2b]; rintro en v3 ⟨rfl, hB_v3⟩; have lay_v3 := laid_after hB_v3; (try have layE_v3 := laidE_after hB_v3); have hs_v3 := hB_v3.size; (try simp only [World.size_alloc, World.size_setCell, World.size_drew] at hs_v3); replace hBW : Below w.heap.size w v3 := below_after (w := w) (by go_grown) hB_v3; clear hB_v3)
  (go_wp2_with fail; refine (law26_half _ _).mono ?_; rintro en h4 ⟨rfl, hB_h4⟩; have lay_h4 := laid_after hB_h4; (try have layE_h4 := laidE_after hB_h4); have hs_h4 := hB_h4.size; (try simp only [World.size_alloc, World.size_setCell, World.size_drew] at hs_h4); replace hBW : Below w.heap.size w h4 := below_after (w := w) (by go_grown) hB_h4; clear hB_h4)
  (go_wp2_with fail; refine (toint_Int _ _ _ _ _ _).mono ?_; rw [k3a, k3b]; rintro en v4 ⟨rfl, hB_v4⟩; have lay_v4 := laid_after hB_v4; (try have layE_v4 := laidE_after hB_v4); have hs_v4 := hB_v4.size; (try simp only [World.size_alloc, World.size_setCell, World.size_drew] at hs_v4); replace hBW : Below w.heap.size w v4 := below_after (w := w) (by go_grown) hB_v4; clear hB_v4)
  (go_wp2_with fail; refine (law26_half _ _).mono ?_; rintro en h5 ⟨rfl, hB_h5⟩; have lay_h5 := laid_after hB_h5; (try have layE_h5 := laidE_after hB_h5); have hs_h5 := hB_h5.size; (try simp only [World.size_alloc, World.size_setCell, World.size_drew] at hs_h5); replace hBW : Below w.heap.size w h5 := below_after (w := w) (by go_grown) hB_h5; clear hB_h5)
  (go_wp2_with fail; refine (toint_Int _ _ _ _ _ _).mono ?_; rw [k4a, k4b]; rintro en v5 ⟨rfl, hB_v5⟩; have lay_v5 := laid_after hB_v5; (try have layE_v5 := laidE_after hB_v5); have hs_v5 := hB_v5.size; (try simp only [World.size_alloc, World.size_setCell, World.size_drew] at hs_v5); replace hBW : Below w.heap.size w v5 := below_after (w := w) (by go_grown) hB_v5; clear hB_v5)
  (go_wp2_with fail; refine (law26_half _ _).mono ?_; rintro en h6 ⟨rfl, hB_h6⟩; have lay_h6 := laid_after hB_h6; (try have layE_h6 := laidE_after hB_h6); have hs_h6 := hB_h6.size; (try simp only [World.size_alloc, World.size_setCell, World.size_drew] at hs_h6); replace hBW : Below w.heap.size w h6 := below_after (w := w) (by go_grown) hB_h6; clear hB_h6)
  (go_wp2_with fail; refine (toint_Int _ _ _ _ _ _).mono ?_; rw [k5a, k5b]; rintro en v6 ⟨rfl, hB_v6⟩; have lay_v6 := laid_after hB_v6; (try have layE_v6 := laidE_after hB_v6); have hs_v6 := hB_v6.size; (try simp only [World.size_alloc, World.size_setCell, World.size_drew] at hs_v6); replace hBW : Below w.heap.size w v6 := below_after (w := w) (by go_grown) hB_v6; clear hB_v6)
  (go_wp2_with fail; refine (law26_half _ _).mono ?_; rintro en h7 ⟨rfl, hB_h7⟩; have lay_h7 := laid_after hB_h7; (try have layE_h7 := laidE_after hB_h7); have hs_h7 := hB_h7.size; (try simp only [World.size_alloc, World.size_setCell, World.size_drew] at hs_h7); replace hBW : Below w.heap.size w h7 := below_after (w := w) (by go_grown) hB_h7; clear hB_h7)
  (go_wp2_with fail; refine (toint_Int _ _ _ _ _ _).mono ?_; rw [k6a, k6b]; rintro en v7 ⟨rfl, hB_v7⟩; have lay_v7 := laid_after hB_v7; (try have layE_v7 := laidE_after hB_v7); have hs_v7 := hB_v7.size; (try simp only [World.size_alloc, World.size_setCell, World.size_drew] at hs_v7); replace hBW : Below w.heap.size w v7 := below_after (w := w) (by go_grown) hB_v7; clear hB_v7)
  (go_wp2_with fail; refine (law26_half _ _).mono ?_; rintro en h8 ⟨rfl, hB_h8⟩; have lay_h8 := laid_after hB_h8; (try have layE_h8 := laidE_after hB_h8); have hs_h8 := hB_h8.size; (try simp only [World.size_alloc, World.size_setCell, World.size_drew] at hs_h8); replace hBW : Below w.heap.size w h8 := below_after (w := w) (by go_grown) hB_h8; clear hB_h8)
  (go_wp2_with fail; refine (toint_Int _ _ _ _ _ _).mono ?_; rw [k7a, k7b]; rintro en v8 ⟨rfl, hB_v8⟩; have lay_v8 := laid_after hB_v8; (try have layE_v8 := laidE_after hB_v8); have hs_v8 := hB_v8.size; (try simp only [World.size_alloc, World.size_setCell, World.size_drew] at hs_v8); replace hBW : Below w.heap.size w v8 := below_after (w := w) (by go_grown) hB_v8; clear hB_v8)
  (go_wp2_with fail; refine (law26_half _ _).mono ?_; rintro en h9 ⟨rfl, hB_h9⟩; have lay_h9 := laid_after hB_h9; (try have layE_h9 := laidE_after hB_h9); have hs_h9 := hB_h9.size; (try simp only [World.size_alloc, World.size_setCell, World.size_drew] at hs_h9); replace hBW : Below w.heap.size w h9 := below_after (w := w) (by go_grown) hB_h9; clear hB_h9)
  (go_wp2_with fail; refine (toint_Int _ _ _ _ _ _).mono ?_; rw [k8a, k8b]; rintro en v9 ⟨rfl, hB_v9⟩; have lay_v9 := laid_after hB_v9; (try have layE_v9 := laidE_after hB_v9); have hs_v9 := hB_v9.size; (try simp only [World.size_alloc, World.size_setCell, World.size_drew] at hs_v9); replace hBW : Below w.heap.size w v9 := below_after (w := w) (by go_grown) hB_v9; clear hB_v9)
  (go_wp2_with fail; refine (law26_half _ _).mono ?_; rintro en h10 ⟨rfl, hB_h10⟩; have lay_h10 := laid_after hB_h10; (try have layE_h10 := laidE_after hB_h10); have hs_h10 := hB_h10.size; (try simp only [World.size_alloc, World.size_setCell, World.size_drew] at hs_h10); replace hBW : Below w.heap.size w h10 := below_after (w := w) (by go_grown) hB_h10; clear hB_h10)
  (go_wp2_with fail; refine (toint_Int _ _ _ _ _ _).mono ?_; rw [k9a, k9b]; rintro en v10 ⟨rfl, hB_v10⟩; have lay_v10 := laid_after hB_v10; (try have layE_v10 := laidE_after hB_v10); have hs_v10 := hB_v10.size; (try simp only [World.size_alloc, World.size_setCell, World.size_drew] at hs_v10); replace hBW : Below w.heap.size w v10 := below_after (w := w) (by go_grown) hB_v10; clear hB_v10)
  (go_wp2_with fail; refine (law26_half _ _).mono ?_; rintro en h11 ⟨rfl, hB_h11⟩; have lay_h11 := laid_after hB_h11; (try have layE_h11 := laidE_after hB_h11); have hs_h11 := hB_h11.size; (try simp only [World.size_alloc, World.size_setCell, World.size_drew] at hs_h11); replace hBW : Below w.heap.size w h11 := below_after (w := w) (by go_grown) hB_h11; clear hB_h11)
  (go_wp2_with fail; refine (toint_Int _ _ _ _ _ _).mono ?_; rw [k10a, k10b]; rintro en v11 ⟨rfl, hB_v11⟩; have lay_v11 := laid_after hB_v11; (try have layE_v11 := laidE_after hB_v11); have hs_v11 := hB_v11.size; (try simp only [World.size_alloc, World.size_setCell, World.size_drew] at hs_v11); replace hBW : Below w.heap.size w v11 := below_after (w := w) (by go_grown) hB_v11; clear hB_v11)
  (go_wp2_with fail; refine (law26_half _ _).mono ?_; rintro en h12 ⟨rfl, hB_h12⟩; have lay_h12 := laid_after hB_h12; (try have layE_h12 := laidE_after hB_h12); have hs_h12 := hB_h12.size; (try simp only [World.size_alloc, World.size_setCell, World.size_drew] at hs_h12); replace hBW : Below w.heap.size w h12 := below_after (w := w) (by go_grown) hB_h12; clear hB_h12)
  (go_wp2_with fail; refine (toint_Int _ _ _ _ _ _).mono ?_; rw [k11a, k11b]; rintro en v12 ⟨rfl, hB_v12⟩; have lay_v12 := laid_after hB_v12; (try have layE_v12 := laidE_after hB_v12); have hs_v12 := hB_v12.size; (try simp only [World.size_alloc, World.size_setCell, World.size_drew] at hs_v12); replace hBW : Below w.heap.size w v12 := below_after (w := w) (by go_grown) hB_v12; clear hB_v12)
  (go_wp2_with fail; refine (law26_half _ _).mono ?_; rintro en h13 ⟨rfl, hB_h13⟩; have lay_h13 := laid_after hB_h13; (try have layE_h13 := laidE_after hB_h13); have hs_h13 := hB_h13.size; (try simp only [World.size_alloc, World.size_setCell, World.size_drew] at hs_h13); replace hBW : Below w.heap.size w h13 := below_after (w := w) (by go_grown) hB_h13; clear hB_h13)
  (go_wp2_with fail; refine (toint_Int _ _ _ _ _ _).mono ?_; rw [k12a, k12b]; rintro en v13 ⟨rfl, hB_v13⟩; have lay_v13 := laid_after hB_v13; (try have layE_v13 := laidE_after hB_v13); have hs_v13 := hB_v13.size; (try simp only [World.size_alloc, World.size_setCell, World.size_drew] at hs_v13); replace hBW : Below w.heap.size w v13 := below_after (w := w) (by go_grown) hB_v13; clear hB_v13)
  (go_wp2_with fail; refine (toint_Least _ _).mono ?_; rw [l2]; rintro en x1 ⟨rfl, hB_x1⟩; have lay_x1 := laid_after hB_x1; (try have layE_x1 := laidE_after hB_x1); have hs_x1 := hB_x1.size; (try simp only [World.size_alloc, World.size_setCell, World.size_drew] at hs_x1); replace hBW : Below w.heap.size w x1 := below_after (w := w) (by go_grown) hB_x1; clear hB_x1)
  (go_wp2_with fail; refine (toint_Least _ _).mono ?_; rw [l1]; rintro en x2 ⟨rfl, hB_x2⟩; have lay_x2 := laid_after hB_x2; (try have layE_x2 := laidE_after hB_x2); have hs_x2 := hB_x2.size; (try simp only [World.size_alloc, World.size_setCell, World.size_drew] at hs_x2); replace hBW : Below w.heap.size w x2 := below_after (w := w) (by go_grown) hB_x2; clear hB_x2)
  (go_wp2_with fail; refine (toint_Most _ _).mono ?_; rw [m7]; rintro en x3 ⟨rfl, hB_x3⟩; have lay_x3 := laid_after hB_x3; (try have layE_x3 := laidE_after hB_x3); have hs_x3 := hB_x3.size; (try simp only [World.size_alloc, World.size_setCell, World.size_drew] at hs_x3); replace hBW : Below w.heap.size w x3 := below_after (w := w) (by go_grown) hB_x3; clear hB_x3)
  (go_wp2_with fail; refine (toint_KnownE _ _).mono ?_; rintro en x4 ⟨rfl, hB_x4⟩; have lay_x4 := laid_after hB_x4; (try have layE_x4 := laidE_after hB_x4); have hs_x4 := hB_x4.size; (try simp only [World.size_alloc, World.size_setCell, World.size_drew] at hs_x4); replace hBW : Below w.heap.size w x4 := below_after (w := w) (by go_grown) hB_x4; clear hB_x4)
  (go_wp2_with fail; refine (law26_goes _).mono ?_; rintro en x5 ⟨rfl, hB_x5⟩; have lay_x5 := laid_after hB_x5; (try have layE_x5 := laidE_after hB_x5); have hs_x5 := hB_x5.size; (try simp only [World.size_alloc, World.size_setCell, World.size_drew] at hs_x5); replace hBW : Below w.heap.size w x5 := below_after (w := w) (by go_grown) hB_x5; clear hB_x5)
  go_wp2_with fail
  go_returns
  exact ⟨rfl, by go_grown⟩
end Go.Proofs.YtojcelokljghlaaDoor
