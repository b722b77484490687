/- The walks of chapter 24: goes. -/
import Derived.Test.YtkpjeceofcfnkaaGreatDoorRint2
set_option linter.unusedSimpArgs false
set_option linter.unusedVariables false
namespace Go.Proofs.YtkpjeceofcfnkaaGreatDoor
open Go.RowKit Go.Hb
theorem law24_half (v : Int) (w : World) :
    Calls Tryz.prog 39 #[.int .u64 v] w fun en w' => en = .returned (.agg #[.int .u64 (0), .int .u64 (v)]) ∧ Below w.heap.size w w' := by
  go_enter Tryz.func39, Tryz.ntmps39
  skip
  go_wp2_with fail
  refine bodyPost_ret (by simp [results, Tryz.results39, go_sem]; try rfl) rfl ?_
  exact ⟨rfl, by go_grown⟩
instance u64_L24_0 : U64 15872 := ⟨by omega, by omega⟩
instance u64_L24_1 : U64 16640 := ⟨by omega, by omega⟩
instance u64_L24_2 : U64 32769 := ⟨by omega, by omega⟩
instance u64_L24_3 : U64 16896 := ⟨by omega, by omega⟩
instance u64_L24_4 : U64 16384 := ⟨by omega, by omega⟩
instance u64_L24_5 : U64 32768 := ⟨by omega, by omega⟩
instance u64_L24_6 : U64 47104 := ⟨by omega, by omega⟩
instance u64_L24_7 : U64 14848 := ⟨by omega, by omega⟩
instance u64_L24_8 : U64 31745 := ⟨by omega, by omega⟩
instance u64_L24_9 : U64 32257 := ⟨by omega, by omega⟩
instance u64_L24_10 : U64 64512 := ⟨by omega, by omega⟩
instance u64_L24_11 : U64 25599 := ⟨by omega, by omega⟩
instance u64_L24_12 : U64 25600 := ⟨by omega, by omega⟩
instance u64_L24_13 : U64 31744 := ⟨by omega, by omega⟩
instance u64_L24_14 : U64 48128 := ⟨by omega, by omega⟩
instance u64_L24_15 : U64 15360 := ⟨by omega, by omega⟩
set_option maxRecDepth 100000 in
set_option maxHeartbeats 8000000 in
theorem law24_goes (w : World) [hLay : Laid w] :
    Calls Tryz.prog 11 #[] w fun en w' => en = .returned (.bool true) ∧ Below w.heap.size w w' := by
  have g0a : hi (rintB 0 0 (cat 0 15872)) = 0 := by decide +kernel
  have g0b : lo (rintB 0 0 (cat 0 15872)) = 16384 := by decide +kernel
  have g0c : rintFl 0 0 false (cat 0 15872) = 0 := by decide +kernel
  have g1a : hi (rintB 0 0 (cat 0 16640)) = 0 := by decide +kernel
  have g1b : lo (rintB 0 0 (cat 0 16640)) = 16384 := by decide +kernel
  have g1c : rintFl 0 0 false (cat 0 16640) = 0 := by decide +kernel
  have g2a : hi (rintB 0 1 (cat 0 16640)) = 0 := by decide +kernel
  have g2b : lo (rintB 0 1 (cat 0 16640)) = 16896 := by decide +kernel
  have g2c : rintFl 0 1 false (cat 0 16640) = 0 := by decide +kernel
  have g3a : hi (rintB 0 2 (cat 0 32769)) = 0 := by decide +kernel
  have g3b : lo (rintB 0 2 (cat 0 32769)) = 32768 := by decide +kernel
  have g3c : rintFl 0 2 true (cat 0 32769) = 16 := by decide +kernel
  have k0 : wholeB 0 (cat 0 16896) = true := by decide +kernel
  have k1 : wholeB 0 (cat 0 16640) = false := by decide +kernel
  have q := fun W a b c => eql_res_same W a b c
  go_enter Tryz.func11, Tryz.ntmps11
  skip
  (go_wp2_with fail; refine (law24_half _ _).mono ?_; rintro en h0 ⟨rfl, hB_h0⟩; have lay_h0 := laid_after hB_h0; have hs_h0 := hB_h0.size; (try simp only [World.size_alloc, World.size_setCell, World.size_drew] at hs_h0); have hBW : Below w.heap.size w h0 := below_after (w := w) (by go_grown) hB_h0; clear hB_h0)
  (go_wp2_with fail; refine (rint_Rint _ _ _ _ _ _).mono ?_; rw [g0a, g0b, g0c]; rintro en v0 ⟨rfl, hB_v0⟩; have lay_v0 := laid_after hB_v0; have hs_v0 := hB_v0.size; (try simp only [World.size_alloc, World.size_setCell, World.size_drew] at hs_v0); replace hBW : Below w.heap.size w v0 := below_after (w := w) (by go_grown) hB_v0; clear hB_v0)
  (go_wp2_with fail; refine (law24_half _ _).mono ?_; rintro en j0 ⟨rfl, hB_j0⟩; have lay_j0 := laid_after hB_j0; have hs_j0 := hB_j0.size; (try simp only [World.size_alloc, World.size_setCell, World.size_drew] at hs_j0); replace hBW : Below w.heap.size w j0 := below_after (w := w) (by go_grown) hB_j0; clear hB_j0)
  (go_wp2_with fail; refine (law24_half _ _).mono ?_; rintro en h1 ⟨rfl, hB_h1⟩; have lay_h1 := laid_after hB_h1; have hs_h1 := hB_h1.size; (try simp only [World.size_alloc, World.size_setCell, World.size_drew] at hs_h1); replace hBW : Below w.heap.size w h1 := below_after (w := w) (by go_grown) hB_h1; clear hB_h1)
  (go_wp2_with fail; refine (rint_Rint _ _ _ _ _ _).mono ?_; rw [g1a, g1b, g1c]; rintro en v1 ⟨rfl, hB_v1⟩; have lay_v1 := laid_after hB_v1; have hs_v1 := hB_v1.size; (try simp only [World.size_alloc, World.size_setCell, World.size_drew] at hs_v1); replace hBW : Below w.heap.size w v1 := below_after (w := w) (by go_grown) hB_v1; clear hB_v1)
  (go_wp2_with fail; refine (law24_half _ _).mono ?_; rintro en j1 ⟨rfl, hB_j1⟩; have lay_j1 := laid_after hB_j1; have hs_j1 := hB_j1.size; (try simp only [World.size_alloc, World.size_setCell, World.size_drew] at hs_j1); replace hBW : Below w.heap.size w j1 := below_after (w := w) (by go_grown) hB_j1; clear hB_j1)
  (go_wp2_with fail; refine (law24_half _ _).mono ?_; rintro en h2 ⟨rfl, hB_h2⟩; have lay_h2 := laid_after hB_h2; have hs_h2 := hB_h2.size; (try simp only [World.size_alloc, World.size_setCell, World.size_drew] at hs_h2); replace hBW : Below w.heap.size w h2 := below_after (w := w) (by go_grown) hB_h2; clear hB_h2)
  (go_wp2_with fail; refine (rint_Rint _ _ _ _ _ _).mono ?_; rw [g2a, g2b, g2c]; rintro en v2 ⟨rfl, hB_v2⟩; have lay_v2 := laid_after hB_v2; have hs_v2 := hB_v2.size; (try simp only [World.size_alloc, World.size_setCell, World.size_drew] at hs_v2); replace hBW : Below w.heap.size w v2 := below_after (w := w) (by go_grown) hB_v2; clear hB_v2)
  (go_wp2_with fail; refine (law24_half _ _).mono ?_; rintro en j2 ⟨rfl, hB_j2⟩; have lay_j2 := laid_after hB_j2; have hs_j2 := hB_j2.size; (try simp only [World.size_alloc, World.size_setCell, World.size_drew] at hs_j2); replace hBW : Below w.heap.size w j2 := below_after (w := w) (by go_grown) hB_j2; clear hB_j2)
  (go_wp2_with fail; refine (law24_half _ _).mono ?_; rintro en h3 ⟨rfl, hB_h3⟩; have lay_h3 := laid_after hB_h3; have hs_h3 := hB_h3.size; (try simp only [World.size_alloc, World.size_setCell, World.size_drew] at hs_h3); replace hBW : Below w.heap.size w h3 := below_after (w := w) (by go_grown) hB_h3; clear hB_h3)
  (go_wp2_with fail; refine (rint_Rint _ _ _ _ _ _).mono ?_; rw [g3a, g3b, g3c]; rintro en v3 ⟨rfl, hB_v3⟩; have lay_v3 := laid_after hB_v3; have hs_v3 := hB_v3.size; (try simp only [World.size_alloc, World.size_setCell, World.size_drew] at hs_v3); replace hBW : Below w.heap.size w v3 := below_after (w := w) (by go_grown) hB_v3; clear hB_v3)
  (go_wp2_with fail; refine (law24_half _ _).mono ?_; rintro en j3 ⟨rfl, hB_j3⟩; have lay_j3 := laid_after hB_j3; have hs_j3 := hB_j3.size; (try simp only [World.size_alloc, World.size_setCell, World.size_drew] at hs_j3); replace hBW : Below w.heap.size w j3 := below_after (w := w) (by go_grown) hB_j3; clear hB_j3)
  (go_wp2_with fail; refine (law24_half _ _).mono ?_; rintro en h8 ⟨rfl, hB_h8⟩; have lay_h8 := laid_after hB_h8; have hs_h8 := hB_h8.size; (try simp only [World.size_alloc, World.size_setCell, World.size_drew] at hs_h8); replace hBW : Below w.heap.size w h8 := below_after (w := w) (by go_grown) hB_h8; clear hB_h8)
  (go_wp2_with fail; refine (rint_Whole _ _ _ _).mono ?_; rw [k0]; rintro en v8 ⟨rfl, hB_v8⟩; have lay_v8 := laid_after hB_v8; have hs_v8 := hB_v8.size; (try simp only [World.size_alloc, World.size_setCell, World.size_drew] at hs_v8); replace hBW : Below w.heap.size w v8 := below_after (w := w) (by go_grown) hB_v8; clear hB_v8)
  (go_wp2_with fail; refine (law24_half _ _).mono ?_; rintro en h9 ⟨rfl, hB_h9⟩; have lay_h9 := laid_after hB_h9; have hs_h9 := hB_h9.size; (try simp only [World.size_alloc, World.size_setCell, World.size_drew] at hs_h9); replace hBW : Below w.heap.size w h9 := below_after (w := w) (by go_grown) hB_h9; clear hB_h9)
  (go_wp2_with fail; refine (rint_Whole _ _ _ _).mono ?_; rw [k1]; rintro en v9 ⟨rfl, hB_v9⟩; have lay_v9 := laid_after hB_v9; have hs_v9 := hB_v9.size; (try simp only [World.size_alloc, World.size_setCell, World.size_drew] at hs_v9); replace hBW : Below w.heap.size w v9 := below_after (w := w) (by go_grown) hB_v9; clear hB_v9)
  go_wp2_with fail
  go_returns
  exact ⟨rfl, by go_grown⟩
end Go.Proofs.YtkpjeceofcfnkaaGreatDoor
