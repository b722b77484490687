/- The contract of fromint.Has; the walks of chapter 27: goes, FromintKnown. Condition: the listed table is laid. -/
import Derived.Test.YtmebfamfbdhlmaaDoorFromint
set_option linter.unusedSimpArgs false
set_option linter.unusedVariables false
namespace Go.Proofs.YtmebfamfbdhlmaaDoor
open Go.RowKit Go.Hb
def hasB (k b : Int) : Bool := decide (k < 4) && (kindV k b == b)
theorem zeroKind (w : World) : (zeroValue 75).run Tryd.prog w = .ok .nilFunc w := by kernel_rfl
theorem find_kind_none (k : Int) (h : 4 ≤ k) : Instr.findNow (.int .u8) (.int .u8 k) kindEs.toList 0 = some none := by
  have h0 : (k == 0) = false := by simp; omega
  have h1 : (k == 1) = false := by simp; omega
  have h2 : (k == 2) = false := by simp; omega
  have h3 : (k == 3) = false := by simp; omega
  simp [kindEs, Instr.findNow, Instr.sameNow, h0, h1, h2, h3]
set_option maxHeartbeats 4000000 in
theorem fromint_Has (k b : Int) [hK : U8 k] [hb : U64 b] (w : World) [hLay : Laid w] :
    Calls Tryd.prog 12 #[.int .u8 k, .int .u64 b] w fun e w' => e = .returned (.bool (hasB k b)) ∧ Below w.heap.size w w' := by
  have h0 := hK.ge
  have : 4 ≤ k ∨ k = 0 ∨ k = 1 ∨ k = 2 ∨ k = 3 := by omega
  rcases this with hm | rfl | rfl | rfl | rfl
  · have lk := fun w : World => run_lookup_none (P := Tryd.prog) w _ rfl kindEs 4 k .nilFunc Tryd.underlying77 Tryd.underlying22 zeroKind (find_kind_none k hm)
    have hr : hasB k b = false := by unfold hasB; rw [decide_eq_false (by omega)]; rfl
    rw [hr]
    clear hr hm
    go_enter Tryd.func12, Tryd.ntmps12
    go_wp2_with (go_at_call 40; refine (fromint_kinds _).mono ?_; rintro e w' ⟨rfl, rfl⟩)
    go_returns
    exact ⟨rfl, by go_grown⟩
  · have lk := fun w : World => run_lookup_new (P := Tryd.prog) w _ rfl kindEs 4 0 (.func (.func 69) #[] #[]) 0 Tryd.underlying77 Tryd.underlying22 rfl
    have hr : hasB 0 b = (kindV 0 b == b) := rfl
    rw [hr]
    clear hr
    go_enter Tryd.func12, Tryd.ntmps12
    go_wp2_with (first | (go_at_call 40; refine (fromint_kinds _).mono ?_; rintro e w' ⟨rfl, rfl⟩) | (go_at_call 69; refine (kind1 _ _).mono ?_; rintro e w' ⟨rfl, rfl⟩))
    go_returns
    exact ⟨rfl, by go_grown⟩
  · have lk := fun w : World => run_lookup_new (P := Tryd.prog) w _ rfl kindEs 4 1 (.func (.func 70) #[] #[]) 1 Tryd.underlying77 Tryd.underlying22 rfl
    have hr : hasB 1 b = (kindV 1 b == b) := rfl
    rw [hr]
    clear hr
    go_enter Tryd.func12, Tryd.ntmps12
    go_wp2_with (first | (go_at_call 40; refine (fromint_kinds _).mono ?_; rintro e w' ⟨rfl, rfl⟩) | (go_at_call 70; refine (kind2 _ _).mono ?_; rintro e w' ⟨rfl, rfl⟩))
    go_returns
    exact ⟨rfl, by go_grown⟩
  · have lk := fun w : World => run_lookup_new (P := Tryd.prog) w _ rfl kindEs 4 2 (.func (.func 71) #[] #[]) 2 Tryd.underlying77 Tryd.underlying22 rfl
    have hr : hasB 2 b = (kindV 2 b == b) := rfl
    rw [hr]
    clear hr
    go_enter Tryd.func12, Tryd.ntmps12
    go_wp2_with (first | (go_at_call 40; refine (fromint_kinds _).mono ?_; rintro e w' ⟨rfl, rfl⟩) | (go_at_call 71; refine (kind3 _ _).mono ?_; rintro e w' ⟨rfl, rfl⟩))
    go_returns
    exact ⟨rfl, by go_grown⟩
  · have lk := fun w : World => run_lookup_new (P := Tryd.prog) w _ rfl kindEs 4 3 (.func (.func 72) #[] #[]) 3 Tryd.underlying77 Tryd.underlying22 rfl
    have hr : hasB 3 b = (kindV 3 b == b) := rfl
    rw [hr]
    clear hr
    go_enter Tryd.func12, Tryd.ntmps12
    go_wp2_with (first | (go_at_call 40; refine (fromint_kinds _).mono ?_; rintro e w' ⟨rfl, rfl⟩) | (go_at_call 72; refine (kind4 _ _).mono ?_; rintro e w' ⟨rfl, rfl⟩))
    go_returns
    exact ⟨rfl, by go_grown⟩
instance u64_From2 : U64 65520 := ⟨by omega, by omega⟩
instance u64_From3 : U64 16777217 := ⟨by omega, by omega⟩
instance u64_From4 : U64 2147483647 := ⟨by omega, by omega⟩
instance u64_From5 : U64 2147483648 := ⟨by omega, by omega⟩
instance u64_From6 : U64 4294967295 := ⟨by omega, by omega⟩
instance u64_From7 : U64 4294967296 := ⟨by omega, by omega⟩
instance u64_From8 : U64 9223372036854775808 := ⟨by omega, by omega⟩
instance u64_From9 : U64 18446744073709551613 := ⟨by omega, by omega⟩
instance u64_From10 : U64 18446744073709551615 := ⟨by omega, by omega⟩
set_option maxRecDepth 100000 in
set_option maxHeartbeats 8000000 in
theorem law27_goes (w : World) [hLay : Laid w] :
    Calls Tryd.prog 14 #[] w fun en w' => en = .returned (.bool true) ∧ Below w.heap.size w w' := by
  have g0a : hi (fromB 0 0 0 18446744073709551613) = 0 := by decide +kernel
  have g0b : lo (fromB 0 0 0 18446744073709551613) = 49664 := by decide +kernel
  have g0c : fromFl 0 0 0 false 18446744073709551613 = 0 := by decide +kernel
  have g1a : hi (fromB 1 0 0 65520) = 0 := by decide +kernel
  have g1b : lo (fromB 1 0 0 65520) = 31744 := by decide +kernel
  have g1c : fromFl 1 0 0 false 65520 = 20 := by decide +kernel
  have g2a : hi (fromB 1 1 0 16777217) = 0 := by decide +kernel
  have g2b : lo (fromB 1 1 0 16777217) = 1266679808 := by decide +kernel
  have g2c : fromFl 1 1 0 false 16777217 = 16 := by decide +kernel
  have h1 : hasB 0 18446744073709551615 = true := by decide +kernel
  have h2 : hasB 1 4294967296 = false := by decide +kernel
  go_enter Tryd.func14, Tryd.ntmps14
  skip
  (go_wp2_with fail; refine (fromint_From _ _ _ _ _ _).mono ?_; rw [g0a, g0b, g0c]; rintro en v1 ⟨rfl, hB_v1⟩; have lay_v1 := laid_after hB_v1; have cc1 := cell_later hB_v1 (show World.cell? _ ⟨w.heap.size, 0, none⟩ = some (.int .u8 0) by go_simp); have cc2 := cell_later hB_v1 (show World.cell? _ ⟨w.heap.size, 1, none⟩ = some (.bool false) by go_simp); have hs_v1 := hB_v1.size; (try simp only [World.size_alloc, World.size_setCell, World.size_drew] at hs_v1); have hBW : Below w.heap.size w v1 := below_after (w := w) (by go_grown) hB_v1; have hl_v1 : w.heap.size < v1.heap.size := (by omega); have hn_v1 : w.heap.size ≠ v1.heap.size ∧ v1.heap.size ≠ w.heap.size ∧ w.heap.size ≠ v1.heap.size + 1 ∧ v1.heap.size + 1 ≠ w.heap.size := (by omega); clear hB_v1)
  (go_wp2_with fail; refine (fromint_From _ _ _ _ _ _).mono ?_; rw [g1a, g1b, g1c]; rintro en v2 ⟨rfl, hB_v2⟩; have lay_v2 := laid_after hB_v2; replace cc1 := cell_later hB_v2 (cell_later (by go_grown) cc1); replace cc2 := cell_later hB_v2 (cell_later (by go_grown) cc2); have hs_v2 := hB_v2.size; (try simp only [World.size_alloc, World.size_setCell, World.size_drew] at hs_v2); replace hBW : Below w.heap.size w v2 := below_after (w := w) (by go_grown) hB_v2; have hl_v2 : w.heap.size < v2.heap.size := (by omega); have hn_v2 : w.heap.size ≠ v2.heap.size ∧ v2.heap.size ≠ w.heap.size ∧ w.heap.size ≠ v2.heap.size + 1 ∧ v2.heap.size + 1 ≠ w.heap.size := (by omega); clear hB_v2)
  (go_wp2_with fail; refine (fromint_From _ _ _ _ _ _).mono ?_; rw [g2a, g2b, g2c]; rintro en v3 ⟨rfl, hB_v3⟩; have lay_v3 := laid_after hB_v3; replace cc1 := cell_later hB_v3 (cell_later (by go_grown) cc1); replace cc2 := cell_later hB_v3 (cell_later (by go_grown) cc2); have hs_v3 := hB_v3.size; (try simp only [World.size_alloc, World.size_setCell, World.size_drew] at hs_v3); replace hBW : Below w.heap.size w v3 := below_after (w := w) (by go_grown) hB_v3; have hl_v3 : w.heap.size < v3.heap.size := (by omega); have hn_v3 : w.heap.size ≠ v3.heap.size ∧ v3.heap.size ≠ w.heap.size ∧ w.heap.size ≠ v3.heap.size + 1 ∧ v3.heap.size + 1 ≠ w.heap.size := (by omega); clear hB_v3)
  (go_wp2_with fail; refine (fromint_Has _ _ _).mono ?_; rw [h1]; rintro en v4 ⟨rfl, hB_v4⟩; have lay_v4 := laid_after hB_v4; replace cc1 := cell_later hB_v4 (cell_later (by go_grown) cc1); replace cc2 := cell_later hB_v4 (cell_later (by go_grown) cc2); have hs_v4 := hB_v4.size; (try simp only [World.size_alloc, World.size_setCell, World.size_drew] at hs_v4); replace hBW : Below w.heap.size w v4 := below_after (w := w) (by go_grown) hB_v4; have hl_v4 : w.heap.size < v4.heap.size := (by omega); have hn_v4 : w.heap.size ≠ v4.heap.size ∧ v4.heap.size ≠ w.heap.size ∧ w.heap.size ≠ v4.heap.size + 1 ∧ v4.heap.size + 1 ≠ w.heap.size := (by omega); clear hB_v4)
  (go_wp2_with fail; refine (fromint_Has _ _ _).mono ?_; rw [h2]; rintro en v5 ⟨rfl, hB_v5⟩; have lay_v5 := laid_after hB_v5; replace cc1 := cell_later hB_v5 (cell_later (by go_grown) cc1); replace cc2 := cell_later hB_v5 (cell_later (by go_grown) cc2); have hs_v5 := hB_v5.size; (try simp only [World.size_alloc, World.size_setCell, World.size_drew] at hs_v5); replace hBW : Below w.heap.size w v5 := below_after (w := w) (by go_grown) hB_v5; have hl_v5 : w.heap.size < v5.heap.size := (by omega); have hn_v5 : w.heap.size ≠ v5.heap.size ∧ v5.heap.size ≠ w.heap.size ∧ w.heap.size ≠ v5.heap.size + 1 ∧ v5.heap.size + 1 ≠ w.heap.size := (by omega); clear hB_v5)
  go_wp2_with fail
  go_returns
  exact ⟨rfl, by go_grown⟩
end Go.Proofs.YtmebfamfbdhlmaaDoor
