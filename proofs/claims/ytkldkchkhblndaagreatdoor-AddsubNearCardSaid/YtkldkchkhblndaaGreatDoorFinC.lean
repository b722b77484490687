/- The contract of class.Finite; sizes; what a comparison says. Condition: the listed table is laid. -/
import Derived.Test.YtkldkchkhblndaaGreatDoorComp2
import Derived.Test.YtkldkchkhblndaaGreatDoorSumQ
set_option linter.unusedSimpArgs false
set_option linter.unusedVariables false
namespace Go.Proofs.YtkldkchkhblndaaGreatDoor
open Go.RowKit Go.Hb
def finC (f : Int) (v : Nat) : Bool := decide (f < 4) && decide (classF f v < 3)
set_option maxRecDepth 100000 in
theorem class_Finite (f h l : Int) [hU : U8 f] [U64 h] [U64 l] (w : World) [hLay : Laid w] :
    Calls Tryz.prog 25 #[.int .u8 f, .agg #[.int .u64 (h), .int .u64 (l)]] w fun en w' => en = .returned (.bool (finC f (cat h l))) ∧ Below w.heap.size w w' := by
  by_cases hf : f < 4
  · have hfd : decide (f < 4) = true := decide_eq_true hf
    have hr : finC f (cat h l) = decide (classF f (cat h l) < 3) := by unfold finC; rw [hfd]; rfl
    rw [hr]
    clear hr hf
    go_enter Tryz.func25, Tryz.ntmps25
    skip
    (go_wp2_with fail; refine (class_Of _ _ _ _).mono ?_; rintro en v1 ⟨rfl, hB_v1⟩; have lay_v1 := laid_after hB_v1; have cc1 := cl hB_v1 (show World.cell? _ ⟨w.heap.size, 0, none⟩ = some (.int .u64 h) by go_simp); have cc2 := cl hB_v1 (show World.cell? _ ⟨w.heap.size, 1, none⟩ = some (.int .u64 l) by go_simp); have hs_v1 := hB_v1.size; (try simp only [World.size_alloc, World.size_setCell, World.size_drew] at hs_v1); have hBW : Below w.heap.size w v1 := below_after (w := w) (by go_grown) hB_v1; have hn_v1 := nl cc1; clear hB_v1)
    (go_wp2_with fail; refine (format_Known_b _ _).mono ?_; rintro en v2 ⟨rfl, hB_v2⟩; have lay_v2 := laid_after hB_v2; have hG := cell_grown cc1 (by go_grown) hB_v2; replace cc1 := cl hG cc1; replace cc2 := cl hG cc2; have hs_v2 := hG.size; clear hG; replace hBW : Below w.heap.size w v2 := below_after (w := w) (by go_grown) hB_v2; have hn_v2 := nl cc1; clear hB_v2)
    go_wp2_with fail
    go_returns
    exact ⟨rfl, by go_grown⟩
  · have hfd : decide (f < 4) = false := decide_eq_false hf
    have hr : finC f (cat h l) = false := by unfold finC; rw [hfd]; rfl
    rw [hr]
    clear hr hf
    go_enter Tryz.func25, Tryz.ntmps25
    skip
    (go_wp2_with fail; refine (class_Of _ _ _ _).mono ?_; rintro en v1 ⟨rfl, hB_v1⟩; have lay_v1 := laid_after hB_v1; have cc1 := cl hB_v1 (show World.cell? _ ⟨w.heap.size, 0, none⟩ = some (.int .u64 h) by go_simp); have cc2 := cl hB_v1 (show World.cell? _ ⟨w.heap.size, 1, none⟩ = some (.int .u64 l) by go_simp); have hs_v1 := hB_v1.size; (try simp only [World.size_alloc, World.size_setCell, World.size_drew] at hs_v1); have hBW : Below w.heap.size w v1 := below_after (w := w) (by go_grown) hB_v1; have hn_v1 := nl cc1; clear hB_v1)
    (go_wp2_with fail; refine (format_Known_b _ _).mono ?_; rintro en v2 ⟨rfl, hB_v2⟩; have lay_v2 := laid_after hB_v2; have hG := cell_grown cc1 (by go_grown) hB_v2; replace cc1 := cl hG cc1; replace cc2 := cl hG cc2; have hs_v2 := hG.size; clear hG; replace hBW : Below w.heap.size w v2 := below_after (w := w) (by go_grown) hB_v2; have hn_v2 := nl cc1; clear hB_v2)
    go_wp2_with fail
    go_returns
    exact ⟨rfl, by go_grown⟩
theorem fin_dec {f : Int} {v : Nat} (hf : f < 4) : (finC f v = true ↔ classF f v < 3) := by
  unfold finC
  rw [decide_eq_true hf, Bool.true_and, decide_eq_true_eq]
theorem size_fin (f : Int) (v : Nat) (h0 : 0 ≤ f) (hf : f < 4) (h : classF f v < 3) : sizeF f v < infC f ∧ codeF f (sizeF f v) = codeF f v ∧ sizeF f v = codeF f v := by
  have h1 := (class_fin f v h0 hf).1 h
  have hI := infC_lt f h0 hf
  have hu := Nat.two_pow_pos (precS f - 1).toNat
  have e := sizeF_c f v h0 hf
  rw [e]
  exact ⟨h1, (pos_parts f _ h0 hf (by omega)).1, rfl⟩
theorem cmp_le {x y : Nat} (h : x ≤ y) : decide (cmpN x y > 0) = false ∧ decide (cmpN x y ≤ 0) = true := by
  unfold cmpN
  constructor
  · apply decide_eq_false; repeat' split
    all_goals omega
  · apply decide_eq_true; repeat' split
    all_goals omega
theorem cmp_gt {x y : Nat} (h : y < x) : decide (cmpN x y > 0) = true := by
  rw [cmpN_gt h]; rfl
theorem cmp_lt' {x y : Nat} : (decide (cmpN x y < 0) = true → x < y) ∧ (decide (cmpN x y < 0) = false → y ≤ x) := by
  unfold cmpN
  constructor
  · intro h
    have := of_decide_eq_true h
    revert this
    repeat' split
    all_goals omega
  · intro h
    have := of_decide_eq_false h
    revert this
    repeat' split
    all_goals omega
end Go.Proofs.YtkldkchkhblndaaGreatDoor
