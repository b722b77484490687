/- The contract of wide.Cmp: for every input. Condition: the listed table is laid (unused). -/
import Derived.Test.YtkpjeceofcfnkaaGreatDoorWide
import Derived.Test.YtkpjeceofcfnkaaGreatDoorFormat
set_option linter.unusedSimpArgs false
set_option linter.unusedVariables false
namespace Go.Proofs.YtkpjeceofcfnkaaGreatDoor
open Go.RowKit Go.Hb
theorem cmpN_bd (a b : Nat) : -1 ≤ cmpN a b ∧ cmpN a b ≤ 1 := by unfold cmpN; repeat' split <;> omega
theorem cmp_high (x0 x1 x2 x3 y0 y1 y2 y3 : Int) [a0 : U64 x0] [a1 : U64 x1] [a2 : U64 x2] [a3 : U64 x3] [b0 : U64 y0] [b1 : U64 y1] [b2 : U64 y2] [b3 : U64 y3] :
    cmpN (cat4 x0 x1 x2 x3) (cat4 y0 y1 y2 y3) = if cmpN (cat x3 x2) (cat y3 y2) = 0 then cmpN (cat x1 x0) (cat y1 y0) else cmpN (cat x3 x2) (cat y3 y2) := by
  have k0 := a0.ge; have k1 := a1.ge; have k2 := a2.ge; have k3 := a3.ge
  have l0 := a0.lt; have l1 := a1.lt; have l2 := a2.lt; have l3 := a3.lt
  have m0 := b0.ge; have m1 := b1.ge; have m2 := b2.ge; have m3 := b3.ge
  have n0 := b0.lt; have n1 := b1.lt; have n2 := b2.lt; have n3 := b3.lt
  unfold cmpN cat4 cat
  repeat' split
  all_goals first | rfl | omega
theorem wide_Cmp (x0 x1 x2 x3 y0 y1 y2 y3 : Int) [U64 x0] [U64 x1] [U64 x2] [U64 x3] [U64 y0] [U64 y1] [U64 y2] [U64 y3] (w : World) [hLay : Laid w] :
    Calls Tryz.prog 146 #[.agg #[.int .u64 (x0), .int .u64 (x1), .int .u64 (x2), .int .u64 (x3)], .agg #[.int .u64 (y0), .int .u64 (y1), .int .u64 (y2), .int .u64 (y3)]] w fun e w' => e = .returned (.int .i64 (cmpN (cat4 x0 x1 x2 x3) (cat4 y0 y1 y2 y3))) ∧ Below w.heap.size w w' := by
  rw [cmp_high]
  by_cases hc : cmpN (cat x3 x2) (cat y3 y2) = 0
  · rw [if_pos hc]
    have hc2 : (cmpN (cat x3 x2) (cat y3 y2) != 0) = false := by rw [hc]; rfl
    have hc3 := Lib.hid hc
    clear hc
    go_enter Tryz.func146, Tryz.ntmps146
    skip
    go_upto_region 1 with fail
    ((first | refine wp_rename ?_ | refine goal_rename ?_); intro W0 hw_W0; have cc1 : W0.cell? ⟨w.heap.size, 0, none⟩ = some (.int .u64 x0) := (by rw [hw_W0]; go_simp); have cc2 : W0.cell? ⟨w.heap.size, 1, none⟩ = some (.int .u64 x1) := (by rw [hw_W0]; go_simp); have cc3 : W0.cell? ⟨w.heap.size, 2, none⟩ = some (.int .u64 x2) := (by rw [hw_W0]; go_simp); have cc4 : W0.cell? ⟨w.heap.size, 3, none⟩ = some (.int .u64 x3) := (by rw [hw_W0]; go_simp); have cc5 : W0.cell? ⟨w.heap.size + 1, 0, none⟩ = some (.int .u64 y0) := (by rw [hw_W0]; go_simp); have cc6 : W0.cell? ⟨w.heap.size + 1, 1, none⟩ = some (.int .u64 y1) := (by rw [hw_W0]; go_simp); have cc7 : W0.cell? ⟨w.heap.size + 1, 2, none⟩ = some (.int .u64 y2) := (by rw [hw_W0]; go_simp); have cc8 : W0.cell? ⟨w.heap.size + 1, 3, none⟩ = some (.int .u64 y3) := (by rw [hw_W0]; go_simp); have hBW : Below w.heap.size w W0 := (by rw [hw_W0]; (first | with_reducible exact drewN_below (by assumption) _ | go_grown)); have hn_W0 := an (nl cc1) (nl cc5); have lay_W0 : Laid W0 := Laid.below (w := w) (by assumption) hBW; clear hw_W0)
    go_region_held3 (fun w' => w'.cell? ⟨w.heap.size, 0, none⟩ = some (.int .u64 x0) ∧ w'.cell? ⟨w.heap.size, 1, none⟩ = some (.int .u64 x1) ∧ w'.cell? ⟨w.heap.size, 2, none⟩ = some (.int .u64 x2) ∧ w'.cell? ⟨w.heap.size, 3, none⟩ = some (.int .u64 x3) ∧ w'.cell? ⟨w.heap.size + 1, 0, none⟩ = some (.int .u64 y0) ∧ w'.cell? ⟨w.heap.size + 1, 1, none⟩ = some (.int .u64 y1) ∧ w'.cell? ⟨w.heap.size + 1, 2, none⟩ = some (.int .u64 y2) ∧ w'.cell? ⟨w.heap.size + 1, 3, none⟩ = some (.int .u64 y3)) ((refine ⟨?_, ?_, ?_, ?_, ?_, ?_, ?_, ?_⟩ <;> (refine cell_later (w := W0) ?_ (by assumption); go_grown))) (first | (go_at_call 109; refine (wide_High _ _ _ _ _).mono ?_; rintro en z1 ⟨rfl, hB_z1⟩; have hb_z1 : Below W0.heap.size W0 z1 := below_after (by go_grown) hB_z1; have hs_z1 := hb_z1.size; have lay_z1 := laid_after hB_z1) | (go_at_call 156; refine (word_Cmp _ _ _ _ _).mono ?_; rintro en z2 ⟨rfl, hB_z2⟩; have hb_z2 : Below W0.heap.size W0 z2 := below_after (by go_grown) hB_z2; have hs_z2 := hb_z2.size; have lay_z2 := laid_after hB_z2))
    (replace cc1 := cl hb_z2 cc1; replace cc2 := cl hb_z2 cc2; replace cc3 := cl hb_z2 cc3; replace cc4 := cl hb_z2 cc4; replace cc5 := cl hb_z2 cc5; replace cc6 := cl hb_z2 cc6; replace cc7 := cl hb_z2 cc7; replace cc8 := cl hb_z2 cc8; replace hBW := below_after hBW hb_z2; have hsb_z2 := hb_z2.size; have hn_z2 := an (nl cc1) (nl cc5))
    go_upto_region 4 with fail
    ((first | refine wp_rename ?_ | refine goal_rename ?_); intro W1 hw_W1; have hG := named cc1 W1 (by rw [hw_W1]; first | with_reducible exact drewN_below (Below.refl _ _) _ | go_grown); replace cc1 := cl hG cc1; replace cc2 := cl hG cc2; replace cc3 := cl hG cc3; replace cc4 := cl hG cc4; replace cc5 := cl hG cc5; replace cc6 := cl hG cc6; replace cc7 := cl hG cc7; replace cc8 := cl hG cc8; replace hBW := below_after hBW hG; have hs_W1 := hG.size; clear hG; have hn_W1 := an (nl cc1) (nl cc5); have lay_W1 : Laid W1 := Laid.below (w := w) (by assumption) hBW; clear hw_W1)
    go_region_held3 (fun w' => w'.cell? ⟨w.heap.size, 0, none⟩ = some (.int .u64 x0) ∧ w'.cell? ⟨w.heap.size, 1, none⟩ = some (.int .u64 x1) ∧ w'.cell? ⟨w.heap.size, 2, none⟩ = some (.int .u64 x2) ∧ w'.cell? ⟨w.heap.size, 3, none⟩ = some (.int .u64 x3) ∧ w'.cell? ⟨w.heap.size + 1, 0, none⟩ = some (.int .u64 y0) ∧ w'.cell? ⟨w.heap.size + 1, 1, none⟩ = some (.int .u64 y1) ∧ w'.cell? ⟨w.heap.size + 1, 2, none⟩ = some (.int .u64 y2) ∧ w'.cell? ⟨w.heap.size + 1, 3, none⟩ = some (.int .u64 y3)) ((refine ⟨?_, ?_, ?_, ?_, ?_, ?_, ?_, ?_⟩ <;> (refine cell_later (w := W1) ?_ (by assumption); go_grown))) (first | (go_at_call 112; refine (wide_Low _ _ _ _ _).mono ?_; rintro en z3 ⟨rfl, hB_z3⟩; have hb_z3 : Below W1.heap.size W1 z3 := below_after (by go_grown) hB_z3; have hs_z3 := hb_z3.size; have lay_z3 := laid_after hB_z3) | (go_at_call 156; refine (word_Cmp _ _ _ _ _).mono ?_; rintro en z4 ⟨rfl, hB_z4⟩; have hb_z4 : Below W1.heap.size W1 z4 := below_after (by go_grown) hB_z4; have hs_z4 := hb_z4.size; have lay_z4 := laid_after hB_z4))
    (replace cc1 := cl hb_z4 cc1; replace cc2 := cl hb_z4 cc2; replace cc3 := cl hb_z4 cc3; replace cc4 := cl hb_z4 cc4; replace cc5 := cl hb_z4 cc5; replace cc6 := cl hb_z4 cc6; replace cc7 := cl hb_z4 cc7; replace cc8 := cl hb_z4 cc8; replace hBW := below_after hBW hb_z4; have hsb_z4 := hb_z4.size; have hn_z4 := an (nl cc1) (nl cc5))
    go_wp2_with fail
    go_returns
    exact ⟨rfl, by go_grown⟩
  · rw [if_neg hc]
    have hc2 : (cmpN (cat x3 x2) (cat y3 y2) != 0) = true := by simpa using hc
    clear hc
    go_enter Tryz.func146, Tryz.ntmps146
    skip
    go_upto_region 1 with fail
    ((first | refine wp_rename ?_ | refine goal_rename ?_); intro W0 hw_W0; have cc1 : W0.cell? ⟨w.heap.size, 0, none⟩ = some (.int .u64 x0) := (by rw [hw_W0]; go_simp); have cc2 : W0.cell? ⟨w.heap.size, 1, none⟩ = some (.int .u64 x1) := (by rw [hw_W0]; go_simp); have cc3 : W0.cell? ⟨w.heap.size, 2, none⟩ = some (.int .u64 x2) := (by rw [hw_W0]; go_simp); have cc4 : W0.cell? ⟨w.heap.size, 3, none⟩ = some (.int .u64 x3) := (by rw [hw_W0]; go_simp); have cc5 : W0.cell? ⟨w.heap.size + 1, 0, none⟩ = some (.int .u64 y0) := (by rw [hw_W0]; go_simp); have cc6 : W0.cell? ⟨w.heap.size + 1, 1, none⟩ = some (.int .u64 y1) := (by rw [hw_W0]; go_simp); have cc7 : W0.cell? ⟨w.heap.size + 1, 2, none⟩ = some (.int .u64 y2) := (by rw [hw_W0]; go_simp); have cc8 : W0.cell? ⟨w.heap.size + 1, 3, none⟩ = some (.int .u64 y3) := (by rw [hw_W0]; go_simp); have hBW : Below w.heap.size w W0 := (by rw [hw_W0]; (first | with_reducible exact drewN_below (by assumption) _ | go_grown)); have hn_W0 := an (nl cc1) (nl cc5); have lay_W0 : Laid W0 := Laid.below (w := w) (by assumption) hBW; clear hw_W0)
    go_region_held3 (fun w' => w'.cell? ⟨w.heap.size, 0, none⟩ = some (.int .u64 x0) ∧ w'.cell? ⟨w.heap.size, 1, none⟩ = some (.int .u64 x1) ∧ w'.cell? ⟨w.heap.size, 2, none⟩ = some (.int .u64 x2) ∧ w'.cell? ⟨w.heap.size, 3, none⟩ = some (.int .u64 x3) ∧ w'.cell? ⟨w.heap.size + 1, 0, none⟩ = some (.int .u64 y0) ∧ w'.cell? ⟨w.heap.size + 1, 1, none⟩ = some (.int .u64 y1) ∧ w'.cell? ⟨w.heap.size + 1, 2, none⟩ = some (.int .u64 y2) ∧ w'.cell? ⟨w.heap.size + 1, 3, none⟩ = some (.int .u64 y3)) ((refine ⟨?_, ?_, ?_, ?_, ?_, ?_, ?_, ?_⟩ <;> (refine cell_later (w := W0) ?_ (by assumption); go_grown))) (first | (go_at_call 109; refine (wide_High _ _ _ _ _).mono ?_; rintro en z1 ⟨rfl, hB_z1⟩; have hb_z1 : Below W0.heap.size W0 z1 := below_after (by go_grown) hB_z1; have hs_z1 := hb_z1.size; have lay_z1 := laid_after hB_z1) | (go_at_call 156; refine (word_Cmp _ _ _ _ _).mono ?_; rintro en z2 ⟨rfl, hB_z2⟩; have hb_z2 : Below W0.heap.size W0 z2 := below_after (by go_grown) hB_z2; have hs_z2 := hb_z2.size; have lay_z2 := laid_after hB_z2))
    (replace cc1 := cl hb_z2 cc1; replace cc2 := cl hb_z2 cc2; replace cc3 := cl hb_z2 cc3; replace cc4 := cl hb_z2 cc4; replace cc5 := cl hb_z2 cc5; replace cc6 := cl hb_z2 cc6; replace cc7 := cl hb_z2 cc7; replace cc8 := cl hb_z2 cc8; replace hBW := below_after hBW hb_z2; have hsb_z2 := hb_z2.size; have hn_z2 := an (nl cc1) (nl cc5))
    go_wp2_with fail
    go_returns
    exact ⟨rfl, by go_grown⟩
end Go.Proofs.YtkpjeceofcfnkaaGreatDoor
