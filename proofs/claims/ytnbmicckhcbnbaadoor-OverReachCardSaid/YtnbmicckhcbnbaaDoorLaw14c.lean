/- The walk of OverReach: for every input. -/
import Derived.Test.YtnbmicckhcbnbaaDoorLaw14a
import Derived.Test.YtnbmicckhcbnbaaDoorRen
import Derived.Test.YtnbmicckhcbnbaaDoorUnpack
set_option linter.unusedSimpArgs false
set_option linter.unusedVariables false
namespace Go.Proofs.YtnbmicckhcbnbaaDoor
open Go.RowKit Go.Hb
theorem emax_lo (f : Int) (h0 : 0 ≤ f) (hf : f < 4) : 15 ≤ emaxS f := by
  unfold emaxS; repeat' split <;> omega
theorem reach_out (f : Int) (h0 : 0 ≤ f) : beyondS f 0 = false ∧ tinyO f 0 = false := by
  unfold beyondS tinyO
  by_cases hf : f < 4
  · have := emax_lo f h0 hf
    rw [decide_eq_true hf, decide_eq_false (show ¬ emaxS f < 0 by omega), decide_eq_false (show ¬ 0 < 1 - emaxS f by omega)]
    exact ⟨rfl, rfl⟩
  · rw [decide_eq_false hf]
    exact ⟨rfl, rfl⟩
theorem class_parts (f : Int) (v : Nat) (h0 : 0 ≤ f) :
    (classF f v = 1 → f < 4 ∧ expF f v = 0 ∧ fracF f v ≠ 0) ∧ (classF f v = 2 → f < 4 ∧ expF f v ≠ 0 ∧ ((expF f v : Nat) : Int) ≤ 2 * emaxS f) := by
  unfold classF
  constructor
  · intro h
    repeat' split at h
    all_goals first | omega | (exact ⟨by omega, by assumption, by assumption⟩)
  · intro h
    repeat' split at h
    all_goals first | omega | (exact ⟨by omega, by assumption, by omega⟩)
theorem frac_lt_p (f : Int) (v : Nat) (h0 : 0 ≤ f) (hf : f < 4) : fracF f v < 2 ^ (precS f - 1).toNat := by
  unfold fracF; rw [if_neg (by omega)]; exact Nat.mod_lt _ (Nat.two_pow_pos _)
theorem sub_by (f : Int) (v : Nat) (h0 : 0 ≤ f) (hf : f < 4) (hz : fracF f v ≠ 0) : 129 - precS f ≤ by128 (fracF f v) := by
  have h1 := frac_lt_p f v h0 hf
  have h2 := blen_le (fracF f v) hz
  obtain ⟨b1, b2, b3, b4, b5, b6⟩ := fmt_bd f h0 hf
  have h3 : blen (fracF f v) - 1 < (precS f - 1).toNat := (Nat.pow_lt_pow_iff_right (by decide)).1 (Nat.lt_of_le_of_lt h2 h1)
  unfold by128
  rw [if_neg hz]
  omega
theorem reach_sub (f : Int) (v : Nat) (h0 : 0 ≤ f) (h : classF f v = 1) : f < 4 ∧ beyondS f (unE f v) = false ∧ tinyO f (unE f v) = true ∧ beyondS f (emaxS f + 1) = true ∧ tinyO f (emaxS f) = false := by
  obtain ⟨hf, h1, h2⟩ := (class_parts f v h0).1 h
  have h3 := sub_by f v h0 hf h2
  have h4 := emax_lo f h0 hf
  have hE : unE f v = 1 - emaxS f + 128 - precS f - by128 (fracF f v) := by unfold unE; rw [if_neg (by omega), if_pos h]
  refine ⟨hf, ?_⟩
  unfold beyondS tinyO
  rw [hE, decide_eq_true hf, decide_eq_false (show ¬ emaxS f < 1 - emaxS f + 128 - precS f - by128 (fracF f v) by omega), decide_eq_true (show 1 - emaxS f + 128 - precS f - by128 (fracF f v) < 1 - emaxS f by omega), decide_eq_true (show emaxS f < emaxS f + 1 by omega), decide_eq_false (show ¬ emaxS f < 1 - emaxS f by omega)]
  exact ⟨rfl, rfl, rfl, rfl⟩
theorem reach_norm (f : Int) (v : Nat) (h0 : 0 ≤ f) (h : classF f v = 2) : f < 4 ∧ beyondS f (unE f v) = false ∧ tinyO f (unE f v) = false ∧ beyondS f (emaxS f + 1) = true ∧ tinyO f (emaxS f) = false := by
  obtain ⟨hf, h1, h2⟩ := (class_parts f v h0).2 h
  have h4 := emax_lo f h0 hf
  have hE : unE f v = expF f v - emaxS f := by unfold unE; rw [if_pos h]
  refine ⟨hf, ?_⟩
  unfold beyondS tinyO
  rw [hE, decide_eq_true hf, decide_eq_false (show ¬ emaxS f < (expF f v : Int) - emaxS f by omega), decide_eq_false (show ¬ (expF f v : Int) - emaxS f < 1 - emaxS f by omega), decide_eq_true (show emaxS f < emaxS f + 1 by omega), decide_eq_false (show ¬ emaxS f < 1 - emaxS f by omega)]
  exact ⟨rfl, rfl, rfl, rfl⟩
set_option maxRecDepth 100000 in
set_option maxHeartbeats 16000000 in
theorem reach_w0 (f h l : Int) [hU : U8 f] [U64 h] [U64 l] (w : World) [Laid w] (h1 : classF f (cat h l) ≠ 1) (h2 : classF f (cat h l) ≠ 2) :
    Calls Tryd.prog 6 #[.int .u8 f, .agg #[.int .u64 (h), .int .u64 (l)]] w fun en w' => en = .returned (.bool true) ∧ Below w.heap.size w w' := by
  obtain ⟨o1, o2⟩ := reach_out f U8.ge
  have d1 : (classF f (cat h l) != 1) = true := by simpa using h1
  have d2 : (classF f (cat h l) != 2) = true := by simpa using h2
  clear h1 h2
  go_enter Tryd.func6, Tryd.ntmps6
  skip
  (go_wp2_with fail; refine (fields_Unpack _ _ _ _).mono ?_; rintro en v1 ⟨rfl, hB_v1⟩; have lay_v1 := laid_after hB_v1; have cc1 := cell_later hB_v1 (show World.cell? _ ⟨w.heap.size, 0, none⟩ = some (.int .u64 h) by go_simp); have cc2 := cell_later hB_v1 (show World.cell? _ ⟨w.heap.size, 1, none⟩ = some (.int .u64 l) by go_simp); have hs_v1 := hB_v1.size; (try simp only [World.size_alloc, World.size_setCell, World.size_drew] at hs_v1); have hBW : Below w.heap.size w v1 := below_after (w := w) (by go_grown) hB_v1; have hl_v1 : w.heap.size < v1.heap.size := (by omega); have hn_v1 : w.heap.size ≠ v1.heap.size ∧ v1.heap.size ≠ w.heap.size ∧ w.heap.size ≠ v1.heap.size + 1 ∧ v1.heap.size + 1 ≠ w.heap.size := (by omega); clear hB_v1)
  (go_wp2_with fail; refine (over_Beyond_all _ _ _).mono ?_; rw [o1]; rintro en v2 ⟨rfl, hB_v2⟩; have lay_v2 := laid_after hB_v2; replace cc1 := cell_later hB_v2 (cell_later (by go_grown) cc1); replace cc2 := cell_later hB_v2 (cell_later (by go_grown) cc2); have cc3 := cell_later hB_v2 (show World.cell? _ ⟨v1.heap.size, 0, none⟩ = some (.bool (sgnF f (cat h l))) by go_simp); have cc4 := cell_later hB_v2 (show World.cell? _ ⟨v1.heap.size, 1, none⟩ = some (.int .u8 (classF f (cat h l))) by go_simp); have cc5 := cell_later hB_v2 (show World.cell? _ ⟨v1.heap.size, 2, none⟩ = some (.int .i64 (unE f (cat h l))) by go_simp); have cc6 := cell_later hB_v2 (show World.cell? _ ⟨v1.heap.size, 3, none⟩ = some (.int .u64 (hi (unS f (cat h l)))) by go_simp); have cc7 := cell_later hB_v2 (show World.cell? _ ⟨v1.heap.size, 4, none⟩ = some (.int .u64 (lo (unS f (cat h l)))) by go_simp); have hs_v2 := hB_v2.size; (try simp only [World.size_alloc, World.size_setCell, World.size_drew] at hs_v2); replace hBW : Below w.heap.size w v2 := below_after (w := w) (by go_grown) hB_v2; have hl_v2 : w.heap.size < v2.heap.size ∧ v1.heap.size < v2.heap.size := (by omega); have hn_v2 : w.heap.size ≠ v2.heap.size ∧ v2.heap.size ≠ w.heap.size ∧ w.heap.size ≠ v2.heap.size + 1 ∧ v2.heap.size + 1 ≠ w.heap.size ∧ v1.heap.size ≠ v2.heap.size ∧ v2.heap.size ≠ v1.heap.size ∧ v1.heap.size ≠ v2.heap.size + 1 ∧ v2.heap.size + 1 ≠ v1.heap.size := (by omega); clear hB_v2)
  (go_wp2_with fail; refine (over_Tiny_all _ _ _).mono ?_; rw [o2]; rintro en v3 ⟨rfl, hB_v3⟩; have lay_v3 := laid_after hB_v3; replace cc1 := cell_later hB_v3 (cell_later (by go_grown) cc1); replace cc2 := cell_later hB_v3 (cell_later (by go_grown) cc2); replace cc3 := cell_later hB_v3 (cell_later (by go_grown) cc3); replace cc4 := cell_later hB_v3 (cell_later (by go_grown) cc4); replace cc5 := cell_later hB_v3 (cell_later (by go_grown) cc5); replace cc6 := cell_later hB_v3 (cell_later (by go_grown) cc6); replace cc7 := cell_later hB_v3 (cell_later (by go_grown) cc7); have hs_v3 := hB_v3.size; (try simp only [World.size_alloc, World.size_setCell, World.size_drew] at hs_v3); replace hBW : Below w.heap.size w v3 := below_after (w := w) (by go_grown) hB_v3; have hl_v3 : w.heap.size < v3.heap.size ∧ v1.heap.size < v3.heap.size := (by omega); have hn_v3 : w.heap.size ≠ v3.heap.size ∧ v3.heap.size ≠ w.heap.size ∧ w.heap.size ≠ v3.heap.size + 1 ∧ v3.heap.size + 1 ≠ w.heap.size ∧ v1.heap.size ≠ v3.heap.size ∧ v3.heap.size ≠ v1.heap.size ∧ v1.heap.size ≠ v3.heap.size + 1 ∧ v3.heap.size + 1 ≠ v1.heap.size := (by omega); clear hB_v3)
  (go_wp2_with fail; refine (law14_goes _).mono ?_; rintro en v4 ⟨rfl, hB_v4⟩; have lay_v4 := laid_after hB_v4; replace cc1 := cell_later hB_v4 (cell_later (by go_grown) cc1); replace cc2 := cell_later hB_v4 (cell_later (by go_grown) cc2); replace cc3 := cell_later hB_v4 (cell_later (by go_grown) cc3); replace cc4 := cell_later hB_v4 (cell_later (by go_grown) cc4); replace cc5 := cell_later hB_v4 (cell_later (by go_grown) cc5); replace cc6 := cell_later hB_v4 (cell_later (by go_grown) cc6); replace cc7 := cell_later hB_v4 (cell_later (by go_grown) cc7); have hs_v4 := hB_v4.size; (try simp only [World.size_alloc, World.size_setCell, World.size_drew] at hs_v4); replace hBW : Below w.heap.size w v4 := below_after (w := w) (by go_grown) hB_v4; have hl_v4 : w.heap.size < v4.heap.size ∧ v1.heap.size < v4.heap.size := (by omega); have hn_v4 : w.heap.size ≠ v4.heap.size ∧ v4.heap.size ≠ w.heap.size ∧ w.heap.size ≠ v4.heap.size + 1 ∧ v4.heap.size + 1 ≠ w.heap.size ∧ v1.heap.size ≠ v4.heap.size ∧ v4.heap.size ≠ v1.heap.size ∧ v1.heap.size ≠ v4.heap.size + 1 ∧ v4.heap.size + 1 ≠ v1.heap.size := (by omega); clear hB_v4)
  go_wp2_with fail
  go_returns
  exact ⟨rfl, by go_grown⟩
set_option maxRecDepth 100000 in
set_option maxHeartbeats 16000000 in
theorem reach_w1 (f h l : Int) [hU : U8 f] [U64 h] [U64 l] (w : World) [hLay : Laid w] (h1 : classF f (cat h l) = 1) :
    Calls Tryd.prog 6 #[.int .u8 f, .agg #[.int .u64 (h), .int .u64 (l)]] w fun en w' => en = .returned (.bool true) ∧ Below w.heap.size w w' := by
  obtain ⟨hf, o1, o2, o3, o4⟩ := reach_sub f (cat h l) U8.ge h1
  obtain ⟨em0, em1⟩ := emaxS_bd f
  have d1 : (classF f (cat h l) != 1) = false := by rw [h1]; rfl
  have d2 : (classF f (cat h l) == 1) = true := by rw [h1]; rfl
  have hw : IntKind.i64.wrap (emaxS f + 1) = emaxS f + 1 := wrap_in' _ (by omega) (by omega)
  clear h1
  go_enter Tryd.func6, Tryd.ntmps6
  skip
  (go_wp2_with fail; refine (fields_Unpack _ _ _ _).mono ?_; rintro en v1 ⟨rfl, hB_v1⟩; have lay_v1 := laid_after hB_v1; have cc1 := cell_later hB_v1 (show World.cell? _ ⟨w.heap.size, 0, none⟩ = some (.int .u64 h) by go_simp); have cc2 := cell_later hB_v1 (show World.cell? _ ⟨w.heap.size, 1, none⟩ = some (.int .u64 l) by go_simp); have hs_v1 := hB_v1.size; (try simp only [World.size_alloc, World.size_setCell, World.size_drew] at hs_v1); have hBW : Below w.heap.size w v1 := below_after (w := w) (by go_grown) hB_v1; have hl_v1 : w.heap.size < v1.heap.size := (by omega); have hn_v1 : w.heap.size ≠ v1.heap.size ∧ v1.heap.size ≠ w.heap.size ∧ w.heap.size ≠ v1.heap.size + 1 ∧ v1.heap.size + 1 ≠ w.heap.size := (by omega); clear hB_v1)
  go_upto_region 4 with fail
  ((first | refine wp_rename ?_ | refine goal_rename ?_); intro W0 hw_W0; replace cc1 : W0.cell? ⟨w.heap.size, 0, none⟩ = some (.int .u64 h) := (by rw [hw_W0]; (first | exact cc1 | go_simp)); replace cc2 : W0.cell? ⟨w.heap.size, 1, none⟩ = some (.int .u64 l) := (by rw [hw_W0]; (first | exact cc2 | go_simp)); have cc3 : W0.cell? ⟨v1.heap.size, 0, none⟩ = some (.bool (sgnF f (cat h l))) := (by rw [hw_W0]; go_simp); have cc4 : W0.cell? ⟨v1.heap.size, 1, none⟩ = some (.int .u8 (classF f (cat h l))) := (by rw [hw_W0]; go_simp); have cc5 : W0.cell? ⟨v1.heap.size, 2, none⟩ = some (.int .i64 (unE f (cat h l))) := (by rw [hw_W0]; go_simp); have cc6 : W0.cell? ⟨v1.heap.size, 3, none⟩ = some (.int .u64 (hi (unS f (cat h l)))) := (by rw [hw_W0]; go_simp); have cc7 : W0.cell? ⟨v1.heap.size, 4, none⟩ = some (.int .u64 (lo (unS f (cat h l)))) := (by rw [hw_W0]; go_simp); replace hBW : Below w.heap.size w W0 := (by rw [hw_W0]; (first | exact drewN_below (by assumption) _ | go_grown)); have hl_W0 : w.heap.size < W0.heap.size ∧ v1.heap.size < W0.heap.size := (by rw [hw_W0]; (try simp only [World.size_alloc, World.size_setCell, World.size_drew, drewN_size]); omega); have lay_W0 : Laid W0 := Laid.below (w := w) (by assumption) hBW; clear hw_W0)
  go_region_held3 (fun w' => w'.cell? ⟨v1.heap.size, 1, none⟩ = some (.int .u8 (classF f (cat h l))) ∧ w'.cell? ⟨v1.heap.size, 2, none⟩ = some (.int .i64 (unE f (cat h l)))) ((refine ⟨?_, ?_⟩ <;> (refine cell_later (w := W0) ?_ (by assumption); go_grown))) (first | (go_at_call 15; refine (over_Beyond_all _ _ _).mono ?_; rintro en x1 ⟨rfl, hB_x1⟩; have hb_x1 : Below W0.heap.size W0 x1 := below_after (by go_grown) hB_x1; have lay_x1 := laid_after hB_x1) | (go_at_call 16; refine (over_Tiny_all _ _ _).mono ?_; rintro en x2 ⟨rfl, hB_x2⟩; have hb_x2 : Below W0.heap.size W0 x2 := below_after (by go_grown) hB_x2; have lay_x2 := laid_after hB_x2) | (go_at_call 24; refine (format_Emax _ _).mono ?_; rintro en x3 ⟨rfl, hB_x3⟩; have hb_x3 : Below W0.heap.size W0 x3 := below_after (by go_grown) hB_x3; have lay_x3 := laid_after hB_x3) | (go_at_call 17; refine (law14_goes _).mono ?_; rintro en x4 ⟨rfl, hB_x4⟩; have hb_x4 : Below W0.heap.size W0 x4 := below_after (by go_grown) hB_x4; have lay_x4 := laid_after hB_x4))
  (replace cc1 := cell_later hb_x4 cc1; replace cc2 := cell_later hb_x4 cc2; replace cc3 := cell_later hb_x4 cc3; replace cc4 := cell_later hb_x4 cc4; replace cc5 := cell_later hb_x4 cc5; replace cc6 := cell_later hb_x4 cc6; replace cc7 := cell_later hb_x4 cc7; replace hBW := below_after hBW hb_x4; have hs_x4 := hb_x4.size; have hl_x4 : w.heap.size < x4.heap.size ∧ v1.heap.size < x4.heap.size := (by omega); have hn_x4 : w.heap.size ≠ x4.heap.size ∧ x4.heap.size ≠ w.heap.size ∧ w.heap.size ≠ x4.heap.size + 1 ∧ x4.heap.size + 1 ≠ w.heap.size ∧ v1.heap.size ≠ x4.heap.size ∧ x4.heap.size ≠ v1.heap.size ∧ v1.heap.size ≠ x4.heap.size + 1 ∧ x4.heap.size + 1 ≠ v1.heap.size := (by omega))
  go_wp2_with fail
  go_returns
  exact ⟨rfl, by go_grown⟩
set_option maxRecDepth 100000 in
set_option maxHeartbeats 16000000 in
theorem reach_w2 (f h l : Int) [hU : U8 f] [U64 h] [U64 l] (w : World) [hLay : Laid w] (h1 : classF f (cat h l) = 2) :
    Calls Tryd.prog 6 #[.int .u8 f, .agg #[.int .u64 (h), .int .u64 (l)]] w fun en w' => en = .returned (.bool true) ∧ Below w.heap.size w w' := by
  obtain ⟨hf, o1, o2, o3, o4⟩ := reach_norm f (cat h l) U8.ge h1
  obtain ⟨em0, em1⟩ := emaxS_bd f
  have d1 : (classF f (cat h l) != 1) = true := by rw [h1]; rfl
  have d2 : (classF f (cat h l) == 1) = false := by rw [h1]; rfl
  have d3 : (classF f (cat h l) != 2) = false := by rw [h1]; rfl
  have hw : IntKind.i64.wrap (emaxS f + 1) = emaxS f + 1 := wrap_in' _ (by omega) (by omega)
  clear h1
  go_enter Tryd.func6, Tryd.ntmps6
  skip
  (go_wp2_with fail; refine (fields_Unpack _ _ _ _).mono ?_; rintro en v1 ⟨rfl, hB_v1⟩; have lay_v1 := laid_after hB_v1; have cc1 := cell_later hB_v1 (show World.cell? _ ⟨w.heap.size, 0, none⟩ = some (.int .u64 h) by go_simp); have cc2 := cell_later hB_v1 (show World.cell? _ ⟨w.heap.size, 1, none⟩ = some (.int .u64 l) by go_simp); have hs_v1 := hB_v1.size; (try simp only [World.size_alloc, World.size_setCell, World.size_drew] at hs_v1); have hBW : Below w.heap.size w v1 := below_after (w := w) (by go_grown) hB_v1; have hl_v1 : w.heap.size < v1.heap.size := (by omega); have hn_v1 : w.heap.size ≠ v1.heap.size ∧ v1.heap.size ≠ w.heap.size ∧ w.heap.size ≠ v1.heap.size + 1 ∧ v1.heap.size + 1 ≠ w.heap.size := (by omega); clear hB_v1)
  go_upto_region 4 with fail
  ((first | refine wp_rename ?_ | refine goal_rename ?_); intro W0 hw_W0; replace cc1 : W0.cell? ⟨w.heap.size, 0, none⟩ = some (.int .u64 h) := (by rw [hw_W0]; (first | exact cc1 | go_simp)); replace cc2 : W0.cell? ⟨w.heap.size, 1, none⟩ = some (.int .u64 l) := (by rw [hw_W0]; (first | exact cc2 | go_simp)); have cc3 : W0.cell? ⟨v1.heap.size, 0, none⟩ = some (.bool (sgnF f (cat h l))) := (by rw [hw_W0]; go_simp); have cc4 : W0.cell? ⟨v1.heap.size, 1, none⟩ = some (.int .u8 (classF f (cat h l))) := (by rw [hw_W0]; go_simp); have cc5 : W0.cell? ⟨v1.heap.size, 2, none⟩ = some (.int .i64 (unE f (cat h l))) := (by rw [hw_W0]; go_simp); have cc6 : W0.cell? ⟨v1.heap.size, 3, none⟩ = some (.int .u64 (hi (unS f (cat h l)))) := (by rw [hw_W0]; go_simp); have cc7 : W0.cell? ⟨v1.heap.size, 4, none⟩ = some (.int .u64 (lo (unS f (cat h l)))) := (by rw [hw_W0]; go_simp); replace hBW : Below w.heap.size w W0 := (by rw [hw_W0]; (first | exact drewN_below (by assumption) _ | go_grown)); have hl_W0 : w.heap.size < W0.heap.size ∧ v1.heap.size < W0.heap.size := (by rw [hw_W0]; (try simp only [World.size_alloc, World.size_setCell, World.size_drew, drewN_size]); omega); have lay_W0 : Laid W0 := Laid.below (w := w) (by assumption) hBW; clear hw_W0)
  go_region_held3 (fun w' => w'.cell? ⟨v1.heap.size, 1, none⟩ = some (.int .u8 (classF f (cat h l))) ∧ w'.cell? ⟨v1.heap.size, 2, none⟩ = some (.int .i64 (unE f (cat h l)))) ((refine ⟨?_, ?_⟩ <;> (refine cell_later (w := W0) ?_ (by assumption); go_grown))) (first | (go_at_call 15; refine (over_Beyond_all _ _ _).mono ?_; rintro en x1 ⟨rfl, hB_x1⟩; have hb_x1 : Below W0.heap.size W0 x1 := below_after (by go_grown) hB_x1; have lay_x1 := laid_after hB_x1) | (go_at_call 16; refine (over_Tiny_all _ _ _).mono ?_; rintro en x2 ⟨rfl, hB_x2⟩; have hb_x2 : Below W0.heap.size W0 x2 := below_after (by go_grown) hB_x2; have lay_x2 := laid_after hB_x2) | (go_at_call 24; refine (format_Emax _ _).mono ?_; rintro en x3 ⟨rfl, hB_x3⟩; have hb_x3 : Below W0.heap.size W0 x3 := below_after (by go_grown) hB_x3; have lay_x3 := laid_after hB_x3) | (go_at_call 17; refine (law14_goes _).mono ?_; rintro en x4 ⟨rfl, hB_x4⟩; have hb_x4 : Below W0.heap.size W0 x4 := below_after (by go_grown) hB_x4; have lay_x4 := laid_after hB_x4))
  (replace cc1 := cell_later hb_x4 cc1; replace cc2 := cell_later hb_x4 cc2; replace cc3 := cell_later hb_x4 cc3; replace cc4 := cell_later hb_x4 cc4; replace cc5 := cell_later hb_x4 cc5; replace cc6 := cell_later hb_x4 cc6; replace cc7 := cell_later hb_x4 cc7; replace hBW := below_after hBW hb_x4; have hs_x4 := hb_x4.size; have hl_x4 : w.heap.size < x4.heap.size ∧ v1.heap.size < x4.heap.size := (by omega); have hn_x4 : w.heap.size ≠ x4.heap.size ∧ x4.heap.size ≠ w.heap.size ∧ w.heap.size ≠ x4.heap.size + 1 ∧ x4.heap.size + 1 ≠ w.heap.size ∧ v1.heap.size ≠ x4.heap.size ∧ x4.heap.size ≠ v1.heap.size ∧ v1.heap.size ≠ x4.heap.size + 1 ∧ x4.heap.size + 1 ≠ v1.heap.size := (by omega))
  go_wp2_with fail
  go_returns
  exact ⟨rfl, by go_grown⟩
theorem walk_OverReach (f h l : Int) [hU : U8 f] [U64 h] [U64 l] (w : World) [hLay : Laid w] :
    Calls Tryd.prog 6 #[.int .u8 f, .agg #[.int .u64 (h), .int .u64 (l)]] w fun en w' => en = .returned (.bool true) ∧ Below w.heap.size w w' := by
  by_cases h1 : classF f (cat h l) = 1
  · exact reach_w1 f h l w h1
  · by_cases h2 : classF f (cat h l) = 2
    · exact reach_w2 f h l w h2
    · exact reach_w0 f h l w h1 h2
end Go.Proofs.YtnbmicckhcbnbaaDoor
