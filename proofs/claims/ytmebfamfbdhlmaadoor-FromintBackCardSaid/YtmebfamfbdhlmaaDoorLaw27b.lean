/- FromintBack: the walks by ways, joined. -/
import Derived.Test.YtmebfamfbdhlmaaDoorFromint2
import Derived.Test.YtmebfamfbdhlmaaDoorToint4
import Derived.Test.YtmebfamfbdhlmaaDoorLaw26a
import Derived.Test.YtmebfamfbdhlmaaDoorFromP
set_option linter.unusedSimpArgs false
set_option linter.unusedVariables false
namespace Go.Proofs.YtmebfamfbdhlmaaDoor
open Go.RowKit Go.Hb
theorem shl_one (p : Int) (h0 : 0 ≤ p) (h : p < 64) : IntKind.u64.wrap (1 * 2 ^ p.toNat) = 2 ^ p.toNat := by
  rw [IntKind.wrap_u64, Int.one_mul]
  have h1 : (2 : Nat) ^ p.toNat ≤ 2 ^ 63 := Nat.pow_le_pow_right (by decide) (by omega)
  have h2 : ((2 ^ p.toNat : Nat) : Int) = 2 ^ p.toNat := by simp
  have h3 : (2 : Nat) ^ 63 = 9223372036854775808 := by decide
  have h4 := Nat.two_pow_pos p.toNat
  rw [← h2]; omega
def fewK (k b : Int) : Int := if k ≠ 3 ∧ k ≠ 1 ∧ 9223372036854775808 ≤ b then 18446744073709551616 - b else b
theorem few_has (k b : Int) [hb : U64 b] (hk0 : 0 ≤ k) (hh : hasB k b = true) : fewK k b = sizeK k b := by
  obtain ⟨hk, hv, s1, s2, s3⟩ := has_size k b hk0 hh
  have hs : sizeK k b = if negK k b then 18446744073709551616 - b else b := by unfold sizeK; rw [hv]
  have hn : negK k b = ((decide (k = 0) || decide (k = 2)) && decide (9223372036854775808 ≤ b)) := by unfold negK; rw [hv]
  rw [hs, hn]
  unfold fewK
  have h4 : k = 0 ∨ k = 1 ∨ k = 2 ∨ k = 3 := by omega
  rcases h4 with rfl | rfl | rfl | rfl <;> simp
set_option maxRecDepth 100000 in
set_option maxHeartbeats 8000000 in
theorem fb_none (k f m b m2 : Int) (aft : Bool) [hU : U8 f] [hK : U8 k] [hM : U8 m] [hM2 : U8 m2] [hb : U64 b] [U8 (k % 4)] [U8 (m % 5)] [U8 (m2 % 5)] (w : World) [hLay : Laid w] [hLE : LaidE w] (hf : ¬ f < 4)
    (e1 : Hid (hi (fromB (k % 4) f (m % 5) b) = 0)) (e2 : Hid (lo (fromB (k % 4) f (m % 5) b) = 0)) (e3 : Hid (fromFl (k % 4) f (m % 5) aft b = 0)) :
    Calls Tryd.prog 11 #[.int .u8 k, .int .u8 f, .agg #[.int .u8 m, .bool aft], .int .u64 b, .int .u8 m2] w fun en w' => en = .returned (.bool true) ∧ Below w.heap.size w w' := by
  have hfd : decide (f < 4) = false := decide_eq_false hf
  have hm0 := hM.ge
  have hm2 := hM2.ge
  have hk0 := hK.ge
  have q := fun W a b c => eql_res_same W a b c
  clear hf
  go_enter Tryd.func11, Tryd.ntmps11
  skip
  (go_wp2_with fail; refine (fromint_From _ _ _ _ _ _).mono ?_; rw [e1.out, e2.out, e3.out]; rintro en v1 ⟨rfl, hB_v1⟩; have lay_v1 := laid_after hB_v1; (try have layE_v1 := laidE_after hB_v1); have cc1 := cell_later hB_v1 (show World.cell? _ ⟨w.heap.size, 0, none⟩ = some (.int .u8 (m % 5)) by go_simp); have cc2 := cell_later hB_v1 (show World.cell? _ ⟨w.heap.size, 1, none⟩ = some (.bool aft) by go_simp); have hs_v1 := hB_v1.size; (try simp only [World.size_alloc, World.size_setCell, World.size_drew] at hs_v1); have hBW : Below w.heap.size w v1 := below_after (w := w) (by go_grown) hB_v1; have hl_v1 : w.heap.size < v1.heap.size := (by omega); have hn_v1 : w.heap.size ≠ v1.heap.size ∧ v1.heap.size ≠ w.heap.size ∧ w.heap.size ≠ v1.heap.size + 1 ∧ v1.heap.size + 1 ≠ w.heap.size := (by omega); clear hB_v1)
  (go_wp2_with fail; refine (format_Known_b _ _).mono ?_; rintro en v2 ⟨rfl, hB_v2⟩; have lay_v2 := laid_after hB_v2; (try have layE_v2 := laidE_after hB_v2); replace cc1 := cell_later hB_v2 (cell_later (by go_grown) cc1); replace cc2 := cell_later hB_v2 (cell_later (by go_grown) cc2); have cc3 := cell_later hB_v2 (show World.cell? _ ⟨v1.heap.size, 0, none⟩ = some (.int .u64 0) by go_simp); have cc4 := cell_later hB_v2 (show World.cell? _ ⟨v1.heap.size, 1, none⟩ = some (.int .u64 0) by go_simp); have cc5 := cell_later hB_v2 (show World.cell? _ ⟨v1.heap.size, 2, none⟩ = some (.int .u8 0) by go_simp); have hs_v2 := hB_v2.size; (try simp only [World.size_alloc, World.size_setCell, World.size_drew] at hs_v2); replace hBW : Below w.heap.size w v2 := below_after (w := w) (by go_grown) hB_v2; have hl_v2 : w.heap.size < v2.heap.size ∧ v1.heap.size < v2.heap.size := (by omega); have hn_v2 : w.heap.size ≠ v2.heap.size ∧ v2.heap.size ≠ w.heap.size ∧ w.heap.size ≠ v2.heap.size + 1 ∧ v2.heap.size + 1 ≠ w.heap.size ∧ v1.heap.size ≠ v2.heap.size ∧ v2.heap.size ≠ v1.heap.size ∧ v1.heap.size ≠ v2.heap.size + 1 ∧ v2.heap.size + 1 ≠ v1.heap.size := (by omega); clear hB_v2)
  (go_wp2_with fail; refine (law27_goes _).mono ?_; rintro en v3 ⟨rfl, hB_v3⟩; have lay_v3 := laid_after hB_v3; (try have layE_v3 := laidE_after hB_v3); replace cc1 := cell_later hB_v3 (cell_later (by go_grown) cc1); replace cc2 := cell_later hB_v3 (cell_later (by go_grown) cc2); replace cc3 := cell_later hB_v3 (cell_later (by go_grown) cc3); replace cc4 := cell_later hB_v3 (cell_later (by go_grown) cc4); replace cc5 := cell_later hB_v3 (cell_later (by go_grown) cc5); have hs_v3 := hB_v3.size; (try simp only [World.size_alloc, World.size_setCell, World.size_drew] at hs_v3); replace hBW : Below w.heap.size w v3 := below_after (w := w) (by go_grown) hB_v3; have hl_v3 : w.heap.size < v3.heap.size ∧ v1.heap.size < v3.heap.size := (by omega); have hn_v3 : w.heap.size ≠ v3.heap.size ∧ v3.heap.size ≠ w.heap.size ∧ w.heap.size ≠ v3.heap.size + 1 ∧ v3.heap.size + 1 ≠ w.heap.size ∧ v1.heap.size ≠ v3.heap.size ∧ v3.heap.size ≠ v1.heap.size ∧ v1.heap.size ≠ v3.heap.size + 1 ∧ v3.heap.size + 1 ≠ v1.heap.size := (by omega); clear hB_v3)
  go_wp2_with fail
  go_returns
  exact ⟨rfl, by go_grown⟩
set_option maxRecDepth 100000 in
set_option maxHeartbeats 8000000 in
theorem fb_0_n (k f m b m2 p0 p1 few : Int) (aft f3 top b3 b1 tp : Bool) [hU : U8 f] [hK : U8 k] [hM : U8 m] [hM2 : U8 m2] [hb : U64 b] [U8 (k % 4)] [U8 (m % 5)] [U8 (m2 % 5)] (w : World) [hLay : Laid w] [hLE : LaidE w] [U64 p0] [U64 p1] [U64 few] (hf : f < 4)
    (e1 : Hid (hi (fromB (k % 4) f (m % 5) b) = p0)) (e2 : Hid (lo (fromB (k % 4) f (m % 5) b) = p1)) (e3 : Hid (fromFl (k % 4) f (m % 5) aft b = 0))
    (hf3 : (f == 3) = f3) 
    (hk3 : ((k % 4) == 3) = b3) (hk1 : ((k % 4) == 1) = b1) (htp : (b / 9223372036854775808 == 1) = tp) (htop : (if b3 then false else if b1 then false else tp) = top) (hfew : (if top then IntKind.u64.wrap (-b) else b) = few)
    (hh : Hid (hasB (k % 4) b = false))
    (hw : Hid (wholeB f (cat p0 p1) = true)) :
    Calls Tryd.prog 11 #[.int .u8 k, .int .u8 f, .agg #[.int .u8 m, .bool aft], .int .u64 b, .int .u8 m2] w fun en w' => en = .returned (.bool true) ∧ Below w.heap.size w w' := by
  have hfd : decide (f < 4) = true := decide_eq_true hf
  have hm0 := hM.ge
  have hm2 := hM2.ge
  have hk0 := hK.ge
  have q := fun W a b => eql_whole_same W a b
  have z1 : bits BinOp.and IntKind.u8 0 11 = 0 := by decide +kernel
  have z2 : bits BinOp.and IntKind.u8 0 4 = 0 := by decide +kernel
  have hk3n : ((k % 4) != 3) = !b3 := by rw [← hk3]; rfl
  have hk1n : ((k % 4) != 1) = !b1 := by rw [← hk1]; rfl
  clear hf
  go_enter Tryd.func11, Tryd.ntmps11
  skip
  (go_wp2_with fail; refine (fromint_From _ _ _ _ _ _).mono ?_; rw [e1.out, e2.out, e3.out]; rintro en v1 ⟨rfl, hB_v1⟩; have lay_v1 := laid_after hB_v1; (try have layE_v1 := laidE_after hB_v1); have cc1 := cell_later hB_v1 (show World.cell? _ ⟨w.heap.size, 0, none⟩ = some (.int .u8 (m % 5)) by go_simp); have cc2 := cell_later hB_v1 (show World.cell? _ ⟨w.heap.size, 1, none⟩ = some (.bool aft) by go_simp); have hs_v1 := hB_v1.size; (try simp only [World.size_alloc, World.size_setCell, World.size_drew] at hs_v1); have hBW : Below w.heap.size w v1 := below_after (w := w) (by go_grown) hB_v1; have hl_v1 : w.heap.size < v1.heap.size := (by omega); have hn_v1 : w.heap.size ≠ v1.heap.size ∧ v1.heap.size ≠ w.heap.size ∧ w.heap.size ≠ v1.heap.size + 1 ∧ v1.heap.size + 1 ≠ w.heap.size := (by omega); clear hB_v1)
  (go_wp2_with fail; refine (format_Known_b _ _).mono ?_; rintro en v2 ⟨rfl, hB_v2⟩; have lay_v2 := laid_after hB_v2; (try have layE_v2 := laidE_after hB_v2); replace cc1 := cell_later hB_v2 (cell_later (by go_grown) cc1); replace cc2 := cell_later hB_v2 (cell_later (by go_grown) cc2); have cc3 := cell_later hB_v2 (show World.cell? _ ⟨v1.heap.size, 0, none⟩ = some (.int .u64 p0) by go_simp); have cc4 := cell_later hB_v2 (show World.cell? _ ⟨v1.heap.size, 1, none⟩ = some (.int .u64 p1) by go_simp); have cc5 := cell_later hB_v2 (show World.cell? _ ⟨v1.heap.size, 2, none⟩ = some (.int .u8 0) by go_simp); have hs_v2 := hB_v2.size; (try simp only [World.size_alloc, World.size_setCell, World.size_drew] at hs_v2); replace hBW : Below w.heap.size w v2 := below_after (w := w) (by go_grown) hB_v2; have hl_v2 : w.heap.size < v2.heap.size ∧ v1.heap.size < v2.heap.size := (by omega); have hn_v2 : w.heap.size ≠ v2.heap.size ∧ v2.heap.size ≠ w.heap.size ∧ w.heap.size ≠ v2.heap.size + 1 ∧ v2.heap.size + 1 ≠ w.heap.size ∧ v1.heap.size ≠ v2.heap.size ∧ v2.heap.size ≠ v1.heap.size ∧ v1.heap.size ≠ v2.heap.size + 1 ∧ v2.heap.size + 1 ≠ v1.heap.size := (by omega); clear hB_v2)
  go_upto_region 5 with fail
  ((first | refine wp_rename ?_ | refine goal_rename ?_); intro W5 hw_W5; replace cc1 : W5.cell? ⟨w.heap.size, 0, none⟩ = some (.int .u8 (m % 5)) := (by rw [hw_W5]; (first | with_reducible exact cc1 | go_simp | exact cc1)); replace cc2 : W5.cell? ⟨w.heap.size, 1, none⟩ = some (.bool aft) := (by rw [hw_W5]; (first | with_reducible exact cc2 | go_simp | exact cc2)); replace cc3 : W5.cell? ⟨v1.heap.size, 0, none⟩ = some (.int .u64 p0) := (by rw [hw_W5]; (first | with_reducible exact cc3 | go_simp | exact cc3)); replace cc4 : W5.cell? ⟨v1.heap.size, 1, none⟩ = some (.int .u64 p1) := (by rw [hw_W5]; (first | with_reducible exact cc4 | go_simp | exact cc4)); replace cc5 : W5.cell? ⟨v1.heap.size, 2, none⟩ = some (.int .u8 0) := (by rw [hw_W5]; (first | with_reducible exact cc5 | go_simp | exact cc5)); replace hBW : Below w.heap.size w W5 := (by rw [hw_W5]; (first | with_reducible exact drewN_below (by assumption) _ | go_grown)); have hl_W5 : w.heap.size < W5.heap.size ∧ v1.heap.size < W5.heap.size := (by rw [hw_W5]; (try simp only [World.size_alloc, World.size_setCell, World.size_drew, drewN_size]); omega); have lay_W5 : Laid W5 := Laid.below (w := w) (by assumption) hBW; (try have layE_W5 : LaidE W5 := LaidE.below (w := w) (by assumption) hBW); clear hw_W5)
  go_cut [48] (fun s wx => s = .bool false ∧ W5 = wx)
  case first =>
   as_aux_lemma =>
    cases f3
    · go_wp2_with fail
      go_meet
      exact ⟨rfl, rfl⟩
    · go_wp2_with fail
      go_meet
      exact ⟨rfl, rfl⟩
  case rest =>
  obtain ⟨rfl, rfl⟩ := hcut
  (go_wp2_with fail; refine (rint_Whole _ _ _ _).mono ?_; rw [hw.out]; rintro en v3 ⟨rfl, hB_v3⟩; have lay_v3 := laid_after hB_v3; (try have layE_v3 := laidE_after hB_v3); replace cc1 := cell_later hB_v3 (cell_later (by go_grown) cc1); replace cc2 := cell_later hB_v3 (cell_later (by go_grown) cc2); replace cc3 := cell_later hB_v3 (cell_later (by go_grown) cc3); replace cc4 := cell_later hB_v3 (cell_later (by go_grown) cc4); replace cc5 := cell_later hB_v3 (cell_later (by go_grown) cc5); have hs_v3 := hB_v3.size; (try simp only [World.size_alloc, World.size_setCell, World.size_drew] at hs_v3); replace hBW : Below w.heap.size w v3 := below_after (w := w) (by go_grown) hB_v3; have hl_v3 : w.heap.size < v3.heap.size ∧ v1.heap.size < v3.heap.size := (by omega); have hn_v3 : w.heap.size ≠ v3.heap.size ∧ v3.heap.size ≠ w.heap.size ∧ w.heap.size ≠ v3.heap.size + 1 ∧ v3.heap.size + 1 ≠ w.heap.size ∧ v1.heap.size ≠ v3.heap.size ∧ v3.heap.size ≠ v1.heap.size ∧ v1.heap.size ≠ v3.heap.size + 1 ∧ v3.heap.size + 1 ≠ v1.heap.size := (by omega); clear hB_v3)
  go_upto_region 10 with fail
  ((first | refine wp_rename ?_ | refine goal_rename ?_); intro W10 hw_W10; replace cc1 : W10.cell? ⟨w.heap.size, 0, none⟩ = some (.int .u8 (m % 5)) := (by rw [hw_W10]; (first | with_reducible exact cc1 | go_simp | exact cc1)); replace cc2 : W10.cell? ⟨w.heap.size, 1, none⟩ = some (.bool aft) := (by rw [hw_W10]; (first | with_reducible exact cc2 | go_simp | exact cc2)); replace cc3 : W10.cell? ⟨v1.heap.size, 0, none⟩ = some (.int .u64 p0) := (by rw [hw_W10]; (first | with_reducible exact cc3 | go_simp | exact cc3)); replace cc4 : W10.cell? ⟨v1.heap.size, 1, none⟩ = some (.int .u64 p1) := (by rw [hw_W10]; (first | with_reducible exact cc4 | go_simp | exact cc4)); replace cc5 : W10.cell? ⟨v1.heap.size, 2, none⟩ = some (.int .u8 0) := (by rw [hw_W10]; (first | with_reducible exact cc5 | go_simp | exact cc5)); replace hBW : Below w.heap.size w W10 := (by rw [hw_W10]; (first | with_reducible exact drewN_below (by assumption) _ | go_grown)); have hl_W10 : w.heap.size < W10.heap.size ∧ v1.heap.size < W10.heap.size := (by rw [hw_W10]; (try simp only [World.size_alloc, World.size_setCell, World.size_drew, drewN_size]); omega); have lay_W10 : Laid W10 := Laid.below (w := w) (by assumption) hBW; (try have layE_W10 : LaidE W10 := LaidE.below (w := w) (by assumption) hBW); clear hw_W10)
  go_cut [71] (fun s wx => s = .bool top ∧ W10 = wx)
  case first =>
   as_aux_lemma =>
    subst htop
    cases b3
    · cases b1
      · go_wp2_with fail
        go_meet
        first | exact ⟨rfl, rfl⟩ | (refine ⟨rfl, ?_⟩; rw [show k % 4 = 3 from eq_of_beq hk3]) | (refine ⟨rfl, ?_⟩; rw [show k % 4 = 1 from eq_of_beq hk1])
      · go_wp2_with fail
        go_meet
        first | exact ⟨rfl, rfl⟩ | (refine ⟨rfl, ?_⟩; rw [show k % 4 = 3 from eq_of_beq hk3]) | (refine ⟨rfl, ?_⟩; rw [show k % 4 = 1 from eq_of_beq hk1])
    · go_wp2_with fail
      go_meet
      first | exact ⟨rfl, rfl⟩ | (refine ⟨rfl, ?_⟩; rw [show k % 4 = 3 from eq_of_beq hk3]) | (refine ⟨rfl, ?_⟩; rw [show k % 4 = 1 from eq_of_beq hk1])
  case rest =>
  obtain ⟨rfl, rfl⟩ := hcut
  go_upto_if 71 with fail
  go_cut [12] (fun s wx => s = .int .u64 few ∧ W10 = wx)
  case first =>
   as_aux_lemma =>
    cases top
    · subst hfew
      go_wp2_with fail
      go_meet
      exact ⟨rfl, rfl⟩
    · subst hfew
      go_wp2_with fail
      go_meet
      exact ⟨rfl, rfl⟩
  case rest =>
  obtain ⟨rfl, rfl⟩ := hcut
  (go_wp2_with fail; refine (format_Prec _ _).mono ?_; rintro en v4 ⟨rfl, hB_v4⟩; have lay_v4 := laid_after hB_v4; (try have layE_v4 := laidE_after hB_v4); replace cc1 := cell_later hB_v4 (cell_later (by go_grown) cc1); replace cc2 := cell_later hB_v4 (cell_later (by go_grown) cc2); replace cc3 := cell_later hB_v4 (cell_later (by go_grown) cc3); replace cc4 := cell_later hB_v4 (cell_later (by go_grown) cc4); replace cc5 := cell_later hB_v4 (cell_later (by go_grown) cc5); have hs_v4 := hB_v4.size; (try simp only [World.size_alloc, World.size_setCell, World.size_drew] at hs_v4); replace hBW : Below w.heap.size w v4 := below_after (w := w) (by go_grown) hB_v4; have hl_v4 : w.heap.size < v4.heap.size ∧ v1.heap.size < v4.heap.size := (by omega); have hn_v4 : w.heap.size ≠ v4.heap.size ∧ v4.heap.size ≠ w.heap.size ∧ w.heap.size ≠ v4.heap.size + 1 ∧ v4.heap.size + 1 ≠ w.heap.size ∧ v1.heap.size ≠ v4.heap.size ∧ v4.heap.size ≠ v1.heap.size ∧ v1.heap.size ≠ v4.heap.size + 1 ∧ v4.heap.size + 1 ≠ v1.heap.size := (by omega); clear hB_v4)
  (go_wp2_with fail; refine (fromint_Has _ _ _).mono ?_; rw [hh.out]; rintro en v5 ⟨rfl, hB_v5⟩; have lay_v5 := laid_after hB_v5; (try have layE_v5 := laidE_after hB_v5); replace cc1 := cell_later hB_v5 (cell_later (by go_grown) cc1); replace cc2 := cell_later hB_v5 (cell_later (by go_grown) cc2); replace cc3 := cell_later hB_v5 (cell_later (by go_grown) cc3); replace cc4 := cell_later hB_v5 (cell_later (by go_grown) cc4); replace cc5 := cell_later hB_v5 (cell_later (by go_grown) cc5); have hs_v5 := hB_v5.size; (try simp only [World.size_alloc, World.size_setCell, World.size_drew] at hs_v5); replace hBW : Below w.heap.size w v5 := below_after (w := w) (by go_grown) hB_v5; have hl_v5 : w.heap.size < v5.heap.size ∧ v1.heap.size < v5.heap.size := (by omega); have hn_v5 : w.heap.size ≠ v5.heap.size ∧ v5.heap.size ≠ w.heap.size ∧ w.heap.size ≠ v5.heap.size + 1 ∧ v5.heap.size + 1 ≠ w.heap.size ∧ v1.heap.size ≠ v5.heap.size ∧ v5.heap.size ≠ v1.heap.size ∧ v1.heap.size ≠ v5.heap.size + 1 ∧ v5.heap.size + 1 ≠ v1.heap.size := (by omega); clear hB_v5)
  (go_wp2_with fail; refine (fromint_Has _ _ _).mono ?_; rw [hh.out]; rintro en v6 ⟨rfl, hB_v6⟩; have lay_v6 := laid_after hB_v6; (try have layE_v6 := laidE_after hB_v6); replace cc1 := cell_later hB_v6 (cell_later (by go_grown) cc1); replace cc2 := cell_later hB_v6 (cell_later (by go_grown) cc2); replace cc3 := cell_later hB_v6 (cell_later (by go_grown) cc3); replace cc4 := cell_later hB_v6 (cell_later (by go_grown) cc4); replace cc5 := cell_later hB_v6 (cell_later (by go_grown) cc5); have hs_v6 := hB_v6.size; (try simp only [World.size_alloc, World.size_setCell, World.size_drew] at hs_v6); replace hBW : Below w.heap.size w v6 := below_after (w := w) (by go_grown) hB_v6; have hl_v6 : w.heap.size < v6.heap.size ∧ v1.heap.size < v6.heap.size := (by omega); have hn_v6 : w.heap.size ≠ v6.heap.size ∧ v6.heap.size ≠ w.heap.size ∧ w.heap.size ≠ v6.heap.size + 1 ∧ v6.heap.size + 1 ≠ w.heap.size ∧ v1.heap.size ≠ v6.heap.size ∧ v6.heap.size ≠ v1.heap.size ∧ v1.heap.size ≠ v6.heap.size + 1 ∧ v6.heap.size + 1 ≠ v1.heap.size := (by omega); clear hB_v6)
  (go_wp2_with fail; refine (law27_goes _).mono ?_; rintro en v8 ⟨rfl, hB_v8⟩; have lay_v8 := laid_after hB_v8; (try have layE_v8 := laidE_after hB_v8); replace cc1 := cell_later hB_v8 (cell_later (by go_grown) cc1); replace cc2 := cell_later hB_v8 (cell_later (by go_grown) cc2); replace cc3 := cell_later hB_v8 (cell_later (by go_grown) cc3); replace cc4 := cell_later hB_v8 (cell_later (by go_grown) cc4); replace cc5 := cell_later hB_v8 (cell_later (by go_grown) cc5); have hs_v8 := hB_v8.size; (try simp only [World.size_alloc, World.size_setCell, World.size_drew] at hs_v8); replace hBW : Below w.heap.size w v8 := below_after (w := w) (by go_grown) hB_v8; have hl_v8 : w.heap.size < v8.heap.size ∧ v1.heap.size < v8.heap.size := (by omega); have hn_v8 : w.heap.size ≠ v8.heap.size ∧ v8.heap.size ≠ w.heap.size ∧ w.heap.size ≠ v8.heap.size + 1 ∧ v8.heap.size + 1 ≠ w.heap.size ∧ v1.heap.size ≠ v8.heap.size ∧ v8.heap.size ≠ v1.heap.size ∧ v1.heap.size ≠ v8.heap.size + 1 ∧ v8.heap.size + 1 ≠ v1.heap.size := (by omega); clear hB_v8)
  go_wp2_with fail
  go_returns
  exact ⟨rfl, by go_grown⟩
set_option maxRecDepth 100000 in
set_option maxHeartbeats 8000000 in
theorem fb_0_p (k f m b m2 p0 p1 few : Int) (aft f3 top b3 b1 tp : Bool) [hU : U8 f] [hK : U8 k] [hM : U8 m] [hM2 : U8 m2] [hb : U64 b] [U8 (k % 4)] [U8 (m % 5)] [U8 (m2 % 5)] (w : World) [hLay : Laid w] [hLE : LaidE w] [U64 p0] [U64 p1] [U64 few] (hf : f < 4)
    (e1 : Hid (hi (fromB (k % 4) f (m % 5) b) = p0)) (e2 : Hid (lo (fromB (k % 4) f (m % 5) b) = p1)) (e3 : Hid (fromFl (k % 4) f (m % 5) aft b = 0))
    (hf3 : (f == 3) = f3) 
    (hk3 : ((k % 4) == 3) = b3) (hk1 : ((k % 4) == 1) = b1) (htp : (b / 9223372036854775808 == 1) = tp) (htop : (if b3 then false else if b1 then false else tp) = top) (hfew : (if top then IntKind.u64.wrap (-b) else b) = few)
    (hh : Hid (hasB (k % 4) b = true))
    (hw : Hid (wholeB f (cat p0 p1) = true))
    (hp : decide (precS f ≥ 64) = true)
    (i1 : Hid (intV f (k % 4) (m2 % 5) (cat p0 p1) = b)) (i2 : Hid (intF f (k % 4) (m2 % 5) (cat p0 p1) = 0)) :
    Calls Tryd.prog 11 #[.int .u8 k, .int .u8 f, .agg #[.int .u8 m, .bool aft], .int .u64 b, .int .u8 m2] w fun en w' => en = .returned (.bool true) ∧ Below w.heap.size w w' := by
  have hfd : decide (f < 4) = true := decide_eq_true hf
  have hm0 := hM.ge
  have hm2 := hM2.ge
  have hk0 := hK.ge
  have q := fun W a b => eql_whole_same W a b
  have z1 : bits BinOp.and IntKind.u8 0 11 = 0 := by decide +kernel
  have z2 : bits BinOp.and IntKind.u8 0 4 = 0 := by decide +kernel
  have hk3n : ((k % 4) != 3) = !b3 := by rw [← hk3]; rfl
  have hk1n : ((k % 4) != 1) = !b1 := by rw [← hk1]; rfl
  clear hf
  go_enter Tryd.func11, Tryd.ntmps11
  skip
  (go_wp2_with fail; refine (fromint_From _ _ _ _ _ _).mono ?_; rw [e1.out, e2.out, e3.out]; rintro en v1 ⟨rfl, hB_v1⟩; have lay_v1 := laid_after hB_v1; (try have layE_v1 := laidE_after hB_v1); have cc1 := cell_later hB_v1 (show World.cell? _ ⟨w.heap.size, 0, none⟩ = some (.int .u8 (m % 5)) by go_simp); have cc2 := cell_later hB_v1 (show World.cell? _ ⟨w.heap.size, 1, none⟩ = some (.bool aft) by go_simp); have hs_v1 := hB_v1.size; (try simp only [World.size_alloc, World.size_setCell, World.size_drew] at hs_v1); have hBW : Below w.heap.size w v1 := below_after (w := w) (by go_grown) hB_v1; have hl_v1 : w.heap.size < v1.heap.size := (by omega); have hn_v1 : w.heap.size ≠ v1.heap.size ∧ v1.heap.size ≠ w.heap.size ∧ w.heap.size ≠ v1.heap.size + 1 ∧ v1.heap.size + 1 ≠ w.heap.size := (by omega); clear hB_v1)
  (go_wp2_with fail; refine (format_Known_b _ _).mono ?_; rintro en v2 ⟨rfl, hB_v2⟩; have lay_v2 := laid_after hB_v2; (try have layE_v2 := laidE_after hB_v2); replace cc1 := cell_later hB_v2 (cell_later (by go_grown) cc1); replace cc2 := cell_later hB_v2 (cell_later (by go_grown) cc2); have cc3 := cell_later hB_v2 (show World.cell? _ ⟨v1.heap.size, 0, none⟩ = some (.int .u64 p0) by go_simp); have cc4 := cell_later hB_v2 (show World.cell? _ ⟨v1.heap.size, 1, none⟩ = some (.int .u64 p1) by go_simp); have cc5 := cell_later hB_v2 (show World.cell? _ ⟨v1.heap.size, 2, none⟩ = some (.int .u8 0) by go_simp); have hs_v2 := hB_v2.size; (try simp only [World.size_alloc, World.size_setCell, World.size_drew] at hs_v2); replace hBW : Below w.heap.size w v2 := below_after (w := w) (by go_grown) hB_v2; have hl_v2 : w.heap.size < v2.heap.size ∧ v1.heap.size < v2.heap.size := (by omega); have hn_v2 : w.heap.size ≠ v2.heap.size ∧ v2.heap.size ≠ w.heap.size ∧ w.heap.size ≠ v2.heap.size + 1 ∧ v2.heap.size + 1 ≠ w.heap.size ∧ v1.heap.size ≠ v2.heap.size ∧ v2.heap.size ≠ v1.heap.size ∧ v1.heap.size ≠ v2.heap.size + 1 ∧ v2.heap.size + 1 ≠ v1.heap.size := (by omega); clear hB_v2)
  go_upto_region 5 with fail
  ((first | refine wp_rename ?_ | refine goal_rename ?_); intro W5 hw_W5; replace cc1 : W5.cell? ⟨w.heap.size, 0, none⟩ = some (.int .u8 (m % 5)) := (by rw [hw_W5]; (first | with_reducible exact cc1 | go_simp | exact cc1)); replace cc2 : W5.cell? ⟨w.heap.size, 1, none⟩ = some (.bool aft) := (by rw [hw_W5]; (first | with_reducible exact cc2 | go_simp | exact cc2)); replace cc3 : W5.cell? ⟨v1.heap.size, 0, none⟩ = some (.int .u64 p0) := (by rw [hw_W5]; (first | with_reducible exact cc3 | go_simp | exact cc3)); replace cc4 : W5.cell? ⟨v1.heap.size, 1, none⟩ = some (.int .u64 p1) := (by rw [hw_W5]; (first | with_reducible exact cc4 | go_simp | exact cc4)); replace cc5 : W5.cell? ⟨v1.heap.size, 2, none⟩ = some (.int .u8 0) := (by rw [hw_W5]; (first | with_reducible exact cc5 | go_simp | exact cc5)); replace hBW : Below w.heap.size w W5 := (by rw [hw_W5]; (first | with_reducible exact drewN_below (by assumption) _ | go_grown)); have hl_W5 : w.heap.size < W5.heap.size ∧ v1.heap.size < W5.heap.size := (by rw [hw_W5]; (try simp only [World.size_alloc, World.size_setCell, World.size_drew, drewN_size]); omega); have lay_W5 : Laid W5 := Laid.below (w := w) (by assumption) hBW; (try have layE_W5 : LaidE W5 := LaidE.below (w := w) (by assumption) hBW); clear hw_W5)
  go_cut [48] (fun s wx => s = .bool false ∧ W5 = wx)
  case first =>
   as_aux_lemma =>
    cases f3
    · go_wp2_with fail
      go_meet
      exact ⟨rfl, rfl⟩
    · go_wp2_with fail
      go_meet
      exact ⟨rfl, rfl⟩
  case rest =>
  obtain ⟨rfl, rfl⟩ := hcut
  (go_wp2_with fail; refine (rint_Whole _ _ _ _).mono ?_; rw [hw.out]; rintro en v3 ⟨rfl, hB_v3⟩; have lay_v3 := laid_after hB_v3; (try have layE_v3 := laidE_after hB_v3); replace cc1 := cell_later hB_v3 (cell_later (by go_grown) cc1); replace cc2 := cell_later hB_v3 (cell_later (by go_grown) cc2); replace cc3 := cell_later hB_v3 (cell_later (by go_grown) cc3); replace cc4 := cell_later hB_v3 (cell_later (by go_grown) cc4); replace cc5 := cell_later hB_v3 (cell_later (by go_grown) cc5); have hs_v3 := hB_v3.size; (try simp only [World.size_alloc, World.size_setCell, World.size_drew] at hs_v3); replace hBW : Below w.heap.size w v3 := below_after (w := w) (by go_grown) hB_v3; have hl_v3 : w.heap.size < v3.heap.size ∧ v1.heap.size < v3.heap.size := (by omega); have hn_v3 : w.heap.size ≠ v3.heap.size ∧ v3.heap.size ≠ w.heap.size ∧ w.heap.size ≠ v3.heap.size + 1 ∧ v3.heap.size + 1 ≠ w.heap.size ∧ v1.heap.size ≠ v3.heap.size ∧ v3.heap.size ≠ v1.heap.size ∧ v1.heap.size ≠ v3.heap.size + 1 ∧ v3.heap.size + 1 ≠ v1.heap.size := (by omega); clear hB_v3)
  go_upto_region 10 with fail
  ((first | refine wp_rename ?_ | refine goal_rename ?_); intro W10 hw_W10; replace cc1 : W10.cell? ⟨w.heap.size, 0, none⟩ = some (.int .u8 (m % 5)) := (by rw [hw_W10]; (first | with_reducible exact cc1 | go_simp | exact cc1)); replace cc2 : W10.cell? ⟨w.heap.size, 1, none⟩ = some (.bool aft) := (by rw [hw_W10]; (first | with_reducible exact cc2 | go_simp | exact cc2)); replace cc3 : W10.cell? ⟨v1.heap.size, 0, none⟩ = some (.int .u64 p0) := (by rw [hw_W10]; (first | with_reducible exact cc3 | go_simp | exact cc3)); replace cc4 : W10.cell? ⟨v1.heap.size, 1, none⟩ = some (.int .u64 p1) := (by rw [hw_W10]; (first | with_reducible exact cc4 | go_simp | exact cc4)); replace cc5 : W10.cell? ⟨v1.heap.size, 2, none⟩ = some (.int .u8 0) := (by rw [hw_W10]; (first | with_reducible exact cc5 | go_simp | exact cc5)); replace hBW : Below w.heap.size w W10 := (by rw [hw_W10]; (first | with_reducible exact drewN_below (by assumption) _ | go_grown)); have hl_W10 : w.heap.size < W10.heap.size ∧ v1.heap.size < W10.heap.size := (by rw [hw_W10]; (try simp only [World.size_alloc, World.size_setCell, World.size_drew, drewN_size]); omega); have lay_W10 : Laid W10 := Laid.below (w := w) (by assumption) hBW; (try have layE_W10 : LaidE W10 := LaidE.below (w := w) (by assumption) hBW); clear hw_W10)
  go_cut [71] (fun s wx => s = .bool top ∧ W10 = wx)
  case first =>
   as_aux_lemma =>
    subst htop
    cases b3
    · cases b1
      · go_wp2_with fail
        go_meet
        first | exact ⟨rfl, rfl⟩ | (refine ⟨rfl, ?_⟩; rw [show k % 4 = 3 from eq_of_beq hk3]) | (refine ⟨rfl, ?_⟩; rw [show k % 4 = 1 from eq_of_beq hk1])
      · go_wp2_with fail
        go_meet
        first | exact ⟨rfl, rfl⟩ | (refine ⟨rfl, ?_⟩; rw [show k % 4 = 3 from eq_of_beq hk3]) | (refine ⟨rfl, ?_⟩; rw [show k % 4 = 1 from eq_of_beq hk1])
    · go_wp2_with fail
      go_meet
      first | exact ⟨rfl, rfl⟩ | (refine ⟨rfl, ?_⟩; rw [show k % 4 = 3 from eq_of_beq hk3]) | (refine ⟨rfl, ?_⟩; rw [show k % 4 = 1 from eq_of_beq hk1])
  case rest =>
  obtain ⟨rfl, rfl⟩ := hcut
  go_upto_if 71 with fail
  go_cut [12] (fun s wx => s = .int .u64 few ∧ W10 = wx)
  case first =>
   as_aux_lemma =>
    cases top
    · subst hfew
      go_wp2_with fail
      go_meet
      exact ⟨rfl, rfl⟩
    · subst hfew
      go_wp2_with fail
      go_meet
      exact ⟨rfl, rfl⟩
  case rest =>
  obtain ⟨rfl, rfl⟩ := hcut
  (go_wp2_with fail; refine (format_Prec _ _).mono ?_; rintro en v4 ⟨rfl, hB_v4⟩; have lay_v4 := laid_after hB_v4; (try have layE_v4 := laidE_after hB_v4); replace cc1 := cell_later hB_v4 (cell_later (by go_grown) cc1); replace cc2 := cell_later hB_v4 (cell_later (by go_grown) cc2); replace cc3 := cell_later hB_v4 (cell_later (by go_grown) cc3); replace cc4 := cell_later hB_v4 (cell_later (by go_grown) cc4); replace cc5 := cell_later hB_v4 (cell_later (by go_grown) cc5); have hs_v4 := hB_v4.size; (try simp only [World.size_alloc, World.size_setCell, World.size_drew] at hs_v4); replace hBW : Below w.heap.size w v4 := below_after (w := w) (by go_grown) hB_v4; have hl_v4 : w.heap.size < v4.heap.size ∧ v1.heap.size < v4.heap.size := (by omega); have hn_v4 : w.heap.size ≠ v4.heap.size ∧ v4.heap.size ≠ w.heap.size ∧ w.heap.size ≠ v4.heap.size + 1 ∧ v4.heap.size + 1 ≠ w.heap.size ∧ v1.heap.size ≠ v4.heap.size ∧ v4.heap.size ≠ v1.heap.size ∧ v1.heap.size ≠ v4.heap.size + 1 ∧ v4.heap.size + 1 ≠ v1.heap.size := (by omega); clear hB_v4)
  (go_wp2_with fail; refine (fromint_Has _ _ _).mono ?_; rw [hh.out]; rintro en v5 ⟨rfl, hB_v5⟩; have lay_v5 := laid_after hB_v5; (try have layE_v5 := laidE_after hB_v5); replace cc1 := cell_later hB_v5 (cell_later (by go_grown) cc1); replace cc2 := cell_later hB_v5 (cell_later (by go_grown) cc2); replace cc3 := cell_later hB_v5 (cell_later (by go_grown) cc3); replace cc4 := cell_later hB_v5 (cell_later (by go_grown) cc4); replace cc5 := cell_later hB_v5 (cell_later (by go_grown) cc5); have hs_v5 := hB_v5.size; (try simp only [World.size_alloc, World.size_setCell, World.size_drew] at hs_v5); replace hBW : Below w.heap.size w v5 := below_after (w := w) (by go_grown) hB_v5; have hl_v5 : w.heap.size < v5.heap.size ∧ v1.heap.size < v5.heap.size := (by omega); have hn_v5 : w.heap.size ≠ v5.heap.size ∧ v5.heap.size ≠ w.heap.size ∧ w.heap.size ≠ v5.heap.size + 1 ∧ v5.heap.size + 1 ≠ w.heap.size ∧ v1.heap.size ≠ v5.heap.size ∧ v5.heap.size ≠ v1.heap.size ∧ v1.heap.size ≠ v5.heap.size + 1 ∧ v5.heap.size + 1 ≠ v1.heap.size := (by omega); clear hB_v5)
  (go_wp2_with fail; refine (fromint_Has _ _ _).mono ?_; rw [hh.out]; rintro en v6 ⟨rfl, hB_v6⟩; have lay_v6 := laid_after hB_v6; (try have layE_v6 := laidE_after hB_v6); replace cc1 := cell_later hB_v6 (cell_later (by go_grown) cc1); replace cc2 := cell_later hB_v6 (cell_later (by go_grown) cc2); replace cc3 := cell_later hB_v6 (cell_later (by go_grown) cc3); replace cc4 := cell_later hB_v6 (cell_later (by go_grown) cc4); replace cc5 := cell_later hB_v6 (cell_later (by go_grown) cc5); have hs_v6 := hB_v6.size; (try simp only [World.size_alloc, World.size_setCell, World.size_drew] at hs_v6); replace hBW : Below w.heap.size w v6 := below_after (w := w) (by go_grown) hB_v6; have hl_v6 : w.heap.size < v6.heap.size ∧ v1.heap.size < v6.heap.size := (by omega); have hn_v6 : w.heap.size ≠ v6.heap.size ∧ v6.heap.size ≠ w.heap.size ∧ w.heap.size ≠ v6.heap.size + 1 ∧ v6.heap.size + 1 ≠ w.heap.size ∧ v1.heap.size ≠ v6.heap.size ∧ v6.heap.size ≠ v1.heap.size ∧ v1.heap.size ≠ v6.heap.size + 1 ∧ v6.heap.size + 1 ≠ v1.heap.size := (by omega); clear hB_v6)
  (go_wp2_with fail; refine (toint_Int _ _ _ _ _ _).mono ?_; rw [i1.out, i2.out]; rintro en v7 ⟨rfl, hB_v7⟩; have lay_v7 := laid_after hB_v7; (try have layE_v7 := laidE_after hB_v7); replace cc1 := cell_later hB_v7 (cell_later (by go_grown) cc1); replace cc2 := cell_later hB_v7 (cell_later (by go_grown) cc2); replace cc3 := cell_later hB_v7 (cell_later (by go_grown) cc3); replace cc4 := cell_later hB_v7 (cell_later (by go_grown) cc4); replace cc5 := cell_later hB_v7 (cell_later (by go_grown) cc5); have hs_v7 := hB_v7.size; (try simp only [World.size_alloc, World.size_setCell, World.size_drew] at hs_v7); replace hBW : Below w.heap.size w v7 := below_after (w := w) (by go_grown) hB_v7; have hl_v7 : w.heap.size < v7.heap.size ∧ v1.heap.size < v7.heap.size := (by omega); have hn_v7 : w.heap.size ≠ v7.heap.size ∧ v7.heap.size ≠ w.heap.size ∧ w.heap.size ≠ v7.heap.size + 1 ∧ v7.heap.size + 1 ≠ w.heap.size ∧ v1.heap.size ≠ v7.heap.size ∧ v7.heap.size ≠ v1.heap.size ∧ v1.heap.size ≠ v7.heap.size + 1 ∧ v7.heap.size + 1 ≠ v1.heap.size := (by omega); clear hB_v7)
  (go_wp2_with fail; refine (law27_goes _).mono ?_; rintro en v8 ⟨rfl, hB_v8⟩; have lay_v8 := laid_after hB_v8; (try have layE_v8 := laidE_after hB_v8); replace cc1 := cell_later hB_v8 (cell_later (by go_grown) cc1); replace cc2 := cell_later hB_v8 (cell_later (by go_grown) cc2); replace cc3 := cell_later hB_v8 (cell_later (by go_grown) cc3); replace cc4 := cell_later hB_v8 (cell_later (by go_grown) cc4); replace cc5 := cell_later hB_v8 (cell_later (by go_grown) cc5); have hs_v8 := hB_v8.size; (try simp only [World.size_alloc, World.size_setCell, World.size_drew] at hs_v8); replace hBW : Below w.heap.size w v8 := below_after (w := w) (by go_grown) hB_v8; have hl_v8 : w.heap.size < v8.heap.size ∧ v1.heap.size < v8.heap.size := (by omega); have hn_v8 : w.heap.size ≠ v8.heap.size ∧ v8.heap.size ≠ w.heap.size ∧ w.heap.size ≠ v8.heap.size + 1 ∧ v8.heap.size + 1 ≠ w.heap.size ∧ v1.heap.size ≠ v8.heap.size ∧ v8.heap.size ≠ v1.heap.size ∧ v1.heap.size ≠ v8.heap.size + 1 ∧ v8.heap.size + 1 ≠ v1.heap.size := (by omega); clear hB_v8)
  go_wp2_with fail
  go_returns
  exact ⟨rfl, by go_grown⟩
set_option maxRecDepth 100000 in
set_option maxHeartbeats 8000000 in
theorem fb_0_c (k f m b m2 p0 p1 few : Int) (aft f3 top b3 b1 tp : Bool) [hU : U8 f] [hK : U8 k] [hM : U8 m] [hM2 : U8 m2] [hb : U64 b] [U8 (k % 4)] [U8 (m % 5)] [U8 (m2 % 5)] (w : World) [hLay : Laid w] [hLE : LaidE w] [U64 p0] [U64 p1] [U64 few] (hf : f < 4)
    (e1 : Hid (hi (fromB (k % 4) f (m % 5) b) = p0)) (e2 : Hid (lo (fromB (k % 4) f (m % 5) b) = p1)) (e3 : Hid (fromFl (k % 4) f (m % 5) aft b = 0))
    (hf3 : (f == 3) = f3) 
    (hk3 : ((k % 4) == 3) = b3) (hk1 : ((k % 4) == 1) = b1) (htp : (b / 9223372036854775808 == 1) = tp) (htop : (if b3 then false else if b1 then false else tp) = top) (hfew : (if top then IntKind.u64.wrap (-b) else b) = few)
    (hh : Hid (hasB (k % 4) b = true))
    (hw : Hid (wholeB f (cat p0 p1) = true))
    (hp : decide (precS f ≥ 64) = false) (hc : decide (few < 2 ^ (precS f).toNat) = true)
    (i1 : Hid (intV f (k % 4) (m2 % 5) (cat p0 p1) = b)) (i2 : Hid (intF f (k % 4) (m2 % 5) (cat p0 p1) = 0)) :
    Calls Tryd.prog 11 #[.int .u8 k, .int .u8 f, .agg #[.int .u8 m, .bool aft], .int .u64 b, .int .u8 m2] w fun en w' => en = .returned (.bool true) ∧ Below w.heap.size w w' := by
  have hfd : decide (f < 4) = true := decide_eq_true hf
  have hm0 := hM.ge
  have hm2 := hM2.ge
  have hk0 := hK.ge
  have q := fun W a b => eql_whole_same W a b
  have z1 : bits BinOp.and IntKind.u8 0 11 = 0 := by decide +kernel
  have z2 : bits BinOp.and IntKind.u8 0 4 = 0 := by decide +kernel
  have hpb : 0 ≤ precS f ∧ precS f < 64 := ⟨(precS_bd f).1, by rw [decide_eq_false_iff_not] at hp; omega⟩
  have hsh : IntKind.u64.wrap (1 * 2 ^ (precS f).toNat) = 2 ^ (precS f).toNat := shl_one _ hpb.1 hpb.2
  have hsh2 : IntKind.u64.wrap (2 ^ (precS f).toNat) = 2 ^ (precS f).toNat := by rw [Int.one_mul] at hsh; exact hsh
  have hk3n : ((k % 4) != 3) = !b3 := by rw [← hk3]; rfl
  have hk1n : ((k % 4) != 1) = !b1 := by rw [← hk1]; rfl
  clear hf
  go_enter Tryd.func11, Tryd.ntmps11
  skip
  (go_wp2_with fail; refine (fromint_From _ _ _ _ _ _).mono ?_; rw [e1.out, e2.out, e3.out]; rintro en v1 ⟨rfl, hB_v1⟩; have lay_v1 := laid_after hB_v1; (try have layE_v1 := laidE_after hB_v1); have cc1 := cell_later hB_v1 (show World.cell? _ ⟨w.heap.size, 0, none⟩ = some (.int .u8 (m % 5)) by go_simp); have cc2 := cell_later hB_v1 (show World.cell? _ ⟨w.heap.size, 1, none⟩ = some (.bool aft) by go_simp); have hs_v1 := hB_v1.size; (try simp only [World.size_alloc, World.size_setCell, World.size_drew] at hs_v1); have hBW : Below w.heap.size w v1 := below_after (w := w) (by go_grown) hB_v1; have hl_v1 : w.heap.size < v1.heap.size := (by omega); have hn_v1 : w.heap.size ≠ v1.heap.size ∧ v1.heap.size ≠ w.heap.size ∧ w.heap.size ≠ v1.heap.size + 1 ∧ v1.heap.size + 1 ≠ w.heap.size := (by omega); clear hB_v1)
  (go_wp2_with fail; refine (format_Known_b _ _).mono ?_; rintro en v2 ⟨rfl, hB_v2⟩; have lay_v2 := laid_after hB_v2; (try have layE_v2 := laidE_after hB_v2); replace cc1 := cell_later hB_v2 (cell_later (by go_grown) cc1); replace cc2 := cell_later hB_v2 (cell_later (by go_grown) cc2); have cc3 := cell_later hB_v2 (show World.cell? _ ⟨v1.heap.size, 0, none⟩ = some (.int .u64 p0) by go_simp); have cc4 := cell_later hB_v2 (show World.cell? _ ⟨v1.heap.size, 1, none⟩ = some (.int .u64 p1) by go_simp); have cc5 := cell_later hB_v2 (show World.cell? _ ⟨v1.heap.size, 2, none⟩ = some (.int .u8 0) by go_simp); have hs_v2 := hB_v2.size; (try simp only [World.size_alloc, World.size_setCell, World.size_drew] at hs_v2); replace hBW : Below w.heap.size w v2 := below_after (w := w) (by go_grown) hB_v2; have hl_v2 : w.heap.size < v2.heap.size ∧ v1.heap.size < v2.heap.size := (by omega); have hn_v2 : w.heap.size ≠ v2.heap.size ∧ v2.heap.size ≠ w.heap.size ∧ w.heap.size ≠ v2.heap.size + 1 ∧ v2.heap.size + 1 ≠ w.heap.size ∧ v1.heap.size ≠ v2.heap.size ∧ v2.heap.size ≠ v1.heap.size ∧ v1.heap.size ≠ v2.heap.size + 1 ∧ v2.heap.size + 1 ≠ v1.heap.size := (by omega); clear hB_v2)
  go_upto_region 5 with fail
  ((first | refine wp_rename ?_ | refine goal_rename ?_); intro W5 hw_W5; replace cc1 : W5.cell? ⟨w.heap.size, 0, none⟩ = some (.int .u8 (m % 5)) := (by rw [hw_W5]; (first | with_reducible exact cc1 | go_simp | exact cc1)); replace cc2 : W5.cell? ⟨w.heap.size, 1, none⟩ = some (.bool aft) := (by rw [hw_W5]; (first | with_reducible exact cc2 | go_simp | exact cc2)); replace cc3 : W5.cell? ⟨v1.heap.size, 0, none⟩ = some (.int .u64 p0) := (by rw [hw_W5]; (first | with_reducible exact cc3 | go_simp | exact cc3)); replace cc4 : W5.cell? ⟨v1.heap.size, 1, none⟩ = some (.int .u64 p1) := (by rw [hw_W5]; (first | with_reducible exact cc4 | go_simp | exact cc4)); replace cc5 : W5.cell? ⟨v1.heap.size, 2, none⟩ = some (.int .u8 0) := (by rw [hw_W5]; (first | with_reducible exact cc5 | go_simp | exact cc5)); replace hBW : Below w.heap.size w W5 := (by rw [hw_W5]; (first | with_reducible exact drewN_below (by assumption) _ | go_grown)); have hl_W5 : w.heap.size < W5.heap.size ∧ v1.heap.size < W5.heap.size := (by rw [hw_W5]; (try simp only [World.size_alloc, World.size_setCell, World.size_drew, drewN_size]); omega); have lay_W5 : Laid W5 := Laid.below (w := w) (by assumption) hBW; (try have layE_W5 : LaidE W5 := LaidE.below (w := w) (by assumption) hBW); clear hw_W5)
  go_cut [48] (fun s wx => s = .bool false ∧ W5 = wx)
  case first =>
   as_aux_lemma =>
    cases f3
    · go_wp2_with fail
      go_meet
      exact ⟨rfl, rfl⟩
    · go_wp2_with fail
      go_meet
      exact ⟨rfl, rfl⟩
  case rest =>
  obtain ⟨rfl, rfl⟩ := hcut
  (go_wp2_with fail; refine (rint_Whole _ _ _ _).mono ?_; rw [hw.out]; rintro en v3 ⟨rfl, hB_v3⟩; have lay_v3 := laid_after hB_v3; (try have layE_v3 := laidE_after hB_v3); replace cc1 := cell_later hB_v3 (cell_later (by go_grown) cc1); replace cc2 := cell_later hB_v3 (cell_later (by go_grown) cc2); replace cc3 := cell_later hB_v3 (cell_later (by go_grown) cc3); replace cc4 := cell_later hB_v3 (cell_later (by go_grown) cc4); replace cc5 := cell_later hB_v3 (cell_later (by go_grown) cc5); have hs_v3 := hB_v3.size; (try simp only [World.size_alloc, World.size_setCell, World.size_drew] at hs_v3); replace hBW : Below w.heap.size w v3 := below_after (w := w) (by go_grown) hB_v3; have hl_v3 : w.heap.size < v3.heap.size ∧ v1.heap.size < v3.heap.size := (by omega); have hn_v3 : w.heap.size ≠ v3.heap.size ∧ v3.heap.size ≠ w.heap.size ∧ w.heap.size ≠ v3.heap.size + 1 ∧ v3.heap.size + 1 ≠ w.heap.size ∧ v1.heap.size ≠ v3.heap.size ∧ v3.heap.size ≠ v1.heap.size ∧ v1.heap.size ≠ v3.heap.size + 1 ∧ v3.heap.size + 1 ≠ v1.heap.size := (by omega); clear hB_v3)
  go_upto_region 10 with fail
  ((first | refine wp_rename ?_ | refine goal_rename ?_); intro W10 hw_W10; replace cc1 : W10.cell? ⟨w.heap.size, 0, none⟩ = some (.int .u8 (m % 5)) := (by rw [hw_W10]; (first | with_reducible exact cc1 | go_simp | exact cc1)); replace cc2 : W10.cell? ⟨w.heap.size, 1, none⟩ = some (.bool aft) := (by rw [hw_W10]; (first | with_reducible exact cc2 | go_simp | exact cc2)); replace cc3 : W10.cell? ⟨v1.heap.size, 0, none⟩ = some (.int .u64 p0) := (by rw [hw_W10]; (first | with_reducible exact cc3 | go_simp | exact cc3)); replace cc4 : W10.cell? ⟨v1.heap.size, 1, none⟩ = some (.int .u64 p1) := (by rw [hw_W10]; (first | with_reducible exact cc4 | go_simp | exact cc4)); replace cc5 : W10.cell? ⟨v1.heap.size, 2, none⟩ = some (.int .u8 0) := (by rw [hw_W10]; (first | with_reducible exact cc5 | go_simp | exact cc5)); replace hBW : Below w.heap.size w W10 := (by rw [hw_W10]; (first | with_reducible exact drewN_below (by assumption) _ | go_grown)); have hl_W10 : w.heap.size < W10.heap.size ∧ v1.heap.size < W10.heap.size := (by rw [hw_W10]; (try simp only [World.size_alloc, World.size_setCell, World.size_drew, drewN_size]); omega); have lay_W10 : Laid W10 := Laid.below (w := w) (by assumption) hBW; (try have layE_W10 : LaidE W10 := LaidE.below (w := w) (by assumption) hBW); clear hw_W10)
  go_cut [71] (fun s wx => s = .bool top ∧ W10 = wx)
  case first =>
   as_aux_lemma =>
    subst htop
    cases b3
    · cases b1
      · go_wp2_with fail
        go_meet
        first | exact ⟨rfl, rfl⟩ | (refine ⟨rfl, ?_⟩; rw [show k % 4 = 3 from eq_of_beq hk3]) | (refine ⟨rfl, ?_⟩; rw [show k % 4 = 1 from eq_of_beq hk1])
      · go_wp2_with fail
        go_meet
        first | exact ⟨rfl, rfl⟩ | (refine ⟨rfl, ?_⟩; rw [show k % 4 = 3 from eq_of_beq hk3]) | (refine ⟨rfl, ?_⟩; rw [show k % 4 = 1 from eq_of_beq hk1])
    · go_wp2_with fail
      go_meet
      first | exact ⟨rfl, rfl⟩ | (refine ⟨rfl, ?_⟩; rw [show k % 4 = 3 from eq_of_beq hk3]) | (refine ⟨rfl, ?_⟩; rw [show k % 4 = 1 from eq_of_beq hk1])
  case rest =>
  obtain ⟨rfl, rfl⟩ := hcut
  go_upto_if 71 with fail
  go_cut [12] (fun s wx => s = .int .u64 few ∧ W10 = wx)
  case first =>
   as_aux_lemma =>
    cases top
    · subst hfew
      go_wp2_with fail
      go_meet
      exact ⟨rfl, rfl⟩
    · subst hfew
      go_wp2_with fail
      go_meet
      exact ⟨rfl, rfl⟩
  case rest =>
  obtain ⟨rfl, rfl⟩ := hcut
  (go_wp2_with fail; refine (format_Prec _ _).mono ?_; rintro en v4 ⟨rfl, hB_v4⟩; have lay_v4 := laid_after hB_v4; (try have layE_v4 := laidE_after hB_v4); replace cc1 := cell_later hB_v4 (cell_later (by go_grown) cc1); replace cc2 := cell_later hB_v4 (cell_later (by go_grown) cc2); replace cc3 := cell_later hB_v4 (cell_later (by go_grown) cc3); replace cc4 := cell_later hB_v4 (cell_later (by go_grown) cc4); replace cc5 := cell_later hB_v4 (cell_later (by go_grown) cc5); have hs_v4 := hB_v4.size; (try simp only [World.size_alloc, World.size_setCell, World.size_drew] at hs_v4); replace hBW : Below w.heap.size w v4 := below_after (w := w) (by go_grown) hB_v4; have hl_v4 : w.heap.size < v4.heap.size ∧ v1.heap.size < v4.heap.size := (by omega); have hn_v4 : w.heap.size ≠ v4.heap.size ∧ v4.heap.size ≠ w.heap.size ∧ w.heap.size ≠ v4.heap.size + 1 ∧ v4.heap.size + 1 ≠ w.heap.size ∧ v1.heap.size ≠ v4.heap.size ∧ v4.heap.size ≠ v1.heap.size ∧ v1.heap.size ≠ v4.heap.size + 1 ∧ v4.heap.size + 1 ≠ v1.heap.size := (by omega); clear hB_v4)
  (go_wp2_with fail; refine (fromint_Has _ _ _).mono ?_; rw [hh.out]; rintro en v5 ⟨rfl, hB_v5⟩; have lay_v5 := laid_after hB_v5; (try have layE_v5 := laidE_after hB_v5); replace cc1 := cell_later hB_v5 (cell_later (by go_grown) cc1); replace cc2 := cell_later hB_v5 (cell_later (by go_grown) cc2); replace cc3 := cell_later hB_v5 (cell_later (by go_grown) cc3); replace cc4 := cell_later hB_v5 (cell_later (by go_grown) cc4); replace cc5 := cell_later hB_v5 (cell_later (by go_grown) cc5); have hs_v5 := hB_v5.size; (try simp only [World.size_alloc, World.size_setCell, World.size_drew] at hs_v5); replace hBW : Below w.heap.size w v5 := below_after (w := w) (by go_grown) hB_v5; have hl_v5 : w.heap.size < v5.heap.size ∧ v1.heap.size < v5.heap.size := (by omega); have hn_v5 : w.heap.size ≠ v5.heap.size ∧ v5.heap.size ≠ w.heap.size ∧ w.heap.size ≠ v5.heap.size + 1 ∧ v5.heap.size + 1 ≠ w.heap.size ∧ v1.heap.size ≠ v5.heap.size ∧ v5.heap.size ≠ v1.heap.size ∧ v1.heap.size ≠ v5.heap.size + 1 ∧ v5.heap.size + 1 ≠ v1.heap.size := (by omega); clear hB_v5)
  (go_wp2_with fail; refine (fromint_Has _ _ _).mono ?_; rw [hh.out]; rintro en v6 ⟨rfl, hB_v6⟩; have lay_v6 := laid_after hB_v6; (try have layE_v6 := laidE_after hB_v6); replace cc1 := cell_later hB_v6 (cell_later (by go_grown) cc1); replace cc2 := cell_later hB_v6 (cell_later (by go_grown) cc2); replace cc3 := cell_later hB_v6 (cell_later (by go_grown) cc3); replace cc4 := cell_later hB_v6 (cell_later (by go_grown) cc4); replace cc5 := cell_later hB_v6 (cell_later (by go_grown) cc5); have hs_v6 := hB_v6.size; (try simp only [World.size_alloc, World.size_setCell, World.size_drew] at hs_v6); replace hBW : Below w.heap.size w v6 := below_after (w := w) (by go_grown) hB_v6; have hl_v6 : w.heap.size < v6.heap.size ∧ v1.heap.size < v6.heap.size := (by omega); have hn_v6 : w.heap.size ≠ v6.heap.size ∧ v6.heap.size ≠ w.heap.size ∧ w.heap.size ≠ v6.heap.size + 1 ∧ v6.heap.size + 1 ≠ w.heap.size ∧ v1.heap.size ≠ v6.heap.size ∧ v6.heap.size ≠ v1.heap.size ∧ v1.heap.size ≠ v6.heap.size + 1 ∧ v6.heap.size + 1 ≠ v1.heap.size := (by omega); clear hB_v6)
  (go_wp2_with fail; refine (toint_Int _ _ _ _ _ _).mono ?_; rw [i1.out, i2.out]; rintro en v7 ⟨rfl, hB_v7⟩; have lay_v7 := laid_after hB_v7; (try have layE_v7 := laidE_after hB_v7); replace cc1 := cell_later hB_v7 (cell_later (by go_grown) cc1); replace cc2 := cell_later hB_v7 (cell_later (by go_grown) cc2); replace cc3 := cell_later hB_v7 (cell_later (by go_grown) cc3); replace cc4 := cell_later hB_v7 (cell_later (by go_grown) cc4); replace cc5 := cell_later hB_v7 (cell_later (by go_grown) cc5); have hs_v7 := hB_v7.size; (try simp only [World.size_alloc, World.size_setCell, World.size_drew] at hs_v7); replace hBW : Below w.heap.size w v7 := below_after (w := w) (by go_grown) hB_v7; have hl_v7 : w.heap.size < v7.heap.size ∧ v1.heap.size < v7.heap.size := (by omega); have hn_v7 : w.heap.size ≠ v7.heap.size ∧ v7.heap.size ≠ w.heap.size ∧ w.heap.size ≠ v7.heap.size + 1 ∧ v7.heap.size + 1 ≠ w.heap.size ∧ v1.heap.size ≠ v7.heap.size ∧ v7.heap.size ≠ v1.heap.size ∧ v1.heap.size ≠ v7.heap.size + 1 ∧ v7.heap.size + 1 ≠ v1.heap.size := (by omega); clear hB_v7)
  (go_wp2_with fail; refine (law27_goes _).mono ?_; rintro en v8 ⟨rfl, hB_v8⟩; have lay_v8 := laid_after hB_v8; (try have layE_v8 := laidE_after hB_v8); replace cc1 := cell_later hB_v8 (cell_later (by go_grown) cc1); replace cc2 := cell_later hB_v8 (cell_later (by go_grown) cc2); replace cc3 := cell_later hB_v8 (cell_later (by go_grown) cc3); replace cc4 := cell_later hB_v8 (cell_later (by go_grown) cc4); replace cc5 := cell_later hB_v8 (cell_later (by go_grown) cc5); have hs_v8 := hB_v8.size; (try simp only [World.size_alloc, World.size_setCell, World.size_drew] at hs_v8); replace hBW : Below w.heap.size w v8 := below_after (w := w) (by go_grown) hB_v8; have hl_v8 : w.heap.size < v8.heap.size ∧ v1.heap.size < v8.heap.size := (by omega); have hn_v8 : w.heap.size ≠ v8.heap.size ∧ v8.heap.size ≠ w.heap.size ∧ w.heap.size ≠ v8.heap.size + 1 ∧ v8.heap.size + 1 ≠ w.heap.size ∧ v1.heap.size ≠ v8.heap.size ∧ v8.heap.size ≠ v1.heap.size ∧ v1.heap.size ≠ v8.heap.size + 1 ∧ v8.heap.size + 1 ≠ v1.heap.size := (by omega); clear hB_v8)
  go_wp2_with fail
  go_returns
  exact ⟨rfl, by go_grown⟩
set_option maxRecDepth 100000 in
set_option maxHeartbeats 8000000 in
theorem fb_0_d (k f m b m2 p0 p1 few : Int) (aft f3 top b3 b1 tp : Bool) [hU : U8 f] [hK : U8 k] [hM : U8 m] [hM2 : U8 m2] [hb : U64 b] [U8 (k % 4)] [U8 (m % 5)] [U8 (m2 % 5)] (w : World) [hLay : Laid w] [hLE : LaidE w] [U64 p0] [U64 p1] [U64 few] (hf : f < 4)
    (e1 : Hid (hi (fromB (k % 4) f (m % 5) b) = p0)) (e2 : Hid (lo (fromB (k % 4) f (m % 5) b) = p1)) (e3 : Hid (fromFl (k % 4) f (m % 5) aft b = 0))
    (hf3 : (f == 3) = f3) 
    (hk3 : ((k % 4) == 3) = b3) (hk1 : ((k % 4) == 1) = b1) (htp : (b / 9223372036854775808 == 1) = tp) (htop : (if b3 then false else if b1 then false else tp) = top) (hfew : (if top then IntKind.u64.wrap (-b) else b) = few)
    (hh : Hid (hasB (k % 4) b = true))
    (hw : Hid (wholeB f (cat p0 p1) = true))
    (hp : decide (precS f ≥ 64) = false) (hc : decide (few < 2 ^ (precS f).toNat) = false)
    (i1 : Hid (intV f (k % 4) (m2 % 5) (cat p0 p1) = b)) (i2 : Hid (intF f (k % 4) (m2 % 5) (cat p0 p1) = 0)) :
    Calls Tryd.prog 11 #[.int .u8 k, .int .u8 f, .agg #[.int .u8 m, .bool aft], .int .u64 b, .int .u8 m2] w fun en w' => en = .returned (.bool true) ∧ Below w.heap.size w w' := by
  have hfd : decide (f < 4) = true := decide_eq_true hf
  have hm0 := hM.ge
  have hm2 := hM2.ge
  have hk0 := hK.ge
  have q := fun W a b => eql_whole_same W a b
  have z1 : bits BinOp.and IntKind.u8 0 11 = 0 := by decide +kernel
  have z2 : bits BinOp.and IntKind.u8 0 4 = 0 := by decide +kernel
  have hpb : 0 ≤ precS f ∧ precS f < 64 := ⟨(precS_bd f).1, by rw [decide_eq_false_iff_not] at hp; omega⟩
  have hsh : IntKind.u64.wrap (1 * 2 ^ (precS f).toNat) = 2 ^ (precS f).toNat := shl_one _ hpb.1 hpb.2
  have hsh2 : IntKind.u64.wrap (2 ^ (precS f).toNat) = 2 ^ (precS f).toNat := by rw [Int.one_mul] at hsh; exact hsh
  have hk3n : ((k % 4) != 3) = !b3 := by rw [← hk3]; rfl
  have hk1n : ((k % 4) != 1) = !b1 := by rw [← hk1]; rfl
  clear hf
  go_enter Tryd.func11, Tryd.ntmps11
  skip
  (go_wp2_with fail; refine (fromint_From _ _ _ _ _ _).mono ?_; rw [e1.out, e2.out, e3.out]; rintro en v1 ⟨rfl, hB_v1⟩; have lay_v1 := laid_after hB_v1; (try have layE_v1 := laidE_after hB_v1); have cc1 := cell_later hB_v1 (show World.cell? _ ⟨w.heap.size, 0, none⟩ = some (.int .u8 (m % 5)) by go_simp); have cc2 := cell_later hB_v1 (show World.cell? _ ⟨w.heap.size, 1, none⟩ = some (.bool aft) by go_simp); have hs_v1 := hB_v1.size; (try simp only [World.size_alloc, World.size_setCell, World.size_drew] at hs_v1); have hBW : Below w.heap.size w v1 := below_after (w := w) (by go_grown) hB_v1; have hl_v1 : w.heap.size < v1.heap.size := (by omega); have hn_v1 : w.heap.size ≠ v1.heap.size ∧ v1.heap.size ≠ w.heap.size ∧ w.heap.size ≠ v1.heap.size + 1 ∧ v1.heap.size + 1 ≠ w.heap.size := (by omega); clear hB_v1)
  (go_wp2_with fail; refine (format_Known_b _ _).mono ?_; rintro en v2 ⟨rfl, hB_v2⟩; have lay_v2 := laid_after hB_v2; (try have layE_v2 := laidE_after hB_v2); replace cc1 := cell_later hB_v2 (cell_later (by go_grown) cc1); replace cc2 := cell_later hB_v2 (cell_later (by go_grown) cc2); have cc3 := cell_later hB_v2 (show World.cell? _ ⟨v1.heap.size, 0, none⟩ = some (.int .u64 p0) by go_simp); have cc4 := cell_later hB_v2 (show World.cell? _ ⟨v1.heap.size, 1, none⟩ = some (.int .u64 p1) by go_simp); have cc5 := cell_later hB_v2 (show World.cell? _ ⟨v1.heap.size, 2, none⟩ = some (.int .u8 0) by go_simp); have hs_v2 := hB_v2.size; (try simp only [World.size_alloc, World.size_setCell, World.size_drew] at hs_v2); replace hBW : Below w.heap.size w v2 := below_after (w := w) (by go_grown) hB_v2; have hl_v2 : w.heap.size < v2.heap.size ∧ v1.heap.size < v2.heap.size := (by omega); have hn_v2 : w.heap.size ≠ v2.heap.size ∧ v2.heap.size ≠ w.heap.size ∧ w.heap.size ≠ v2.heap.size + 1 ∧ v2.heap.size + 1 ≠ w.heap.size ∧ v1.heap.size ≠ v2.heap.size ∧ v2.heap.size ≠ v1.heap.size ∧ v1.heap.size ≠ v2.heap.size + 1 ∧ v2.heap.size + 1 ≠ v1.heap.size := (by omega); clear hB_v2)
  go_upto_region 5 with fail
  ((first | refine wp_rename ?_ | refine goal_rename ?_); intro W5 hw_W5; replace cc1 : W5.cell? ⟨w.heap.size, 0, none⟩ = some (.int .u8 (m % 5)) := (by rw [hw_W5]; (first | with_reducible exact cc1 | go_simp | exact cc1)); replace cc2 : W5.cell? ⟨w.heap.size, 1, none⟩ = some (.bool aft) := (by rw [hw_W5]; (first | with_reducible exact cc2 | go_simp | exact cc2)); replace cc3 : W5.cell? ⟨v1.heap.size, 0, none⟩ = some (.int .u64 p0) := (by rw [hw_W5]; (first | with_reducible exact cc3 | go_simp | exact cc3)); replace cc4 : W5.cell? ⟨v1.heap.size, 1, none⟩ = some (.int .u64 p1) := (by rw [hw_W5]; (first | with_reducible exact cc4 | go_simp | exact cc4)); replace cc5 : W5.cell? ⟨v1.heap.size, 2, none⟩ = some (.int .u8 0) := (by rw [hw_W5]; (first | with_reducible exact cc5 | go_simp | exact cc5)); replace hBW : Below w.heap.size w W5 := (by rw [hw_W5]; (first | with_reducible exact drewN_below (by assumption) _ | go_grown)); have hl_W5 : w.heap.size < W5.heap.size ∧ v1.heap.size < W5.heap.size := (by rw [hw_W5]; (try simp only [World.size_alloc, World.size_setCell, World.size_drew, drewN_size]); omega); have lay_W5 : Laid W5 := Laid.below (w := w) (by assumption) hBW; (try have layE_W5 : LaidE W5 := LaidE.below (w := w) (by assumption) hBW); clear hw_W5)
  go_cut [48] (fun s wx => s = .bool false ∧ W5 = wx)
  case first =>
   as_aux_lemma =>
    cases f3
    · go_wp2_with fail
      go_meet
      exact ⟨rfl, rfl⟩
    · go_wp2_with fail
      go_meet
      exact ⟨rfl, rfl⟩
  case rest =>
  obtain ⟨rfl, rfl⟩ := hcut
  (go_wp2_with fail; refine (rint_Whole _ _ _ _).mono ?_; rw [hw.out]; rintro en v3 ⟨rfl, hB_v3⟩; have lay_v3 := laid_after hB_v3; (try have layE_v3 := laidE_after hB_v3); replace cc1 := cell_later hB_v3 (cell_later (by go_grown) cc1); replace cc2 := cell_later hB_v3 (cell_later (by go_grown) cc2); replace cc3 := cell_later hB_v3 (cell_later (by go_grown) cc3); replace cc4 := cell_later hB_v3 (cell_later (by go_grown) cc4); replace cc5 := cell_later hB_v3 (cell_later (by go_grown) cc5); have hs_v3 := hB_v3.size; (try simp only [World.size_alloc, World.size_setCell, World.size_drew] at hs_v3); replace hBW : Below w.heap.size w v3 := below_after (w := w) (by go_grown) hB_v3; have hl_v3 : w.heap.size < v3.heap.size ∧ v1.heap.size < v3.heap.size := (by omega); have hn_v3 : w.heap.size ≠ v3.heap.size ∧ v3.heap.size ≠ w.heap.size ∧ w.heap.size ≠ v3.heap.size + 1 ∧ v3.heap.size + 1 ≠ w.heap.size ∧ v1.heap.size ≠ v3.heap.size ∧ v3.heap.size ≠ v1.heap.size ∧ v1.heap.size ≠ v3.heap.size + 1 ∧ v3.heap.size + 1 ≠ v1.heap.size := (by omega); clear hB_v3)
  go_upto_region 10 with fail
  ((first | refine wp_rename ?_ | refine goal_rename ?_); intro W10 hw_W10; replace cc1 : W10.cell? ⟨w.heap.size, 0, none⟩ = some (.int .u8 (m % 5)) := (by rw [hw_W10]; (first | with_reducible exact cc1 | go_simp | exact cc1)); replace cc2 : W10.cell? ⟨w.heap.size, 1, none⟩ = some (.bool aft) := (by rw [hw_W10]; (first | with_reducible exact cc2 | go_simp | exact cc2)); replace cc3 : W10.cell? ⟨v1.heap.size, 0, none⟩ = some (.int .u64 p0) := (by rw [hw_W10]; (first | with_reducible exact cc3 | go_simp | exact cc3)); replace cc4 : W10.cell? ⟨v1.heap.size, 1, none⟩ = some (.int .u64 p1) := (by rw [hw_W10]; (first | with_reducible exact cc4 | go_simp | exact cc4)); replace cc5 : W10.cell? ⟨v1.heap.size, 2, none⟩ = some (.int .u8 0) := (by rw [hw_W10]; (first | with_reducible exact cc5 | go_simp | exact cc5)); replace hBW : Below w.heap.size w W10 := (by rw [hw_W10]; (first | with_reducible exact drewN_below (by assumption) _ | go_grown)); have hl_W10 : w.heap.size < W10.heap.size ∧ v1.heap.size < W10.heap.size := (by rw [hw_W10]; (try simp only [World.size_alloc, World.size_setCell, World.size_drew, drewN_size]); omega); have lay_W10 : Laid W10 := Laid.below (w := w) (by assumption) hBW; (try have layE_W10 : LaidE W10 := LaidE.below (w := w) (by assumption) hBW); clear hw_W10)
  go_cut [71] (fun s wx => s = .bool top ∧ W10 = wx)
  case first =>
   as_aux_lemma =>
    subst htop
    cases b3
    · cases b1
      · go_wp2_with fail
        go_meet
        first | exact ⟨rfl, rfl⟩ | (refine ⟨rfl, ?_⟩; rw [show k % 4 = 3 from eq_of_beq hk3]) | (refine ⟨rfl, ?_⟩; rw [show k % 4 = 1 from eq_of_beq hk1])
      · go_wp2_with fail
        go_meet
        first | exact ⟨rfl, rfl⟩ | (refine ⟨rfl, ?_⟩; rw [show k % 4 = 3 from eq_of_beq hk3]) | (refine ⟨rfl, ?_⟩; rw [show k % 4 = 1 from eq_of_beq hk1])
    · go_wp2_with fail
      go_meet
      first | exact ⟨rfl, rfl⟩ | (refine ⟨rfl, ?_⟩; rw [show k % 4 = 3 from eq_of_beq hk3]) | (refine ⟨rfl, ?_⟩; rw [show k % 4 = 1 from eq_of_beq hk1])
  case rest =>
  obtain ⟨rfl, rfl⟩ := hcut
  go_upto_if 71 with fail
  go_cut [12] (fun s wx => s = .int .u64 few ∧ W10 = wx)
  case first =>
   as_aux_lemma =>
    cases top
    · subst hfew
      go_wp2_with fail
      go_meet
      exact ⟨rfl, rfl⟩
    · subst hfew
      go_wp2_with fail
      go_meet
      exact ⟨rfl, rfl⟩
  case rest =>
  obtain ⟨rfl, rfl⟩ := hcut
  (go_wp2_with fail; refine (format_Prec _ _).mono ?_; rintro en v4 ⟨rfl, hB_v4⟩; have lay_v4 := laid_after hB_v4; (try have layE_v4 := laidE_after hB_v4); replace cc1 := cell_later hB_v4 (cell_later (by go_grown) cc1); replace cc2 := cell_later hB_v4 (cell_later (by go_grown) cc2); replace cc3 := cell_later hB_v4 (cell_later (by go_grown) cc3); replace cc4 := cell_later hB_v4 (cell_later (by go_grown) cc4); replace cc5 := cell_later hB_v4 (cell_later (by go_grown) cc5); have hs_v4 := hB_v4.size; (try simp only [World.size_alloc, World.size_setCell, World.size_drew] at hs_v4); replace hBW : Below w.heap.size w v4 := below_after (w := w) (by go_grown) hB_v4; have hl_v4 : w.heap.size < v4.heap.size ∧ v1.heap.size < v4.heap.size := (by omega); have hn_v4 : w.heap.size ≠ v4.heap.size ∧ v4.heap.size ≠ w.heap.size ∧ w.heap.size ≠ v4.heap.size + 1 ∧ v4.heap.size + 1 ≠ w.heap.size ∧ v1.heap.size ≠ v4.heap.size ∧ v4.heap.size ≠ v1.heap.size ∧ v1.heap.size ≠ v4.heap.size + 1 ∧ v4.heap.size + 1 ≠ v1.heap.size := (by omega); clear hB_v4)
  (go_wp2_with fail; refine (fromint_Has _ _ _).mono ?_; rw [hh.out]; rintro en v5 ⟨rfl, hB_v5⟩; have lay_v5 := laid_after hB_v5; (try have layE_v5 := laidE_after hB_v5); replace cc1 := cell_later hB_v5 (cell_later (by go_grown) cc1); replace cc2 := cell_later hB_v5 (cell_later (by go_grown) cc2); replace cc3 := cell_later hB_v5 (cell_later (by go_grown) cc3); replace cc4 := cell_later hB_v5 (cell_later (by go_grown) cc4); replace cc5 := cell_later hB_v5 (cell_later (by go_grown) cc5); have hs_v5 := hB_v5.size; (try simp only [World.size_alloc, World.size_setCell, World.size_drew] at hs_v5); replace hBW : Below w.heap.size w v5 := below_after (w := w) (by go_grown) hB_v5; have hl_v5 : w.heap.size < v5.heap.size ∧ v1.heap.size < v5.heap.size := (by omega); have hn_v5 : w.heap.size ≠ v5.heap.size ∧ v5.heap.size ≠ w.heap.size ∧ w.heap.size ≠ v5.heap.size + 1 ∧ v5.heap.size + 1 ≠ w.heap.size ∧ v1.heap.size ≠ v5.heap.size ∧ v5.heap.size ≠ v1.heap.size ∧ v1.heap.size ≠ v5.heap.size + 1 ∧ v5.heap.size + 1 ≠ v1.heap.size := (by omega); clear hB_v5)
  (go_wp2_with fail; refine (fromint_Has _ _ _).mono ?_; rw [hh.out]; rintro en v6 ⟨rfl, hB_v6⟩; have lay_v6 := laid_after hB_v6; (try have layE_v6 := laidE_after hB_v6); replace cc1 := cell_later hB_v6 (cell_later (by go_grown) cc1); replace cc2 := cell_later hB_v6 (cell_later (by go_grown) cc2); replace cc3 := cell_later hB_v6 (cell_later (by go_grown) cc3); replace cc4 := cell_later hB_v6 (cell_later (by go_grown) cc4); replace cc5 := cell_later hB_v6 (cell_later (by go_grown) cc5); have hs_v6 := hB_v6.size; (try simp only [World.size_alloc, World.size_setCell, World.size_drew] at hs_v6); replace hBW : Below w.heap.size w v6 := below_after (w := w) (by go_grown) hB_v6; have hl_v6 : w.heap.size < v6.heap.size ∧ v1.heap.size < v6.heap.size := (by omega); have hn_v6 : w.heap.size ≠ v6.heap.size ∧ v6.heap.size ≠ w.heap.size ∧ w.heap.size ≠ v6.heap.size + 1 ∧ v6.heap.size + 1 ≠ w.heap.size ∧ v1.heap.size ≠ v6.heap.size ∧ v6.heap.size ≠ v1.heap.size ∧ v1.heap.size ≠ v6.heap.size + 1 ∧ v6.heap.size + 1 ≠ v1.heap.size := (by omega); clear hB_v6)
  (go_wp2_with fail; refine (toint_Int _ _ _ _ _ _).mono ?_; rw [i1.out, i2.out]; rintro en v7 ⟨rfl, hB_v7⟩; have lay_v7 := laid_after hB_v7; (try have layE_v7 := laidE_after hB_v7); replace cc1 := cell_later hB_v7 (cell_later (by go_grown) cc1); replace cc2 := cell_later hB_v7 (cell_later (by go_grown) cc2); replace cc3 := cell_later hB_v7 (cell_later (by go_grown) cc3); replace cc4 := cell_later hB_v7 (cell_later (by go_grown) cc4); replace cc5 := cell_later hB_v7 (cell_later (by go_grown) cc5); have hs_v7 := hB_v7.size; (try simp only [World.size_alloc, World.size_setCell, World.size_drew] at hs_v7); replace hBW : Below w.heap.size w v7 := below_after (w := w) (by go_grown) hB_v7; have hl_v7 : w.heap.size < v7.heap.size ∧ v1.heap.size < v7.heap.size := (by omega); have hn_v7 : w.heap.size ≠ v7.heap.size ∧ v7.heap.size ≠ w.heap.size ∧ w.heap.size ≠ v7.heap.size + 1 ∧ v7.heap.size + 1 ≠ w.heap.size ∧ v1.heap.size ≠ v7.heap.size ∧ v7.heap.size ≠ v1.heap.size ∧ v1.heap.size ≠ v7.heap.size + 1 ∧ v7.heap.size + 1 ≠ v1.heap.size := (by omega); clear hB_v7)
  (go_wp2_with fail; refine (law27_goes _).mono ?_; rintro en v8 ⟨rfl, hB_v8⟩; have lay_v8 := laid_after hB_v8; (try have layE_v8 := laidE_after hB_v8); replace cc1 := cell_later hB_v8 (cell_later (by go_grown) cc1); replace cc2 := cell_later hB_v8 (cell_later (by go_grown) cc2); replace cc3 := cell_later hB_v8 (cell_later (by go_grown) cc3); replace cc4 := cell_later hB_v8 (cell_later (by go_grown) cc4); replace cc5 := cell_later hB_v8 (cell_later (by go_grown) cc5); have hs_v8 := hB_v8.size; (try simp only [World.size_alloc, World.size_setCell, World.size_drew] at hs_v8); replace hBW : Below w.heap.size w v8 := below_after (w := w) (by go_grown) hB_v8; have hl_v8 : w.heap.size < v8.heap.size ∧ v1.heap.size < v8.heap.size := (by omega); have hn_v8 : w.heap.size ≠ v8.heap.size ∧ v8.heap.size ≠ w.heap.size ∧ w.heap.size ≠ v8.heap.size + 1 ∧ v8.heap.size + 1 ≠ w.heap.size ∧ v1.heap.size ≠ v8.heap.size ∧ v8.heap.size ≠ v1.heap.size ∧ v1.heap.size ≠ v8.heap.size + 1 ∧ v8.heap.size + 1 ≠ v1.heap.size := (by omega); clear hB_v8)
  go_wp2_with fail
  go_returns
  exact ⟨rfl, by go_grown⟩
set_option maxRecDepth 100000 in
set_option maxHeartbeats 8000000 in
theorem fb_16_n (k f m b m2 p0 p1 few : Int) (aft f3 top b3 b1 tp : Bool) [hU : U8 f] [hK : U8 k] [hM : U8 m] [hM2 : U8 m2] [hb : U64 b] [U8 (k % 4)] [U8 (m % 5)] [U8 (m2 % 5)] (w : World) [hLay : Laid w] [hLE : LaidE w] [U64 p0] [U64 p1] [U64 few] (hf : f < 4)
    (e1 : Hid (hi (fromB (k % 4) f (m % 5) b) = p0)) (e2 : Hid (lo (fromB (k % 4) f (m % 5) b) = p1)) (e3 : Hid (fromFl (k % 4) f (m % 5) aft b = 16))
    (hf3 : (f == 3) = f3) (hn3 : f3 = false)
    (hk3 : ((k % 4) == 3) = b3) (hk1 : ((k % 4) == 1) = b1) (htp : (b / 9223372036854775808 == 1) = tp) (htop : (if b3 then false else if b1 then false else tp) = top) (hfew : (if top then IntKind.u64.wrap (-b) else b) = few)
    (hh : Hid (hasB (k % 4) b = false))
    (hw : Hid (wholeB f (cat p0 p1) = true)) :
    Calls Tryd.prog 11 #[.int .u8 k, .int .u8 f, .agg #[.int .u8 m, .bool aft], .int .u64 b, .int .u8 m2] w fun en w' => en = .returned (.bool true) ∧ Below w.heap.size w w' := by
  have hfd : decide (f < 4) = true := decide_eq_true hf
  have hm0 := hM.ge
  have hm2 := hM2.ge
  have hk0 := hK.ge
  have q := fun W a b => eql_whole_same W a b
  have z1 : bits BinOp.and IntKind.u8 16 11 = 0 := by decide +kernel
  have z2 : bits BinOp.and IntKind.u8 16 4 = 0 := by decide +kernel
  have hk3n : ((k % 4) != 3) = !b3 := by rw [← hk3]; rfl
  have hk1n : ((k % 4) != 1) = !b1 := by rw [← hk1]; rfl
  clear hf
  go_enter Tryd.func11, Tryd.ntmps11
  skip
  (go_wp2_with fail; refine (fromint_From _ _ _ _ _ _).mono ?_; rw [e1.out, e2.out, e3.out]; rintro en v1 ⟨rfl, hB_v1⟩; have lay_v1 := laid_after hB_v1; (try have layE_v1 := laidE_after hB_v1); have cc1 := cell_later hB_v1 (show World.cell? _ ⟨w.heap.size, 0, none⟩ = some (.int .u8 (m % 5)) by go_simp); have cc2 := cell_later hB_v1 (show World.cell? _ ⟨w.heap.size, 1, none⟩ = some (.bool aft) by go_simp); have hs_v1 := hB_v1.size; (try simp only [World.size_alloc, World.size_setCell, World.size_drew] at hs_v1); have hBW : Below w.heap.size w v1 := below_after (w := w) (by go_grown) hB_v1; have hl_v1 : w.heap.size < v1.heap.size := (by omega); have hn_v1 : w.heap.size ≠ v1.heap.size ∧ v1.heap.size ≠ w.heap.size ∧ w.heap.size ≠ v1.heap.size + 1 ∧ v1.heap.size + 1 ≠ w.heap.size := (by omega); clear hB_v1)
  (go_wp2_with fail; refine (format_Known_b _ _).mono ?_; rintro en v2 ⟨rfl, hB_v2⟩; have lay_v2 := laid_after hB_v2; (try have layE_v2 := laidE_after hB_v2); replace cc1 := cell_later hB_v2 (cell_later (by go_grown) cc1); replace cc2 := cell_later hB_v2 (cell_later (by go_grown) cc2); have cc3 := cell_later hB_v2 (show World.cell? _ ⟨v1.heap.size, 0, none⟩ = some (.int .u64 p0) by go_simp); have cc4 := cell_later hB_v2 (show World.cell? _ ⟨v1.heap.size, 1, none⟩ = some (.int .u64 p1) by go_simp); have cc5 := cell_later hB_v2 (show World.cell? _ ⟨v1.heap.size, 2, none⟩ = some (.int .u8 16) by go_simp); have hs_v2 := hB_v2.size; (try simp only [World.size_alloc, World.size_setCell, World.size_drew] at hs_v2); replace hBW : Below w.heap.size w v2 := below_after (w := w) (by go_grown) hB_v2; have hl_v2 : w.heap.size < v2.heap.size ∧ v1.heap.size < v2.heap.size := (by omega); have hn_v2 : w.heap.size ≠ v2.heap.size ∧ v2.heap.size ≠ w.heap.size ∧ w.heap.size ≠ v2.heap.size + 1 ∧ v2.heap.size + 1 ≠ w.heap.size ∧ v1.heap.size ≠ v2.heap.size ∧ v2.heap.size ≠ v1.heap.size ∧ v1.heap.size ≠ v2.heap.size + 1 ∧ v2.heap.size + 1 ≠ v1.heap.size := (by omega); clear hB_v2)
  go_upto_region 5 with fail
  ((first | refine wp_rename ?_ | refine goal_rename ?_); intro W5 hw_W5; replace cc1 : W5.cell? ⟨w.heap.size, 0, none⟩ = some (.int .u8 (m % 5)) := (by rw [hw_W5]; (first | with_reducible exact cc1 | go_simp | exact cc1)); replace cc2 : W5.cell? ⟨w.heap.size, 1, none⟩ = some (.bool aft) := (by rw [hw_W5]; (first | with_reducible exact cc2 | go_simp | exact cc2)); replace cc3 : W5.cell? ⟨v1.heap.size, 0, none⟩ = some (.int .u64 p0) := (by rw [hw_W5]; (first | with_reducible exact cc3 | go_simp | exact cc3)); replace cc4 : W5.cell? ⟨v1.heap.size, 1, none⟩ = some (.int .u64 p1) := (by rw [hw_W5]; (first | with_reducible exact cc4 | go_simp | exact cc4)); replace cc5 : W5.cell? ⟨v1.heap.size, 2, none⟩ = some (.int .u8 16) := (by rw [hw_W5]; (first | with_reducible exact cc5 | go_simp | exact cc5)); replace hBW : Below w.heap.size w W5 := (by rw [hw_W5]; (first | with_reducible exact drewN_below (by assumption) _ | go_grown)); have hl_W5 : w.heap.size < W5.heap.size ∧ v1.heap.size < W5.heap.size := (by rw [hw_W5]; (try simp only [World.size_alloc, World.size_setCell, World.size_drew, drewN_size]); omega); have lay_W5 : Laid W5 := Laid.below (w := w) (by assumption) hBW; (try have layE_W5 : LaidE W5 := LaidE.below (w := w) (by assumption) hBW); clear hw_W5)
  go_cut [48] (fun s wx => s = .bool false ∧ W5 = wx)
  case first =>
   as_aux_lemma =>
    subst hn3
    go_wp2_with fail
    go_meet
    exact ⟨rfl, rfl⟩
  case rest =>
  obtain ⟨rfl, rfl⟩ := hcut
  (go_wp2_with fail; refine (rint_Whole _ _ _ _).mono ?_; rw [hw.out]; rintro en v3 ⟨rfl, hB_v3⟩; have lay_v3 := laid_after hB_v3; (try have layE_v3 := laidE_after hB_v3); replace cc1 := cell_later hB_v3 (cell_later (by go_grown) cc1); replace cc2 := cell_later hB_v3 (cell_later (by go_grown) cc2); replace cc3 := cell_later hB_v3 (cell_later (by go_grown) cc3); replace cc4 := cell_later hB_v3 (cell_later (by go_grown) cc4); replace cc5 := cell_later hB_v3 (cell_later (by go_grown) cc5); have hs_v3 := hB_v3.size; (try simp only [World.size_alloc, World.size_setCell, World.size_drew] at hs_v3); replace hBW : Below w.heap.size w v3 := below_after (w := w) (by go_grown) hB_v3; have hl_v3 : w.heap.size < v3.heap.size ∧ v1.heap.size < v3.heap.size := (by omega); have hn_v3 : w.heap.size ≠ v3.heap.size ∧ v3.heap.size ≠ w.heap.size ∧ w.heap.size ≠ v3.heap.size + 1 ∧ v3.heap.size + 1 ≠ w.heap.size ∧ v1.heap.size ≠ v3.heap.size ∧ v3.heap.size ≠ v1.heap.size ∧ v1.heap.size ≠ v3.heap.size + 1 ∧ v3.heap.size + 1 ≠ v1.heap.size := (by omega); clear hB_v3)
  go_upto_region 10 with fail
  ((first | refine wp_rename ?_ | refine goal_rename ?_); intro W10 hw_W10; replace cc1 : W10.cell? ⟨w.heap.size, 0, none⟩ = some (.int .u8 (m % 5)) := (by rw [hw_W10]; (first | with_reducible exact cc1 | go_simp | exact cc1)); replace cc2 : W10.cell? ⟨w.heap.size, 1, none⟩ = some (.bool aft) := (by rw [hw_W10]; (first | with_reducible exact cc2 | go_simp | exact cc2)); replace cc3 : W10.cell? ⟨v1.heap.size, 0, none⟩ = some (.int .u64 p0) := (by rw [hw_W10]; (first | with_reducible exact cc3 | go_simp | exact cc3)); replace cc4 : W10.cell? ⟨v1.heap.size, 1, none⟩ = some (.int .u64 p1) := (by rw [hw_W10]; (first | with_reducible exact cc4 | go_simp | exact cc4)); replace cc5 : W10.cell? ⟨v1.heap.size, 2, none⟩ = some (.int .u8 16) := (by rw [hw_W10]; (first | with_reducible exact cc5 | go_simp | exact cc5)); replace hBW : Below w.heap.size w W10 := (by rw [hw_W10]; (first | with_reducible exact drewN_below (by assumption) _ | go_grown)); have hl_W10 : w.heap.size < W10.heap.size ∧ v1.heap.size < W10.heap.size := (by rw [hw_W10]; (try simp only [World.size_alloc, World.size_setCell, World.size_drew, drewN_size]); omega); have lay_W10 : Laid W10 := Laid.below (w := w) (by assumption) hBW; (try have layE_W10 : LaidE W10 := LaidE.below (w := w) (by assumption) hBW); clear hw_W10)
  go_cut [71] (fun s wx => s = .bool top ∧ W10 = wx)
  case first =>
   as_aux_lemma =>
    subst htop
    cases b3
    · cases b1
      · go_wp2_with fail
        go_meet
        first | exact ⟨rfl, rfl⟩ | (refine ⟨rfl, ?_⟩; rw [show k % 4 = 3 from eq_of_beq hk3]) | (refine ⟨rfl, ?_⟩; rw [show k % 4 = 1 from eq_of_beq hk1])
      · go_wp2_with fail
        go_meet
        first | exact ⟨rfl, rfl⟩ | (refine ⟨rfl, ?_⟩; rw [show k % 4 = 3 from eq_of_beq hk3]) | (refine ⟨rfl, ?_⟩; rw [show k % 4 = 1 from eq_of_beq hk1])
    · go_wp2_with fail
      go_meet
      first | exact ⟨rfl, rfl⟩ | (refine ⟨rfl, ?_⟩; rw [show k % 4 = 3 from eq_of_beq hk3]) | (refine ⟨rfl, ?_⟩; rw [show k % 4 = 1 from eq_of_beq hk1])
  case rest =>
  obtain ⟨rfl, rfl⟩ := hcut
  go_upto_if 71 with fail
  go_cut [12] (fun s wx => s = .int .u64 few ∧ W10 = wx)
  case first =>
   as_aux_lemma =>
    cases top
    · subst hfew
      go_wp2_with fail
      go_meet
      exact ⟨rfl, rfl⟩
    · subst hfew
      go_wp2_with fail
      go_meet
      exact ⟨rfl, rfl⟩
  case rest =>
  obtain ⟨rfl, rfl⟩ := hcut
  (go_wp2_with fail; refine (format_Prec _ _).mono ?_; rintro en v4 ⟨rfl, hB_v4⟩; have lay_v4 := laid_after hB_v4; (try have layE_v4 := laidE_after hB_v4); replace cc1 := cell_later hB_v4 (cell_later (by go_grown) cc1); replace cc2 := cell_later hB_v4 (cell_later (by go_grown) cc2); replace cc3 := cell_later hB_v4 (cell_later (by go_grown) cc3); replace cc4 := cell_later hB_v4 (cell_later (by go_grown) cc4); replace cc5 := cell_later hB_v4 (cell_later (by go_grown) cc5); have hs_v4 := hB_v4.size; (try simp only [World.size_alloc, World.size_setCell, World.size_drew] at hs_v4); replace hBW : Below w.heap.size w v4 := below_after (w := w) (by go_grown) hB_v4; have hl_v4 : w.heap.size < v4.heap.size ∧ v1.heap.size < v4.heap.size := (by omega); have hn_v4 : w.heap.size ≠ v4.heap.size ∧ v4.heap.size ≠ w.heap.size ∧ w.heap.size ≠ v4.heap.size + 1 ∧ v4.heap.size + 1 ≠ w.heap.size ∧ v1.heap.size ≠ v4.heap.size ∧ v4.heap.size ≠ v1.heap.size ∧ v1.heap.size ≠ v4.heap.size + 1 ∧ v4.heap.size + 1 ≠ v1.heap.size := (by omega); clear hB_v4)
  (go_wp2_with fail; refine (fromint_Has _ _ _).mono ?_; rw [hh.out]; rintro en v5 ⟨rfl, hB_v5⟩; have lay_v5 := laid_after hB_v5; (try have layE_v5 := laidE_after hB_v5); replace cc1 := cell_later hB_v5 (cell_later (by go_grown) cc1); replace cc2 := cell_later hB_v5 (cell_later (by go_grown) cc2); replace cc3 := cell_later hB_v5 (cell_later (by go_grown) cc3); replace cc4 := cell_later hB_v5 (cell_later (by go_grown) cc4); replace cc5 := cell_later hB_v5 (cell_later (by go_grown) cc5); have hs_v5 := hB_v5.size; (try simp only [World.size_alloc, World.size_setCell, World.size_drew] at hs_v5); replace hBW : Below w.heap.size w v5 := below_after (w := w) (by go_grown) hB_v5; have hl_v5 : w.heap.size < v5.heap.size ∧ v1.heap.size < v5.heap.size := (by omega); have hn_v5 : w.heap.size ≠ v5.heap.size ∧ v5.heap.size ≠ w.heap.size ∧ w.heap.size ≠ v5.heap.size + 1 ∧ v5.heap.size + 1 ≠ w.heap.size ∧ v1.heap.size ≠ v5.heap.size ∧ v5.heap.size ≠ v1.heap.size ∧ v1.heap.size ≠ v5.heap.size + 1 ∧ v5.heap.size + 1 ≠ v1.heap.size := (by omega); clear hB_v5)
  (go_wp2_with fail; refine (law27_goes _).mono ?_; rintro en v8 ⟨rfl, hB_v8⟩; have lay_v8 := laid_after hB_v8; (try have layE_v8 := laidE_after hB_v8); replace cc1 := cell_later hB_v8 (cell_later (by go_grown) cc1); replace cc2 := cell_later hB_v8 (cell_later (by go_grown) cc2); replace cc3 := cell_later hB_v8 (cell_later (by go_grown) cc3); replace cc4 := cell_later hB_v8 (cell_later (by go_grown) cc4); replace cc5 := cell_later hB_v8 (cell_later (by go_grown) cc5); have hs_v8 := hB_v8.size; (try simp only [World.size_alloc, World.size_setCell, World.size_drew] at hs_v8); replace hBW : Below w.heap.size w v8 := below_after (w := w) (by go_grown) hB_v8; have hl_v8 : w.heap.size < v8.heap.size ∧ v1.heap.size < v8.heap.size := (by omega); have hn_v8 : w.heap.size ≠ v8.heap.size ∧ v8.heap.size ≠ w.heap.size ∧ w.heap.size ≠ v8.heap.size + 1 ∧ v8.heap.size + 1 ≠ w.heap.size ∧ v1.heap.size ≠ v8.heap.size ∧ v8.heap.size ≠ v1.heap.size ∧ v1.heap.size ≠ v8.heap.size + 1 ∧ v8.heap.size + 1 ≠ v1.heap.size := (by omega); clear hB_v8)
  go_wp2_with fail
  go_returns
  exact ⟨rfl, by go_grown⟩
set_option maxRecDepth 100000 in
set_option maxHeartbeats 8000000 in
theorem fb_16_c (k f m b m2 p0 p1 few : Int) (aft f3 top b3 b1 tp : Bool) [hU : U8 f] [hK : U8 k] [hM : U8 m] [hM2 : U8 m2] [hb : U64 b] [U8 (k % 4)] [U8 (m % 5)] [U8 (m2 % 5)] (w : World) [hLay : Laid w] [hLE : LaidE w] [U64 p0] [U64 p1] [U64 few] (hf : f < 4)
    (e1 : Hid (hi (fromB (k % 4) f (m % 5) b) = p0)) (e2 : Hid (lo (fromB (k % 4) f (m % 5) b) = p1)) (e3 : Hid (fromFl (k % 4) f (m % 5) aft b = 16))
    (hf3 : (f == 3) = f3) (hn3 : f3 = false)
    (hk3 : ((k % 4) == 3) = b3) (hk1 : ((k % 4) == 1) = b1) (htp : (b / 9223372036854775808 == 1) = tp) (htop : (if b3 then false else if b1 then false else tp) = top) (hfew : (if top then IntKind.u64.wrap (-b) else b) = few)
    (hh : Hid (hasB (k % 4) b = true))
    (hw : Hid (wholeB f (cat p0 p1) = true))
    (hp : decide (precS f ≥ 64) = false) (hc : decide (few < 2 ^ (precS f).toNat) = true)
    (hf0 : (f != 0) = false) :
    Calls Tryd.prog 11 #[.int .u8 k, .int .u8 f, .agg #[.int .u8 m, .bool aft], .int .u64 b, .int .u8 m2] w fun en w' => en = .returned (.bool true) ∧ Below w.heap.size w w' := by
  have hfd : decide (f < 4) = true := decide_eq_true hf
  have hm0 := hM.ge
  have hm2 := hM2.ge
  have hk0 := hK.ge
  have q := fun W a b => eql_whole_same W a b
  have z1 : bits BinOp.and IntKind.u8 16 11 = 0 := by decide +kernel
  have z2 : bits BinOp.and IntKind.u8 16 4 = 0 := by decide +kernel
  have hpb : 0 ≤ precS f ∧ precS f < 64 := ⟨(precS_bd f).1, by rw [decide_eq_false_iff_not] at hp; omega⟩
  have hsh : IntKind.u64.wrap (1 * 2 ^ (precS f).toNat) = 2 ^ (precS f).toNat := shl_one _ hpb.1 hpb.2
  have hsh2 : IntKind.u64.wrap (2 ^ (precS f).toNat) = 2 ^ (precS f).toNat := by rw [Int.one_mul] at hsh; exact hsh
  have hk3n : ((k % 4) != 3) = !b3 := by rw [← hk3]; rfl
  have hk1n : ((k % 4) != 1) = !b1 := by rw [← hk1]; rfl
  clear hf
  go_enter Tryd.func11, Tryd.ntmps11
  skip
  (go_wp2_with fail; refine (fromint_From _ _ _ _ _ _).mono ?_; rw [e1.out, e2.out, e3.out]; rintro en v1 ⟨rfl, hB_v1⟩; have lay_v1 := laid_after hB_v1; (try have layE_v1 := laidE_after hB_v1); have cc1 := cell_later hB_v1 (show World.cell? _ ⟨w.heap.size, 0, none⟩ = some (.int .u8 (m % 5)) by go_simp); have cc2 := cell_later hB_v1 (show World.cell? _ ⟨w.heap.size, 1, none⟩ = some (.bool aft) by go_simp); have hs_v1 := hB_v1.size; (try simp only [World.size_alloc, World.size_setCell, World.size_drew] at hs_v1); have hBW : Below w.heap.size w v1 := below_after (w := w) (by go_grown) hB_v1; have hl_v1 : w.heap.size < v1.heap.size := (by omega); have hn_v1 : w.heap.size ≠ v1.heap.size ∧ v1.heap.size ≠ w.heap.size ∧ w.heap.size ≠ v1.heap.size + 1 ∧ v1.heap.size + 1 ≠ w.heap.size := (by omega); clear hB_v1)
  (go_wp2_with fail; refine (format_Known_b _ _).mono ?_; rintro en v2 ⟨rfl, hB_v2⟩; have lay_v2 := laid_after hB_v2; (try have layE_v2 := laidE_after hB_v2); replace cc1 := cell_later hB_v2 (cell_later (by go_grown) cc1); replace cc2 := cell_later hB_v2 (cell_later (by go_grown) cc2); have cc3 := cell_later hB_v2 (show World.cell? _ ⟨v1.heap.size, 0, none⟩ = some (.int .u64 p0) by go_simp); have cc4 := cell_later hB_v2 (show World.cell? _ ⟨v1.heap.size, 1, none⟩ = some (.int .u64 p1) by go_simp); have cc5 := cell_later hB_v2 (show World.cell? _ ⟨v1.heap.size, 2, none⟩ = some (.int .u8 16) by go_simp); have hs_v2 := hB_v2.size; (try simp only [World.size_alloc, World.size_setCell, World.size_drew] at hs_v2); replace hBW : Below w.heap.size w v2 := below_after (w := w) (by go_grown) hB_v2; have hl_v2 : w.heap.size < v2.heap.size ∧ v1.heap.size < v2.heap.size := (by omega); have hn_v2 : w.heap.size ≠ v2.heap.size ∧ v2.heap.size ≠ w.heap.size ∧ w.heap.size ≠ v2.heap.size + 1 ∧ v2.heap.size + 1 ≠ w.heap.size ∧ v1.heap.size ≠ v2.heap.size ∧ v2.heap.size ≠ v1.heap.size ∧ v1.heap.size ≠ v2.heap.size + 1 ∧ v2.heap.size + 1 ≠ v1.heap.size := (by omega); clear hB_v2)
  go_upto_region 5 with fail
  ((first | refine wp_rename ?_ | refine goal_rename ?_); intro W5 hw_W5; replace cc1 : W5.cell? ⟨w.heap.size, 0, none⟩ = some (.int .u8 (m % 5)) := (by rw [hw_W5]; (first | with_reducible exact cc1 | go_simp | exact cc1)); replace cc2 : W5.cell? ⟨w.heap.size, 1, none⟩ = some (.bool aft) := (by rw [hw_W5]; (first | with_reducible exact cc2 | go_simp | exact cc2)); replace cc3 : W5.cell? ⟨v1.heap.size, 0, none⟩ = some (.int .u64 p0) := (by rw [hw_W5]; (first | with_reducible exact cc3 | go_simp | exact cc3)); replace cc4 : W5.cell? ⟨v1.heap.size, 1, none⟩ = some (.int .u64 p1) := (by rw [hw_W5]; (first | with_reducible exact cc4 | go_simp | exact cc4)); replace cc5 : W5.cell? ⟨v1.heap.size, 2, none⟩ = some (.int .u8 16) := (by rw [hw_W5]; (first | with_reducible exact cc5 | go_simp | exact cc5)); replace hBW : Below w.heap.size w W5 := (by rw [hw_W5]; (first | with_reducible exact drewN_below (by assumption) _ | go_grown)); have hl_W5 : w.heap.size < W5.heap.size ∧ v1.heap.size < W5.heap.size := (by rw [hw_W5]; (try simp only [World.size_alloc, World.size_setCell, World.size_drew, drewN_size]); omega); have lay_W5 : Laid W5 := Laid.below (w := w) (by assumption) hBW; (try have layE_W5 : LaidE W5 := LaidE.below (w := w) (by assumption) hBW); clear hw_W5)
  go_cut [48] (fun s wx => s = .bool false ∧ W5 = wx)
  case first =>
   as_aux_lemma =>
    subst hn3
    go_wp2_with fail
    go_meet
    exact ⟨rfl, rfl⟩
  case rest =>
  obtain ⟨rfl, rfl⟩ := hcut
  (go_wp2_with fail; refine (rint_Whole _ _ _ _).mono ?_; rw [hw.out]; rintro en v3 ⟨rfl, hB_v3⟩; have lay_v3 := laid_after hB_v3; (try have layE_v3 := laidE_after hB_v3); replace cc1 := cell_later hB_v3 (cell_later (by go_grown) cc1); replace cc2 := cell_later hB_v3 (cell_later (by go_grown) cc2); replace cc3 := cell_later hB_v3 (cell_later (by go_grown) cc3); replace cc4 := cell_later hB_v3 (cell_later (by go_grown) cc4); replace cc5 := cell_later hB_v3 (cell_later (by go_grown) cc5); have hs_v3 := hB_v3.size; (try simp only [World.size_alloc, World.size_setCell, World.size_drew] at hs_v3); replace hBW : Below w.heap.size w v3 := below_after (w := w) (by go_grown) hB_v3; have hl_v3 : w.heap.size < v3.heap.size ∧ v1.heap.size < v3.heap.size := (by omega); have hn_v3 : w.heap.size ≠ v3.heap.size ∧ v3.heap.size ≠ w.heap.size ∧ w.heap.size ≠ v3.heap.size + 1 ∧ v3.heap.size + 1 ≠ w.heap.size ∧ v1.heap.size ≠ v3.heap.size ∧ v3.heap.size ≠ v1.heap.size ∧ v1.heap.size ≠ v3.heap.size + 1 ∧ v3.heap.size + 1 ≠ v1.heap.size := (by omega); clear hB_v3)
  go_upto_region 10 with fail
  ((first | refine wp_rename ?_ | refine goal_rename ?_); intro W10 hw_W10; replace cc1 : W10.cell? ⟨w.heap.size, 0, none⟩ = some (.int .u8 (m % 5)) := (by rw [hw_W10]; (first | with_reducible exact cc1 | go_simp | exact cc1)); replace cc2 : W10.cell? ⟨w.heap.size, 1, none⟩ = some (.bool aft) := (by rw [hw_W10]; (first | with_reducible exact cc2 | go_simp | exact cc2)); replace cc3 : W10.cell? ⟨v1.heap.size, 0, none⟩ = some (.int .u64 p0) := (by rw [hw_W10]; (first | with_reducible exact cc3 | go_simp | exact cc3)); replace cc4 : W10.cell? ⟨v1.heap.size, 1, none⟩ = some (.int .u64 p1) := (by rw [hw_W10]; (first | with_reducible exact cc4 | go_simp | exact cc4)); replace cc5 : W10.cell? ⟨v1.heap.size, 2, none⟩ = some (.int .u8 16) := (by rw [hw_W10]; (first | with_reducible exact cc5 | go_simp | exact cc5)); replace hBW : Below w.heap.size w W10 := (by rw [hw_W10]; (first | with_reducible exact drewN_below (by assumption) _ | go_grown)); have hl_W10 : w.heap.size < W10.heap.size ∧ v1.heap.size < W10.heap.size := (by rw [hw_W10]; (try simp only [World.size_alloc, World.size_setCell, World.size_drew, drewN_size]); omega); have lay_W10 : Laid W10 := Laid.below (w := w) (by assumption) hBW; (try have layE_W10 : LaidE W10 := LaidE.below (w := w) (by assumption) hBW); clear hw_W10)
  go_cut [71] (fun s wx => s = .bool top ∧ W10 = wx)
  case first =>
   as_aux_lemma =>
    subst htop
    cases b3
    · cases b1
      · go_wp2_with fail
        go_meet
        first | exact ⟨rfl, rfl⟩ | (refine ⟨rfl, ?_⟩; rw [show k % 4 = 3 from eq_of_beq hk3]) | (refine ⟨rfl, ?_⟩; rw [show k % 4 = 1 from eq_of_beq hk1])
      · go_wp2_with fail
        go_meet
        first | exact ⟨rfl, rfl⟩ | (refine ⟨rfl, ?_⟩; rw [show k % 4 = 3 from eq_of_beq hk3]) | (refine ⟨rfl, ?_⟩; rw [show k % 4 = 1 from eq_of_beq hk1])
    · go_wp2_with fail
      go_meet
      first | exact ⟨rfl, rfl⟩ | (refine ⟨rfl, ?_⟩; rw [show k % 4 = 3 from eq_of_beq hk3]) | (refine ⟨rfl, ?_⟩; rw [show k % 4 = 1 from eq_of_beq hk1])
  case rest =>
  obtain ⟨rfl, rfl⟩ := hcut
  go_upto_if 71 with fail
  go_cut [12] (fun s wx => s = .int .u64 few ∧ W10 = wx)
  case first =>
   as_aux_lemma =>
    cases top
    · subst hfew
      go_wp2_with fail
      go_meet
      exact ⟨rfl, rfl⟩
    · subst hfew
      go_wp2_with fail
      go_meet
      exact ⟨rfl, rfl⟩
  case rest =>
  obtain ⟨rfl, rfl⟩ := hcut
  (go_wp2_with fail; refine (format_Prec _ _).mono ?_; rintro en v4 ⟨rfl, hB_v4⟩; have lay_v4 := laid_after hB_v4; (try have layE_v4 := laidE_after hB_v4); replace cc1 := cell_later hB_v4 (cell_later (by go_grown) cc1); replace cc2 := cell_later hB_v4 (cell_later (by go_grown) cc2); replace cc3 := cell_later hB_v4 (cell_later (by go_grown) cc3); replace cc4 := cell_later hB_v4 (cell_later (by go_grown) cc4); replace cc5 := cell_later hB_v4 (cell_later (by go_grown) cc5); have hs_v4 := hB_v4.size; (try simp only [World.size_alloc, World.size_setCell, World.size_drew] at hs_v4); replace hBW : Below w.heap.size w v4 := below_after (w := w) (by go_grown) hB_v4; have hl_v4 : w.heap.size < v4.heap.size ∧ v1.heap.size < v4.heap.size := (by omega); have hn_v4 : w.heap.size ≠ v4.heap.size ∧ v4.heap.size ≠ w.heap.size ∧ w.heap.size ≠ v4.heap.size + 1 ∧ v4.heap.size + 1 ≠ w.heap.size ∧ v1.heap.size ≠ v4.heap.size ∧ v4.heap.size ≠ v1.heap.size ∧ v1.heap.size ≠ v4.heap.size + 1 ∧ v4.heap.size + 1 ≠ v1.heap.size := (by omega); clear hB_v4)
  (go_wp2_with fail; refine (fromint_Has _ _ _).mono ?_; rw [hh.out]; rintro en v5 ⟨rfl, hB_v5⟩; have lay_v5 := laid_after hB_v5; (try have layE_v5 := laidE_after hB_v5); replace cc1 := cell_later hB_v5 (cell_later (by go_grown) cc1); replace cc2 := cell_later hB_v5 (cell_later (by go_grown) cc2); replace cc3 := cell_later hB_v5 (cell_later (by go_grown) cc3); replace cc4 := cell_later hB_v5 (cell_later (by go_grown) cc4); replace cc5 := cell_later hB_v5 (cell_later (by go_grown) cc5); have hs_v5 := hB_v5.size; (try simp only [World.size_alloc, World.size_setCell, World.size_drew] at hs_v5); replace hBW : Below w.heap.size w v5 := below_after (w := w) (by go_grown) hB_v5; have hl_v5 : w.heap.size < v5.heap.size ∧ v1.heap.size < v5.heap.size := (by omega); have hn_v5 : w.heap.size ≠ v5.heap.size ∧ v5.heap.size ≠ w.heap.size ∧ w.heap.size ≠ v5.heap.size + 1 ∧ v5.heap.size + 1 ≠ w.heap.size ∧ v1.heap.size ≠ v5.heap.size ∧ v5.heap.size ≠ v1.heap.size ∧ v1.heap.size ≠ v5.heap.size + 1 ∧ v5.heap.size + 1 ≠ v1.heap.size := (by omega); clear hB_v5)
  (go_wp2_with fail; refine (law27_goes _).mono ?_; rintro en v8 ⟨rfl, hB_v8⟩; have lay_v8 := laid_after hB_v8; (try have layE_v8 := laidE_after hB_v8); replace cc1 := cell_later hB_v8 (cell_later (by go_grown) cc1); replace cc2 := cell_later hB_v8 (cell_later (by go_grown) cc2); replace cc3 := cell_later hB_v8 (cell_later (by go_grown) cc3); replace cc4 := cell_later hB_v8 (cell_later (by go_grown) cc4); replace cc5 := cell_later hB_v8 (cell_later (by go_grown) cc5); have hs_v8 := hB_v8.size; (try simp only [World.size_alloc, World.size_setCell, World.size_drew] at hs_v8); replace hBW : Below w.heap.size w v8 := below_after (w := w) (by go_grown) hB_v8; have hl_v8 : w.heap.size < v8.heap.size ∧ v1.heap.size < v8.heap.size := (by omega); have hn_v8 : w.heap.size ≠ v8.heap.size ∧ v8.heap.size ≠ w.heap.size ∧ w.heap.size ≠ v8.heap.size + 1 ∧ v8.heap.size + 1 ≠ w.heap.size ∧ v1.heap.size ≠ v8.heap.size ∧ v8.heap.size ≠ v1.heap.size ∧ v1.heap.size ≠ v8.heap.size + 1 ∧ v8.heap.size + 1 ≠ v1.heap.size := (by omega); clear hB_v8)
  go_wp2_with fail
  go_returns
  exact ⟨rfl, by go_grown⟩
set_option maxRecDepth 100000 in
set_option maxHeartbeats 8000000 in
theorem fb_16_d (k f m b m2 p0 p1 few : Int) (aft f3 top b3 b1 tp : Bool) [hU : U8 f] [hK : U8 k] [hM : U8 m] [hM2 : U8 m2] [hb : U64 b] [U8 (k % 4)] [U8 (m % 5)] [U8 (m2 % 5)] (w : World) [hLay : Laid w] [hLE : LaidE w] [U64 p0] [U64 p1] [U64 few] (hf : f < 4)
    (e1 : Hid (hi (fromB (k % 4) f (m % 5) b) = p0)) (e2 : Hid (lo (fromB (k % 4) f (m % 5) b) = p1)) (e3 : Hid (fromFl (k % 4) f (m % 5) aft b = 16))
    (hf3 : (f == 3) = f3) (hn3 : f3 = false)
    (hk3 : ((k % 4) == 3) = b3) (hk1 : ((k % 4) == 1) = b1) (htp : (b / 9223372036854775808 == 1) = tp) (htop : (if b3 then false else if b1 then false else tp) = top) (hfew : (if top then IntKind.u64.wrap (-b) else b) = few)
    (hh : Hid (hasB (k % 4) b = true))
    (hw : Hid (wholeB f (cat p0 p1) = true))
    (hp : decide (precS f ≥ 64) = false) (hc : decide (few < 2 ^ (precS f).toNat) = false) :
    Calls Tryd.prog 11 #[.int .u8 k, .int .u8 f, .agg #[.int .u8 m, .bool aft], .int .u64 b, .int .u8 m2] w fun en w' => en = .returned (.bool true) ∧ Below w.heap.size w w' := by
  have hfd : decide (f < 4) = true := decide_eq_true hf
  have hm0 := hM.ge
  have hm2 := hM2.ge
  have hk0 := hK.ge
  have q := fun W a b => eql_whole_same W a b
  have z1 : bits BinOp.and IntKind.u8 16 11 = 0 := by decide +kernel
  have z2 : bits BinOp.and IntKind.u8 16 4 = 0 := by decide +kernel
  have hpb : 0 ≤ precS f ∧ precS f < 64 := ⟨(precS_bd f).1, by rw [decide_eq_false_iff_not] at hp; omega⟩
  have hsh : IntKind.u64.wrap (1 * 2 ^ (precS f).toNat) = 2 ^ (precS f).toNat := shl_one _ hpb.1 hpb.2
  have hsh2 : IntKind.u64.wrap (2 ^ (precS f).toNat) = 2 ^ (precS f).toNat := by rw [Int.one_mul] at hsh; exact hsh
  have hk3n : ((k % 4) != 3) = !b3 := by rw [← hk3]; rfl
  have hk1n : ((k % 4) != 1) = !b1 := by rw [← hk1]; rfl
  clear hf
  go_enter Tryd.func11, Tryd.ntmps11
  skip
  (go_wp2_with fail; refine (fromint_From _ _ _ _ _ _).mono ?_; rw [e1.out, e2.out, e3.out]; rintro en v1 ⟨rfl, hB_v1⟩; have lay_v1 := laid_after hB_v1; (try have layE_v1 := laidE_after hB_v1); have cc1 := cell_later hB_v1 (show World.cell? _ ⟨w.heap.size, 0, none⟩ = some (.int .u8 (m % 5)) by go_simp); have cc2 := cell_later hB_v1 (show World.cell? _ ⟨w.heap.size, 1, none⟩ = some (.bool aft) by go_simp); have hs_v1 := hB_v1.size; (try simp only [World.size_alloc, World.size_setCell, World.size_drew] at hs_v1); have hBW : Below w.heap.size w v1 := below_after (w := w) (by go_grown) hB_v1; have hl_v1 : w.heap.size < v1.heap.size := (by omega); have hn_v1 : w.heap.size ≠ v1.heap.size ∧ v1.heap.size ≠ w.heap.size ∧ w.heap.size ≠ v1.heap.size + 1 ∧ v1.heap.size + 1 ≠ w.heap.size := (by omega); clear hB_v1)
  (go_wp2_with fail; refine (format_Known_b _ _).mono ?_; rintro en v2 ⟨rfl, hB_v2⟩; have lay_v2 := laid_after hB_v2; (try have layE_v2 := laidE_after hB_v2); replace cc1 := cell_later hB_v2 (cell_later (by go_grown) cc1); replace cc2 := cell_later hB_v2 (cell_later (by go_grown) cc2); have cc3 := cell_later hB_v2 (show World.cell? _ ⟨v1.heap.size, 0, none⟩ = some (.int .u64 p0) by go_simp); have cc4 := cell_later hB_v2 (show World.cell? _ ⟨v1.heap.size, 1, none⟩ = some (.int .u64 p1) by go_simp); have cc5 := cell_later hB_v2 (show World.cell? _ ⟨v1.heap.size, 2, none⟩ = some (.int .u8 16) by go_simp); have hs_v2 := hB_v2.size; (try simp only [World.size_alloc, World.size_setCell, World.size_drew] at hs_v2); replace hBW : Below w.heap.size w v2 := below_after (w := w) (by go_grown) hB_v2; have hl_v2 : w.heap.size < v2.heap.size ∧ v1.heap.size < v2.heap.size := (by omega); have hn_v2 : w.heap.size ≠ v2.heap.size ∧ v2.heap.size ≠ w.heap.size ∧ w.heap.size ≠ v2.heap.size + 1 ∧ v2.heap.size + 1 ≠ w.heap.size ∧ v1.heap.size ≠ v2.heap.size ∧ v2.heap.size ≠ v1.heap.size ∧ v1.heap.size ≠ v2.heap.size + 1 ∧ v2.heap.size + 1 ≠ v1.heap.size := (by omega); clear hB_v2)
  go_upto_region 5 with fail
  ((first | refine wp_rename ?_ | refine goal_rename ?_); intro W5 hw_W5; replace cc1 : W5.cell? ⟨w.heap.size, 0, none⟩ = some (.int .u8 (m % 5)) := (by rw [hw_W5]; (first | with_reducible exact cc1 | go_simp | exact cc1)); replace cc2 : W5.cell? ⟨w.heap.size, 1, none⟩ = some (.bool aft) := (by rw [hw_W5]; (first | with_reducible exact cc2 | go_simp | exact cc2)); replace cc3 : W5.cell? ⟨v1.heap.size, 0, none⟩ = some (.int .u64 p0) := (by rw [hw_W5]; (first | with_reducible exact cc3 | go_simp | exact cc3)); replace cc4 : W5.cell? ⟨v1.heap.size, 1, none⟩ = some (.int .u64 p1) := (by rw [hw_W5]; (first | with_reducible exact cc4 | go_simp | exact cc4)); replace cc5 : W5.cell? ⟨v1.heap.size, 2, none⟩ = some (.int .u8 16) := (by rw [hw_W5]; (first | with_reducible exact cc5 | go_simp | exact cc5)); replace hBW : Below w.heap.size w W5 := (by rw [hw_W5]; (first | with_reducible exact drewN_below (by assumption) _ | go_grown)); have hl_W5 : w.heap.size < W5.heap.size ∧ v1.heap.size < W5.heap.size := (by rw [hw_W5]; (try simp only [World.size_alloc, World.size_setCell, World.size_drew, drewN_size]); omega); have lay_W5 : Laid W5 := Laid.below (w := w) (by assumption) hBW; (try have layE_W5 : LaidE W5 := LaidE.below (w := w) (by assumption) hBW); clear hw_W5)
  go_cut [48] (fun s wx => s = .bool false ∧ W5 = wx)
  case first =>
   as_aux_lemma =>
    subst hn3
    go_wp2_with fail
    go_meet
    exact ⟨rfl, rfl⟩
  case rest =>
  obtain ⟨rfl, rfl⟩ := hcut
  (go_wp2_with fail; refine (rint_Whole _ _ _ _).mono ?_; rw [hw.out]; rintro en v3 ⟨rfl, hB_v3⟩; have lay_v3 := laid_after hB_v3; (try have layE_v3 := laidE_after hB_v3); replace cc1 := cell_later hB_v3 (cell_later (by go_grown) cc1); replace cc2 := cell_later hB_v3 (cell_later (by go_grown) cc2); replace cc3 := cell_later hB_v3 (cell_later (by go_grown) cc3); replace cc4 := cell_later hB_v3 (cell_later (by go_grown) cc4); replace cc5 := cell_later hB_v3 (cell_later (by go_grown) cc5); have hs_v3 := hB_v3.size; (try simp only [World.size_alloc, World.size_setCell, World.size_drew] at hs_v3); replace hBW : Below w.heap.size w v3 := below_after (w := w) (by go_grown) hB_v3; have hl_v3 : w.heap.size < v3.heap.size ∧ v1.heap.size < v3.heap.size := (by omega); have hn_v3 : w.heap.size ≠ v3.heap.size ∧ v3.heap.size ≠ w.heap.size ∧ w.heap.size ≠ v3.heap.size + 1 ∧ v3.heap.size + 1 ≠ w.heap.size ∧ v1.heap.size ≠ v3.heap.size ∧ v3.heap.size ≠ v1.heap.size ∧ v1.heap.size ≠ v3.heap.size + 1 ∧ v3.heap.size + 1 ≠ v1.heap.size := (by omega); clear hB_v3)
  go_upto_region 10 with fail
  ((first | refine wp_rename ?_ | refine goal_rename ?_); intro W10 hw_W10; replace cc1 : W10.cell? ⟨w.heap.size, 0, none⟩ = some (.int .u8 (m % 5)) := (by rw [hw_W10]; (first | with_reducible exact cc1 | go_simp | exact cc1)); replace cc2 : W10.cell? ⟨w.heap.size, 1, none⟩ = some (.bool aft) := (by rw [hw_W10]; (first | with_reducible exact cc2 | go_simp | exact cc2)); replace cc3 : W10.cell? ⟨v1.heap.size, 0, none⟩ = some (.int .u64 p0) := (by rw [hw_W10]; (first | with_reducible exact cc3 | go_simp | exact cc3)); replace cc4 : W10.cell? ⟨v1.heap.size, 1, none⟩ = some (.int .u64 p1) := (by rw [hw_W10]; (first | with_reducible exact cc4 | go_simp | exact cc4)); replace cc5 : W10.cell? ⟨v1.heap.size, 2, none⟩ = some (.int .u8 16) := (by rw [hw_W10]; (first | with_reducible exact cc5 | go_simp | exact cc5)); replace hBW : Below w.heap.size w W10 := (by rw [hw_W10]; (first | with_reducible exact drewN_below (by assumption) _ | go_grown)); have hl_W10 : w.heap.size < W10.heap.size ∧ v1.heap.size < W10.heap.size := (by rw [hw_W10]; (try simp only [World.size_alloc, World.size_setCell, World.size_drew, drewN_size]); omega); have lay_W10 : Laid W10 := Laid.below (w := w) (by assumption) hBW; (try have layE_W10 : LaidE W10 := LaidE.below (w := w) (by assumption) hBW); clear hw_W10)
  go_cut [71] (fun s wx => s = .bool top ∧ W10 = wx)
  case first =>
   as_aux_lemma =>
    subst htop
    cases b3
    · cases b1
      · go_wp2_with fail
        go_meet
        first | exact ⟨rfl, rfl⟩ | (refine ⟨rfl, ?_⟩; rw [show k % 4 = 3 from eq_of_beq hk3]) | (refine ⟨rfl, ?_⟩; rw [show k % 4 = 1 from eq_of_beq hk1])
      · go_wp2_with fail
        go_meet
        first | exact ⟨rfl, rfl⟩ | (refine ⟨rfl, ?_⟩; rw [show k % 4 = 3 from eq_of_beq hk3]) | (refine ⟨rfl, ?_⟩; rw [show k % 4 = 1 from eq_of_beq hk1])
    · go_wp2_with fail
      go_meet
      first | exact ⟨rfl, rfl⟩ | (refine ⟨rfl, ?_⟩; rw [show k % 4 = 3 from eq_of_beq hk3]) | (refine ⟨rfl, ?_⟩; rw [show k % 4 = 1 from eq_of_beq hk1])
  case rest =>
  obtain ⟨rfl, rfl⟩ := hcut
  go_upto_if 71 with fail
  go_cut [12] (fun s wx => s = .int .u64 few ∧ W10 = wx)
  case first =>
   as_aux_lemma =>
    cases top
    · subst hfew
      go_wp2_with fail
      go_meet
      exact ⟨rfl, rfl⟩
    · subst hfew
      go_wp2_with fail
      go_meet
      exact ⟨rfl, rfl⟩
  case rest =>
  obtain ⟨rfl, rfl⟩ := hcut
  (go_wp2_with fail; refine (format_Prec _ _).mono ?_; rintro en v4 ⟨rfl, hB_v4⟩; have lay_v4 := laid_after hB_v4; (try have layE_v4 := laidE_after hB_v4); replace cc1 := cell_later hB_v4 (cell_later (by go_grown) cc1); replace cc2 := cell_later hB_v4 (cell_later (by go_grown) cc2); replace cc3 := cell_later hB_v4 (cell_later (by go_grown) cc3); replace cc4 := cell_later hB_v4 (cell_later (by go_grown) cc4); replace cc5 := cell_later hB_v4 (cell_later (by go_grown) cc5); have hs_v4 := hB_v4.size; (try simp only [World.size_alloc, World.size_setCell, World.size_drew] at hs_v4); replace hBW : Below w.heap.size w v4 := below_after (w := w) (by go_grown) hB_v4; have hl_v4 : w.heap.size < v4.heap.size ∧ v1.heap.size < v4.heap.size := (by omega); have hn_v4 : w.heap.size ≠ v4.heap.size ∧ v4.heap.size ≠ w.heap.size ∧ w.heap.size ≠ v4.heap.size + 1 ∧ v4.heap.size + 1 ≠ w.heap.size ∧ v1.heap.size ≠ v4.heap.size ∧ v4.heap.size ≠ v1.heap.size ∧ v1.heap.size ≠ v4.heap.size + 1 ∧ v4.heap.size + 1 ≠ v1.heap.size := (by omega); clear hB_v4)
  (go_wp2_with fail; refine (fromint_Has _ _ _).mono ?_; rw [hh.out]; rintro en v5 ⟨rfl, hB_v5⟩; have lay_v5 := laid_after hB_v5; (try have layE_v5 := laidE_after hB_v5); replace cc1 := cell_later hB_v5 (cell_later (by go_grown) cc1); replace cc2 := cell_later hB_v5 (cell_later (by go_grown) cc2); replace cc3 := cell_later hB_v5 (cell_later (by go_grown) cc3); replace cc4 := cell_later hB_v5 (cell_later (by go_grown) cc4); replace cc5 := cell_later hB_v5 (cell_later (by go_grown) cc5); have hs_v5 := hB_v5.size; (try simp only [World.size_alloc, World.size_setCell, World.size_drew] at hs_v5); replace hBW : Below w.heap.size w v5 := below_after (w := w) (by go_grown) hB_v5; have hl_v5 : w.heap.size < v5.heap.size ∧ v1.heap.size < v5.heap.size := (by omega); have hn_v5 : w.heap.size ≠ v5.heap.size ∧ v5.heap.size ≠ w.heap.size ∧ w.heap.size ≠ v5.heap.size + 1 ∧ v5.heap.size + 1 ≠ w.heap.size ∧ v1.heap.size ≠ v5.heap.size ∧ v5.heap.size ≠ v1.heap.size ∧ v1.heap.size ≠ v5.heap.size + 1 ∧ v5.heap.size + 1 ≠ v1.heap.size := (by omega); clear hB_v5)
  (go_wp2_with fail; refine (law27_goes _).mono ?_; rintro en v8 ⟨rfl, hB_v8⟩; have lay_v8 := laid_after hB_v8; (try have layE_v8 := laidE_after hB_v8); replace cc1 := cell_later hB_v8 (cell_later (by go_grown) cc1); replace cc2 := cell_later hB_v8 (cell_later (by go_grown) cc2); replace cc3 := cell_later hB_v8 (cell_later (by go_grown) cc3); replace cc4 := cell_later hB_v8 (cell_later (by go_grown) cc4); replace cc5 := cell_later hB_v8 (cell_later (by go_grown) cc5); have hs_v8 := hB_v8.size; (try simp only [World.size_alloc, World.size_setCell, World.size_drew] at hs_v8); replace hBW : Below w.heap.size w v8 := below_after (w := w) (by go_grown) hB_v8; have hl_v8 : w.heap.size < v8.heap.size ∧ v1.heap.size < v8.heap.size := (by omega); have hn_v8 : w.heap.size ≠ v8.heap.size ∧ v8.heap.size ≠ w.heap.size ∧ w.heap.size ≠ v8.heap.size + 1 ∧ v8.heap.size + 1 ≠ w.heap.size ∧ v1.heap.size ≠ v8.heap.size ∧ v8.heap.size ≠ v1.heap.size ∧ v1.heap.size ≠ v8.heap.size + 1 ∧ v8.heap.size + 1 ≠ v1.heap.size := (by omega); clear hB_v8)
  go_wp2_with fail
  go_returns
  exact ⟨rfl, by go_grown⟩
set_option maxRecDepth 100000 in
set_option maxHeartbeats 8000000 in
theorem fb_20_n (k f m b m2 p0 p1 few : Int) (aft f3 top b3 b1 tp : Bool) [hU : U8 f] [hK : U8 k] [hM : U8 m] [hM2 : U8 m2] [hb : U64 b] [U8 (k % 4)] [U8 (m % 5)] [U8 (m2 % 5)] (w : World) [hLay : Laid w] [hLE : LaidE w] [U64 p0] [U64 p1] [U64 few] (hf : f < 4)
    (e1 : Hid (hi (fromB (k % 4) f (m % 5) b) = p0)) (e2 : Hid (lo (fromB (k % 4) f (m % 5) b) = p1)) (e3 : Hid (fromFl (k % 4) f (m % 5) aft b = 20))
    (hf3 : (f == 3) = f3) (hn3 : f3 = false)
    (hk3 : ((k % 4) == 3) = b3) (hk1 : ((k % 4) == 1) = b1) (htp : (b / 9223372036854775808 == 1) = tp) (htop : (if b3 then false else if b1 then false else tp) = top) (hfew : (if top then IntKind.u64.wrap (-b) else b) = few)
    (hh : Hid (hasB (k % 4) b = false)) :
    Calls Tryd.prog 11 #[.int .u8 k, .int .u8 f, .agg #[.int .u8 m, .bool aft], .int .u64 b, .int .u8 m2] w fun en w' => en = .returned (.bool true) ∧ Below w.heap.size w w' := by
  have hfd : decide (f < 4) = true := decide_eq_true hf
  have hm0 := hM.ge
  have hm2 := hM2.ge
  have hk0 := hK.ge
  have q := fun W a b => eql_whole_same W a b
  have z1 : bits BinOp.and IntKind.u8 20 11 = 0 := by decide +kernel
  have z2 : bits BinOp.and IntKind.u8 20 4 = 4 := by decide +kernel
  have hk3n : ((k % 4) != 3) = !b3 := by rw [← hk3]; rfl
  have hk1n : ((k % 4) != 1) = !b1 := by rw [← hk1]; rfl
  clear hf
  go_enter Tryd.func11, Tryd.ntmps11
  skip
  (go_wp2_with fail; refine (fromint_From _ _ _ _ _ _).mono ?_; rw [e1.out, e2.out, e3.out]; rintro en v1 ⟨rfl, hB_v1⟩; have lay_v1 := laid_after hB_v1; (try have layE_v1 := laidE_after hB_v1); have cc1 := cell_later hB_v1 (show World.cell? _ ⟨w.heap.size, 0, none⟩ = some (.int .u8 (m % 5)) by go_simp); have cc2 := cell_later hB_v1 (show World.cell? _ ⟨w.heap.size, 1, none⟩ = some (.bool aft) by go_simp); have hs_v1 := hB_v1.size; (try simp only [World.size_alloc, World.size_setCell, World.size_drew] at hs_v1); have hBW : Below w.heap.size w v1 := below_after (w := w) (by go_grown) hB_v1; have hl_v1 : w.heap.size < v1.heap.size := (by omega); have hn_v1 : w.heap.size ≠ v1.heap.size ∧ v1.heap.size ≠ w.heap.size ∧ w.heap.size ≠ v1.heap.size + 1 ∧ v1.heap.size + 1 ≠ w.heap.size := (by omega); clear hB_v1)
  (go_wp2_with fail; refine (format_Known_b _ _).mono ?_; rintro en v2 ⟨rfl, hB_v2⟩; have lay_v2 := laid_after hB_v2; (try have layE_v2 := laidE_after hB_v2); replace cc1 := cell_later hB_v2 (cell_later (by go_grown) cc1); replace cc2 := cell_later hB_v2 (cell_later (by go_grown) cc2); have cc3 := cell_later hB_v2 (show World.cell? _ ⟨v1.heap.size, 0, none⟩ = some (.int .u64 p0) by go_simp); have cc4 := cell_later hB_v2 (show World.cell? _ ⟨v1.heap.size, 1, none⟩ = some (.int .u64 p1) by go_simp); have cc5 := cell_later hB_v2 (show World.cell? _ ⟨v1.heap.size, 2, none⟩ = some (.int .u8 20) by go_simp); have hs_v2 := hB_v2.size; (try simp only [World.size_alloc, World.size_setCell, World.size_drew] at hs_v2); replace hBW : Below w.heap.size w v2 := below_after (w := w) (by go_grown) hB_v2; have hl_v2 : w.heap.size < v2.heap.size ∧ v1.heap.size < v2.heap.size := (by omega); have hn_v2 : w.heap.size ≠ v2.heap.size ∧ v2.heap.size ≠ w.heap.size ∧ w.heap.size ≠ v2.heap.size + 1 ∧ v2.heap.size + 1 ≠ w.heap.size ∧ v1.heap.size ≠ v2.heap.size ∧ v2.heap.size ≠ v1.heap.size ∧ v1.heap.size ≠ v2.heap.size + 1 ∧ v2.heap.size + 1 ≠ v1.heap.size := (by omega); clear hB_v2)
  go_upto_region 5 with fail
  ((first | refine wp_rename ?_ | refine goal_rename ?_); intro W5 hw_W5; replace cc1 : W5.cell? ⟨w.heap.size, 0, none⟩ = some (.int .u8 (m % 5)) := (by rw [hw_W5]; (first | with_reducible exact cc1 | go_simp | exact cc1)); replace cc2 : W5.cell? ⟨w.heap.size, 1, none⟩ = some (.bool aft) := (by rw [hw_W5]; (first | with_reducible exact cc2 | go_simp | exact cc2)); replace cc3 : W5.cell? ⟨v1.heap.size, 0, none⟩ = some (.int .u64 p0) := (by rw [hw_W5]; (first | with_reducible exact cc3 | go_simp | exact cc3)); replace cc4 : W5.cell? ⟨v1.heap.size, 1, none⟩ = some (.int .u64 p1) := (by rw [hw_W5]; (first | with_reducible exact cc4 | go_simp | exact cc4)); replace cc5 : W5.cell? ⟨v1.heap.size, 2, none⟩ = some (.int .u8 20) := (by rw [hw_W5]; (first | with_reducible exact cc5 | go_simp | exact cc5)); replace hBW : Below w.heap.size w W5 := (by rw [hw_W5]; (first | with_reducible exact drewN_below (by assumption) _ | go_grown)); have hl_W5 : w.heap.size < W5.heap.size ∧ v1.heap.size < W5.heap.size := (by rw [hw_W5]; (try simp only [World.size_alloc, World.size_setCell, World.size_drew, drewN_size]); omega); have lay_W5 : Laid W5 := Laid.below (w := w) (by assumption) hBW; (try have layE_W5 : LaidE W5 := LaidE.below (w := w) (by assumption) hBW); clear hw_W5)
  go_cut [48] (fun s wx => s = .bool false ∧ W5 = wx)
  case first =>
   as_aux_lemma =>
    subst hn3
    go_wp2_with fail
    go_meet
    exact ⟨rfl, rfl⟩
  case rest =>
  obtain ⟨rfl, rfl⟩ := hcut
  go_upto_region 10 with fail
  ((first | refine wp_rename ?_ | refine goal_rename ?_); intro W10 hw_W10; replace cc1 : W10.cell? ⟨w.heap.size, 0, none⟩ = some (.int .u8 (m % 5)) := (by rw [hw_W10]; (first | with_reducible exact cc1 | go_simp | exact cc1)); replace cc2 : W10.cell? ⟨w.heap.size, 1, none⟩ = some (.bool aft) := (by rw [hw_W10]; (first | with_reducible exact cc2 | go_simp | exact cc2)); replace cc3 : W10.cell? ⟨v1.heap.size, 0, none⟩ = some (.int .u64 p0) := (by rw [hw_W10]; (first | with_reducible exact cc3 | go_simp | exact cc3)); replace cc4 : W10.cell? ⟨v1.heap.size, 1, none⟩ = some (.int .u64 p1) := (by rw [hw_W10]; (first | with_reducible exact cc4 | go_simp | exact cc4)); replace cc5 : W10.cell? ⟨v1.heap.size, 2, none⟩ = some (.int .u8 20) := (by rw [hw_W10]; (first | with_reducible exact cc5 | go_simp | exact cc5)); replace hBW : Below w.heap.size w W10 := (by rw [hw_W10]; (first | with_reducible exact drewN_below (by assumption) _ | go_grown)); have hl_W10 : w.heap.size < W10.heap.size ∧ v1.heap.size < W10.heap.size := (by rw [hw_W10]; (try simp only [World.size_alloc, World.size_setCell, World.size_drew, drewN_size]); omega); have lay_W10 : Laid W10 := Laid.below (w := w) (by assumption) hBW; (try have layE_W10 : LaidE W10 := LaidE.below (w := w) (by assumption) hBW); clear hw_W10)
  go_cut [71] (fun s wx => s = .bool top ∧ W10 = wx)
  case first =>
   as_aux_lemma =>
    subst htop
    cases b3
    · cases b1
      · go_wp2_with fail
        go_meet
        first | exact ⟨rfl, rfl⟩ | (refine ⟨rfl, ?_⟩; rw [show k % 4 = 3 from eq_of_beq hk3]) | (refine ⟨rfl, ?_⟩; rw [show k % 4 = 1 from eq_of_beq hk1])
      · go_wp2_with fail
        go_meet
        first | exact ⟨rfl, rfl⟩ | (refine ⟨rfl, ?_⟩; rw [show k % 4 = 3 from eq_of_beq hk3]) | (refine ⟨rfl, ?_⟩; rw [show k % 4 = 1 from eq_of_beq hk1])
    · go_wp2_with fail
      go_meet
      first | exact ⟨rfl, rfl⟩ | (refine ⟨rfl, ?_⟩; rw [show k % 4 = 3 from eq_of_beq hk3]) | (refine ⟨rfl, ?_⟩; rw [show k % 4 = 1 from eq_of_beq hk1])
  case rest =>
  obtain ⟨rfl, rfl⟩ := hcut
  go_upto_if 71 with fail
  go_cut [12] (fun s wx => s = .int .u64 few ∧ W10 = wx)
  case first =>
   as_aux_lemma =>
    cases top
    · subst hfew
      go_wp2_with fail
      go_meet
      exact ⟨rfl, rfl⟩
    · subst hfew
      go_wp2_with fail
      go_meet
      exact ⟨rfl, rfl⟩
  case rest =>
  obtain ⟨rfl, rfl⟩ := hcut
  (go_wp2_with fail; refine (format_Prec _ _).mono ?_; rintro en v4 ⟨rfl, hB_v4⟩; have lay_v4 := laid_after hB_v4; (try have layE_v4 := laidE_after hB_v4); replace cc1 := cell_later hB_v4 (cell_later (by go_grown) cc1); replace cc2 := cell_later hB_v4 (cell_later (by go_grown) cc2); replace cc3 := cell_later hB_v4 (cell_later (by go_grown) cc3); replace cc4 := cell_later hB_v4 (cell_later (by go_grown) cc4); replace cc5 := cell_later hB_v4 (cell_later (by go_grown) cc5); have hs_v4 := hB_v4.size; (try simp only [World.size_alloc, World.size_setCell, World.size_drew] at hs_v4); replace hBW : Below w.heap.size w v4 := below_after (w := w) (by go_grown) hB_v4; have hl_v4 : w.heap.size < v4.heap.size ∧ v1.heap.size < v4.heap.size := (by omega); have hn_v4 : w.heap.size ≠ v4.heap.size ∧ v4.heap.size ≠ w.heap.size ∧ w.heap.size ≠ v4.heap.size + 1 ∧ v4.heap.size + 1 ≠ w.heap.size ∧ v1.heap.size ≠ v4.heap.size ∧ v4.heap.size ≠ v1.heap.size ∧ v1.heap.size ≠ v4.heap.size + 1 ∧ v4.heap.size + 1 ≠ v1.heap.size := (by omega); clear hB_v4)
  (go_wp2_with fail; refine (fromint_Has _ _ _).mono ?_; rw [hh.out]; rintro en v5 ⟨rfl, hB_v5⟩; have lay_v5 := laid_after hB_v5; (try have layE_v5 := laidE_after hB_v5); replace cc1 := cell_later hB_v5 (cell_later (by go_grown) cc1); replace cc2 := cell_later hB_v5 (cell_later (by go_grown) cc2); replace cc3 := cell_later hB_v5 (cell_later (by go_grown) cc3); replace cc4 := cell_later hB_v5 (cell_later (by go_grown) cc4); replace cc5 := cell_later hB_v5 (cell_later (by go_grown) cc5); have hs_v5 := hB_v5.size; (try simp only [World.size_alloc, World.size_setCell, World.size_drew] at hs_v5); replace hBW : Below w.heap.size w v5 := below_after (w := w) (by go_grown) hB_v5; have hl_v5 : w.heap.size < v5.heap.size ∧ v1.heap.size < v5.heap.size := (by omega); have hn_v5 : w.heap.size ≠ v5.heap.size ∧ v5.heap.size ≠ w.heap.size ∧ w.heap.size ≠ v5.heap.size + 1 ∧ v5.heap.size + 1 ≠ w.heap.size ∧ v1.heap.size ≠ v5.heap.size ∧ v5.heap.size ≠ v1.heap.size ∧ v1.heap.size ≠ v5.heap.size + 1 ∧ v5.heap.size + 1 ≠ v1.heap.size := (by omega); clear hB_v5)
  (go_wp2_with fail; refine (law27_goes _).mono ?_; rintro en v8 ⟨rfl, hB_v8⟩; have lay_v8 := laid_after hB_v8; (try have layE_v8 := laidE_after hB_v8); replace cc1 := cell_later hB_v8 (cell_later (by go_grown) cc1); replace cc2 := cell_later hB_v8 (cell_later (by go_grown) cc2); replace cc3 := cell_later hB_v8 (cell_later (by go_grown) cc3); replace cc4 := cell_later hB_v8 (cell_later (by go_grown) cc4); replace cc5 := cell_later hB_v8 (cell_later (by go_grown) cc5); have hs_v8 := hB_v8.size; (try simp only [World.size_alloc, World.size_setCell, World.size_drew] at hs_v8); replace hBW : Below w.heap.size w v8 := below_after (w := w) (by go_grown) hB_v8; have hl_v8 : w.heap.size < v8.heap.size ∧ v1.heap.size < v8.heap.size := (by omega); have hn_v8 : w.heap.size ≠ v8.heap.size ∧ v8.heap.size ≠ w.heap.size ∧ w.heap.size ≠ v8.heap.size + 1 ∧ v8.heap.size + 1 ≠ w.heap.size ∧ v1.heap.size ≠ v8.heap.size ∧ v8.heap.size ≠ v1.heap.size ∧ v1.heap.size ≠ v8.heap.size + 1 ∧ v8.heap.size + 1 ≠ v1.heap.size := (by omega); clear hB_v8)
  go_wp2_with fail
  go_returns
  exact ⟨rfl, by go_grown⟩
set_option maxRecDepth 100000 in
set_option maxHeartbeats 8000000 in
theorem fb_20_c (k f m b m2 p0 p1 few : Int) (aft f3 top b3 b1 tp : Bool) [hU : U8 f] [hK : U8 k] [hM : U8 m] [hM2 : U8 m2] [hb : U64 b] [U8 (k % 4)] [U8 (m % 5)] [U8 (m2 % 5)] (w : World) [hLay : Laid w] [hLE : LaidE w] [U64 p0] [U64 p1] [U64 few] (hf : f < 4)
    (e1 : Hid (hi (fromB (k % 4) f (m % 5) b) = p0)) (e2 : Hid (lo (fromB (k % 4) f (m % 5) b) = p1)) (e3 : Hid (fromFl (k % 4) f (m % 5) aft b = 20))
    (hf3 : (f == 3) = f3) (hn3 : f3 = false)
    (hk3 : ((k % 4) == 3) = b3) (hk1 : ((k % 4) == 1) = b1) (htp : (b / 9223372036854775808 == 1) = tp) (htop : (if b3 then false else if b1 then false else tp) = top) (hfew : (if top then IntKind.u64.wrap (-b) else b) = few)
    (hh : Hid (hasB (k % 4) b = true))
    (hp : decide (precS f ≥ 64) = false) (hc : decide (few < 2 ^ (precS f).toNat) = true)
    (hf0 : (f != 0) = false) :
    Calls Tryd.prog 11 #[.int .u8 k, .int .u8 f, .agg #[.int .u8 m, .bool aft], .int .u64 b, .int .u8 m2] w fun en w' => en = .returned (.bool true) ∧ Below w.heap.size w w' := by
  have hfd : decide (f < 4) = true := decide_eq_true hf
  have hm0 := hM.ge
  have hm2 := hM2.ge
  have hk0 := hK.ge
  have q := fun W a b => eql_whole_same W a b
  have z1 : bits BinOp.and IntKind.u8 20 11 = 0 := by decide +kernel
  have z2 : bits BinOp.and IntKind.u8 20 4 = 4 := by decide +kernel
  have hpb : 0 ≤ precS f ∧ precS f < 64 := ⟨(precS_bd f).1, by rw [decide_eq_false_iff_not] at hp; omega⟩
  have hsh : IntKind.u64.wrap (1 * 2 ^ (precS f).toNat) = 2 ^ (precS f).toNat := shl_one _ hpb.1 hpb.2
  have hsh2 : IntKind.u64.wrap (2 ^ (precS f).toNat) = 2 ^ (precS f).toNat := by rw [Int.one_mul] at hsh; exact hsh
  have hk3n : ((k % 4) != 3) = !b3 := by rw [← hk3]; rfl
  have hk1n : ((k % 4) != 1) = !b1 := by rw [← hk1]; rfl
  clear hf
  go_enter Tryd.func11, Tryd.ntmps11
  skip
  (go_wp2_with fail; refine (fromint_From _ _ _ _ _ _).mono ?_; rw [e1.out, e2.out, e3.out]; rintro en v1 ⟨rfl, hB_v1⟩; have lay_v1 := laid_after hB_v1; (try have layE_v1 := laidE_after hB_v1); have cc1 := cell_later hB_v1 (show World.cell? _ ⟨w.heap.size, 0, none⟩ = some (.int .u8 (m % 5)) by go_simp); have cc2 := cell_later hB_v1 (show World.cell? _ ⟨w.heap.size, 1, none⟩ = some (.bool aft) by go_simp); have hs_v1 := hB_v1.size; (try simp only [World.size_alloc, World.size_setCell, World.size_drew] at hs_v1); have hBW : Below w.heap.size w v1 := below_after (w := w) (by go_grown) hB_v1; have hl_v1 : w.heap.size < v1.heap.size := (by omega); have hn_v1 : w.heap.size ≠ v1.heap.size ∧ v1.heap.size ≠ w.heap.size ∧ w.heap.size ≠ v1.heap.size + 1 ∧ v1.heap.size + 1 ≠ w.heap.size := (by omega); clear hB_v1)
  (go_wp2_with fail; refine (format_Known_b _ _).mono ?_; rintro en v2 ⟨rfl, hB_v2⟩; have lay_v2 := laid_after hB_v2; (try have layE_v2 := laidE_after hB_v2); replace cc1 := cell_later hB_v2 (cell_later (by go_grown) cc1); replace cc2 := cell_later hB_v2 (cell_later (by go_grown) cc2); have cc3 := cell_later hB_v2 (show World.cell? _ ⟨v1.heap.size, 0, none⟩ = some (.int .u64 p0) by go_simp); have cc4 := cell_later hB_v2 (show World.cell? _ ⟨v1.heap.size, 1, none⟩ = some (.int .u64 p1) by go_simp); have cc5 := cell_later hB_v2 (show World.cell? _ ⟨v1.heap.size, 2, none⟩ = some (.int .u8 20) by go_simp); have hs_v2 := hB_v2.size; (try simp only [World.size_alloc, World.size_setCell, World.size_drew] at hs_v2); replace hBW : Below w.heap.size w v2 := below_after (w := w) (by go_grown) hB_v2; have hl_v2 : w.heap.size < v2.heap.size ∧ v1.heap.size < v2.heap.size := (by omega); have hn_v2 : w.heap.size ≠ v2.heap.size ∧ v2.heap.size ≠ w.heap.size ∧ w.heap.size ≠ v2.heap.size + 1 ∧ v2.heap.size + 1 ≠ w.heap.size ∧ v1.heap.size ≠ v2.heap.size ∧ v2.heap.size ≠ v1.heap.size ∧ v1.heap.size ≠ v2.heap.size + 1 ∧ v2.heap.size + 1 ≠ v1.heap.size := (by omega); clear hB_v2)
  go_upto_region 5 with fail
  ((first | refine wp_rename ?_ | refine goal_rename ?_); intro W5 hw_W5; replace cc1 : W5.cell? ⟨w.heap.size, 0, none⟩ = some (.int .u8 (m % 5)) := (by rw [hw_W5]; (first | with_reducible exact cc1 | go_simp | exact cc1)); replace cc2 : W5.cell? ⟨w.heap.size, 1, none⟩ = some (.bool aft) := (by rw [hw_W5]; (first | with_reducible exact cc2 | go_simp | exact cc2)); replace cc3 : W5.cell? ⟨v1.heap.size, 0, none⟩ = some (.int .u64 p0) := (by rw [hw_W5]; (first | with_reducible exact cc3 | go_simp | exact cc3)); replace cc4 : W5.cell? ⟨v1.heap.size, 1, none⟩ = some (.int .u64 p1) := (by rw [hw_W5]; (first | with_reducible exact cc4 | go_simp | exact cc4)); replace cc5 : W5.cell? ⟨v1.heap.size, 2, none⟩ = some (.int .u8 20) := (by rw [hw_W5]; (first | with_reducible exact cc5 | go_simp | exact cc5)); replace hBW : Below w.heap.size w W5 := (by rw [hw_W5]; (first | with_reducible exact drewN_below (by assumption) _ | go_grown)); have hl_W5 : w.heap.size < W5.heap.size ∧ v1.heap.size < W5.heap.size := (by rw [hw_W5]; (try simp only [World.size_alloc, World.size_setCell, World.size_drew, drewN_size]); omega); have lay_W5 : Laid W5 := Laid.below (w := w) (by assumption) hBW; (try have layE_W5 : LaidE W5 := LaidE.below (w := w) (by assumption) hBW); clear hw_W5)
  go_cut [48] (fun s wx => s = .bool false ∧ W5 = wx)
  case first =>
   as_aux_lemma =>
    subst hn3
    go_wp2_with fail
    go_meet
    exact ⟨rfl, rfl⟩
  case rest =>
  obtain ⟨rfl, rfl⟩ := hcut
  go_upto_region 10 with fail
  ((first | refine wp_rename ?_ | refine goal_rename ?_); intro W10 hw_W10; replace cc1 : W10.cell? ⟨w.heap.size, 0, none⟩ = some (.int .u8 (m % 5)) := (by rw [hw_W10]; (first | with_reducible exact cc1 | go_simp | exact cc1)); replace cc2 : W10.cell? ⟨w.heap.size, 1, none⟩ = some (.bool aft) := (by rw [hw_W10]; (first | with_reducible exact cc2 | go_simp | exact cc2)); replace cc3 : W10.cell? ⟨v1.heap.size, 0, none⟩ = some (.int .u64 p0) := (by rw [hw_W10]; (first | with_reducible exact cc3 | go_simp | exact cc3)); replace cc4 : W10.cell? ⟨v1.heap.size, 1, none⟩ = some (.int .u64 p1) := (by rw [hw_W10]; (first | with_reducible exact cc4 | go_simp | exact cc4)); replace cc5 : W10.cell? ⟨v1.heap.size, 2, none⟩ = some (.int .u8 20) := (by rw [hw_W10]; (first | with_reducible exact cc5 | go_simp | exact cc5)); replace hBW : Below w.heap.size w W10 := (by rw [hw_W10]; (first | with_reducible exact drewN_below (by assumption) _ | go_grown)); have hl_W10 : w.heap.size < W10.heap.size ∧ v1.heap.size < W10.heap.size := (by rw [hw_W10]; (try simp only [World.size_alloc, World.size_setCell, World.size_drew, drewN_size]); omega); have lay_W10 : Laid W10 := Laid.below (w := w) (by assumption) hBW; (try have layE_W10 : LaidE W10 := LaidE.below (w := w) (by assumption) hBW); clear hw_W10)
  go_cut [71] (fun s wx => s = .bool top ∧ W10 = wx)
  case first =>
   as_aux_lemma =>
    subst htop
    cases b3
    · cases b1
      · go_wp2_with fail
        go_meet
        first | exact ⟨rfl, rfl⟩ | (refine ⟨rfl, ?_⟩; rw [show k % 4 = 3 from eq_of_beq hk3]) | (refine ⟨rfl, ?_⟩; rw [show k % 4 = 1 from eq_of_beq hk1])
      · go_wp2_with fail
        go_meet
        first | exact ⟨rfl, rfl⟩ | (refine ⟨rfl, ?_⟩; rw [show k % 4 = 3 from eq_of_beq hk3]) | (refine ⟨rfl, ?_⟩; rw [show k % 4 = 1 from eq_of_beq hk1])
    · go_wp2_with fail
      go_meet
      first | exact ⟨rfl, rfl⟩ | (refine ⟨rfl, ?_⟩; rw [show k % 4 = 3 from eq_of_beq hk3]) | (refine ⟨rfl, ?_⟩; rw [show k % 4 = 1 from eq_of_beq hk1])
  case rest =>
  obtain ⟨rfl, rfl⟩ := hcut
  go_upto_if 71 with fail
  go_cut [12] (fun s wx => s = .int .u64 few ∧ W10 = wx)
  case first =>
   as_aux_lemma =>
    cases top
    · subst hfew
      go_wp2_with fail
      go_meet
      exact ⟨rfl, rfl⟩
    · subst hfew
      go_wp2_with fail
      go_meet
      exact ⟨rfl, rfl⟩
  case rest =>
  obtain ⟨rfl, rfl⟩ := hcut
  (go_wp2_with fail; refine (format_Prec _ _).mono ?_; rintro en v4 ⟨rfl, hB_v4⟩; have lay_v4 := laid_after hB_v4; (try have layE_v4 := laidE_after hB_v4); replace cc1 := cell_later hB_v4 (cell_later (by go_grown) cc1); replace cc2 := cell_later hB_v4 (cell_later (by go_grown) cc2); replace cc3 := cell_later hB_v4 (cell_later (by go_grown) cc3); replace cc4 := cell_later hB_v4 (cell_later (by go_grown) cc4); replace cc5 := cell_later hB_v4 (cell_later (by go_grown) cc5); have hs_v4 := hB_v4.size; (try simp only [World.size_alloc, World.size_setCell, World.size_drew] at hs_v4); replace hBW : Below w.heap.size w v4 := below_after (w := w) (by go_grown) hB_v4; have hl_v4 : w.heap.size < v4.heap.size ∧ v1.heap.size < v4.heap.size := (by omega); have hn_v4 : w.heap.size ≠ v4.heap.size ∧ v4.heap.size ≠ w.heap.size ∧ w.heap.size ≠ v4.heap.size + 1 ∧ v4.heap.size + 1 ≠ w.heap.size ∧ v1.heap.size ≠ v4.heap.size ∧ v4.heap.size ≠ v1.heap.size ∧ v1.heap.size ≠ v4.heap.size + 1 ∧ v4.heap.size + 1 ≠ v1.heap.size := (by omega); clear hB_v4)
  (go_wp2_with fail; refine (fromint_Has _ _ _).mono ?_; rw [hh.out]; rintro en v5 ⟨rfl, hB_v5⟩; have lay_v5 := laid_after hB_v5; (try have layE_v5 := laidE_after hB_v5); replace cc1 := cell_later hB_v5 (cell_later (by go_grown) cc1); replace cc2 := cell_later hB_v5 (cell_later (by go_grown) cc2); replace cc3 := cell_later hB_v5 (cell_later (by go_grown) cc3); replace cc4 := cell_later hB_v5 (cell_later (by go_grown) cc4); replace cc5 := cell_later hB_v5 (cell_later (by go_grown) cc5); have hs_v5 := hB_v5.size; (try simp only [World.size_alloc, World.size_setCell, World.size_drew] at hs_v5); replace hBW : Below w.heap.size w v5 := below_after (w := w) (by go_grown) hB_v5; have hl_v5 : w.heap.size < v5.heap.size ∧ v1.heap.size < v5.heap.size := (by omega); have hn_v5 : w.heap.size ≠ v5.heap.size ∧ v5.heap.size ≠ w.heap.size ∧ w.heap.size ≠ v5.heap.size + 1 ∧ v5.heap.size + 1 ≠ w.heap.size ∧ v1.heap.size ≠ v5.heap.size ∧ v5.heap.size ≠ v1.heap.size ∧ v1.heap.size ≠ v5.heap.size + 1 ∧ v5.heap.size + 1 ≠ v1.heap.size := (by omega); clear hB_v5)
  (go_wp2_with fail; refine (law27_goes _).mono ?_; rintro en v8 ⟨rfl, hB_v8⟩; have lay_v8 := laid_after hB_v8; (try have layE_v8 := laidE_after hB_v8); replace cc1 := cell_later hB_v8 (cell_later (by go_grown) cc1); replace cc2 := cell_later hB_v8 (cell_later (by go_grown) cc2); replace cc3 := cell_later hB_v8 (cell_later (by go_grown) cc3); replace cc4 := cell_later hB_v8 (cell_later (by go_grown) cc4); replace cc5 := cell_later hB_v8 (cell_later (by go_grown) cc5); have hs_v8 := hB_v8.size; (try simp only [World.size_alloc, World.size_setCell, World.size_drew] at hs_v8); replace hBW : Below w.heap.size w v8 := below_after (w := w) (by go_grown) hB_v8; have hl_v8 : w.heap.size < v8.heap.size ∧ v1.heap.size < v8.heap.size := (by omega); have hn_v8 : w.heap.size ≠ v8.heap.size ∧ v8.heap.size ≠ w.heap.size ∧ w.heap.size ≠ v8.heap.size + 1 ∧ v8.heap.size + 1 ≠ w.heap.size ∧ v1.heap.size ≠ v8.heap.size ∧ v8.heap.size ≠ v1.heap.size ∧ v1.heap.size ≠ v8.heap.size + 1 ∧ v8.heap.size + 1 ≠ v1.heap.size := (by omega); clear hB_v8)
  go_wp2_with fail
  go_returns
  exact ⟨rfl, by go_grown⟩
set_option maxRecDepth 100000 in
set_option maxHeartbeats 8000000 in
theorem fb_20_d (k f m b m2 p0 p1 few : Int) (aft f3 top b3 b1 tp : Bool) [hU : U8 f] [hK : U8 k] [hM : U8 m] [hM2 : U8 m2] [hb : U64 b] [U8 (k % 4)] [U8 (m % 5)] [U8 (m2 % 5)] (w : World) [hLay : Laid w] [hLE : LaidE w] [U64 p0] [U64 p1] [U64 few] (hf : f < 4)
    (e1 : Hid (hi (fromB (k % 4) f (m % 5) b) = p0)) (e2 : Hid (lo (fromB (k % 4) f (m % 5) b) = p1)) (e3 : Hid (fromFl (k % 4) f (m % 5) aft b = 20))
    (hf3 : (f == 3) = f3) (hn3 : f3 = false)
    (hk3 : ((k % 4) == 3) = b3) (hk1 : ((k % 4) == 1) = b1) (htp : (b / 9223372036854775808 == 1) = tp) (htop : (if b3 then false else if b1 then false else tp) = top) (hfew : (if top then IntKind.u64.wrap (-b) else b) = few)
    (hh : Hid (hasB (k % 4) b = true))
    (hp : decide (precS f ≥ 64) = false) (hc : decide (few < 2 ^ (precS f).toNat) = false) :
    Calls Tryd.prog 11 #[.int .u8 k, .int .u8 f, .agg #[.int .u8 m, .bool aft], .int .u64 b, .int .u8 m2] w fun en w' => en = .returned (.bool true) ∧ Below w.heap.size w w' := by
  have hfd : decide (f < 4) = true := decide_eq_true hf
  have hm0 := hM.ge
  have hm2 := hM2.ge
  have hk0 := hK.ge
  have q := fun W a b => eql_whole_same W a b
  have z1 : bits BinOp.and IntKind.u8 20 11 = 0 := by decide +kernel
  have z2 : bits BinOp.and IntKind.u8 20 4 = 4 := by decide +kernel
  have hpb : 0 ≤ precS f ∧ precS f < 64 := ⟨(precS_bd f).1, by rw [decide_eq_false_iff_not] at hp; omega⟩
  have hsh : IntKind.u64.wrap (1 * 2 ^ (precS f).toNat) = 2 ^ (precS f).toNat := shl_one _ hpb.1 hpb.2
  have hsh2 : IntKind.u64.wrap (2 ^ (precS f).toNat) = 2 ^ (precS f).toNat := by rw [Int.one_mul] at hsh; exact hsh
  have hk3n : ((k % 4) != 3) = !b3 := by rw [← hk3]; rfl
  have hk1n : ((k % 4) != 1) = !b1 := by rw [← hk1]; rfl
  clear hf
  go_enter Tryd.func11, Tryd.ntmps11
  skip
  (go_wp2_with fail; refine (fromint_From _ _ _ _ _ _).mono ?_; rw [e1.out, e2.out, e3.out]; rintro en v1 ⟨rfl, hB_v1⟩; have lay_v1 := laid_after hB_v1; (try have layE_v1 := laidE_after hB_v1); have cc1 := cell_later hB_v1 (show World.cell? _ ⟨w.heap.size, 0, none⟩ = some (.int .u8 (m % 5)) by go_simp); have cc2 := cell_later hB_v1 (show World.cell? _ ⟨w.heap.size, 1, none⟩ = some (.bool aft) by go_simp); have hs_v1 := hB_v1.size; (try simp only [World.size_alloc, World.size_setCell, World.size_drew] at hs_v1); have hBW : Below w.heap.size w v1 := below_after (w := w) (by go_grown) hB_v1; have hl_v1 : w.heap.size < v1.heap.size := (by omega); have hn_v1 : w.heap.size ≠ v1.heap.size ∧ v1.heap.size ≠ w.heap.size ∧ w.heap.size ≠ v1.heap.size + 1 ∧ v1.heap.size + 1 ≠ w.heap.size := (by omega); clear hB_v1)
  (go_wp2_with fail; refine (format_Known_b _ _).mono ?_; rintro en v2 ⟨rfl, hB_v2⟩; have lay_v2 := laid_after hB_v2; (try have layE_v2 := laidE_after hB_v2); replace cc1 := cell_later hB_v2 (cell_later (by go_grown) cc1); replace cc2 := cell_later hB_v2 (cell_later (by go_grown) cc2); have cc3 := cell_later hB_v2 (show World.cell? _ ⟨v1.heap.size, 0, none⟩ = some (.int .u64 p0) by go_simp); have cc4 := cell_later hB_v2 (show World.cell? _ ⟨v1.heap.size, 1, none⟩ = some (.int .u64 p1) by go_simp); have cc5 := cell_later hB_v2 (show World.cell? _ ⟨v1.heap.size, 2, none⟩ = some (.int .u8 20) by go_simp); have hs_v2 := hB_v2.size; (try simp only [World.size_alloc, World.size_setCell, World.size_drew] at hs_v2); replace hBW : Below w.heap.size w v2 := below_after (w := w) (by go_grown) hB_v2; have hl_v2 : w.heap.size < v2.heap.size ∧ v1.heap.size < v2.heap.size := (by omega); have hn_v2 : w.heap.size ≠ v2.heap.size ∧ v2.heap.size ≠ w.heap.size ∧ w.heap.size ≠ v2.heap.size + 1 ∧ v2.heap.size + 1 ≠ w.heap.size ∧ v1.heap.size ≠ v2.heap.size ∧ v2.heap.size ≠ v1.heap.size ∧ v1.heap.size ≠ v2.heap.size + 1 ∧ v2.heap.size + 1 ≠ v1.heap.size := (by omega); clear hB_v2)
  go_upto_region 5 with fail
  ((first | refine wp_rename ?_ | refine goal_rename ?_); intro W5 hw_W5; replace cc1 : W5.cell? ⟨w.heap.size, 0, none⟩ = some (.int .u8 (m % 5)) := (by rw [hw_W5]; (first | with_reducible exact cc1 | go_simp | exact cc1)); replace cc2 : W5.cell? ⟨w.heap.size, 1, none⟩ = some (.bool aft) := (by rw [hw_W5]; (first | with_reducible exact cc2 | go_simp | exact cc2)); replace cc3 : W5.cell? ⟨v1.heap.size, 0, none⟩ = some (.int .u64 p0) := (by rw [hw_W5]; (first | with_reducible exact cc3 | go_simp | exact cc3)); replace cc4 : W5.cell? ⟨v1.heap.size, 1, none⟩ = some (.int .u64 p1) := (by rw [hw_W5]; (first | with_reducible exact cc4 | go_simp | exact cc4)); replace cc5 : W5.cell? ⟨v1.heap.size, 2, none⟩ = some (.int .u8 20) := (by rw [hw_W5]; (first | with_reducible exact cc5 | go_simp | exact cc5)); replace hBW : Below w.heap.size w W5 := (by rw [hw_W5]; (first | with_reducible exact drewN_below (by assumption) _ | go_grown)); have hl_W5 : w.heap.size < W5.heap.size ∧ v1.heap.size < W5.heap.size := (by rw [hw_W5]; (try simp only [World.size_alloc, World.size_setCell, World.size_drew, drewN_size]); omega); have lay_W5 : Laid W5 := Laid.below (w := w) (by assumption) hBW; (try have layE_W5 : LaidE W5 := LaidE.below (w := w) (by assumption) hBW); clear hw_W5)
  go_cut [48] (fun s wx => s = .bool false ∧ W5 = wx)
  case first =>
   as_aux_lemma =>
    subst hn3
    go_wp2_with fail
    go_meet
    exact ⟨rfl, rfl⟩
  case rest =>
  obtain ⟨rfl, rfl⟩ := hcut
  go_upto_region 10 with fail
  ((first | refine wp_rename ?_ | refine goal_rename ?_); intro W10 hw_W10; replace cc1 : W10.cell? ⟨w.heap.size, 0, none⟩ = some (.int .u8 (m % 5)) := (by rw [hw_W10]; (first | with_reducible exact cc1 | go_simp | exact cc1)); replace cc2 : W10.cell? ⟨w.heap.size, 1, none⟩ = some (.bool aft) := (by rw [hw_W10]; (first | with_reducible exact cc2 | go_simp | exact cc2)); replace cc3 : W10.cell? ⟨v1.heap.size, 0, none⟩ = some (.int .u64 p0) := (by rw [hw_W10]; (first | with_reducible exact cc3 | go_simp | exact cc3)); replace cc4 : W10.cell? ⟨v1.heap.size, 1, none⟩ = some (.int .u64 p1) := (by rw [hw_W10]; (first | with_reducible exact cc4 | go_simp | exact cc4)); replace cc5 : W10.cell? ⟨v1.heap.size, 2, none⟩ = some (.int .u8 20) := (by rw [hw_W10]; (first | with_reducible exact cc5 | go_simp | exact cc5)); replace hBW : Below w.heap.size w W10 := (by rw [hw_W10]; (first | with_reducible exact drewN_below (by assumption) _ | go_grown)); have hl_W10 : w.heap.size < W10.heap.size ∧ v1.heap.size < W10.heap.size := (by rw [hw_W10]; (try simp only [World.size_alloc, World.size_setCell, World.size_drew, drewN_size]); omega); have lay_W10 : Laid W10 := Laid.below (w := w) (by assumption) hBW; (try have layE_W10 : LaidE W10 := LaidE.below (w := w) (by assumption) hBW); clear hw_W10)
  go_cut [71] (fun s wx => s = .bool top ∧ W10 = wx)
  case first =>
   as_aux_lemma =>
    subst htop
    cases b3
    · cases b1
      · go_wp2_with fail
        go_meet
        first | exact ⟨rfl, rfl⟩ | (refine ⟨rfl, ?_⟩; rw [show k % 4 = 3 from eq_of_beq hk3]) | (refine ⟨rfl, ?_⟩; rw [show k % 4 = 1 from eq_of_beq hk1])
      · go_wp2_with fail
        go_meet
        first | exact ⟨rfl, rfl⟩ | (refine ⟨rfl, ?_⟩; rw [show k % 4 = 3 from eq_of_beq hk3]) | (refine ⟨rfl, ?_⟩; rw [show k % 4 = 1 from eq_of_beq hk1])
    · go_wp2_with fail
      go_meet
      first | exact ⟨rfl, rfl⟩ | (refine ⟨rfl, ?_⟩; rw [show k % 4 = 3 from eq_of_beq hk3]) | (refine ⟨rfl, ?_⟩; rw [show k % 4 = 1 from eq_of_beq hk1])
  case rest =>
  obtain ⟨rfl, rfl⟩ := hcut
  go_upto_if 71 with fail
  go_cut [12] (fun s wx => s = .int .u64 few ∧ W10 = wx)
  case first =>
   as_aux_lemma =>
    cases top
    · subst hfew
      go_wp2_with fail
      go_meet
      exact ⟨rfl, rfl⟩
    · subst hfew
      go_wp2_with fail
      go_meet
      exact ⟨rfl, rfl⟩
  case rest =>
  obtain ⟨rfl, rfl⟩ := hcut
  (go_wp2_with fail; refine (format_Prec _ _).mono ?_; rintro en v4 ⟨rfl, hB_v4⟩; have lay_v4 := laid_after hB_v4; (try have layE_v4 := laidE_after hB_v4); replace cc1 := cell_later hB_v4 (cell_later (by go_grown) cc1); replace cc2 := cell_later hB_v4 (cell_later (by go_grown) cc2); replace cc3 := cell_later hB_v4 (cell_later (by go_grown) cc3); replace cc4 := cell_later hB_v4 (cell_later (by go_grown) cc4); replace cc5 := cell_later hB_v4 (cell_later (by go_grown) cc5); have hs_v4 := hB_v4.size; (try simp only [World.size_alloc, World.size_setCell, World.size_drew] at hs_v4); replace hBW : Below w.heap.size w v4 := below_after (w := w) (by go_grown) hB_v4; have hl_v4 : w.heap.size < v4.heap.size ∧ v1.heap.size < v4.heap.size := (by omega); have hn_v4 : w.heap.size ≠ v4.heap.size ∧ v4.heap.size ≠ w.heap.size ∧ w.heap.size ≠ v4.heap.size + 1 ∧ v4.heap.size + 1 ≠ w.heap.size ∧ v1.heap.size ≠ v4.heap.size ∧ v4.heap.size ≠ v1.heap.size ∧ v1.heap.size ≠ v4.heap.size + 1 ∧ v4.heap.size + 1 ≠ v1.heap.size := (by omega); clear hB_v4)
  (go_wp2_with fail; refine (fromint_Has _ _ _).mono ?_; rw [hh.out]; rintro en v5 ⟨rfl, hB_v5⟩; have lay_v5 := laid_after hB_v5; (try have layE_v5 := laidE_after hB_v5); replace cc1 := cell_later hB_v5 (cell_later (by go_grown) cc1); replace cc2 := cell_later hB_v5 (cell_later (by go_grown) cc2); replace cc3 := cell_later hB_v5 (cell_later (by go_grown) cc3); replace cc4 := cell_later hB_v5 (cell_later (by go_grown) cc4); replace cc5 := cell_later hB_v5 (cell_later (by go_grown) cc5); have hs_v5 := hB_v5.size; (try simp only [World.size_alloc, World.size_setCell, World.size_drew] at hs_v5); replace hBW : Below w.heap.size w v5 := below_after (w := w) (by go_grown) hB_v5; have hl_v5 : w.heap.size < v5.heap.size ∧ v1.heap.size < v5.heap.size := (by omega); have hn_v5 : w.heap.size ≠ v5.heap.size ∧ v5.heap.size ≠ w.heap.size ∧ w.heap.size ≠ v5.heap.size + 1 ∧ v5.heap.size + 1 ≠ w.heap.size ∧ v1.heap.size ≠ v5.heap.size ∧ v5.heap.size ≠ v1.heap.size ∧ v1.heap.size ≠ v5.heap.size + 1 ∧ v5.heap.size + 1 ≠ v1.heap.size := (by omega); clear hB_v5)
  (go_wp2_with fail; refine (law27_goes _).mono ?_; rintro en v8 ⟨rfl, hB_v8⟩; have lay_v8 := laid_after hB_v8; (try have layE_v8 := laidE_after hB_v8); replace cc1 := cell_later hB_v8 (cell_later (by go_grown) cc1); replace cc2 := cell_later hB_v8 (cell_later (by go_grown) cc2); replace cc3 := cell_later hB_v8 (cell_later (by go_grown) cc3); replace cc4 := cell_later hB_v8 (cell_later (by go_grown) cc4); replace cc5 := cell_later hB_v8 (cell_later (by go_grown) cc5); have hs_v8 := hB_v8.size; (try simp only [World.size_alloc, World.size_setCell, World.size_drew] at hs_v8); replace hBW : Below w.heap.size w v8 := below_after (w := w) (by go_grown) hB_v8; have hl_v8 : w.heap.size < v8.heap.size ∧ v1.heap.size < v8.heap.size := (by omega); have hn_v8 : w.heap.size ≠ v8.heap.size ∧ v8.heap.size ≠ w.heap.size ∧ w.heap.size ≠ v8.heap.size + 1 ∧ v8.heap.size + 1 ≠ w.heap.size ∧ v1.heap.size ≠ v8.heap.size ∧ v8.heap.size ≠ v1.heap.size ∧ v1.heap.size ≠ v8.heap.size + 1 ∧ v8.heap.size + 1 ≠ v1.heap.size := (by omega); clear hB_v8)
  go_wp2_with fail
  go_returns
  exact ⟨rfl, by go_grown⟩
theorem few_u64 (k b : Int) [hb : U64 b] : U64 (fewK k b) := by
  have h0 := hb.ge
  have h1 := hb.lt
  constructor <;> (unfold fewK; split <;> omega)
theorem few_top (k b : Int) [hb : U64 b] : (if (if (k == 3) then false else if (k == 1) then false else (b / 9223372036854775808 == 1)) then IntKind.u64.wrap (-b) else b) = fewK k b := by
  have h0 := hb.ge
  have h1 := hb.lt
  have hs := shr_top b h0 h1
  rw [show (2 : Int) ^ 63 = 9223372036854775808 by decide] at hs
  by_cases h3 : k = 3
  · rw [beq_iff_eq.2 h3]; unfold fewK; rw [if_neg (show ¬ (k ≠ 3 ∧ k ≠ 1 ∧ 9223372036854775808 ≤ b) from fun h => h.1 h3)]; rfl
  · have e3 : (k == 3) = false := beq_eq_false_iff_ne.2 h3
    by_cases h1' : k = 1
    · rw [e3, beq_iff_eq.2 h1']; unfold fewK; rw [if_neg (show ¬ (k ≠ 3 ∧ k ≠ 1 ∧ 9223372036854775808 ≤ b) from fun h => h.2.1 h1')]; rfl
    · have e1 : (k == 1) = false := beq_eq_false_iff_ne.2 h1'
      rw [e3, e1, hs]
      unfold fewK
      by_cases hg : 9223372036854775808 ≤ b
      · have hw : IntKind.u64.wrap (-b) = 18446744073709551616 - b := by rw [IntKind.wrap_u64]; omega
        rw [decide_eq_true hg, if_pos (show k ≠ 3 ∧ k ≠ 1 ∧ 9223372036854775808 ≤ b from ⟨h3, h1', hg⟩), hw]; rfl
      · rw [decide_eq_false hg, if_neg (show ¬ (k ≠ 3 ∧ k ≠ 1 ∧ 9223372036854775808 ≤ b) from fun h => hg h.2.2)]; rfl
theorem walk_FromintBack (k f m : Int) (aft : Bool) (b m2 : Int) [hK : U8 k] [hU : U8 f] [hM : U8 m] [hb : U64 b] [hM2 : U8 m2] (w : World) [hLay : Laid w] [hLE : LaidE w] :
    Calls Tryd.prog 11 #[.int .u8 k, .int .u8 f, .agg #[.int .u8 m, .bool aft], .int .u64 b, .int .u8 m2] w fun en w' => en = .returned (.bool true) ∧ Below w.heap.size w w' := by
  have f0 := hU.ge
  have k0 := hK.ge
  have m0 := hM.ge
  have n0 := hM2.ge
  have b0 := hb.ge
  have b1 := hb.lt
  haveI : U8 (k % 4) := ⟨by omega, by omega⟩
  haveI : U8 (m % 5) := ⟨by omega, by omega⟩
  haveI : U8 (m2 % 5) := ⟨by omega, by omega⟩
  have hk4 : k % 4 < 4 := by omega
  have hk0 : 0 ≤ k % 4 := by omega
  by_cases hf : f < 4
  case neg =>
    have e1 : fromB (k % 4) f (m % 5) b = 0 := by unfold fromB; rw [if_pos hk4, res_none _ _ _ _ _ (fun x => hf x.1)]
    have e2 : fromFl (k % 4) f (m % 5) aft b = 0 := by unfold fromFl; rw [if_pos hk4, resFl_none _ _ _ _ _ _ (fun x => hf x.1)]
    exact fb_none k f m b m2 aft w hf (Lib.hid (by rw [e1]; rfl)) (Lib.hid (by rw [e1]; rfl)) (Lib.hid e2)
  have s2 : 0 ≤ sizeK (k % 4) b := U64.ge
  have s3 : sizeK (k % 4) b < 18446744073709551616 := U64.lt
  have h64 : (2 : Nat) ^ 64 = 18446744073709551616 := by decide
  have hlt64 : (sizeK (k % 4) b).toNat < 2 ^ 64 := by omega
  have hlt : (sizeK (k % 4) b).toNat < 2 ^ 256 := Nat.lt_trans hlt64 (by decide)
  have e1 : fromB (k % 4) f (m % 5) b = resB f (m % 5) (negK (k % 4) b) 255 (sizeK (k % 4) b).toNat := by unfold fromB; rw [if_pos hk4, wide_one _ s2]
  have e2 : fromFl (k % 4) f (m % 5) aft b = resFl f (m % 5) aft (negK (k % 4) b) 255 (sizeK (k % 4) b).toNat := by unfold fromFl; rw [if_pos hk4, wide_one _ s2]
  have hB := cat_small (fromB (k % 4) f (m % 5) b) (by rw [e1]; exact resB_lt f _ _ _ _ f0)
  have hfe := few_top (k % 4) b
  haveI := few_u64 (k % 4) b
  have hwh : fromFl (k % 4) f (m % 5) aft b ≠ 20 → wholeB f (fromB (k % 4) f (m % 5) b) = true := fun h => by
    rw [e1]; exact from_whole f _ aft _ _ f0 hf (by omega) hlt (by rw [← e2]; exact h)
  have hex : 1 ≤ f → (64 ≤ precS f ∨ (sizeK (k % 4) b).toNat < 2 ^ (precS f).toNat) → fromFl (k % 4) f (m % 5) aft b = 0 := fun h hp => by
    rw [e2]; exact from_few f _ aft _ _ h hf (by omega) hlt64 hp
  have h3p : f = 3 → 64 ≤ precS f := fun h => by subst h; decide
  have hp1 : 64 ≤ precS f → 1 ≤ f := fun h => by
    rcases Int.lt_or_le f 1 with h1 | h1
    · have : f = 0 := by omega
      subst this
      exact absurd h (by decide)
    · exact h1
  have hcast : decide (fewK (k % 4) b < 2 ^ (precS f).toNat) = decide ((fewK (k % 4) b).toNat < 2 ^ (precS f).toNat) := by
    rw [decide_eq_decide]
    have h0 := U64.ge (x := fewK (k % 4) b)
    have hcp : ((2 ^ (precS f).toNat : Nat) : Int) = 2 ^ (precS f).toNat := by simp
    rw [← hcp]; omega
  rcases (show fromFl (k % 4) f (m % 5) aft b = 0 ∨ fromFl (k % 4) f (m % 5) aft b = 16 ∨ fromFl (k % 4) f (m % 5) aft b = 20 by rw [e2]; exact from_flag f _ aft _ _ f0 hf (by omega) hlt) with hfl | hfl | hfl
  · have hw := hwh (by omega)
    cases hh : hasB (k % 4) b
    · exact fb_0_n k f m b m2 _ _ _ aft _ _ _ _ _ w hf (Lib.hid rfl) (Lib.hid rfl) (Lib.hid hfl) rfl rfl rfl rfl rfl hfe (Lib.hid hh) (Lib.hid (by rw [hB]; exact hw))
    · obtain ⟨i1, i2⟩ := from_back (k % 4) f (m % 5) (m2 % 5) b aft f0 hf (by omega) (by omega) hk0 hh hfl
      by_cases hp : 64 ≤ precS f
      · exact fb_0_p k f m b m2 _ _ _ aft _ _ _ _ _ w hf (Lib.hid rfl) (Lib.hid rfl) (Lib.hid hfl) rfl rfl rfl rfl rfl hfe (Lib.hid hh) (Lib.hid (by rw [hB]; exact hw)) (decide_eq_true hp) (Lib.hid (by rw [hB]; exact i1)) (Lib.hid (by rw [hB]; exact i2))
      · cases hc : decide (fewK (k % 4) b < 2 ^ (precS f).toNat)
        · exact fb_0_d k f m b m2 _ _ _ aft _ _ _ _ _ w hf (Lib.hid rfl) (Lib.hid rfl) (Lib.hid hfl) rfl rfl rfl rfl rfl hfe (Lib.hid hh) (Lib.hid (by rw [hB]; exact hw)) (decide_eq_false hp) hc (Lib.hid (by rw [hB]; exact i1)) (Lib.hid (by rw [hB]; exact i2))
        · exact fb_0_c k f m b m2 _ _ _ aft _ _ _ _ _ w hf (Lib.hid rfl) (Lib.hid rfl) (Lib.hid hfl) rfl rfl rfl rfl rfl hfe (Lib.hid hh) (Lib.hid (by rw [hB]; exact hw)) (decide_eq_false hp) hc (Lib.hid (by rw [hB]; exact i1)) (Lib.hid (by rw [hB]; exact i2))
  · have hp : ¬ 64 ≤ precS f := fun hp => by have := hex (hp1 hp) (Or.inl hp); omega
    have hf3 : (f == 3) = false := beq_eq_false_iff_ne.2 (fun h => hp (h3p h))
    cases hh : hasB (k % 4) b
    · exact fb_16_n k f m b m2 _ _ _ aft _ _ _ _ _ w hf (Lib.hid rfl) (Lib.hid rfl) (Lib.hid hfl) hf3 rfl rfl rfl rfl rfl hfe (Lib.hid hh) (Lib.hid (by rw [hB]; exact hwh (by omega)))
    · cases hc : decide (fewK (k % 4) b < 2 ^ (precS f).toNat)
      · exact fb_16_d k f m b m2 _ _ _ aft _ _ _ _ _ w hf (Lib.hid rfl) (Lib.hid rfl) (Lib.hid hfl) hf3 rfl rfl rfl rfl rfl hfe (Lib.hid hh) (Lib.hid (by rw [hB]; exact hwh (by omega))) (decide_eq_false hp) hc
      · have hf0 : f = 0 := by
          rcases Int.lt_or_le f 1 with h1 | h1
          · omega
          · have hc2 := hcast.symm.trans hc
            rw [few_has (k % 4) b hk0 hh, decide_eq_true_eq] at hc2
            have := hex h1 (Or.inr hc2); omega
        exact fb_16_c k f m b m2 _ _ _ aft _ _ _ _ _ w hf (Lib.hid rfl) (Lib.hid rfl) (Lib.hid hfl) hf3 rfl rfl rfl rfl rfl hfe (Lib.hid hh) (Lib.hid (by rw [hB]; exact hwh (by omega))) (decide_eq_false hp) hc (by rw [hf0]; rfl)
  · have hp : ¬ 64 ≤ precS f := fun hp => by have := hex (hp1 hp) (Or.inl hp); omega
    have hf3 : (f == 3) = false := beq_eq_false_iff_ne.2 (fun h => hp (h3p h))
    cases hh : hasB (k % 4) b
    · exact fb_20_n k f m b m2 _ _ _ aft _ _ _ _ _ w hf (Lib.hid rfl) (Lib.hid rfl) (Lib.hid hfl) hf3 rfl rfl rfl rfl rfl hfe (Lib.hid hh)
    · cases hc : decide (fewK (k % 4) b < 2 ^ (precS f).toNat)
      · exact fb_20_d k f m b m2 _ _ _ aft _ _ _ _ _ w hf (Lib.hid rfl) (Lib.hid rfl) (Lib.hid hfl) hf3 rfl rfl rfl rfl rfl hfe (Lib.hid hh) (decide_eq_false hp) hc
      · have hf0 : f = 0 := by
          rcases Int.lt_or_le f 1 with h1 | h1
          · omega
          · have hc2 := hcast.symm.trans hc
            rw [few_has (k % 4) b hk0 hh, decide_eq_true_eq] at hc2
            have := hex h1 (Or.inr hc2); omega
        exact fb_20_c k f m b m2 _ _ _ aft _ _ _ _ _ w hf (Lib.hid rfl) (Lib.hid rfl) (Lib.hid hfl) hf3 rfl rfl rfl rfl rfl hfe (Lib.hid hh) (decide_eq_false hp) hc (by rw [hf0]; rfl)
end Go.Proofs.YtmebfamfbdhlmaaDoor
