/- The contract of format.Make by the sign; the exponent's ranges inside. (The walks are printed by make.py.) -/
import Derived.Test.YtkpjeceofcfnkaaGreatDoorFormat2
import Derived.Test.YtkpjeceofcfnkaaGreatDoorLin
set_option maxRecDepth 100000
set_option maxHeartbeats 8000000
set_option linter.unusedSimpArgs false
set_option linter.unusedVariables false
namespace Go.Hb
/-- The bits of a sign, an exponent field and a fraction. -/
def makeF (f : Int) (neg : Bool) (exp : Int) (frac : Nat) : Nat :=
  if 4 ≤ f then 0 else (if exp < 0 ∨ 1048576 < exp then 0 else exp.toNat) % 2 ^ (widthS f - precS f).toNat * 2 ^ (precS f - 1).toNat + frac % 2 ^ (precS f - 1).toNat + (if neg then 2 ^ (widthS f - 1).toNat else 0)
end Go.Hb
namespace Go.Proofs.YtkpjeceofcfnkaaGreatDoor
open Go.RowKit Go.Hb
theorem mk_lt (f : Int) (x : Nat) (h0 : 0 ≤ f) (hf : f < 4) : x % 2 ^ (widthS f - precS f).toNat * 2 ^ (precS f - 1).toNat + 2 ^ (precS f - 1).toNat ≤ 2 ^ (widthS f - 1).toNat := by
  obtain ⟨b1, b2, b3, b4, b5, b6⟩ := fmt_bd f h0 hf
  have e : (2 : Nat) ^ (widthS f - 1).toNat = 2 ^ (widthS f - precS f).toNat * 2 ^ (precS f - 1).toNat := by rw [← Nat.pow_add]; congr 1; omega
  have h := Nat.mod_lt x (Nat.two_pow_pos (widthS f - precS f).toNat)
  have := Nat.mul_le_mul_right (2 ^ (precS f - 1).toNat) (Nat.succ_le_of_lt h)
  rw [e]
  rw [Nat.succ_mul] at this
  exact this
theorem mk_pow (f : Int) (h0 : 0 ≤ f) (hf : f < 4) : 2 ^ (widthS f - 1).toNat ≤ 170141183460469231731687303715884105728 := by
  obtain ⟨b1, b2, b3, b4, b5, b6⟩ := fmt_bd f h0 hf
  have : (2 : Nat) ^ (widthS f - 1).toNat ≤ 2 ^ 127 := Nat.pow_le_pow_right (by omega) (by omega)
  omega
theorem mk_z (f e : Int) (h0 : 0 ≤ f) (hf : f < 4) : cat (hi (lsh (lowN (cat 0 e) (widthS f - precS f)) (precS f - 1))) (lo (lsh (lowN (cat 0 e) (widthS f - precS f)) (precS f - 1))) = lsh (lowN (cat 0 e) (widthS f - precS f)) (precS f - 1) := by
  have h1 := mk_lt f (cat 0 e) h0 hf
  have h2 := mk_pow f h0 hf
  have h3 := Nat.two_pow_pos (precS f - 1).toNat
  apply cat_hl
  unfold lsh lowN at *
  omega
theorem mk_sum (f e : Int) (x : Nat) (h0 : 0 ≤ f) (hf : f < 4) : cat (hi (lsh (lowN (cat 0 e) (widthS f - precS f)) (precS f - 1) + lowN x (precS f - 1))) (lo (lsh (lowN (cat 0 e) (widthS f - precS f)) (precS f - 1) + lowN x (precS f - 1))) = lsh (lowN (cat 0 e) (widthS f - precS f)) (precS f - 1) + lowN x (precS f - 1) := by
  have h1 := mk_lt f (cat 0 e) h0 hf
  have h2 := mk_pow f h0 hf
  have h3 := Nat.mod_lt x (Nat.two_pow_pos (precS f - 1).toNat)
  apply cat_hl
  unfold lsh lowN at *
  omega
theorem mk_one (f : Int) (h0 : 0 ≤ f) (hf : f < 4) : cat (hi (lsh (cat 0 1) (widthS f - 1))) (lo (lsh (cat 0 1) (widthS f - 1))) = lsh (cat 0 1) (widthS f - 1) := by
  have h2 := mk_pow f h0 hf
  apply cat_hl
  have : cat 0 1 = 1 := rfl
  unfold lsh
  rw [this]
  omega
theorem makeF_f (f e : Int) (x : Nat) (hf : f < 4) (e0 : 0 ≤ e) (e1 : e ≤ 1048576) : makeF f false e x = lsh (lowN (cat 0 e) (widthS f - precS f)) (precS f - 1) + lowN x (precS f - 1) := by
  have ce : cat 0 e = e.toNat := by unfold cat; omega
  unfold makeF lsh lowN
  rw [if_neg (by omega), if_neg (by omega), ce]
  simp
theorem makeF_t (f e : Int) (x : Nat) (hf : f < 4) (e0 : 0 ≤ e) (e1 : e ≤ 1048576) : makeF f true e x = lsh (lowN (cat 0 e) (widthS f - precS f)) (precS f - 1) + lowN x (precS f - 1) + lsh (cat 0 1) (widthS f - 1) := by
  have c1 : cat 0 1 = 1 := rfl
  have ce : cat 0 e = e.toNat := by unfold cat; omega
  unfold makeF lsh lowN
  rw [if_neg (by omega), if_neg (by omega), c1, ce, Nat.one_mul, if_pos rfl]
theorem mk_f (f e n h l x0 x1 y0 y1 z0 z1 s0 s1 : Int) [hU : U8 f] [U64 h] [U64 l] [U64 n] [U64 x0] [U64 x1] [U64 y0] [U64 y1] [U64 z0] [U64 z1] [U64 s0] [U64 s1] (w : World) [hLay : Laid w] (hf : f < 4) (hwe : IntKind.u64.wrap n = n)
    (hq : (decide (e < 0) = false ∧ decide (e > 1048576) = false ∧ e = n) ∨ (decide (e < 0) = true ∧ 0 = n) ∨ (decide (e < 0) = false ∧ decide (e > 1048576) = true ∧ 0 = n))
    (a0 : Hid (hi (lowN (cat 0 n) (widthS f - precS f)) = x0)) (a1 : Hid (lo (lowN (cat 0 n) (widthS f - precS f)) = x1)) (b0 : Hid (hi (lsh (cat x0 x1) (precS f - 1)) = y0)) (b1 : Hid (lo (lsh (cat x0 x1) (precS f - 1)) = y1))
    (c0 : Hid (hi (lowN (cat h l) (precS f - 1)) = z0)) (c1 : Hid (lo (lowN (cat h l) (precS f - 1)) = z1)) (d0 : Hid (hi (cat y0 y1 + cat z0 z1) = s0)) (d1 : Hid (lo (cat y0 y1 + cat z0 z1) = s1)) :
    Calls Tryz.prog 54 #[.int .u8 f, .bool false, .int .i64 e, .agg #[.int .u64 (h), .int .u64 (l)]] w fun en w' => en = .returned (.agg #[.int .u64 (s0), .int .u64 (s1)]) ∧ Below w.heap.size w w' := by
  obtain ⟨b1', b2', b3', b4', b5', b6'⟩ := fmt_bd f U8.ge hf
  have hp1 : IntKind.i64.wrap (precS f - 1) = precS f - 1 := IntWalk.i64_in _ (by omega)
  have hp2 : IntKind.i64.wrap (widthS f - 1) = widthS f - 1 := IntWalk.i64_in _ (by omega)
  have hp3 : IntKind.i64.wrap (widthS f - precS f) = widthS f - precS f := IntWalk.i64_in _ (by omega)
  have hw0 : (widthS f == 0) = false := by rw [beq_eq_false_iff_ne]; omega
  go_enter Tryz.func54, Tryz.ntmps54
  skip
  (go_wp2_with fail; refine (format_of _ _).mono ?_; rintro en v1 ⟨rfl, hB_v1⟩; have lay_v1 := laid_after hB_v1; have cc1 := cl hB_v1 (show World.cell? _ ⟨w.heap.size, 0, none⟩ = some (.int .u64 h) by go_simp); have cc2 := cl hB_v1 (show World.cell? _ ⟨w.heap.size, 1, none⟩ = some (.int .u64 l) by go_simp); obtain ⟨cc3, fcc3⟩ := pf hB_v1 (show World.cell? _ ⟨w.heap.size + 1, 0, none⟩ = some (.int .u64 0) by go_simp) (by go_simp); obtain ⟨cc4, fcc4⟩ := pf hB_v1 (show World.cell? _ ⟨w.heap.size + 1, 1, none⟩ = some (.int .u64 0) by go_simp) (by go_simp); have hs_v1 := hB_v1.size; (try simp only [World.size_alloc, World.size_setCell, World.size_drew] at hs_v1); have hBW : Below w.heap.size w v1 := below_after (w := w) (by go_grown) hB_v1; have hn_v1 := an (nl cc1) (nl cc3); clear hB_v1)
  rcases hq with ⟨q1, q2, rfl⟩ | ⟨q1, rfl⟩ | ⟨q1, q2, rfl⟩
  all_goals (
  go_upto_region 6 with fail
  ((first | refine wp_rename ?_ | refine goal_rename ?_); intro W6 hw_W6; have hG := named cc1 W6 (by rw [hw_W6]; first | with_reducible exact drewN_below (Below.refl _ _) _ | go_grown); replace cc1 := cl hG cc1; replace cc2 := cl hG cc2; replace fcc3 := fl hG fcc3 cc3; replace cc3 := cl hG cc3; replace fcc4 := fl hG fcc4 cc4; replace cc4 := cl hG cc4; have cc5 : W6.cell? ⟨v1.heap.size, 0, none⟩ = some (.int .i64 (widthS f)) := (by rw [hw_W6]; go_simp); have cc6 : W6.cell? ⟨v1.heap.size, 1, none⟩ = some (.int .i64 (precS f)) := (by rw [hw_W6]; go_simp); have cc7 : W6.cell? ⟨v1.heap.size, 2, none⟩ = some (.int .i64 (emaxS f)) := (by rw [hw_W6]; go_simp); replace hBW := below_after hBW hG; have hs_W6 := hG.size; clear hG; have hn_W6 := an (nl cc1) (an (nl cc3) (nl cc5)); have lay_W6 : Laid W6 := Laid.below (w := w) (by assumption) hBW; clear hw_W6)
  refine Lin.wp_region_lin (by kernel_rfl) (by intro _ _ d _ _ h; cases d <;> exact h) (by kernel_rfl) (fun w' => Below W6.heap.size W6 w' ∧ w'.cell? ⟨v1.heap.size, 0, none⟩ = some (.int .i64 (widthS f)) ∧ w'.cell? ⟨v1.heap.size, 1, none⟩ = some (.int .i64 (precS f)) ∧ w'.cell? ⟨v1.heap.size, 2, none⟩ = some (.int .i64 (emaxS f))) ⟨(Below.refl _ _).drew, by go_simp, by go_simp, by go_simp⟩ ?_
  simp only [List.length_cons, List.length_nil, Nat.reduceAdd]
  refine Lin.Blk.out ?_
  iterate 15 (first | refine Lin.bl_rest rfl ?_ | (refine Lin.bl_val rfl rfl (by first | rfl | kernel_rfl) ?_; apply Exists.intro; refine ⟨fun w' hw' => ?_, ?_⟩; (focus (have hBw := hw'.1; have hSw := hw'.2; clear hw'; (try dsimp only at hBw hSw); have lay' : Laid w' := Laid.below lay_W6 hBw; go_simp; first | with_reducible exact Lin.lin_value | with_reducible exact Lin.lin_skip | exact Lin.lin_ret (format_low _ _ _ (by omega) (by omega) _) (by rw [a0.out, a1.out]) | exact Lin.lin_ret (shift_Left' _ _ _ _) (by rw [b0.out, b1.out]))); (try simp only [Act.put, List.setIfInBounds_toArray, List.set_cons_zero, List.set_cons_succ])))
  refine Lin.bl_end ?_
  refine Lin.new1 W6.heap.size (fun wa wb hc hb => ⟨hc.1.trans (hb.mono hc.1.size), cell_later hb hc.2.1, cell_later hb hc.2.2.1, cell_later hb hc.2.2.2⟩) (fun wa hc => hc.1.size) 13 _ rfl rfl (by kernel_rfl) (by kernel_rfl) rfl (.agg #[.int .u64 0, .int .u64 0]) (by intro t ht; cases ht <;> (intro w; kernel_rfl)) ?_
  intro g X hw_X lo_g ho_g
  have hb_X := hw_X.1; clear hw_X
  have lay_X : Laid X := Laid.below lay_W6 hb_X
  (replace cc1 := cl hb_X cc1; replace cc2 := cl hb_X cc2; replace fcc3 := fl hb_X fcc3 cc3; replace cc3 := cl hb_X cc3; replace fcc4 := fl hb_X fcc4 cc4; replace cc4 := cl hb_X cc4; replace cc5 := cl hb_X cc5; replace cc6 := cl hb_X cc6; replace cc7 := cl hb_X cc7; replace hBW := below_after hBW hb_X; have hsb_X := hb_X.size; have hn_X := an (nl cc1) (an (nl cc3) (nl cc5)))
  have hi_g := Lin.heap_lt ho_g
  have cc8 : X.cell? ⟨g, 0, none⟩ = some (.int .u64 0) := Lin.heap_cell ho_g rfl; have fcc8 : X.frozen? ⟨g, 0, none⟩ = false := Lin.heap_free ho_g
  have cc9 : X.cell? ⟨g, 1, none⟩ = some (.int .u64 0) := Lin.heap_cell ho_g rfl; have fcc9 : X.frozen? ⟨g, 1, none⟩ = false := Lin.heap_free ho_g
  clear ho_g
  have hN_X : g ≠ X.heap.size ∧ X.heap.size ≠ g ∧ w.heap.size ≤ g := (by omega)
  unfold Lin.ptrOf
  (try simp only [Act.put, List.setIfInBounds_toArray, List.set_cons_zero, List.set_cons_succ])
  have hM_X : w.heap.size ≠ g ∧ g ≠ w.heap.size ∧ w.heap.size + 1 ≠ g ∧ g ≠ w.heap.size + 1 ∧ v1.heap.size ≠ g ∧ g ≠ v1.heap.size := (by omega)
  (refine wpAny_ready (rs := [14]) (by kernel_rfl) (by simp) ?_; refine AllReady.cons rfl (fun K hK => ?_) AllReady.nil; go_simp; refine hK _ _ ?_; clear hK K)
  refine wpAny_done (by kernel_rfl) ?_ _
  apply_assumption
  ((first | refine wp_rename ?_ | refine goal_rename ?_); intro Xs hw_Xs; replace cc1 := rn hw_Xs cc1 (by go_simp); replace cc2 := rn hw_Xs cc2 (by go_simp); replace cc3 := rn hw_Xs cc3 (by go_simp); replace fcc3 := rf hw_Xs fcc3 (by go_simp); replace cc4 := rn hw_Xs cc4 (by go_simp); replace fcc4 := rf hw_Xs fcc4 (by go_simp); replace cc5 := rn hw_Xs cc5 (by go_simp); replace cc6 := rn hw_Xs cc6 (by go_simp); replace cc7 := rn hw_Xs cc7 (by go_simp); replace cc8 : Xs.cell? ⟨g, 0, none⟩ = some (.int .u64 y0) := (by rw [hw_Xs]; go_simp); replace fcc8 := rf hw_Xs fcc8 (by go_simp); replace cc9 : Xs.cell? ⟨g, 1, none⟩ = some (.int .u64 y1) := (by rw [hw_Xs]; go_simp); replace fcc9 := rf hw_Xs fcc9 (by go_simp); replace hBW : Below w.heap.size w Xs := (by rw [hw_Xs]; (first | with_reducible exact drewN_below (by assumption) _ | go_grown)); have hn_Xs := an (nl cc1) (an (nl cc3) (an (nl cc5) (nl cc8))); have lay_Xs : Laid Xs := Laid.below (w := w) (by assumption) hBW; clear hw_Xs)
  go_upto_region 7 with fail
  ((first | refine wp_rename ?_ | refine goal_rename ?_); intro W7 hw_W7; have hG := named cc1 W7 (by rw [hw_W7]; first | with_reducible exact drewN_below (Below.refl _ _) _ | go_grown); replace cc1 := cl hG cc1; replace cc2 := cl hG cc2; replace fcc3 := fl hG fcc3 cc3; replace cc3 := cl hG cc3; replace fcc4 := fl hG fcc4 cc4; replace cc4 := cl hG cc4; replace cc5 := cl hG cc5; replace cc6 := cl hG cc6; replace cc7 := cl hG cc7; replace fcc8 := fl hG fcc8 cc8; replace cc8 := cl hG cc8; replace fcc9 := fl hG fcc9 cc9; replace cc9 := cl hG cc9; replace hBW := below_after hBW hG; have hs_W7 := hG.size; clear hG; have hn_W7 := an (nl cc1) (an (nl cc3) (an (nl cc5) (nl cc8))); have lay_W7 : Laid W7 := Laid.below (w := w) (by assumption) hBW; clear hw_W7)
  refine Lin.wp_region_lin (by kernel_rfl) (by intro _ _ d _ _ h; cases d <;> exact h) (by kernel_rfl) (fun w' => Below W7.heap.size W7 w' ∧ w'.cell? ⟨w.heap.size, 0, none⟩ = some (.int .u64 h) ∧ w'.cell? ⟨w.heap.size, 1, none⟩ = some (.int .u64 l) ∧ w'.cell? ⟨v1.heap.size, 0, none⟩ = some (.int .i64 (widthS f)) ∧ w'.cell? ⟨v1.heap.size, 1, none⟩ = some (.int .i64 (precS f)) ∧ w'.cell? ⟨v1.heap.size, 2, none⟩ = some (.int .i64 (emaxS f)) ∧ w'.cell? ⟨g, 0, none⟩ = some (.int .u64 y0) ∧ w'.cell? ⟨g, 1, none⟩ = some (.int .u64 y1)) ⟨(Below.refl _ _).drew, by go_simp, by go_simp, by go_simp, by go_simp, by go_simp, by go_simp, by go_simp⟩ ?_
  simp only [List.length_cons, List.length_nil, Nat.reduceAdd]
  refine Lin.Blk.out ?_
  iterate 8 (first | refine Lin.bl_rest rfl ?_ | (refine Lin.bl_val rfl rfl (by first | rfl | kernel_rfl) ?_; apply Exists.intro; refine ⟨fun w' hw' => ?_, ?_⟩; (focus (have hBw := hw'.1; have hSw := hw'.2; clear hw'; (try dsimp only at hBw hSw); have lay' : Laid w' := Laid.below lay_W7 hBw; go_simp; first | with_reducible exact Lin.lin_value | with_reducible exact Lin.lin_skip | exact Lin.lin_ret (format_low _ _ _ (by omega) (by omega) _) (by rw [c0.out, c1.out]) | exact Lin.lin_ret (word_Add _ _ _ _ _) (by rw [d0.out, d1.out]))); (try simp only [Act.put, List.setIfInBounds_toArray, List.set_cons_zero, List.set_cons_succ])))
  iterate 2 (refine Lin.bl_loose rfl rfl rfl ?_; apply Exists.intro; refine ⟨fun w' => ?_, ?_⟩; (focus (go_simp; try with_reducible rfl)); (try simp only [Act.put, List.setIfInBounds_toArray, List.set_cons_zero, List.set_cons_succ]))
  (first | refine Lin.bl_rest rfl ?_ | (refine Lin.bl_val rfl rfl (by first | rfl | kernel_rfl) ?_; apply Exists.intro; refine ⟨fun w' hw' => ?_, ?_⟩; (focus (have hBw := hw'.1; have hSw := hw'.2; clear hw'; (try dsimp only at hBw hSw); have lay' : Laid w' := Laid.below lay_W7 hBw; go_simp; first | with_reducible exact Lin.lin_value | with_reducible exact Lin.lin_skip | exact Lin.lin_ret (format_low _ _ _ (by omega) (by omega) _) (by rw [c0.out, c1.out]) | exact Lin.lin_ret (word_Add _ _ _ _ _) (by rw [d0.out, d1.out]))); (try simp only [Act.put, List.setIfInBounds_toArray, List.set_cons_zero, List.set_cons_succ])))
  refine Lin.bl_end ?_
  refine Lin.fin0 (fun wa wb hc hb => ⟨hc.1.trans (hb.mono hc.1.size), cell_later hb hc.2.1, cell_later hb hc.2.2.1, cell_later hb hc.2.2.2.1, cell_later hb hc.2.2.2.2.1, cell_later hb hc.2.2.2.2.2.1, cell_later hb hc.2.2.2.2.2.2.1, cell_later hb hc.2.2.2.2.2.2.2⟩) (by kernel_rfl) ?_
  intro Y hw_Y
  have hb_Y := hw_Y.1; clear hw_Y
  have lay_Y : Laid Y := Laid.below lay_W7 hb_Y
  (replace cc1 := cl hb_Y cc1; replace cc2 := cl hb_Y cc2; replace fcc3 := fl hb_Y fcc3 cc3; replace cc3 := cl hb_Y cc3; replace fcc4 := fl hb_Y fcc4 cc4; replace cc4 := cl hb_Y cc4; replace cc5 := cl hb_Y cc5; replace cc6 := cl hb_Y cc6; replace cc7 := cl hb_Y cc7; replace fcc8 := fl hb_Y fcc8 cc8; replace cc8 := cl hb_Y cc8; replace fcc9 := fl hb_Y fcc9 cc9; replace cc9 := cl hb_Y cc9; replace hBW := below_after hBW hb_Y; have hsb_Y := hb_Y.size; have hn_Y := an (nl cc1) (an (nl cc3) (an (nl cc5) (nl cc8))))
  (refine wpAny_ready (rs := [10]) (by kernel_rfl) (by simp) ?_; refine AllReady.cons rfl (fun K hK => ?_) AllReady.nil; go_simp; refine hK _ _ ?_; clear hK K)
  refine wpAny_done (by kernel_rfl) ?_ _
  apply_assumption
  ((first | refine wp_rename ?_ | refine goal_rename ?_); intro Ys hw_Ys; replace cc1 := rn hw_Ys cc1 (by go_simp); replace cc2 := rn hw_Ys cc2 (by go_simp); replace cc3 := rn hw_Ys cc3 (by go_simp); replace fcc3 := rf hw_Ys fcc3 (by go_simp); replace cc4 := rn hw_Ys cc4 (by go_simp); replace fcc4 := rf hw_Ys fcc4 (by go_simp); replace cc5 := rn hw_Ys cc5 (by go_simp); replace cc6 := rn hw_Ys cc6 (by go_simp); replace cc7 := rn hw_Ys cc7 (by go_simp); replace cc8 : Ys.cell? ⟨g, 0, none⟩ = some (.int .u64 s0) := (by rw [hw_Ys]; go_simp); replace fcc8 := rf hw_Ys fcc8 (by go_simp); replace cc9 : Ys.cell? ⟨g, 1, none⟩ = some (.int .u64 s1) := (by rw [hw_Ys]; go_simp); replace fcc9 := rf hw_Ys fcc9 (by go_simp); replace hBW : Below w.heap.size w Ys := (by rw [hw_Ys]; (first | with_reducible exact drewN_below (by assumption) _ | go_grown)); have hn_Ys := an (nl cc1) (an (nl cc3) (an (nl cc5) (nl cc8))); have lay_Ys : Laid Ys := Laid.below (w := w) (by assumption) hBW; clear hw_Ys)
  go_wp2_with fail
  refine bodyPost_ret (by simp [results, Tryz.results54, go_sem, cc3, cc4]; try rfl) rfl ?_
  exact ⟨rfl, by go_grown⟩)
theorem mk_t (f e n h l x0 x1 y0 y1 z0 z1 s0 s1 o0 o1 r0 r1 : Int) [hU : U8 f] [U64 h] [U64 l] [U64 n] [U64 x0] [U64 x1] [U64 y0] [U64 y1] [U64 z0] [U64 z1] [U64 s0] [U64 s1] [U64 o0] [U64 o1] [U64 r0] [U64 r1] (w : World) [hLay : Laid w] (hf : f < 4) (hwe : IntKind.u64.wrap n = n)
    (hq : (decide (e < 0) = false ∧ decide (e > 1048576) = false ∧ e = n) ∨ (decide (e < 0) = true ∧ 0 = n) ∨ (decide (e < 0) = false ∧ decide (e > 1048576) = true ∧ 0 = n))
    (a0 : Hid (hi (lowN (cat 0 n) (widthS f - precS f)) = x0)) (a1 : Hid (lo (lowN (cat 0 n) (widthS f - precS f)) = x1)) (b0 : Hid (hi (lsh (cat x0 x1) (precS f - 1)) = y0)) (b1 : Hid (lo (lsh (cat x0 x1) (precS f - 1)) = y1))
    (c0 : Hid (hi (lowN (cat h l) (precS f - 1)) = z0)) (c1 : Hid (lo (lowN (cat h l) (precS f - 1)) = z1)) (d0 : Hid (hi (cat y0 y1 + cat z0 z1) = s0)) (d1 : Hid (lo (cat y0 y1 + cat z0 z1) = s1))
    (i0 : Hid (hi (lsh (cat 0 1) (widthS f - 1)) = o0)) (i1 : Hid (lo (lsh (cat 0 1) (widthS f - 1)) = o1)) (j0 : Hid (hi (cat s0 s1 + cat o0 o1) = r0)) (j1 : Hid (lo (cat s0 s1 + cat o0 o1) = r1)) :
    Calls Tryz.prog 54 #[.int .u8 f, .bool true, .int .i64 e, .agg #[.int .u64 (h), .int .u64 (l)]] w fun en w' => en = .returned (.agg #[.int .u64 (r0), .int .u64 (r1)]) ∧ Below w.heap.size w w' := by
  obtain ⟨b1', b2', b3', b4', b5', b6'⟩ := fmt_bd f U8.ge hf
  have hp1 : IntKind.i64.wrap (precS f - 1) = precS f - 1 := IntWalk.i64_in _ (by omega)
  have hp2 : IntKind.i64.wrap (widthS f - 1) = widthS f - 1 := IntWalk.i64_in _ (by omega)
  have hp3 : IntKind.i64.wrap (widthS f - precS f) = widthS f - precS f := IntWalk.i64_in _ (by omega)
  have hw0 : (widthS f == 0) = false := by rw [beq_eq_false_iff_ne]; omega
  go_enter Tryz.func54, Tryz.ntmps54
  skip
  (go_wp2_with fail; refine (format_of _ _).mono ?_; rintro en v1 ⟨rfl, hB_v1⟩; have lay_v1 := laid_after hB_v1; have cc1 := cl hB_v1 (show World.cell? _ ⟨w.heap.size, 0, none⟩ = some (.int .u64 h) by go_simp); have cc2 := cl hB_v1 (show World.cell? _ ⟨w.heap.size, 1, none⟩ = some (.int .u64 l) by go_simp); obtain ⟨cc3, fcc3⟩ := pf hB_v1 (show World.cell? _ ⟨w.heap.size + 1, 0, none⟩ = some (.int .u64 0) by go_simp) (by go_simp); obtain ⟨cc4, fcc4⟩ := pf hB_v1 (show World.cell? _ ⟨w.heap.size + 1, 1, none⟩ = some (.int .u64 0) by go_simp) (by go_simp); have hs_v1 := hB_v1.size; (try simp only [World.size_alloc, World.size_setCell, World.size_drew] at hs_v1); have hBW : Below w.heap.size w v1 := below_after (w := w) (by go_grown) hB_v1; have hn_v1 := an (nl cc1) (nl cc3); clear hB_v1)
  rcases hq with ⟨q1, q2, rfl⟩ | ⟨q1, rfl⟩ | ⟨q1, q2, rfl⟩
  all_goals (
  go_upto_region 6 with fail
  ((first | refine wp_rename ?_ | refine goal_rename ?_); intro W6 hw_W6; have hG := named cc1 W6 (by rw [hw_W6]; first | with_reducible exact drewN_below (Below.refl _ _) _ | go_grown); replace cc1 := cl hG cc1; replace cc2 := cl hG cc2; replace fcc3 := fl hG fcc3 cc3; replace cc3 := cl hG cc3; replace fcc4 := fl hG fcc4 cc4; replace cc4 := cl hG cc4; have cc5 : W6.cell? ⟨v1.heap.size, 0, none⟩ = some (.int .i64 (widthS f)) := (by rw [hw_W6]; go_simp); have cc6 : W6.cell? ⟨v1.heap.size, 1, none⟩ = some (.int .i64 (precS f)) := (by rw [hw_W6]; go_simp); have cc7 : W6.cell? ⟨v1.heap.size, 2, none⟩ = some (.int .i64 (emaxS f)) := (by rw [hw_W6]; go_simp); replace hBW := below_after hBW hG; have hs_W6 := hG.size; clear hG; have hn_W6 := an (nl cc1) (an (nl cc3) (nl cc5)); have lay_W6 : Laid W6 := Laid.below (w := w) (by assumption) hBW; clear hw_W6)
  refine Lin.wp_region_lin (by kernel_rfl) (by intro _ _ d _ _ h; cases d <;> exact h) (by kernel_rfl) (fun w' => Below W6.heap.size W6 w' ∧ w'.cell? ⟨v1.heap.size, 0, none⟩ = some (.int .i64 (widthS f)) ∧ w'.cell? ⟨v1.heap.size, 1, none⟩ = some (.int .i64 (precS f)) ∧ w'.cell? ⟨v1.heap.size, 2, none⟩ = some (.int .i64 (emaxS f))) ⟨(Below.refl _ _).drew, by go_simp, by go_simp, by go_simp⟩ ?_
  simp only [List.length_cons, List.length_nil, Nat.reduceAdd]
  refine Lin.Blk.out ?_
  iterate 15 (first | refine Lin.bl_rest rfl ?_ | (refine Lin.bl_val rfl rfl (by first | rfl | kernel_rfl) ?_; apply Exists.intro; refine ⟨fun w' hw' => ?_, ?_⟩; (focus (have hBw := hw'.1; have hSw := hw'.2; clear hw'; (try dsimp only at hBw hSw); have lay' : Laid w' := Laid.below lay_W6 hBw; go_simp; first | with_reducible exact Lin.lin_value | with_reducible exact Lin.lin_skip | exact Lin.lin_ret (format_low _ _ _ (by omega) (by omega) _) (by rw [a0.out, a1.out]) | exact Lin.lin_ret (shift_Left' _ _ _ _) (by rw [b0.out, b1.out]))); (try simp only [Act.put, List.setIfInBounds_toArray, List.set_cons_zero, List.set_cons_succ])))
  refine Lin.bl_end ?_
  refine Lin.new1 W6.heap.size (fun wa wb hc hb => ⟨hc.1.trans (hb.mono hc.1.size), cell_later hb hc.2.1, cell_later hb hc.2.2.1, cell_later hb hc.2.2.2⟩) (fun wa hc => hc.1.size) 13 _ rfl rfl (by kernel_rfl) (by kernel_rfl) rfl (.agg #[.int .u64 0, .int .u64 0]) (by intro t ht; cases ht <;> (intro w; kernel_rfl)) ?_
  intro g X hw_X lo_g ho_g
  have hb_X := hw_X.1; clear hw_X
  have lay_X : Laid X := Laid.below lay_W6 hb_X
  (replace cc1 := cl hb_X cc1; replace cc2 := cl hb_X cc2; replace fcc3 := fl hb_X fcc3 cc3; replace cc3 := cl hb_X cc3; replace fcc4 := fl hb_X fcc4 cc4; replace cc4 := cl hb_X cc4; replace cc5 := cl hb_X cc5; replace cc6 := cl hb_X cc6; replace cc7 := cl hb_X cc7; replace hBW := below_after hBW hb_X; have hsb_X := hb_X.size; have hn_X := an (nl cc1) (an (nl cc3) (nl cc5)))
  have hi_g := Lin.heap_lt ho_g
  have cc8 : X.cell? ⟨g, 0, none⟩ = some (.int .u64 0) := Lin.heap_cell ho_g rfl; have fcc8 : X.frozen? ⟨g, 0, none⟩ = false := Lin.heap_free ho_g
  have cc9 : X.cell? ⟨g, 1, none⟩ = some (.int .u64 0) := Lin.heap_cell ho_g rfl; have fcc9 : X.frozen? ⟨g, 1, none⟩ = false := Lin.heap_free ho_g
  clear ho_g
  have hN_X : g ≠ X.heap.size ∧ X.heap.size ≠ g ∧ w.heap.size ≤ g := (by omega)
  unfold Lin.ptrOf
  (try simp only [Act.put, List.setIfInBounds_toArray, List.set_cons_zero, List.set_cons_succ])
  have hM_X : w.heap.size ≠ g ∧ g ≠ w.heap.size ∧ w.heap.size + 1 ≠ g ∧ g ≠ w.heap.size + 1 ∧ v1.heap.size ≠ g ∧ g ≠ v1.heap.size := (by omega)
  (refine wpAny_ready (rs := [14]) (by kernel_rfl) (by simp) ?_; refine AllReady.cons rfl (fun K hK => ?_) AllReady.nil; go_simp; refine hK _ _ ?_; clear hK K)
  refine wpAny_done (by kernel_rfl) ?_ _
  apply_assumption
  ((first | refine wp_rename ?_ | refine goal_rename ?_); intro Xs hw_Xs; replace cc1 := rn hw_Xs cc1 (by go_simp); replace cc2 := rn hw_Xs cc2 (by go_simp); replace cc3 := rn hw_Xs cc3 (by go_simp); replace fcc3 := rf hw_Xs fcc3 (by go_simp); replace cc4 := rn hw_Xs cc4 (by go_simp); replace fcc4 := rf hw_Xs fcc4 (by go_simp); replace cc5 := rn hw_Xs cc5 (by go_simp); replace cc6 := rn hw_Xs cc6 (by go_simp); replace cc7 := rn hw_Xs cc7 (by go_simp); replace cc8 : Xs.cell? ⟨g, 0, none⟩ = some (.int .u64 y0) := (by rw [hw_Xs]; go_simp); replace fcc8 := rf hw_Xs fcc8 (by go_simp); replace cc9 : Xs.cell? ⟨g, 1, none⟩ = some (.int .u64 y1) := (by rw [hw_Xs]; go_simp); replace fcc9 := rf hw_Xs fcc9 (by go_simp); replace hBW : Below w.heap.size w Xs := (by rw [hw_Xs]; (first | with_reducible exact drewN_below (by assumption) _ | go_grown)); have hn_Xs := an (nl cc1) (an (nl cc3) (an (nl cc5) (nl cc8))); have lay_Xs : Laid Xs := Laid.below (w := w) (by assumption) hBW; clear hw_Xs)
  go_upto_region 7 with fail
  ((first | refine wp_rename ?_ | refine goal_rename ?_); intro W7 hw_W7; have hG := named cc1 W7 (by rw [hw_W7]; first | with_reducible exact drewN_below (Below.refl _ _) _ | go_grown); replace cc1 := cl hG cc1; replace cc2 := cl hG cc2; replace fcc3 := fl hG fcc3 cc3; replace cc3 := cl hG cc3; replace fcc4 := fl hG fcc4 cc4; replace cc4 := cl hG cc4; replace cc5 := cl hG cc5; replace cc6 := cl hG cc6; replace cc7 := cl hG cc7; replace fcc8 := fl hG fcc8 cc8; replace cc8 := cl hG cc8; replace fcc9 := fl hG fcc9 cc9; replace cc9 := cl hG cc9; replace hBW := below_after hBW hG; have hs_W7 := hG.size; clear hG; have hn_W7 := an (nl cc1) (an (nl cc3) (an (nl cc5) (nl cc8))); have lay_W7 : Laid W7 := Laid.below (w := w) (by assumption) hBW; clear hw_W7)
  refine Lin.wp_region_lin (by kernel_rfl) (by intro _ _ d _ _ h; cases d <;> exact h) (by kernel_rfl) (fun w' => Below W7.heap.size W7 w' ∧ w'.cell? ⟨w.heap.size, 0, none⟩ = some (.int .u64 h) ∧ w'.cell? ⟨w.heap.size, 1, none⟩ = some (.int .u64 l) ∧ w'.cell? ⟨v1.heap.size, 0, none⟩ = some (.int .i64 (widthS f)) ∧ w'.cell? ⟨v1.heap.size, 1, none⟩ = some (.int .i64 (precS f)) ∧ w'.cell? ⟨v1.heap.size, 2, none⟩ = some (.int .i64 (emaxS f)) ∧ w'.cell? ⟨g, 0, none⟩ = some (.int .u64 y0) ∧ w'.cell? ⟨g, 1, none⟩ = some (.int .u64 y1)) ⟨(Below.refl _ _).drew, by go_simp, by go_simp, by go_simp, by go_simp, by go_simp, by go_simp, by go_simp⟩ ?_
  simp only [List.length_cons, List.length_nil, Nat.reduceAdd]
  refine Lin.Blk.out ?_
  iterate 8 (first | refine Lin.bl_rest rfl ?_ | (refine Lin.bl_val rfl rfl (by first | rfl | kernel_rfl) ?_; apply Exists.intro; refine ⟨fun w' hw' => ?_, ?_⟩; (focus (have hBw := hw'.1; have hSw := hw'.2; clear hw'; (try dsimp only at hBw hSw); have lay' : Laid w' := Laid.below lay_W7 hBw; go_simp; first | with_reducible exact Lin.lin_value | with_reducible exact Lin.lin_skip | exact Lin.lin_ret (format_low _ _ _ (by omega) (by omega) _) (by rw [c0.out, c1.out]) | exact Lin.lin_ret (word_Add _ _ _ _ _) (by rw [d0.out, d1.out]))); (try simp only [Act.put, List.setIfInBounds_toArray, List.set_cons_zero, List.set_cons_succ])))
  iterate 2 (refine Lin.bl_loose rfl rfl rfl ?_; apply Exists.intro; refine ⟨fun w' => ?_, ?_⟩; (focus (go_simp; try with_reducible rfl)); (try simp only [Act.put, List.setIfInBounds_toArray, List.set_cons_zero, List.set_cons_succ]))
  (first | refine Lin.bl_rest rfl ?_ | (refine Lin.bl_val rfl rfl (by first | rfl | kernel_rfl) ?_; apply Exists.intro; refine ⟨fun w' hw' => ?_, ?_⟩; (focus (have hBw := hw'.1; have hSw := hw'.2; clear hw'; (try dsimp only at hBw hSw); have lay' : Laid w' := Laid.below lay_W7 hBw; go_simp; first | with_reducible exact Lin.lin_value | with_reducible exact Lin.lin_skip | exact Lin.lin_ret (format_low _ _ _ (by omega) (by omega) _) (by rw [c0.out, c1.out]) | exact Lin.lin_ret (word_Add _ _ _ _ _) (by rw [d0.out, d1.out]))); (try simp only [Act.put, List.setIfInBounds_toArray, List.set_cons_zero, List.set_cons_succ])))
  refine Lin.bl_end ?_
  refine Lin.fin0 (fun wa wb hc hb => ⟨hc.1.trans (hb.mono hc.1.size), cell_later hb hc.2.1, cell_later hb hc.2.2.1, cell_later hb hc.2.2.2.1, cell_later hb hc.2.2.2.2.1, cell_later hb hc.2.2.2.2.2.1, cell_later hb hc.2.2.2.2.2.2.1, cell_later hb hc.2.2.2.2.2.2.2⟩) (by kernel_rfl) ?_
  intro Y hw_Y
  have hb_Y := hw_Y.1; clear hw_Y
  have lay_Y : Laid Y := Laid.below lay_W7 hb_Y
  (replace cc1 := cl hb_Y cc1; replace cc2 := cl hb_Y cc2; replace fcc3 := fl hb_Y fcc3 cc3; replace cc3 := cl hb_Y cc3; replace fcc4 := fl hb_Y fcc4 cc4; replace cc4 := cl hb_Y cc4; replace cc5 := cl hb_Y cc5; replace cc6 := cl hb_Y cc6; replace cc7 := cl hb_Y cc7; replace fcc8 := fl hb_Y fcc8 cc8; replace cc8 := cl hb_Y cc8; replace fcc9 := fl hb_Y fcc9 cc9; replace cc9 := cl hb_Y cc9; replace hBW := below_after hBW hb_Y; have hsb_Y := hb_Y.size; have hn_Y := an (nl cc1) (an (nl cc3) (an (nl cc5) (nl cc8))))
  (refine wpAny_ready (rs := [10]) (by kernel_rfl) (by simp) ?_; refine AllReady.cons rfl (fun K hK => ?_) AllReady.nil; go_simp; refine hK _ _ ?_; clear hK K)
  refine wpAny_done (by kernel_rfl) ?_ _
  apply_assumption
  ((first | refine wp_rename ?_ | refine goal_rename ?_); intro Ys hw_Ys; replace cc1 := rn hw_Ys cc1 (by go_simp); replace cc2 := rn hw_Ys cc2 (by go_simp); replace cc3 := rn hw_Ys cc3 (by go_simp); replace fcc3 := rf hw_Ys fcc3 (by go_simp); replace cc4 := rn hw_Ys cc4 (by go_simp); replace fcc4 := rf hw_Ys fcc4 (by go_simp); replace cc5 := rn hw_Ys cc5 (by go_simp); replace cc6 := rn hw_Ys cc6 (by go_simp); replace cc7 := rn hw_Ys cc7 (by go_simp); replace cc8 : Ys.cell? ⟨g, 0, none⟩ = some (.int .u64 s0) := (by rw [hw_Ys]; go_simp); replace fcc8 := rf hw_Ys fcc8 (by go_simp); replace cc9 : Ys.cell? ⟨g, 1, none⟩ = some (.int .u64 s1) := (by rw [hw_Ys]; go_simp); replace fcc9 := rf hw_Ys fcc9 (by go_simp); replace hBW : Below w.heap.size w Ys := (by rw [hw_Ys]; (first | with_reducible exact drewN_below (by assumption) _ | go_grown)); have hn_Ys := an (nl cc1) (an (nl cc3) (an (nl cc5) (nl cc8))); have lay_Ys : Laid Ys := Laid.below (w := w) (by assumption) hBW; clear hw_Ys)
  go_upto_region 9 with fail
  ((first | refine wp_rename ?_ | refine goal_rename ?_); intro W9 hw_W9; have hG := named cc1 W9 (by rw [hw_W9]; first | with_reducible exact drewN_below (Below.refl _ _) _ | go_grown); replace cc1 := cl hG cc1; replace cc2 := cl hG cc2; replace fcc3 := fl hG fcc3 cc3; replace cc3 := cl hG cc3; replace fcc4 := fl hG fcc4 cc4; replace cc4 := cl hG cc4; replace cc5 := cl hG cc5; replace cc6 := cl hG cc6; replace cc7 := cl hG cc7; replace fcc8 := fl hG fcc8 cc8; replace cc8 := cl hG cc8; replace fcc9 := fl hG fcc9 cc9; replace cc9 := cl hG cc9; replace hBW := below_after hBW hG; have hs_W9 := hG.size; clear hG; have hn_W9 := an (nl cc1) (an (nl cc3) (an (nl cc5) (nl cc8))); have lay_W9 : Laid W9 := Laid.below (w := w) (by assumption) hBW; clear hw_W9)
  refine Lin.wp_region_lin (by kernel_rfl) (by intro _ _ d _ _ h; cases d <;> exact h) (by kernel_rfl) (fun w' => Below W9.heap.size W9 w' ∧ w'.cell? ⟨v1.heap.size, 0, none⟩ = some (.int .i64 (widthS f)) ∧ w'.cell? ⟨v1.heap.size, 1, none⟩ = some (.int .i64 (precS f)) ∧ w'.cell? ⟨v1.heap.size, 2, none⟩ = some (.int .i64 (emaxS f)) ∧ w'.cell? ⟨g, 0, none⟩ = some (.int .u64 s0) ∧ w'.cell? ⟨g, 1, none⟩ = some (.int .u64 s1)) ⟨(Below.refl _ _).drew, by go_simp, by go_simp, by go_simp, by go_simp, by go_simp⟩ ?_
  simp only [List.length_cons, List.length_nil, Nat.reduceAdd]
  refine Lin.Blk.out ?_
  iterate 8 (first | refine Lin.bl_rest rfl ?_ | (refine Lin.bl_val rfl rfl (by first | rfl | kernel_rfl) ?_; apply Exists.intro; refine ⟨fun w' hw' => ?_, ?_⟩; (focus (have hBw := hw'.1; have hSw := hw'.2; clear hw'; (try dsimp only at hBw hSw); have lay' : Laid w' := Laid.below lay_W9 hBw; go_simp; first | with_reducible exact Lin.lin_value | with_reducible exact Lin.lin_skip | exact Lin.lin_ret (shift_Left' _ _ _ _) (by rw [i0.out, i1.out]) | exact Lin.lin_ret (word_Add _ _ _ _ _) (by rw [j0.out, j1.out]))); (try simp only [Act.put, List.setIfInBounds_toArray, List.set_cons_zero, List.set_cons_succ])))
  iterate 2 (refine Lin.bl_loose rfl rfl rfl ?_; apply Exists.intro; refine ⟨fun w' => ?_, ?_⟩; (focus (go_simp; try with_reducible rfl)); (try simp only [Act.put, List.setIfInBounds_toArray, List.set_cons_zero, List.set_cons_succ]))
  (first | refine Lin.bl_rest rfl ?_ | (refine Lin.bl_val rfl rfl (by first | rfl | kernel_rfl) ?_; apply Exists.intro; refine ⟨fun w' hw' => ?_, ?_⟩; (focus (have hBw := hw'.1; have hSw := hw'.2; clear hw'; (try dsimp only at hBw hSw); have lay' : Laid w' := Laid.below lay_W9 hBw; go_simp; first | with_reducible exact Lin.lin_value | with_reducible exact Lin.lin_skip | exact Lin.lin_ret (shift_Left' _ _ _ _) (by rw [i0.out, i1.out]) | exact Lin.lin_ret (word_Add _ _ _ _ _) (by rw [j0.out, j1.out]))); (try simp only [Act.put, List.setIfInBounds_toArray, List.set_cons_zero, List.set_cons_succ])))
  refine Lin.bl_end ?_
  refine Lin.fin0 (fun wa wb hc hb => ⟨hc.1.trans (hb.mono hc.1.size), cell_later hb hc.2.1, cell_later hb hc.2.2.1, cell_later hb hc.2.2.2.1, cell_later hb hc.2.2.2.2.1, cell_later hb hc.2.2.2.2.2⟩) (by kernel_rfl) ?_
  intro Z hw_Z
  have hb_Z := hw_Z.1; clear hw_Z
  have lay_Z : Laid Z := Laid.below lay_W9 hb_Z
  (replace cc1 := cl hb_Z cc1; replace cc2 := cl hb_Z cc2; replace fcc3 := fl hb_Z fcc3 cc3; replace cc3 := cl hb_Z cc3; replace fcc4 := fl hb_Z fcc4 cc4; replace cc4 := cl hb_Z cc4; replace cc5 := cl hb_Z cc5; replace cc6 := cl hb_Z cc6; replace cc7 := cl hb_Z cc7; replace fcc8 := fl hb_Z fcc8 cc8; replace cc8 := cl hb_Z cc8; replace fcc9 := fl hb_Z fcc9 cc9; replace cc9 := cl hb_Z cc9; replace hBW := below_after hBW hb_Z; have hsb_Z := hb_Z.size; have hn_Z := an (nl cc1) (an (nl cc3) (an (nl cc5) (nl cc8))))
  (refine wpAny_ready (rs := [10]) (by kernel_rfl) (by simp) ?_; refine AllReady.cons rfl (fun K hK => ?_) AllReady.nil; go_simp; refine hK _ _ ?_; clear hK K)
  refine wpAny_done (by kernel_rfl) ?_ _
  apply_assumption
  ((first | refine wp_rename ?_ | refine goal_rename ?_); intro Zs hw_Zs; replace cc1 := rn hw_Zs cc1 (by go_simp); replace cc2 := rn hw_Zs cc2 (by go_simp); replace cc3 := rn hw_Zs cc3 (by go_simp); replace fcc3 := rf hw_Zs fcc3 (by go_simp); replace cc4 := rn hw_Zs cc4 (by go_simp); replace fcc4 := rf hw_Zs fcc4 (by go_simp); replace cc5 := rn hw_Zs cc5 (by go_simp); replace cc6 := rn hw_Zs cc6 (by go_simp); replace cc7 := rn hw_Zs cc7 (by go_simp); replace cc8 : Zs.cell? ⟨g, 0, none⟩ = some (.int .u64 r0) := (by rw [hw_Zs]; go_simp); replace fcc8 := rf hw_Zs fcc8 (by go_simp); replace cc9 : Zs.cell? ⟨g, 1, none⟩ = some (.int .u64 r1) := (by rw [hw_Zs]; go_simp); replace fcc9 := rf hw_Zs fcc9 (by go_simp); replace hBW : Below w.heap.size w Zs := (by rw [hw_Zs]; (first | with_reducible exact drewN_below (by assumption) _ | go_grown)); have hn_Zs := an (nl cc1) (an (nl cc3) (an (nl cc5) (nl cc8))); have lay_Zs : Laid Zs := Laid.below (w := w) (by assumption) hBW; clear hw_Zs)
  go_wp2_with fail
  refine bodyPost_ret (by simp [results, Tryz.results54, go_sem, cc3, cc4]; try rfl) rfl ?_
  exact ⟨rfl, by go_grown⟩)
end Go.Proofs.YtkpjeceofcfnkaaGreatDoor
