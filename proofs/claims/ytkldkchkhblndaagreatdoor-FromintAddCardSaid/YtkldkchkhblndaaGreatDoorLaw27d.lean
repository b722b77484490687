/- FromintAdd: the sum of two integers' numbers. -/
import Derived.Test.YtkldkchkhblndaaGreatDoorSumF
import Derived.Test.YtkldkchkhblndaaGreatDoorFromP
import Derived.Test.YtkldkchkhblndaaGreatDoorFromint
set_option linter.unusedSimpArgs false
set_option linter.unusedVariables false
namespace Go.Proofs.YtkldkchkhblndaaGreatDoor
open Go.RowKit Go.Hb
theorem from3 (f m : Int) (aft : Bool) (b : Int) [hb : U64 b] : fromB 3 f m b = resB f m false 255 b.toNat ∧ fromFl 3 f m aft b = resFl f m aft false 255 b.toNat := by
  have b0 := hb.ge
  have n1 : negK 3 b = false := by unfold negK; simp
  have s1 : sizeK 3 b = b := by unfold sizeK; rw [if_neg (by rw [n1]; decide)]; rfl
  constructor
  · unfold fromB; rw [if_pos (by decide), n1, s1, wide_one _ b0]
  · unfold fromFl; rw [if_pos (by decide), n1, s1, wide_one _ b0]
theorem from_add (f m : Int) (aft : Bool) (a b : Int) [ha : U64 a] [hb : U64 b] [hs : U64 (a + b)] (h0 : 0 ≤ f) (hf : f < 4) (hm : m ≤ 4) (za : fromFl 3 f m aft a = 0) (zb : fromFl 3 f m aft b = 0) :
    addB f m (fromB 3 f m a) (fromB 3 f m b) = fromB 3 f m (a + b) ∧ addFl f m aft (fromB 3 f m a) (fromB 3 f m b) = fromFl 3 f m aft (a + b) := by
  have a0 := ha.ge
  have a1 := ha.lt
  have b0 := hb.ge
  have b1 := hb.lt
  have s1 := hs.lt
  have h64 : (2 : Nat) ^ 64 = 18446744073709551616 := by decide
  have l1 : a.toNat < 2 ^ 256 := Nat.lt_trans (show a.toNat < 2 ^ 64 by omega) (by decide)
  have l2 : b.toNat < 2 ^ 256 := Nat.lt_trans (show b.toNat < 2 ^ 64 by omega) (by decide)
  have l3 : (a + b).toNat < 2 ^ 256 := Nat.lt_trans (show (a + b).toNat < 2 ^ 64 by omega) (by decide)
  obtain ⟨ea, fa⟩ := from3 f m aft a
  obtain ⟨eb, fb⟩ := from3 f m aft b
  obtain ⟨es, fs⟩ := from3 f m aft (a + b)
  rw [fa] at za
  rw [fb] at zb
  obtain ⟨c1, g1, v1⟩ := from_exact f m aft false a.toNat h0 hf hm l1 za
  obtain ⟨c2, g2, v2⟩ := from_exact f m aft false b.toNat h0 hf hm l2 zb
  obtain ⟨r1, r2⟩ := add_code f m aft _ _ h0 hf hm c1 c2
  have hX : sumX f (resB f m false 255 a.toNat) (resB f m false 255 b.toNat) = (a + b).toNat * 2 ^ (255 + KK).toNat := by
    unfold sumX exactX
    rw [g1, g2, if_pos rfl, v1, v2, ← Nat.add_mul, ← Int.toNat_add a0 b0]
  have hG : sumG f m (resB f m false 255 a.toNat) (resB f m false 255 b.toNat) = false := by
    unfold sumG
    rw [g1, g2]
    split
    · unfold nouB; simp
    · rfl
  rw [ea, eb, es, fs, r1, r2, hG, hX, res_code f m false 255 _ h0 hf hm l3, res_flag f m aft false 255 _ h0 hf hm l3]
  unfold codeR
  rw [numX_255]
  exact ⟨rfl, rfl⟩
set_option maxRecDepth 100000 in
set_option maxHeartbeats 8000000 in
theorem fa_nf (f m a b n n' p0 p1 q0 q1 pf qf : Int) (aft : Bool) [hU : U8 f] [hM : U8 m] [ha : U64 a] [hb : U64 b] [hn : U64 n] [hn' : U64 n'] (w : World) [hLay : Laid w] [U64 p0] [U64 p1] [U64 q0] [U64 q1]
    (ta : a.tmod 4611686018427387904 = n) (ta2 : a % 4611686018427387904 = n) (tb : b.tmod 4611686018427387904 = n') (tb2 : b % 4611686018427387904 = n') (hf : ¬ f < 4)
    (a1 : Hid (hi (fromB 3 f m n) = p0)) (a2 : Hid (lo (fromB 3 f m n) = p1)) (a3 : Hid (fromFl 3 f m aft n = pf))
    (b1 : Hid (hi (fromB 3 f m n') = q0)) (b2 : Hid (lo (fromB 3 f m n') = q1)) (b3 : Hid (fromFl 3 f m aft n' = qf)) :
    Calls Tryz.prog 9 #[.int .u8 f, .agg #[.int .u8 m, .bool aft], .int .u64 a, .int .u64 b] w fun en w' => en = .returned (.bool true) ∧ Below w.heap.size w w' := by
  have hfd : decide (f < 4) = false := decide_eq_false hf
  have q := fun W a b c => eql_res_same W a b c
  clear hf
  go_enter Tryz.func9, Tryz.ntmps9
  skip
  go_upto_region 2 with fail
  ((first | refine wp_rename ?_ | refine goal_rename ?_); intro W2 hw_W2; have cc1 : W2.cell? ⟨w.heap.size, 0, none⟩ = some (.int .u8 m) := (by rw [hw_W2]; go_simp); have cc2 : W2.cell? ⟨w.heap.size, 1, none⟩ = some (.bool aft) := (by rw [hw_W2]; go_simp); have hBW : Below w.heap.size w W2 := (by rw [hw_W2]; (first | with_reducible exact drewN_below (by assumption) _ | go_grown)); have hn_W2 := nl cc1; have lay_W2 : Laid W2 := Laid.below (w := w) (by assumption) hBW; clear hw_W2)
  refine Lin.wp_region_lin (by kernel_rfl) (by intro _ _ d _ _ h; cases d <;> exact h) (by kernel_rfl) (fun w' => Below W2.heap.size W2 w' ∧ w'.cell? ⟨w.heap.size, 0, none⟩ = some (.int .u8 m) ∧ w'.cell? ⟨w.heap.size, 1, none⟩ = some (.bool aft)) ⟨(Below.refl _ _).drew, by go_simp, by go_simp⟩ ?_
  simp only [List.length_cons, List.length_nil, Nat.reduceAdd]
  refine Lin.Blk.out ?_
  iterate 3 (refine Lin.bl_val rfl rfl rfl ?_; apply Exists.intro; refine ⟨fun w' hw' => ?_, ?_⟩; (focus (have hBw := hw'.1; have hSw := hw'.2; clear hw'; (try dsimp only at hBw hSw); go_simp; first | with_reducible exact Lin.lin_value | with_reducible exact Lin.lin_skip)); (try simp only [Act.put, List.setIfInBounds_toArray, List.set_cons_zero, List.set_cons_succ]))
  (refine Lin.bl_val rfl rfl rfl ?_; apply Exists.intro; refine ⟨fun w' hw' => ?_, ?_⟩; (focus (have hBw := hw'.1; have hSw := hw'.2; clear hw'; (try dsimp only at hBw hSw); have lay' : Laid w' := Laid.below lay_W2 hBw; go_simp; first | exact Lin.lin_ret (fromint_From _ _ _ _ _ _) (by rw [a1.out, a2.out, a3.out]) | exact Lin.lin_ret (fromint_From _ _ _ _ _ _) (by rw [b1.out, b2.out, b3.out]))); (try simp only [Act.put, List.setIfInBounds_toArray, List.set_cons_zero, List.set_cons_succ]))
  iterate 3 (refine Lin.bl_val rfl rfl rfl ?_; apply Exists.intro; refine ⟨fun w' hw' => ?_, ?_⟩; (focus (have hBw := hw'.1; have hSw := hw'.2; clear hw'; (try dsimp only at hBw hSw); go_simp; first | with_reducible exact Lin.lin_value | with_reducible exact Lin.lin_skip)); (try simp only [Act.put, List.setIfInBounds_toArray, List.set_cons_zero, List.set_cons_succ]))
  (refine Lin.bl_val rfl rfl rfl ?_; apply Exists.intro; refine ⟨fun w' hw' => ?_, ?_⟩; (focus (have hBw := hw'.1; have hSw := hw'.2; clear hw'; (try dsimp only at hBw hSw); have lay' : Laid w' := Laid.below lay_W2 hBw; go_simp; first | exact Lin.lin_ret (fromint_From _ _ _ _ _ _) (by rw [a1.out, a2.out, a3.out]) | exact Lin.lin_ret (fromint_From _ _ _ _ _ _) (by rw [b1.out, b2.out, b3.out]))); (try simp only [Act.put, List.setIfInBounds_toArray, List.set_cons_zero, List.set_cons_succ]))
  refine Lin.bl_rest rfl ?_
  refine Lin.bl_rest rfl ?_
  refine Lin.bl_rest rfl ?_
  refine Lin.bl_rest rfl ?_
  refine Lin.bl_end ?_
  refine Lin.new2 W2.heap.size (fun wa wb hc hb => ⟨hc.1.trans (hb.mono hc.1.size), cell_later hb hc.2.1, cell_later hb hc.2.2⟩) (fun wa hc => hc.1.size) 8 9 _ _ rfl rfl (by decide) (by kernel_rfl) rfl rfl (by kernel_rfl) (by kernel_rfl) (by kernel_rfl) (by kernel_rfl) rfl rfl (.agg #[.int .u64 0, .int .u64 0, .int .u8 0]) (.agg #[.int .u64 0, .int .u64 0, .int .u8 0]) (by intro t ht; cases ht <;> (intro w; kernel_rfl)) (by intro t ht; cases ht <;> (intro w; kernel_rfl)) ?_
  intro g k X hw_X lo_g lo_k ne_g_k ho_g ho_k
  have nf_k_g : k ≠ g := Ne.symm ne_g_k
  have hb_X := hw_X.1; clear hw_X
  have lay_X : Laid X := Laid.below lay_W2 hb_X
  (replace cc1 := cl hb_X cc1; replace cc2 := cl hb_X cc2; replace hBW := below_after hBW hb_X; have hsb_X := hb_X.size; have hn_X := nl cc1)
  have hi_g := Lin.heap_lt ho_g
  have cc3 : X.cell? ⟨g, 0, none⟩ = some (.int .u64 0) := Lin.heap_cell ho_g rfl; have fcc3 : X.frozen? ⟨g, 0, none⟩ = false := Lin.heap_free ho_g
  have cc4 : X.cell? ⟨g, 1, none⟩ = some (.int .u64 0) := Lin.heap_cell ho_g rfl; have fcc4 : X.frozen? ⟨g, 1, none⟩ = false := Lin.heap_free ho_g
  have cc5 : X.cell? ⟨g, 2, none⟩ = some (.int .u8 0) := Lin.heap_cell ho_g rfl; have fcc5 : X.frozen? ⟨g, 2, none⟩ = false := Lin.heap_free ho_g
  clear ho_g
  have hi_k := Lin.heap_lt ho_k
  have cc6 : X.cell? ⟨k, 0, none⟩ = some (.int .u64 0) := Lin.heap_cell ho_k rfl; have fcc6 : X.frozen? ⟨k, 0, none⟩ = false := Lin.heap_free ho_k
  have cc7 : X.cell? ⟨k, 1, none⟩ = some (.int .u64 0) := Lin.heap_cell ho_k rfl; have fcc7 : X.frozen? ⟨k, 1, none⟩ = false := Lin.heap_free ho_k
  have cc8 : X.cell? ⟨k, 2, none⟩ = some (.int .u8 0) := Lin.heap_cell ho_k rfl; have fcc8 : X.frozen? ⟨k, 2, none⟩ = false := Lin.heap_free ho_k
  clear ho_k
  have hN_X : g ≠ X.heap.size ∧ X.heap.size ≠ g ∧ w.heap.size ≤ g ∧ k ≠ X.heap.size ∧ X.heap.size ≠ k ∧ w.heap.size ≤ k := (by omega)
  unfold Lin.ptrOf
  (try simp only [Act.put, List.setIfInBounds_toArray, List.set_cons_zero, List.set_cons_succ])
  have hM_X : w.heap.size ≠ g ∧ g ≠ w.heap.size ∧ w.heap.size ≠ k ∧ k ≠ w.heap.size := (by omega)
  (refine wpAny_ready (rs := [10]) (by kernel_rfl) (by simp) ?_; refine AllReady.cons rfl (fun K hK => ?_) AllReady.nil; go_simp; refine hK _ _ ?_; clear hK K)
  (refine wpAny_ready (rs := [11]) (by kernel_rfl) (by simp) ?_; refine AllReady.cons rfl (fun K hK => ?_) AllReady.nil; go_simp; refine hK _ _ ?_; clear hK K)
  refine wpAny_done (by kernel_rfl) ?_ _
  apply_assumption
  ((first | refine wp_rename ?_ | refine goal_rename ?_); intro Xs hw_Xs; replace cc1 := rn hw_Xs cc1 (by go_simp); replace cc2 := rn hw_Xs cc2 (by go_simp); replace cc3 : Xs.cell? ⟨g, 0, none⟩ = some (.int .u64 p0) := (by rw [hw_Xs]; go_simp); replace fcc3 := rf hw_Xs fcc3 (by go_simp); replace cc4 : Xs.cell? ⟨g, 1, none⟩ = some (.int .u64 p1) := (by rw [hw_Xs]; go_simp); replace fcc4 := rf hw_Xs fcc4 (by go_simp); replace cc5 : Xs.cell? ⟨g, 2, none⟩ = some (.int .u8 pf) := (by rw [hw_Xs]; go_simp); replace fcc5 := rf hw_Xs fcc5 (by go_simp); replace cc6 : Xs.cell? ⟨k, 0, none⟩ = some (.int .u64 q0) := (by rw [hw_Xs]; go_simp); replace fcc6 := rf hw_Xs fcc6 (by go_simp); replace cc7 : Xs.cell? ⟨k, 1, none⟩ = some (.int .u64 q1) := (by rw [hw_Xs]; go_simp); replace fcc7 := rf hw_Xs fcc7 (by go_simp); replace cc8 : Xs.cell? ⟨k, 2, none⟩ = some (.int .u8 qf) := (by rw [hw_Xs]; go_simp); replace fcc8 := rf hw_Xs fcc8 (by go_simp); replace hBW : Below w.heap.size w Xs := (by rw [hw_Xs]; (first | with_reducible exact drewN_below (by assumption) _ | go_grown)); have hn_Xs := an (nl cc1) (an (nl cc3) (nl cc6)); have lay_Xs : Laid Xs := Laid.below (w := w) (by assumption) hBW; clear hw_Xs)
  (go_wp2_with fail; refine (format_Known_b _ _).mono ?_; rintro en v1 ⟨rfl, hB_v1⟩; have lay_v1 := laid_after hB_v1; have hG := cell_grown cc1 (by go_grown) hB_v1; replace cc1 := cl hG cc1; replace cc2 := cl hG cc2; replace fcc3 := fl hG fcc3 cc3; replace cc3 := cl hG cc3; replace fcc4 := fl hG fcc4 cc4; replace cc4 := cl hG cc4; replace fcc5 := fl hG fcc5 cc5; replace cc5 := cl hG cc5; replace fcc6 := fl hG fcc6 cc6; replace cc6 := cl hG cc6; replace fcc7 := fl hG fcc7 cc7; replace cc7 := cl hG cc7; replace fcc8 := fl hG fcc8 cc8; replace cc8 := cl hG cc8; have hs_v1 := hG.size; clear hG; replace hBW : Below w.heap.size w v1 := below_after (w := w) (by go_grown) hB_v1; have hn_v1 := an (nl cc1) (an (nl cc3) (nl cc6)); clear hB_v1)
  (go_wp2_with fail; refine (law27_goes _).mono ?_; rintro en v3 ⟨rfl, hB_v3⟩; have lay_v3 := laid_after hB_v3; have hG := cell_grown cc1 (by go_grown) hB_v3; replace cc1 := cl hG cc1; replace cc2 := cl hG cc2; replace fcc3 := fl hG fcc3 cc3; replace cc3 := cl hG cc3; replace fcc4 := fl hG fcc4 cc4; replace cc4 := cl hG cc4; replace fcc5 := fl hG fcc5 cc5; replace cc5 := cl hG cc5; replace fcc6 := fl hG fcc6 cc6; replace cc6 := cl hG cc6; replace fcc7 := fl hG fcc7 cc7; replace cc7 := cl hG cc7; replace fcc8 := fl hG fcc8 cc8; replace cc8 := cl hG cc8; have hs_v3 := hG.size; clear hG; replace hBW : Below w.heap.size w v3 := below_after (w := w) (by go_grown) hB_v3; have hn_v3 := an (nl cc1) (an (nl cc3) (nl cc6)); clear hB_v3)
  go_wp2_with fail
  go_returns
  exact ⟨rfl, by go_grown⟩
set_option maxRecDepth 100000 in
set_option maxHeartbeats 8000000 in
theorem fa_nm (f m a b n n' p0 p1 q0 q1 pf qf : Int) (aft : Bool) [hU : U8 f] [hM : U8 m] [ha : U64 a] [hb : U64 b] [hn : U64 n] [hn' : U64 n'] (w : World) [hLay : Laid w] [U64 p0] [U64 p1] [U64 q0] [U64 q1]
    (ta : a.tmod 4611686018427387904 = n) (ta2 : a % 4611686018427387904 = n) (tb : b.tmod 4611686018427387904 = n') (tb2 : b % 4611686018427387904 = n') (hf : f < 4) (hm : ¬ m ≤ 4)
    (a1 : Hid (hi (fromB 3 f m n) = p0)) (a2 : Hid (lo (fromB 3 f m n) = p1)) (a3 : Hid (fromFl 3 f m aft n = pf))
    (b1 : Hid (hi (fromB 3 f m n') = q0)) (b2 : Hid (lo (fromB 3 f m n') = q1)) (b3 : Hid (fromFl 3 f m aft n' = qf)) :
    Calls Tryz.prog 9 #[.int .u8 f, .agg #[.int .u8 m, .bool aft], .int .u64 a, .int .u64 b] w fun en w' => en = .returned (.bool true) ∧ Below w.heap.size w w' := by
  have hfd : decide (f < 4) = true := decide_eq_true hf
  have hmd : decide (m ≤ 4) = false := decide_eq_false hm
  have q := fun W a b c => eql_res_same W a b c
  clear hf hm
  go_enter Tryz.func9, Tryz.ntmps9
  skip
  go_upto_region 2 with fail
  ((first | refine wp_rename ?_ | refine goal_rename ?_); intro W2 hw_W2; have cc1 : W2.cell? ⟨w.heap.size, 0, none⟩ = some (.int .u8 m) := (by rw [hw_W2]; go_simp); have cc2 : W2.cell? ⟨w.heap.size, 1, none⟩ = some (.bool aft) := (by rw [hw_W2]; go_simp); have hBW : Below w.heap.size w W2 := (by rw [hw_W2]; (first | with_reducible exact drewN_below (by assumption) _ | go_grown)); have hn_W2 := nl cc1; have lay_W2 : Laid W2 := Laid.below (w := w) (by assumption) hBW; clear hw_W2)
  refine Lin.wp_region_lin (by kernel_rfl) (by intro _ _ d _ _ h; cases d <;> exact h) (by kernel_rfl) (fun w' => Below W2.heap.size W2 w' ∧ w'.cell? ⟨w.heap.size, 0, none⟩ = some (.int .u8 m) ∧ w'.cell? ⟨w.heap.size, 1, none⟩ = some (.bool aft)) ⟨(Below.refl _ _).drew, by go_simp, by go_simp⟩ ?_
  simp only [List.length_cons, List.length_nil, Nat.reduceAdd]
  refine Lin.Blk.out ?_
  iterate 3 (refine Lin.bl_val rfl rfl rfl ?_; apply Exists.intro; refine ⟨fun w' hw' => ?_, ?_⟩; (focus (have hBw := hw'.1; have hSw := hw'.2; clear hw'; (try dsimp only at hBw hSw); go_simp; first | with_reducible exact Lin.lin_value | with_reducible exact Lin.lin_skip)); (try simp only [Act.put, List.setIfInBounds_toArray, List.set_cons_zero, List.set_cons_succ]))
  (refine Lin.bl_val rfl rfl rfl ?_; apply Exists.intro; refine ⟨fun w' hw' => ?_, ?_⟩; (focus (have hBw := hw'.1; have hSw := hw'.2; clear hw'; (try dsimp only at hBw hSw); have lay' : Laid w' := Laid.below lay_W2 hBw; go_simp; first | exact Lin.lin_ret (fromint_From _ _ _ _ _ _) (by rw [a1.out, a2.out, a3.out]) | exact Lin.lin_ret (fromint_From _ _ _ _ _ _) (by rw [b1.out, b2.out, b3.out]))); (try simp only [Act.put, List.setIfInBounds_toArray, List.set_cons_zero, List.set_cons_succ]))
  iterate 3 (refine Lin.bl_val rfl rfl rfl ?_; apply Exists.intro; refine ⟨fun w' hw' => ?_, ?_⟩; (focus (have hBw := hw'.1; have hSw := hw'.2; clear hw'; (try dsimp only at hBw hSw); go_simp; first | with_reducible exact Lin.lin_value | with_reducible exact Lin.lin_skip)); (try simp only [Act.put, List.setIfInBounds_toArray, List.set_cons_zero, List.set_cons_succ]))
  (refine Lin.bl_val rfl rfl rfl ?_; apply Exists.intro; refine ⟨fun w' hw' => ?_, ?_⟩; (focus (have hBw := hw'.1; have hSw := hw'.2; clear hw'; (try dsimp only at hBw hSw); have lay' : Laid w' := Laid.below lay_W2 hBw; go_simp; first | exact Lin.lin_ret (fromint_From _ _ _ _ _ _) (by rw [a1.out, a2.out, a3.out]) | exact Lin.lin_ret (fromint_From _ _ _ _ _ _) (by rw [b1.out, b2.out, b3.out]))); (try simp only [Act.put, List.setIfInBounds_toArray, List.set_cons_zero, List.set_cons_succ]))
  refine Lin.bl_rest rfl ?_
  refine Lin.bl_rest rfl ?_
  refine Lin.bl_rest rfl ?_
  refine Lin.bl_rest rfl ?_
  refine Lin.bl_end ?_
  refine Lin.new2 W2.heap.size (fun wa wb hc hb => ⟨hc.1.trans (hb.mono hc.1.size), cell_later hb hc.2.1, cell_later hb hc.2.2⟩) (fun wa hc => hc.1.size) 8 9 _ _ rfl rfl (by decide) (by kernel_rfl) rfl rfl (by kernel_rfl) (by kernel_rfl) (by kernel_rfl) (by kernel_rfl) rfl rfl (.agg #[.int .u64 0, .int .u64 0, .int .u8 0]) (.agg #[.int .u64 0, .int .u64 0, .int .u8 0]) (by intro t ht; cases ht <;> (intro w; kernel_rfl)) (by intro t ht; cases ht <;> (intro w; kernel_rfl)) ?_
  intro g k X hw_X lo_g lo_k ne_g_k ho_g ho_k
  have nf_k_g : k ≠ g := Ne.symm ne_g_k
  have hb_X := hw_X.1; clear hw_X
  have lay_X : Laid X := Laid.below lay_W2 hb_X
  (replace cc1 := cl hb_X cc1; replace cc2 := cl hb_X cc2; replace hBW := below_after hBW hb_X; have hsb_X := hb_X.size; have hn_X := nl cc1)
  have hi_g := Lin.heap_lt ho_g
  have cc3 : X.cell? ⟨g, 0, none⟩ = some (.int .u64 0) := Lin.heap_cell ho_g rfl; have fcc3 : X.frozen? ⟨g, 0, none⟩ = false := Lin.heap_free ho_g
  have cc4 : X.cell? ⟨g, 1, none⟩ = some (.int .u64 0) := Lin.heap_cell ho_g rfl; have fcc4 : X.frozen? ⟨g, 1, none⟩ = false := Lin.heap_free ho_g
  have cc5 : X.cell? ⟨g, 2, none⟩ = some (.int .u8 0) := Lin.heap_cell ho_g rfl; have fcc5 : X.frozen? ⟨g, 2, none⟩ = false := Lin.heap_free ho_g
  clear ho_g
  have hi_k := Lin.heap_lt ho_k
  have cc6 : X.cell? ⟨k, 0, none⟩ = some (.int .u64 0) := Lin.heap_cell ho_k rfl; have fcc6 : X.frozen? ⟨k, 0, none⟩ = false := Lin.heap_free ho_k
  have cc7 : X.cell? ⟨k, 1, none⟩ = some (.int .u64 0) := Lin.heap_cell ho_k rfl; have fcc7 : X.frozen? ⟨k, 1, none⟩ = false := Lin.heap_free ho_k
  have cc8 : X.cell? ⟨k, 2, none⟩ = some (.int .u8 0) := Lin.heap_cell ho_k rfl; have fcc8 : X.frozen? ⟨k, 2, none⟩ = false := Lin.heap_free ho_k
  clear ho_k
  have hN_X : g ≠ X.heap.size ∧ X.heap.size ≠ g ∧ w.heap.size ≤ g ∧ k ≠ X.heap.size ∧ X.heap.size ≠ k ∧ w.heap.size ≤ k := (by omega)
  unfold Lin.ptrOf
  (try simp only [Act.put, List.setIfInBounds_toArray, List.set_cons_zero, List.set_cons_succ])
  have hM_X : w.heap.size ≠ g ∧ g ≠ w.heap.size ∧ w.heap.size ≠ k ∧ k ≠ w.heap.size := (by omega)
  (refine wpAny_ready (rs := [10]) (by kernel_rfl) (by simp) ?_; refine AllReady.cons rfl (fun K hK => ?_) AllReady.nil; go_simp; refine hK _ _ ?_; clear hK K)
  (refine wpAny_ready (rs := [11]) (by kernel_rfl) (by simp) ?_; refine AllReady.cons rfl (fun K hK => ?_) AllReady.nil; go_simp; refine hK _ _ ?_; clear hK K)
  refine wpAny_done (by kernel_rfl) ?_ _
  apply_assumption
  ((first | refine wp_rename ?_ | refine goal_rename ?_); intro Xs hw_Xs; replace cc1 := rn hw_Xs cc1 (by go_simp); replace cc2 := rn hw_Xs cc2 (by go_simp); replace cc3 : Xs.cell? ⟨g, 0, none⟩ = some (.int .u64 p0) := (by rw [hw_Xs]; go_simp); replace fcc3 := rf hw_Xs fcc3 (by go_simp); replace cc4 : Xs.cell? ⟨g, 1, none⟩ = some (.int .u64 p1) := (by rw [hw_Xs]; go_simp); replace fcc4 := rf hw_Xs fcc4 (by go_simp); replace cc5 : Xs.cell? ⟨g, 2, none⟩ = some (.int .u8 pf) := (by rw [hw_Xs]; go_simp); replace fcc5 := rf hw_Xs fcc5 (by go_simp); replace cc6 : Xs.cell? ⟨k, 0, none⟩ = some (.int .u64 q0) := (by rw [hw_Xs]; go_simp); replace fcc6 := rf hw_Xs fcc6 (by go_simp); replace cc7 : Xs.cell? ⟨k, 1, none⟩ = some (.int .u64 q1) := (by rw [hw_Xs]; go_simp); replace fcc7 := rf hw_Xs fcc7 (by go_simp); replace cc8 : Xs.cell? ⟨k, 2, none⟩ = some (.int .u8 qf) := (by rw [hw_Xs]; go_simp); replace fcc8 := rf hw_Xs fcc8 (by go_simp); replace hBW : Below w.heap.size w Xs := (by rw [hw_Xs]; (first | with_reducible exact drewN_below (by assumption) _ | go_grown)); have hn_Xs := an (nl cc1) (an (nl cc3) (nl cc6)); have lay_Xs : Laid Xs := Laid.below (w := w) (by assumption) hBW; clear hw_Xs)
  (go_wp2_with fail; refine (format_Known_b _ _).mono ?_; rintro en v1 ⟨rfl, hB_v1⟩; have lay_v1 := laid_after hB_v1; have hG := cell_grown cc1 (by go_grown) hB_v1; replace cc1 := cl hG cc1; replace cc2 := cl hG cc2; replace fcc3 := fl hG fcc3 cc3; replace cc3 := cl hG cc3; replace fcc4 := fl hG fcc4 cc4; replace cc4 := cl hG cc4; replace fcc5 := fl hG fcc5 cc5; replace cc5 := cl hG cc5; replace fcc6 := fl hG fcc6 cc6; replace cc6 := cl hG cc6; replace fcc7 := fl hG fcc7 cc7; replace cc7 := cl hG cc7; replace fcc8 := fl hG fcc8 cc8; replace cc8 := cl hG cc8; have hs_v1 := hG.size; clear hG; replace hBW : Below w.heap.size w v1 := below_after (w := w) (by go_grown) hB_v1; have hn_v1 := an (nl cc1) (an (nl cc3) (nl cc6)); clear hB_v1)
  (go_wp2_with fail; refine (mode_Known_b _ _).mono ?_; rintro en v2 ⟨rfl, hB_v2⟩; have lay_v2 := laid_after hB_v2; have hG := cell_grown cc1 (by go_grown) hB_v2; replace cc1 := cl hG cc1; replace cc2 := cl hG cc2; replace fcc3 := fl hG fcc3 cc3; replace cc3 := cl hG cc3; replace fcc4 := fl hG fcc4 cc4; replace cc4 := cl hG cc4; replace fcc5 := fl hG fcc5 cc5; replace cc5 := cl hG cc5; replace fcc6 := fl hG fcc6 cc6; replace cc6 := cl hG cc6; replace fcc7 := fl hG fcc7 cc7; replace cc7 := cl hG cc7; replace fcc8 := fl hG fcc8 cc8; replace cc8 := cl hG cc8; have hs_v2 := hG.size; clear hG; replace hBW : Below w.heap.size w v2 := below_after (w := w) (by go_grown) hB_v2; have hn_v2 := an (nl cc1) (an (nl cc3) (nl cc6)); clear hB_v2)
  (go_wp2_with fail; refine (law27_goes _).mono ?_; rintro en v3 ⟨rfl, hB_v3⟩; have lay_v3 := laid_after hB_v3; have hG := cell_grown cc1 (by go_grown) hB_v3; replace cc1 := cl hG cc1; replace cc2 := cl hG cc2; replace fcc3 := fl hG fcc3 cc3; replace cc3 := cl hG cc3; replace fcc4 := fl hG fcc4 cc4; replace cc4 := cl hG cc4; replace fcc5 := fl hG fcc5 cc5; replace cc5 := cl hG cc5; replace fcc6 := fl hG fcc6 cc6; replace cc6 := cl hG cc6; replace fcc7 := fl hG fcc7 cc7; replace cc7 := cl hG cc7; replace fcc8 := fl hG fcc8 cc8; replace cc8 := cl hG cc8; have hs_v3 := hG.size; clear hG; replace hBW : Below w.heap.size w v3 := below_after (w := w) (by go_grown) hB_v3; have hn_v3 := an (nl cc1) (an (nl cc3) (nl cc6)); clear hB_v3)
  go_wp2_with fail
  go_returns
  exact ⟨rfl, by go_grown⟩
set_option maxRecDepth 100000 in
set_option maxHeartbeats 8000000 in
theorem fa_x (f m a b n n' p0 p1 q0 q1 pf qf : Int) (aft : Bool) [hU : U8 f] [hM : U8 m] [ha : U64 a] [hb : U64 b] [hn : U64 n] [hn' : U64 n'] (w : World) [hLay : Laid w] [U64 p0] [U64 p1] [U64 q0] [U64 q1]
    (ta : a.tmod 4611686018427387904 = n) (ta2 : a % 4611686018427387904 = n) (tb : b.tmod 4611686018427387904 = n') (tb2 : b % 4611686018427387904 = n') (hf : f < 4) (hm : m ≤ 4) (hx : (pf == 0) = false) (hxn : (pf != 0) = true)
    (a1 : Hid (hi (fromB 3 f m n) = p0)) (a2 : Hid (lo (fromB 3 f m n) = p1)) (a3 : Hid (fromFl 3 f m aft n = pf))
    (b1 : Hid (hi (fromB 3 f m n') = q0)) (b2 : Hid (lo (fromB 3 f m n') = q1)) (b3 : Hid (fromFl 3 f m aft n' = qf)) :
    Calls Tryz.prog 9 #[.int .u8 f, .agg #[.int .u8 m, .bool aft], .int .u64 a, .int .u64 b] w fun en w' => en = .returned (.bool true) ∧ Below w.heap.size w w' := by
  have hfd : decide (f < 4) = true := decide_eq_true hf
  have hmd : decide (m ≤ 4) = true := decide_eq_true hm
  have q := fun W a b c => eql_res_same W a b c
  clear hf hm
  go_enter Tryz.func9, Tryz.ntmps9
  skip
  go_upto_region 2 with fail
  ((first | refine wp_rename ?_ | refine goal_rename ?_); intro W2 hw_W2; have cc1 : W2.cell? ⟨w.heap.size, 0, none⟩ = some (.int .u8 m) := (by rw [hw_W2]; go_simp); have cc2 : W2.cell? ⟨w.heap.size, 1, none⟩ = some (.bool aft) := (by rw [hw_W2]; go_simp); have hBW : Below w.heap.size w W2 := (by rw [hw_W2]; (first | with_reducible exact drewN_below (by assumption) _ | go_grown)); have hn_W2 := nl cc1; have lay_W2 : Laid W2 := Laid.below (w := w) (by assumption) hBW; clear hw_W2)
  refine Lin.wp_region_lin (by kernel_rfl) (by intro _ _ d _ _ h; cases d <;> exact h) (by kernel_rfl) (fun w' => Below W2.heap.size W2 w' ∧ w'.cell? ⟨w.heap.size, 0, none⟩ = some (.int .u8 m) ∧ w'.cell? ⟨w.heap.size, 1, none⟩ = some (.bool aft)) ⟨(Below.refl _ _).drew, by go_simp, by go_simp⟩ ?_
  simp only [List.length_cons, List.length_nil, Nat.reduceAdd]
  refine Lin.Blk.out ?_
  iterate 3 (refine Lin.bl_val rfl rfl rfl ?_; apply Exists.intro; refine ⟨fun w' hw' => ?_, ?_⟩; (focus (have hBw := hw'.1; have hSw := hw'.2; clear hw'; (try dsimp only at hBw hSw); go_simp; first | with_reducible exact Lin.lin_value | with_reducible exact Lin.lin_skip)); (try simp only [Act.put, List.setIfInBounds_toArray, List.set_cons_zero, List.set_cons_succ]))
  (refine Lin.bl_val rfl rfl rfl ?_; apply Exists.intro; refine ⟨fun w' hw' => ?_, ?_⟩; (focus (have hBw := hw'.1; have hSw := hw'.2; clear hw'; (try dsimp only at hBw hSw); have lay' : Laid w' := Laid.below lay_W2 hBw; go_simp; first | exact Lin.lin_ret (fromint_From _ _ _ _ _ _) (by rw [a1.out, a2.out, a3.out]) | exact Lin.lin_ret (fromint_From _ _ _ _ _ _) (by rw [b1.out, b2.out, b3.out]))); (try simp only [Act.put, List.setIfInBounds_toArray, List.set_cons_zero, List.set_cons_succ]))
  iterate 3 (refine Lin.bl_val rfl rfl rfl ?_; apply Exists.intro; refine ⟨fun w' hw' => ?_, ?_⟩; (focus (have hBw := hw'.1; have hSw := hw'.2; clear hw'; (try dsimp only at hBw hSw); go_simp; first | with_reducible exact Lin.lin_value | with_reducible exact Lin.lin_skip)); (try simp only [Act.put, List.setIfInBounds_toArray, List.set_cons_zero, List.set_cons_succ]))
  (refine Lin.bl_val rfl rfl rfl ?_; apply Exists.intro; refine ⟨fun w' hw' => ?_, ?_⟩; (focus (have hBw := hw'.1; have hSw := hw'.2; clear hw'; (try dsimp only at hBw hSw); have lay' : Laid w' := Laid.below lay_W2 hBw; go_simp; first | exact Lin.lin_ret (fromint_From _ _ _ _ _ _) (by rw [a1.out, a2.out, a3.out]) | exact Lin.lin_ret (fromint_From _ _ _ _ _ _) (by rw [b1.out, b2.out, b3.out]))); (try simp only [Act.put, List.setIfInBounds_toArray, List.set_cons_zero, List.set_cons_succ]))
  refine Lin.bl_rest rfl ?_
  refine Lin.bl_rest rfl ?_
  refine Lin.bl_rest rfl ?_
  refine Lin.bl_rest rfl ?_
  refine Lin.bl_end ?_
  refine Lin.new2 W2.heap.size (fun wa wb hc hb => ⟨hc.1.trans (hb.mono hc.1.size), cell_later hb hc.2.1, cell_later hb hc.2.2⟩) (fun wa hc => hc.1.size) 8 9 _ _ rfl rfl (by decide) (by kernel_rfl) rfl rfl (by kernel_rfl) (by kernel_rfl) (by kernel_rfl) (by kernel_rfl) rfl rfl (.agg #[.int .u64 0, .int .u64 0, .int .u8 0]) (.agg #[.int .u64 0, .int .u64 0, .int .u8 0]) (by intro t ht; cases ht <;> (intro w; kernel_rfl)) (by intro t ht; cases ht <;> (intro w; kernel_rfl)) ?_
  intro g k X hw_X lo_g lo_k ne_g_k ho_g ho_k
  have nf_k_g : k ≠ g := Ne.symm ne_g_k
  have hb_X := hw_X.1; clear hw_X
  have lay_X : Laid X := Laid.below lay_W2 hb_X
  (replace cc1 := cl hb_X cc1; replace cc2 := cl hb_X cc2; replace hBW := below_after hBW hb_X; have hsb_X := hb_X.size; have hn_X := nl cc1)
  have hi_g := Lin.heap_lt ho_g
  have cc3 : X.cell? ⟨g, 0, none⟩ = some (.int .u64 0) := Lin.heap_cell ho_g rfl; have fcc3 : X.frozen? ⟨g, 0, none⟩ = false := Lin.heap_free ho_g
  have cc4 : X.cell? ⟨g, 1, none⟩ = some (.int .u64 0) := Lin.heap_cell ho_g rfl; have fcc4 : X.frozen? ⟨g, 1, none⟩ = false := Lin.heap_free ho_g
  have cc5 : X.cell? ⟨g, 2, none⟩ = some (.int .u8 0) := Lin.heap_cell ho_g rfl; have fcc5 : X.frozen? ⟨g, 2, none⟩ = false := Lin.heap_free ho_g
  clear ho_g
  have hi_k := Lin.heap_lt ho_k
  have cc6 : X.cell? ⟨k, 0, none⟩ = some (.int .u64 0) := Lin.heap_cell ho_k rfl; have fcc6 : X.frozen? ⟨k, 0, none⟩ = false := Lin.heap_free ho_k
  have cc7 : X.cell? ⟨k, 1, none⟩ = some (.int .u64 0) := Lin.heap_cell ho_k rfl; have fcc7 : X.frozen? ⟨k, 1, none⟩ = false := Lin.heap_free ho_k
  have cc8 : X.cell? ⟨k, 2, none⟩ = some (.int .u8 0) := Lin.heap_cell ho_k rfl; have fcc8 : X.frozen? ⟨k, 2, none⟩ = false := Lin.heap_free ho_k
  clear ho_k
  have hN_X : g ≠ X.heap.size ∧ X.heap.size ≠ g ∧ w.heap.size ≤ g ∧ k ≠ X.heap.size ∧ X.heap.size ≠ k ∧ w.heap.size ≤ k := (by omega)
  unfold Lin.ptrOf
  (try simp only [Act.put, List.setIfInBounds_toArray, List.set_cons_zero, List.set_cons_succ])
  have hM_X : w.heap.size ≠ g ∧ g ≠ w.heap.size ∧ w.heap.size ≠ k ∧ k ≠ w.heap.size := (by omega)
  (refine wpAny_ready (rs := [10]) (by kernel_rfl) (by simp) ?_; refine AllReady.cons rfl (fun K hK => ?_) AllReady.nil; go_simp; refine hK _ _ ?_; clear hK K)
  (refine wpAny_ready (rs := [11]) (by kernel_rfl) (by simp) ?_; refine AllReady.cons rfl (fun K hK => ?_) AllReady.nil; go_simp; refine hK _ _ ?_; clear hK K)
  refine wpAny_done (by kernel_rfl) ?_ _
  apply_assumption
  ((first | refine wp_rename ?_ | refine goal_rename ?_); intro Xs hw_Xs; replace cc1 := rn hw_Xs cc1 (by go_simp); replace cc2 := rn hw_Xs cc2 (by go_simp); replace cc3 : Xs.cell? ⟨g, 0, none⟩ = some (.int .u64 p0) := (by rw [hw_Xs]; go_simp); replace fcc3 := rf hw_Xs fcc3 (by go_simp); replace cc4 : Xs.cell? ⟨g, 1, none⟩ = some (.int .u64 p1) := (by rw [hw_Xs]; go_simp); replace fcc4 := rf hw_Xs fcc4 (by go_simp); replace cc5 : Xs.cell? ⟨g, 2, none⟩ = some (.int .u8 pf) := (by rw [hw_Xs]; go_simp); replace fcc5 := rf hw_Xs fcc5 (by go_simp); replace cc6 : Xs.cell? ⟨k, 0, none⟩ = some (.int .u64 q0) := (by rw [hw_Xs]; go_simp); replace fcc6 := rf hw_Xs fcc6 (by go_simp); replace cc7 : Xs.cell? ⟨k, 1, none⟩ = some (.int .u64 q1) := (by rw [hw_Xs]; go_simp); replace fcc7 := rf hw_Xs fcc7 (by go_simp); replace cc8 : Xs.cell? ⟨k, 2, none⟩ = some (.int .u8 qf) := (by rw [hw_Xs]; go_simp); replace fcc8 := rf hw_Xs fcc8 (by go_simp); replace hBW : Below w.heap.size w Xs := (by rw [hw_Xs]; (first | with_reducible exact drewN_below (by assumption) _ | go_grown)); have hn_Xs := an (nl cc1) (an (nl cc3) (nl cc6)); have lay_Xs : Laid Xs := Laid.below (w := w) (by assumption) hBW; clear hw_Xs)
  (go_wp2_with fail; refine (format_Known_b _ _).mono ?_; rintro en v1 ⟨rfl, hB_v1⟩; have lay_v1 := laid_after hB_v1; have hG := cell_grown cc1 (by go_grown) hB_v1; replace cc1 := cl hG cc1; replace cc2 := cl hG cc2; replace fcc3 := fl hG fcc3 cc3; replace cc3 := cl hG cc3; replace fcc4 := fl hG fcc4 cc4; replace cc4 := cl hG cc4; replace fcc5 := fl hG fcc5 cc5; replace cc5 := cl hG cc5; replace fcc6 := fl hG fcc6 cc6; replace cc6 := cl hG cc6; replace fcc7 := fl hG fcc7 cc7; replace cc7 := cl hG cc7; replace fcc8 := fl hG fcc8 cc8; replace cc8 := cl hG cc8; have hs_v1 := hG.size; clear hG; replace hBW : Below w.heap.size w v1 := below_after (w := w) (by go_grown) hB_v1; have hn_v1 := an (nl cc1) (an (nl cc3) (nl cc6)); clear hB_v1)
  (go_wp2_with fail; refine (mode_Known_b _ _).mono ?_; rintro en v2 ⟨rfl, hB_v2⟩; have lay_v2 := laid_after hB_v2; have hG := cell_grown cc1 (by go_grown) hB_v2; replace cc1 := cl hG cc1; replace cc2 := cl hG cc2; replace fcc3 := fl hG fcc3 cc3; replace cc3 := cl hG cc3; replace fcc4 := fl hG fcc4 cc4; replace cc4 := cl hG cc4; replace fcc5 := fl hG fcc5 cc5; replace cc5 := cl hG cc5; replace fcc6 := fl hG fcc6 cc6; replace cc6 := cl hG cc6; replace fcc7 := fl hG fcc7 cc7; replace cc7 := cl hG cc7; replace fcc8 := fl hG fcc8 cc8; replace cc8 := cl hG cc8; have hs_v2 := hG.size; clear hG; replace hBW : Below w.heap.size w v2 := below_after (w := w) (by go_grown) hB_v2; have hn_v2 := an (nl cc1) (an (nl cc3) (nl cc6)); clear hB_v2)
  (go_wp2_with fail; refine (law27_goes _).mono ?_; rintro en v3 ⟨rfl, hB_v3⟩; have lay_v3 := laid_after hB_v3; have hG := cell_grown cc1 (by go_grown) hB_v3; replace cc1 := cl hG cc1; replace cc2 := cl hG cc2; replace fcc3 := fl hG fcc3 cc3; replace cc3 := cl hG cc3; replace fcc4 := fl hG fcc4 cc4; replace cc4 := cl hG cc4; replace fcc5 := fl hG fcc5 cc5; replace cc5 := cl hG cc5; replace fcc6 := fl hG fcc6 cc6; replace cc6 := cl hG cc6; replace fcc7 := fl hG fcc7 cc7; replace cc7 := cl hG cc7; replace fcc8 := fl hG fcc8 cc8; replace cc8 := cl hG cc8; have hs_v3 := hG.size; clear hG; replace hBW : Below w.heap.size w v3 := below_after (w := w) (by go_grown) hB_v3; have hn_v3 := an (nl cc1) (an (nl cc3) (nl cc6)); clear hB_v3)
  go_wp2_with fail
  go_returns
  exact ⟨rfl, by go_grown⟩
set_option maxRecDepth 100000 in
set_option maxHeartbeats 8000000 in
theorem fa_y (f m a b n n' p0 p1 q0 q1 qf : Int) (aft : Bool) [hU : U8 f] [hM : U8 m] [ha : U64 a] [hb : U64 b] [hn : U64 n] [hn' : U64 n'] (w : World) [hLay : Laid w] [U64 p0] [U64 p1] [U64 q0] [U64 q1]
    (ta : a.tmod 4611686018427387904 = n) (ta2 : a % 4611686018427387904 = n) (tb : b.tmod 4611686018427387904 = n') (tb2 : b % 4611686018427387904 = n') (hf : f < 4) (hm : m ≤ 4) (hy : (qf == 0) = false) (hyn : (qf != 0) = true)
    (a1 : Hid (hi (fromB 3 f m n) = p0)) (a2 : Hid (lo (fromB 3 f m n) = p1)) (a3 : Hid (fromFl 3 f m aft n = 0))
    (b1 : Hid (hi (fromB 3 f m n') = q0)) (b2 : Hid (lo (fromB 3 f m n') = q1)) (b3 : Hid (fromFl 3 f m aft n' = qf)) :
    Calls Tryz.prog 9 #[.int .u8 f, .agg #[.int .u8 m, .bool aft], .int .u64 a, .int .u64 b] w fun en w' => en = .returned (.bool true) ∧ Below w.heap.size w w' := by
  have hfd : decide (f < 4) = true := decide_eq_true hf
  have hmd : decide (m ≤ 4) = true := decide_eq_true hm
  have q := fun W a b c => eql_res_same W a b c
  clear hf hm
  go_enter Tryz.func9, Tryz.ntmps9
  skip
  go_upto_region 2 with fail
  ((first | refine wp_rename ?_ | refine goal_rename ?_); intro W2 hw_W2; have cc1 : W2.cell? ⟨w.heap.size, 0, none⟩ = some (.int .u8 m) := (by rw [hw_W2]; go_simp); have cc2 : W2.cell? ⟨w.heap.size, 1, none⟩ = some (.bool aft) := (by rw [hw_W2]; go_simp); have hBW : Below w.heap.size w W2 := (by rw [hw_W2]; (first | with_reducible exact drewN_below (by assumption) _ | go_grown)); have hn_W2 := nl cc1; have lay_W2 : Laid W2 := Laid.below (w := w) (by assumption) hBW; clear hw_W2)
  refine Lin.wp_region_lin (by kernel_rfl) (by intro _ _ d _ _ h; cases d <;> exact h) (by kernel_rfl) (fun w' => Below W2.heap.size W2 w' ∧ w'.cell? ⟨w.heap.size, 0, none⟩ = some (.int .u8 m) ∧ w'.cell? ⟨w.heap.size, 1, none⟩ = some (.bool aft)) ⟨(Below.refl _ _).drew, by go_simp, by go_simp⟩ ?_
  simp only [List.length_cons, List.length_nil, Nat.reduceAdd]
  refine Lin.Blk.out ?_
  iterate 3 (refine Lin.bl_val rfl rfl rfl ?_; apply Exists.intro; refine ⟨fun w' hw' => ?_, ?_⟩; (focus (have hBw := hw'.1; have hSw := hw'.2; clear hw'; (try dsimp only at hBw hSw); go_simp; first | with_reducible exact Lin.lin_value | with_reducible exact Lin.lin_skip)); (try simp only [Act.put, List.setIfInBounds_toArray, List.set_cons_zero, List.set_cons_succ]))
  (refine Lin.bl_val rfl rfl rfl ?_; apply Exists.intro; refine ⟨fun w' hw' => ?_, ?_⟩; (focus (have hBw := hw'.1; have hSw := hw'.2; clear hw'; (try dsimp only at hBw hSw); have lay' : Laid w' := Laid.below lay_W2 hBw; go_simp; first | exact Lin.lin_ret (fromint_From _ _ _ _ _ _) (by rw [a1.out, a2.out, a3.out]) | exact Lin.lin_ret (fromint_From _ _ _ _ _ _) (by rw [b1.out, b2.out, b3.out]))); (try simp only [Act.put, List.setIfInBounds_toArray, List.set_cons_zero, List.set_cons_succ]))
  iterate 3 (refine Lin.bl_val rfl rfl rfl ?_; apply Exists.intro; refine ⟨fun w' hw' => ?_, ?_⟩; (focus (have hBw := hw'.1; have hSw := hw'.2; clear hw'; (try dsimp only at hBw hSw); go_simp; first | with_reducible exact Lin.lin_value | with_reducible exact Lin.lin_skip)); (try simp only [Act.put, List.setIfInBounds_toArray, List.set_cons_zero, List.set_cons_succ]))
  (refine Lin.bl_val rfl rfl rfl ?_; apply Exists.intro; refine ⟨fun w' hw' => ?_, ?_⟩; (focus (have hBw := hw'.1; have hSw := hw'.2; clear hw'; (try dsimp only at hBw hSw); have lay' : Laid w' := Laid.below lay_W2 hBw; go_simp; first | exact Lin.lin_ret (fromint_From _ _ _ _ _ _) (by rw [a1.out, a2.out, a3.out]) | exact Lin.lin_ret (fromint_From _ _ _ _ _ _) (by rw [b1.out, b2.out, b3.out]))); (try simp only [Act.put, List.setIfInBounds_toArray, List.set_cons_zero, List.set_cons_succ]))
  refine Lin.bl_rest rfl ?_
  refine Lin.bl_rest rfl ?_
  refine Lin.bl_rest rfl ?_
  refine Lin.bl_rest rfl ?_
  refine Lin.bl_end ?_
  refine Lin.new2 W2.heap.size (fun wa wb hc hb => ⟨hc.1.trans (hb.mono hc.1.size), cell_later hb hc.2.1, cell_later hb hc.2.2⟩) (fun wa hc => hc.1.size) 8 9 _ _ rfl rfl (by decide) (by kernel_rfl) rfl rfl (by kernel_rfl) (by kernel_rfl) (by kernel_rfl) (by kernel_rfl) rfl rfl (.agg #[.int .u64 0, .int .u64 0, .int .u8 0]) (.agg #[.int .u64 0, .int .u64 0, .int .u8 0]) (by intro t ht; cases ht <;> (intro w; kernel_rfl)) (by intro t ht; cases ht <;> (intro w; kernel_rfl)) ?_
  intro g k X hw_X lo_g lo_k ne_g_k ho_g ho_k
  have nf_k_g : k ≠ g := Ne.symm ne_g_k
  have hb_X := hw_X.1; clear hw_X
  have lay_X : Laid X := Laid.below lay_W2 hb_X
  (replace cc1 := cl hb_X cc1; replace cc2 := cl hb_X cc2; replace hBW := below_after hBW hb_X; have hsb_X := hb_X.size; have hn_X := nl cc1)
  have hi_g := Lin.heap_lt ho_g
  have cc3 : X.cell? ⟨g, 0, none⟩ = some (.int .u64 0) := Lin.heap_cell ho_g rfl; have fcc3 : X.frozen? ⟨g, 0, none⟩ = false := Lin.heap_free ho_g
  have cc4 : X.cell? ⟨g, 1, none⟩ = some (.int .u64 0) := Lin.heap_cell ho_g rfl; have fcc4 : X.frozen? ⟨g, 1, none⟩ = false := Lin.heap_free ho_g
  have cc5 : X.cell? ⟨g, 2, none⟩ = some (.int .u8 0) := Lin.heap_cell ho_g rfl; have fcc5 : X.frozen? ⟨g, 2, none⟩ = false := Lin.heap_free ho_g
  clear ho_g
  have hi_k := Lin.heap_lt ho_k
  have cc6 : X.cell? ⟨k, 0, none⟩ = some (.int .u64 0) := Lin.heap_cell ho_k rfl; have fcc6 : X.frozen? ⟨k, 0, none⟩ = false := Lin.heap_free ho_k
  have cc7 : X.cell? ⟨k, 1, none⟩ = some (.int .u64 0) := Lin.heap_cell ho_k rfl; have fcc7 : X.frozen? ⟨k, 1, none⟩ = false := Lin.heap_free ho_k
  have cc8 : X.cell? ⟨k, 2, none⟩ = some (.int .u8 0) := Lin.heap_cell ho_k rfl; have fcc8 : X.frozen? ⟨k, 2, none⟩ = false := Lin.heap_free ho_k
  clear ho_k
  have hN_X : g ≠ X.heap.size ∧ X.heap.size ≠ g ∧ w.heap.size ≤ g ∧ k ≠ X.heap.size ∧ X.heap.size ≠ k ∧ w.heap.size ≤ k := (by omega)
  unfold Lin.ptrOf
  (try simp only [Act.put, List.setIfInBounds_toArray, List.set_cons_zero, List.set_cons_succ])
  have hM_X : w.heap.size ≠ g ∧ g ≠ w.heap.size ∧ w.heap.size ≠ k ∧ k ≠ w.heap.size := (by omega)
  (refine wpAny_ready (rs := [10]) (by kernel_rfl) (by simp) ?_; refine AllReady.cons rfl (fun K hK => ?_) AllReady.nil; go_simp; refine hK _ _ ?_; clear hK K)
  (refine wpAny_ready (rs := [11]) (by kernel_rfl) (by simp) ?_; refine AllReady.cons rfl (fun K hK => ?_) AllReady.nil; go_simp; refine hK _ _ ?_; clear hK K)
  refine wpAny_done (by kernel_rfl) ?_ _
  apply_assumption
  ((first | refine wp_rename ?_ | refine goal_rename ?_); intro Xs hw_Xs; replace cc1 := rn hw_Xs cc1 (by go_simp); replace cc2 := rn hw_Xs cc2 (by go_simp); replace cc3 : Xs.cell? ⟨g, 0, none⟩ = some (.int .u64 p0) := (by rw [hw_Xs]; go_simp); replace fcc3 := rf hw_Xs fcc3 (by go_simp); replace cc4 : Xs.cell? ⟨g, 1, none⟩ = some (.int .u64 p1) := (by rw [hw_Xs]; go_simp); replace fcc4 := rf hw_Xs fcc4 (by go_simp); replace cc5 : Xs.cell? ⟨g, 2, none⟩ = some (.int .u8 0) := (by rw [hw_Xs]; go_simp); replace fcc5 := rf hw_Xs fcc5 (by go_simp); replace cc6 : Xs.cell? ⟨k, 0, none⟩ = some (.int .u64 q0) := (by rw [hw_Xs]; go_simp); replace fcc6 := rf hw_Xs fcc6 (by go_simp); replace cc7 : Xs.cell? ⟨k, 1, none⟩ = some (.int .u64 q1) := (by rw [hw_Xs]; go_simp); replace fcc7 := rf hw_Xs fcc7 (by go_simp); replace cc8 : Xs.cell? ⟨k, 2, none⟩ = some (.int .u8 qf) := (by rw [hw_Xs]; go_simp); replace fcc8 := rf hw_Xs fcc8 (by go_simp); replace hBW : Below w.heap.size w Xs := (by rw [hw_Xs]; (first | with_reducible exact drewN_below (by assumption) _ | go_grown)); have hn_Xs := an (nl cc1) (an (nl cc3) (nl cc6)); have lay_Xs : Laid Xs := Laid.below (w := w) (by assumption) hBW; clear hw_Xs)
  (go_wp2_with fail; refine (format_Known_b _ _).mono ?_; rintro en v1 ⟨rfl, hB_v1⟩; have lay_v1 := laid_after hB_v1; have hG := cell_grown cc1 (by go_grown) hB_v1; replace cc1 := cl hG cc1; replace cc2 := cl hG cc2; replace fcc3 := fl hG fcc3 cc3; replace cc3 := cl hG cc3; replace fcc4 := fl hG fcc4 cc4; replace cc4 := cl hG cc4; replace fcc5 := fl hG fcc5 cc5; replace cc5 := cl hG cc5; replace fcc6 := fl hG fcc6 cc6; replace cc6 := cl hG cc6; replace fcc7 := fl hG fcc7 cc7; replace cc7 := cl hG cc7; replace fcc8 := fl hG fcc8 cc8; replace cc8 := cl hG cc8; have hs_v1 := hG.size; clear hG; replace hBW : Below w.heap.size w v1 := below_after (w := w) (by go_grown) hB_v1; have hn_v1 := an (nl cc1) (an (nl cc3) (nl cc6)); clear hB_v1)
  (go_wp2_with fail; refine (mode_Known_b _ _).mono ?_; rintro en v2 ⟨rfl, hB_v2⟩; have lay_v2 := laid_after hB_v2; have hG := cell_grown cc1 (by go_grown) hB_v2; replace cc1 := cl hG cc1; replace cc2 := cl hG cc2; replace fcc3 := fl hG fcc3 cc3; replace cc3 := cl hG cc3; replace fcc4 := fl hG fcc4 cc4; replace cc4 := cl hG cc4; replace fcc5 := fl hG fcc5 cc5; replace cc5 := cl hG cc5; replace fcc6 := fl hG fcc6 cc6; replace cc6 := cl hG cc6; replace fcc7 := fl hG fcc7 cc7; replace cc7 := cl hG cc7; replace fcc8 := fl hG fcc8 cc8; replace cc8 := cl hG cc8; have hs_v2 := hG.size; clear hG; replace hBW : Below w.heap.size w v2 := below_after (w := w) (by go_grown) hB_v2; have hn_v2 := an (nl cc1) (an (nl cc3) (nl cc6)); clear hB_v2)
  (go_wp2_with fail; refine (law27_goes _).mono ?_; rintro en v3 ⟨rfl, hB_v3⟩; have lay_v3 := laid_after hB_v3; have hG := cell_grown cc1 (by go_grown) hB_v3; replace cc1 := cl hG cc1; replace cc2 := cl hG cc2; replace fcc3 := fl hG fcc3 cc3; replace cc3 := cl hG cc3; replace fcc4 := fl hG fcc4 cc4; replace cc4 := cl hG cc4; replace fcc5 := fl hG fcc5 cc5; replace cc5 := cl hG cc5; replace fcc6 := fl hG fcc6 cc6; replace cc6 := cl hG cc6; replace fcc7 := fl hG fcc7 cc7; replace cc7 := cl hG cc7; replace fcc8 := fl hG fcc8 cc8; replace cc8 := cl hG cc8; have hs_v3 := hG.size; clear hG; replace hBW : Below w.heap.size w v3 := below_after (w := w) (by go_grown) hB_v3; have hn_v3 := an (nl cc1) (an (nl cc3) (nl cc6)); clear hB_v3)
  go_wp2_with fail
  go_returns
  exact ⟨rfl, by go_grown⟩
set_option maxRecDepth 100000 in
set_option maxHeartbeats 8000000 in
theorem fa_ok (f m a b n n' p0 p1 q0 q1 n3 : Int) (aft : Bool) [hU : U8 f] [hM : U8 m] [ha : U64 a] [hb : U64 b] [hn : U64 n] [hn' : U64 n'] (w : World) [hLay : Laid w] [U64 p0] [U64 p1] [U64 q0] [U64 q1] [U64 n3]
    (ta : a.tmod 4611686018427387904 = n) (ta2 : a % 4611686018427387904 = n) (tb : b.tmod 4611686018427387904 = n') (tb2 : b % 4611686018427387904 = n') (hf : f < 4) (hm : m ≤ 4) (hs : IntKind.u64.wrap (n + n') = n3)
    (a1 : Hid (hi (fromB 3 f m n) = p0)) (a2 : Hid (lo (fromB 3 f m n) = p1)) (a3 : Hid (fromFl 3 f m aft n = 0))
    (b1 : Hid (hi (fromB 3 f m n') = q0)) (b2 : Hid (lo (fromB 3 f m n') = q1)) (b3 : Hid (fromFl 3 f m aft n' = 0))
    (c1 : Hid (hi (addB f m (cat p0 p1) (cat q0 q1)) = hi (fromB 3 f m n3))) (c2 : Hid (lo (addB f m (cat p0 p1) (cat q0 q1)) = lo (fromB 3 f m n3))) (c3 : Hid (addFl f m aft (cat p0 p1) (cat q0 q1) = fromFl 3 f m aft n3)) :
    Calls Tryz.prog 9 #[.int .u8 f, .agg #[.int .u8 m, .bool aft], .int .u64 a, .int .u64 b] w fun en w' => en = .returned (.bool true) ∧ Below w.heap.size w w' := by
  have hfd : decide (f < 4) = true := decide_eq_true hf
  have hmd : decide (m ≤ 4) = true := decide_eq_true hm
  have q := fun W a b c => eql_res_same W a b c
  clear hf hm
  go_enter Tryz.func9, Tryz.ntmps9
  skip
  go_upto_region 2 with fail
  ((first | refine wp_rename ?_ | refine goal_rename ?_); intro W2 hw_W2; have cc1 : W2.cell? ⟨w.heap.size, 0, none⟩ = some (.int .u8 m) := (by rw [hw_W2]; go_simp); have cc2 : W2.cell? ⟨w.heap.size, 1, none⟩ = some (.bool aft) := (by rw [hw_W2]; go_simp); have hBW : Below w.heap.size w W2 := (by rw [hw_W2]; (first | with_reducible exact drewN_below (by assumption) _ | go_grown)); have hn_W2 := nl cc1; have lay_W2 : Laid W2 := Laid.below (w := w) (by assumption) hBW; clear hw_W2)
  refine Lin.wp_region_lin (by kernel_rfl) (by intro _ _ d _ _ h; cases d <;> exact h) (by kernel_rfl) (fun w' => Below W2.heap.size W2 w' ∧ w'.cell? ⟨w.heap.size, 0, none⟩ = some (.int .u8 m) ∧ w'.cell? ⟨w.heap.size, 1, none⟩ = some (.bool aft)) ⟨(Below.refl _ _).drew, by go_simp, by go_simp⟩ ?_
  simp only [List.length_cons, List.length_nil, Nat.reduceAdd]
  refine Lin.Blk.out ?_
  iterate 3 (refine Lin.bl_val rfl rfl rfl ?_; apply Exists.intro; refine ⟨fun w' hw' => ?_, ?_⟩; (focus (have hBw := hw'.1; have hSw := hw'.2; clear hw'; (try dsimp only at hBw hSw); go_simp; first | with_reducible exact Lin.lin_value | with_reducible exact Lin.lin_skip)); (try simp only [Act.put, List.setIfInBounds_toArray, List.set_cons_zero, List.set_cons_succ]))
  (refine Lin.bl_val rfl rfl rfl ?_; apply Exists.intro; refine ⟨fun w' hw' => ?_, ?_⟩; (focus (have hBw := hw'.1; have hSw := hw'.2; clear hw'; (try dsimp only at hBw hSw); have lay' : Laid w' := Laid.below lay_W2 hBw; go_simp; first | exact Lin.lin_ret (fromint_From _ _ _ _ _ _) (by rw [a1.out, a2.out, a3.out]) | exact Lin.lin_ret (fromint_From _ _ _ _ _ _) (by rw [b1.out, b2.out, b3.out]))); (try simp only [Act.put, List.setIfInBounds_toArray, List.set_cons_zero, List.set_cons_succ]))
  iterate 3 (refine Lin.bl_val rfl rfl rfl ?_; apply Exists.intro; refine ⟨fun w' hw' => ?_, ?_⟩; (focus (have hBw := hw'.1; have hSw := hw'.2; clear hw'; (try dsimp only at hBw hSw); go_simp; first | with_reducible exact Lin.lin_value | with_reducible exact Lin.lin_skip)); (try simp only [Act.put, List.setIfInBounds_toArray, List.set_cons_zero, List.set_cons_succ]))
  (refine Lin.bl_val rfl rfl rfl ?_; apply Exists.intro; refine ⟨fun w' hw' => ?_, ?_⟩; (focus (have hBw := hw'.1; have hSw := hw'.2; clear hw'; (try dsimp only at hBw hSw); have lay' : Laid w' := Laid.below lay_W2 hBw; go_simp; first | exact Lin.lin_ret (fromint_From _ _ _ _ _ _) (by rw [a1.out, a2.out, a3.out]) | exact Lin.lin_ret (fromint_From _ _ _ _ _ _) (by rw [b1.out, b2.out, b3.out]))); (try simp only [Act.put, List.setIfInBounds_toArray, List.set_cons_zero, List.set_cons_succ]))
  refine Lin.bl_rest rfl ?_
  refine Lin.bl_rest rfl ?_
  refine Lin.bl_rest rfl ?_
  refine Lin.bl_rest rfl ?_
  refine Lin.bl_end ?_
  refine Lin.new2 W2.heap.size (fun wa wb hc hb => ⟨hc.1.trans (hb.mono hc.1.size), cell_later hb hc.2.1, cell_later hb hc.2.2⟩) (fun wa hc => hc.1.size) 8 9 _ _ rfl rfl (by decide) (by kernel_rfl) rfl rfl (by kernel_rfl) (by kernel_rfl) (by kernel_rfl) (by kernel_rfl) rfl rfl (.agg #[.int .u64 0, .int .u64 0, .int .u8 0]) (.agg #[.int .u64 0, .int .u64 0, .int .u8 0]) (by intro t ht; cases ht <;> (intro w; kernel_rfl)) (by intro t ht; cases ht <;> (intro w; kernel_rfl)) ?_
  intro g k X hw_X lo_g lo_k ne_g_k ho_g ho_k
  have nf_k_g : k ≠ g := Ne.symm ne_g_k
  have hb_X := hw_X.1; clear hw_X
  have lay_X : Laid X := Laid.below lay_W2 hb_X
  (replace cc1 := cl hb_X cc1; replace cc2 := cl hb_X cc2; replace hBW := below_after hBW hb_X; have hsb_X := hb_X.size; have hn_X := nl cc1)
  have hi_g := Lin.heap_lt ho_g
  have cc3 : X.cell? ⟨g, 0, none⟩ = some (.int .u64 0) := Lin.heap_cell ho_g rfl; have fcc3 : X.frozen? ⟨g, 0, none⟩ = false := Lin.heap_free ho_g
  have cc4 : X.cell? ⟨g, 1, none⟩ = some (.int .u64 0) := Lin.heap_cell ho_g rfl; have fcc4 : X.frozen? ⟨g, 1, none⟩ = false := Lin.heap_free ho_g
  have cc5 : X.cell? ⟨g, 2, none⟩ = some (.int .u8 0) := Lin.heap_cell ho_g rfl; have fcc5 : X.frozen? ⟨g, 2, none⟩ = false := Lin.heap_free ho_g
  clear ho_g
  have hi_k := Lin.heap_lt ho_k
  have cc6 : X.cell? ⟨k, 0, none⟩ = some (.int .u64 0) := Lin.heap_cell ho_k rfl; have fcc6 : X.frozen? ⟨k, 0, none⟩ = false := Lin.heap_free ho_k
  have cc7 : X.cell? ⟨k, 1, none⟩ = some (.int .u64 0) := Lin.heap_cell ho_k rfl; have fcc7 : X.frozen? ⟨k, 1, none⟩ = false := Lin.heap_free ho_k
  have cc8 : X.cell? ⟨k, 2, none⟩ = some (.int .u8 0) := Lin.heap_cell ho_k rfl; have fcc8 : X.frozen? ⟨k, 2, none⟩ = false := Lin.heap_free ho_k
  clear ho_k
  have hN_X : g ≠ X.heap.size ∧ X.heap.size ≠ g ∧ w.heap.size ≤ g ∧ k ≠ X.heap.size ∧ X.heap.size ≠ k ∧ w.heap.size ≤ k := (by omega)
  unfold Lin.ptrOf
  (try simp only [Act.put, List.setIfInBounds_toArray, List.set_cons_zero, List.set_cons_succ])
  have hM_X : w.heap.size ≠ g ∧ g ≠ w.heap.size ∧ w.heap.size ≠ k ∧ k ≠ w.heap.size := (by omega)
  (refine wpAny_ready (rs := [10]) (by kernel_rfl) (by simp) ?_; refine AllReady.cons rfl (fun K hK => ?_) AllReady.nil; go_simp; refine hK _ _ ?_; clear hK K)
  (refine wpAny_ready (rs := [11]) (by kernel_rfl) (by simp) ?_; refine AllReady.cons rfl (fun K hK => ?_) AllReady.nil; go_simp; refine hK _ _ ?_; clear hK K)
  refine wpAny_done (by kernel_rfl) ?_ _
  apply_assumption
  ((first | refine wp_rename ?_ | refine goal_rename ?_); intro Xs hw_Xs; replace cc1 := rn hw_Xs cc1 (by go_simp); replace cc2 := rn hw_Xs cc2 (by go_simp); replace cc3 : Xs.cell? ⟨g, 0, none⟩ = some (.int .u64 p0) := (by rw [hw_Xs]; go_simp); replace fcc3 := rf hw_Xs fcc3 (by go_simp); replace cc4 : Xs.cell? ⟨g, 1, none⟩ = some (.int .u64 p1) := (by rw [hw_Xs]; go_simp); replace fcc4 := rf hw_Xs fcc4 (by go_simp); replace cc5 : Xs.cell? ⟨g, 2, none⟩ = some (.int .u8 0) := (by rw [hw_Xs]; go_simp); replace fcc5 := rf hw_Xs fcc5 (by go_simp); replace cc6 : Xs.cell? ⟨k, 0, none⟩ = some (.int .u64 q0) := (by rw [hw_Xs]; go_simp); replace fcc6 := rf hw_Xs fcc6 (by go_simp); replace cc7 : Xs.cell? ⟨k, 1, none⟩ = some (.int .u64 q1) := (by rw [hw_Xs]; go_simp); replace fcc7 := rf hw_Xs fcc7 (by go_simp); replace cc8 : Xs.cell? ⟨k, 2, none⟩ = some (.int .u8 0) := (by rw [hw_Xs]; go_simp); replace fcc8 := rf hw_Xs fcc8 (by go_simp); replace hBW : Below w.heap.size w Xs := (by rw [hw_Xs]; (first | with_reducible exact drewN_below (by assumption) _ | go_grown)); have hn_Xs := an (nl cc1) (an (nl cc3) (nl cc6)); have lay_Xs : Laid Xs := Laid.below (w := w) (by assumption) hBW; clear hw_Xs)
  (go_wp2_with fail; refine (format_Known_b _ _).mono ?_; rintro en v1 ⟨rfl, hB_v1⟩; have lay_v1 := laid_after hB_v1; have hG := cell_grown cc1 (by go_grown) hB_v1; replace cc1 := cl hG cc1; replace cc2 := cl hG cc2; replace fcc3 := fl hG fcc3 cc3; replace cc3 := cl hG cc3; replace fcc4 := fl hG fcc4 cc4; replace cc4 := cl hG cc4; replace fcc5 := fl hG fcc5 cc5; replace cc5 := cl hG cc5; replace fcc6 := fl hG fcc6 cc6; replace cc6 := cl hG cc6; replace fcc7 := fl hG fcc7 cc7; replace cc7 := cl hG cc7; replace fcc8 := fl hG fcc8 cc8; replace cc8 := cl hG cc8; have hs_v1 := hG.size; clear hG; replace hBW : Below w.heap.size w v1 := below_after (w := w) (by go_grown) hB_v1; have hn_v1 := an (nl cc1) (an (nl cc3) (nl cc6)); clear hB_v1)
  (go_wp2_with fail; refine (mode_Known_b _ _).mono ?_; rintro en v2 ⟨rfl, hB_v2⟩; have lay_v2 := laid_after hB_v2; have hG := cell_grown cc1 (by go_grown) hB_v2; replace cc1 := cl hG cc1; replace cc2 := cl hG cc2; replace fcc3 := fl hG fcc3 cc3; replace cc3 := cl hG cc3; replace fcc4 := fl hG fcc4 cc4; replace cc4 := cl hG cc4; replace fcc5 := fl hG fcc5 cc5; replace cc5 := cl hG cc5; replace fcc6 := fl hG fcc6 cc6; replace cc6 := cl hG cc6; replace fcc7 := fl hG fcc7 cc7; replace cc7 := cl hG cc7; replace fcc8 := fl hG fcc8 cc8; replace cc8 := cl hG cc8; have hs_v2 := hG.size; clear hG; replace hBW : Below w.heap.size w v2 := below_after (w := w) (by go_grown) hB_v2; have hn_v2 := an (nl cc1) (an (nl cc3) (nl cc6)); clear hB_v2)
  go_upto_region 5 with fail
  ((first | refine wp_rename ?_ | refine goal_rename ?_); intro W5 hw_W5; have hG := named cc1 W5 (by rw [hw_W5]; go_grown); replace cc1 := cl hG cc1; replace cc2 := cl hG cc2; replace fcc3 := fl hG fcc3 cc3; replace cc3 := cl hG cc3; replace fcc4 := fl hG fcc4 cc4; replace cc4 := cl hG cc4; replace fcc5 := fl hG fcc5 cc5; replace cc5 := cl hG cc5; replace fcc6 := fl hG fcc6 cc6; replace cc6 := cl hG cc6; replace fcc7 := fl hG fcc7 cc7; replace cc7 := cl hG cc7; replace fcc8 := fl hG fcc8 cc8; replace cc8 := cl hG cc8; replace hBW := below_after hBW hG; have hs_W5 := hG.size; clear hG; have hn_W5 := an (nl cc1) (an (nl cc3) (nl cc6)); have lay_W5 : Laid W5 := Laid.below (w := w) (by assumption) hBW; clear hw_W5)
  refine Lin.wp_region_lin (by kernel_rfl) (by intro _ _ d _ _ h; cases d <;> exact h) (by kernel_rfl) (fun w' => Below W5.heap.size W5 w' ∧ w'.cell? ⟨w.heap.size, 0, none⟩ = some (.int .u8 m) ∧ w'.cell? ⟨w.heap.size, 1, none⟩ = some (.bool aft) ∧ w'.cell? ⟨g, 0, none⟩ = some (.int .u64 p0) ∧ w'.cell? ⟨g, 1, none⟩ = some (.int .u64 p1) ∧ w'.cell? ⟨g, 2, none⟩ = some (.int .u8 0) ∧ w'.cell? ⟨k, 0, none⟩ = some (.int .u64 q0) ∧ w'.cell? ⟨k, 1, none⟩ = some (.int .u64 q1) ∧ w'.cell? ⟨k, 2, none⟩ = some (.int .u8 0)) ⟨(Below.refl _ _).drew, by go_simp, by go_simp, by go_simp, by go_simp, by go_simp, by go_simp, by go_simp, by go_simp⟩ ?_
  simp only [List.length_cons, List.length_nil, Nat.reduceAdd]
  refine Lin.Blk.out ?_
  iterate 6 (refine Lin.bl_val rfl rfl rfl ?_; apply Exists.intro; refine ⟨fun w' hw' => ?_, ?_⟩; (focus (have hBw := hw'.1; have hSw := hw'.2; clear hw'; (try dsimp only at hBw hSw); go_simp; first | with_reducible exact Lin.lin_value | with_reducible exact Lin.lin_skip)); (try simp only [Act.put, List.setIfInBounds_toArray, List.set_cons_zero, List.set_cons_succ]))
  (refine Lin.bl_val rfl rfl rfl ?_; apply Exists.intro; refine ⟨fun w' hw' => ?_, ?_⟩; (focus (have hBw := hw'.1; have hSw := hw'.2; clear hw'; (try dsimp only at hBw hSw); have lay' : Laid w' := Laid.below lay_W5 hBw; go_simp; first | exact Lin.lin_ret (addsub_Add _ _ _ _ _ _ _ _) (by rw [c1.out, c2.out, c3.out]) | exact Lin.lin_ret (fromint_From _ _ _ _ _ _) rfl | exact Lin.lin_ret (law27_goes _) rfl)); (try simp only [Act.put, List.setIfInBounds_toArray, List.set_cons_zero, List.set_cons_succ]))
  iterate 5 (refine Lin.bl_val rfl rfl rfl ?_; apply Exists.intro; refine ⟨fun w' hw' => ?_, ?_⟩; (focus (have hBw := hw'.1; have hSw := hw'.2; clear hw'; (try dsimp only at hBw hSw); go_simp; first | with_reducible exact Lin.lin_value | with_reducible exact Lin.lin_skip)); (try simp only [Act.put, List.setIfInBounds_toArray, List.set_cons_zero, List.set_cons_succ]))
  (refine Lin.bl_val rfl rfl rfl ?_; apply Exists.intro; refine ⟨fun w' hw' => ?_, ?_⟩; (focus (have hBw := hw'.1; have hSw := hw'.2; clear hw'; (try dsimp only at hBw hSw); have lay' : Laid w' := Laid.below lay_W5 hBw; go_simp; first | exact Lin.lin_ret (addsub_Add _ _ _ _ _ _ _ _) (by rw [c1.out, c2.out, c3.out]) | exact Lin.lin_ret (fromint_From _ _ _ _ _ _) rfl | exact Lin.lin_ret (law27_goes _) rfl)); (try simp only [Act.put, List.setIfInBounds_toArray, List.set_cons_zero, List.set_cons_succ]))
  iterate 2 (refine Lin.bl_val rfl rfl rfl ?_; apply Exists.intro; refine ⟨fun w' hw' => ?_, ?_⟩; (focus (have hBw := hw'.1; have hSw := hw'.2; clear hw'; (try dsimp only at hBw hSw); go_simp; first | with_reducible exact Lin.lin_value | with_reducible exact Lin.lin_skip)); (try simp only [Act.put, List.setIfInBounds_toArray, List.set_cons_zero, List.set_cons_succ]))
  (refine Lin.bl_val rfl rfl (by kernel_rfl) ?_; apply Exists.intro; refine ⟨fun w' hw' => ?_, ?_⟩; (focus (have hBw := hw'.1; have hSw := hw'.2; clear hw'; (try dsimp only at hBw hSw); have lay' : Laid w' := Laid.below lay_W5 hBw; go_simp; first | exact Lin.lin_ret (addsub_Add _ _ _ _ _ _ _ _) (by rw [c1.out, c2.out, c3.out]) | exact Lin.lin_ret (fromint_From _ _ _ _ _ _) rfl | exact Lin.lin_ret (law27_goes _) rfl)); (try simp only [Act.put, List.setIfInBounds_toArray, List.set_cons_zero, List.set_cons_succ]))
  (refine Lin.bl_val rfl rfl rfl ?_; apply Exists.intro; refine ⟨fun w' hw' => ?_, ?_⟩; (focus (have hBw := hw'.1; have hSw := hw'.2; clear hw'; (try dsimp only at hBw hSw); go_simp; first | with_reducible exact Lin.lin_value | with_reducible exact Lin.lin_skip)); (try simp only [Act.put, List.setIfInBounds_toArray, List.set_cons_zero, List.set_cons_succ]))
  refine Lin.bl_rest rfl ?_
  refine Lin.bl_end ?_
  refine Lin.fin0 (fun wa wb hc hb => ⟨hc.1.trans (hb.mono hc.1.size), cell_later hb hc.2.1, cell_later hb hc.2.2.1, cell_later hb hc.2.2.2.1, cell_later hb hc.2.2.2.2.1, cell_later hb hc.2.2.2.2.2.1, cell_later hb hc.2.2.2.2.2.2.1, cell_later hb hc.2.2.2.2.2.2.2.1, cell_later hb hc.2.2.2.2.2.2.2.2⟩) (by kernel_rfl) ?_
  intro Y hw_Y
  have hb_Y := hw_Y.1; clear hw_Y
  have lay_Y : Laid Y := Laid.below lay_W5 hb_Y
  (replace cc1 := cl hb_Y cc1; replace cc2 := cl hb_Y cc2; replace fcc3 := fl hb_Y fcc3 cc3; replace cc3 := cl hb_Y cc3; replace fcc4 := fl hb_Y fcc4 cc4; replace cc4 := cl hb_Y cc4; replace fcc5 := fl hb_Y fcc5 cc5; replace cc5 := cl hb_Y cc5; replace fcc6 := fl hb_Y fcc6 cc6; replace cc6 := cl hb_Y cc6; replace fcc7 := fl hb_Y fcc7 cc7; replace cc7 := cl hb_Y cc7; replace fcc8 := fl hb_Y fcc8 cc8; replace cc8 := cl hb_Y cc8; replace hBW := below_after hBW hb_Y; have hsb_Y := hb_Y.size; have hn_Y := an (nl cc1) (an (nl cc3) (nl cc6)))
  (refine wpAny_ready (rs := [17]) (by kernel_rfl) (by simp) ?_; refine AllReady.cons rfl (fun K hK => ?_) AllReady.nil; go_simp; refine hK _ _ ?_; clear hK K)
  refine wpAny_done (by kernel_rfl) ?_ _
  apply_assumption
  (first | refine wp_rename ?_ | refine goal_rename ?_); intro Y_ hw_Y; subst hw_Y
  go_wp2_with fail
  go_returns
  exact ⟨rfl, by go_grown⟩
theorem walk_FromintAdd (f m : Int) (aft : Bool) (a b : Int) [hU : U8 f] [hM : U8 m] [ha : U64 a] [hb : U64 b] (w : World) [hLay : Laid w] :
    Calls Tryz.prog 9 #[.int .u8 f, .agg #[.int .u8 m, .bool aft], .int .u64 a, .int .u64 b] w fun en w' => en = .returned (.bool true) ∧ Below w.heap.size w w' := by
  have f0 := hU.ge
  have a0 := ha.ge
  have b0 := hb.ge
  have ta : a.tmod 4611686018427387904 = a % 4611686018427387904 := Int.tmod_eq_emod_of_nonneg a0
  have tb : b.tmod 4611686018427387904 = b % 4611686018427387904 := Int.tmod_eq_emod_of_nonneg b0
  have na : 0 ≤ a % 4611686018427387904 ∧ a % 4611686018427387904 < 4611686018427387904 := by omega
  have nb : 0 ≤ b % 4611686018427387904 ∧ b % 4611686018427387904 < 4611686018427387904 := by omega
  generalize en : a % 4611686018427387904 = n at ta na
  generalize en' : b % 4611686018427387904 = n' at tb nb
  haveI : U64 n := ⟨by omega, by omega⟩
  haveI : U64 n' := ⟨by omega, by omega⟩
  haveI : U64 (n + n') := ⟨by omega, by omega⟩
  have hs : IntKind.u64.wrap (n + n') = n + n' := by rw [IntKind.wrap_u64]; omega
  by_cases hf : f < 4
  case neg => exact fa_nf f m a b n n' _ _ _ _ _ _ aft w ta en tb en' hf (Lib.hid rfl) (Lib.hid rfl) (Lib.hid rfl) (Lib.hid rfl) (Lib.hid rfl) (Lib.hid rfl)
  by_cases hm : m ≤ 4
  case neg => exact fa_nm f m a b n n' _ _ _ _ _ _ aft w ta en tb en' hf hm (Lib.hid rfl) (Lib.hid rfl) (Lib.hid rfl) (Lib.hid rfl) (Lib.hid rfl) (Lib.hid rfl)
  by_cases hx : fromFl 3 f m aft n = 0
  case neg => exact fa_x f m a b n n' _ _ _ _ _ _ aft w ta en tb en' hf hm (beq_eq_false_iff_ne.2 hx) (bne_iff_ne.2 hx) (Lib.hid rfl) (Lib.hid rfl) (Lib.hid rfl) (Lib.hid rfl) (Lib.hid rfl) (Lib.hid rfl)
  by_cases hy : fromFl 3 f m aft n' = 0
  case neg => exact fa_y f m a b n n' _ _ _ _ _ aft w ta en tb en' hf hm (beq_eq_false_iff_ne.2 hy) (bne_iff_ne.2 hy) (Lib.hid rfl) (Lib.hid rfl) (Lib.hid hx) (Lib.hid rfl) (Lib.hid rfl) (Lib.hid rfl)
  have l1 : cat (hi (fromB 3 f m n)) (lo (fromB 3 f m n)) = fromB 3 f m n := cat_small _ (by rw [(from3 f m aft n).1]; exact resB_lt f _ _ _ _ f0)
  have l2 : cat (hi (fromB 3 f m n')) (lo (fromB 3 f m n')) = fromB 3 f m n' := cat_small _ (by rw [(from3 f m aft n').1]; exact resB_lt f _ _ _ _ f0)
  obtain ⟨r1, r2⟩ := from_add f m aft n n' f0 hf hm hx hy
  exact fa_ok f m a b n n' _ _ _ _ _ aft w ta en tb en' hf hm hs (Lib.hid rfl) (Lib.hid rfl) (Lib.hid hx) (Lib.hid rfl) (Lib.hid rfl) (Lib.hid hy) (Lib.hid (by rw [l1, l2, r1])) (Lib.hid (by rw [l1, l2, r1])) (Lib.hid (by rw [l1, l2, r2]))
end Go.Proofs.YtkldkchkhblndaaGreatDoor
