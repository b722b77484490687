/- RintOrder: of two sizes the lesser one is not made the greater one; the walks by ways, joined. Condition: the listed table is laid. -/
import Derived.Test.YtkldkchkhblndaaGreatDoorLaw24f
set_option linter.unusedSimpArgs false
set_option linter.unusedVariables false
namespace Go.Proofs.YtkldkchkhblndaaGreatDoor
open Go.RowKit Go.Hb
set_option maxRecDepth 100000 in
set_option maxHeartbeats 8000000 in
theorem ro_ok (f m h l h' l' xh xl yh yl k uh ul vh vl p0 p1 pz r0 r1 rz a0 a1 af d0 d1 df k' o0 o1 n0 n1 nf : Int) [hU : U8 f] [hM : U8 m] [U8 (m % 5)] [U64 h] [U64 l] [U64 h'] [U64 l'] [U64 xh] [U64 xl] [U64 yh] [U64 yl] [U64 uh] [U64 ul] [U64 vh] [U64 vl] [U64 p0] [U64 p1] [U64 r0] [U64 r1] [U64 a0] [U64 a1] [U64 d0] [U64 d1] [U64 o0] [U64 o1] [U64 n0] [U64 n1] (w : World) [hLay : Laid w]
    (hg : decide (f < 4) = false ∨ (decide (f < 4) = true ∧ finC f (cat xh xl) = false) ∨ (decide (f < 4) = true ∧ finC f (cat xh xl) = true ∧ finC f (cat yh yl) = false) ∨ (decide (f < 4) = true ∧ finC f (cat xh xl) = true ∧ finC f (cat yh yl) = true ∧ ((decide (k > 0) = false ∧ uh = xh ∧ ul = xl ∧ vh = yh ∧ vl = yl) ∨ (decide (k > 0) = true ∧ uh = yh ∧ ul = yl ∧ vh = xh ∧ vl = xl)) ∧ ((af = 0 ∧ df = 0 ∧ d0 = a0 ∧ d1 = a1) ∨ ((af == 0) = false ∧ n0 = a0 ∧ n1 = a1 ∧ nf = 0)) ∧ decide (k' ≤ 0) = true))
    (s0 : Hid (hi (sizeF f (cat h l)) = xh)) (s1 : Hid (lo (sizeF f (cat h l)) = xl)) (s2 : Hid (hi (sizeF f (cat h' l')) = yh)) (s3 : Hid (lo (sizeF f (cat h' l')) = yl))
    (k0 : Hid (cmpN (cat xh xl) (cat yh yl) = k))
    (e0 : Hid (hi (rintB f (m % 5) (cat uh ul)) = p0)) (e1 : Hid (lo (rintB f (m % 5) (cat uh ul)) = p1)) (e2 : Hid (rintFl f (m % 5) true (cat uh ul) = pz)) (g0 : Hid (hi (rintB f (m % 5) (cat vh vl)) = r0)) (g1 : Hid (lo (rintB f (m % 5) (cat vh vl)) = r1)) (g2 : Hid (rintFl f (m % 5) true (cat vh vl) = rz))
    (u0 : Hid (hi (rintB f 2 (cat uh ul)) = a0)) (u1 : Hid (lo (rintB f 2 (cat uh ul)) = a1)) (u2 : Hid (rintFl f 2 true (cat uh ul) = af)) (t0 : Hid (hi (rintB f 3 (cat uh ul)) = d0)) (t1 : Hid (lo (rintB f 3 (cat uh ul)) = d1)) (t2 : Hid (rintFl f 3 true (cat uh ul) = df))
    (i0 : Hid (hi (makeF f false (emaxS f) 0) = o0)) (i1 : Hid (lo (makeF f false (emaxS f) 0) = o1))
    (j0 : Hid (hi (addB f 0 (cat d0 d1) (cat o0 o1)) = n0)) (j1 : Hid (lo (addB f 0 (cat d0 d1) (cat o0 o1)) = n1)) (j2 : Hid (addFl f 0 false (cat d0 d1) (cat o0 o1) = nf))
    (k1 : Hid (cmpN (cat p0 p1) (cat r0 r1) = k')) :
    Calls Tryz.prog 10 #[.int .u8 f, .int .u8 m, .agg #[.int .u64 (h), .int .u64 (l)], .agg #[.int .u64 (h'), .int .u64 (l')]] w fun en w' => en = .returned (.bool true) ∧ Below w.heap.size w w' := by
  have hm0 := hM.ge
  have q := fun W a b c => eql_res_same W a b c
  have q' := fun W a b => eql_bits_same W a b
  have c00 : cat 0 0 = 0 := rfl
  go_enter Tryz.func10, Tryz.ntmps10
  skip
  go_upto_region 2 with fail
  ((first | refine wp_rename ?_ | refine goal_rename ?_); intro W2 hw_W2; have cc1 : W2.cell? ⟨w.heap.size, 0, none⟩ = some (.int .u64 h) := (by rw [hw_W2]; go_simp); have fcc1 : W2.frozen? ⟨w.heap.size, 0, none⟩ = false := (by rw [hw_W2]; go_simp); have cc2 : W2.cell? ⟨w.heap.size, 1, none⟩ = some (.int .u64 l) := (by rw [hw_W2]; go_simp); have fcc2 : W2.frozen? ⟨w.heap.size, 1, none⟩ = false := (by rw [hw_W2]; go_simp); have cc3 : W2.cell? ⟨w.heap.size + 1, 0, none⟩ = some (.int .u64 h') := (by rw [hw_W2]; go_simp); have fcc3 : W2.frozen? ⟨w.heap.size + 1, 0, none⟩ = false := (by rw [hw_W2]; go_simp); have cc4 : W2.cell? ⟨w.heap.size + 1, 1, none⟩ = some (.int .u64 l') := (by rw [hw_W2]; go_simp); have fcc4 : W2.frozen? ⟨w.heap.size + 1, 1, none⟩ = false := (by rw [hw_W2]; go_simp); have hBW : Below w.heap.size w W2 := (by rw [hw_W2]; (first | with_reducible exact drewN_below (by assumption) _ | go_grown)); have hn_W2 := an (nl cc1) (nl cc3); have lay_W2 : Laid W2 := Laid.below (w := w) (by assumption) hBW; clear hw_W2)
  refine Lin.wp_region_lin (by kernel_rfl) (by intro _ _ d _ _ h; cases d <;> exact h) (by kernel_rfl) (fun w' => Below W2.heap.size W2 w' ∧ w'.cell? ⟨w.heap.size, 0, none⟩ = some (.int .u64 h) ∧ w'.cell? ⟨w.heap.size, 1, none⟩ = some (.int .u64 l) ∧ w'.cell? ⟨w.heap.size + 1, 0, none⟩ = some (.int .u64 h') ∧ w'.cell? ⟨w.heap.size + 1, 1, none⟩ = some (.int .u64 l')) ⟨(Below.refl _ _).drew, by go_simp, by go_simp, by go_simp, by go_simp⟩ ?_
  simp only [List.length_cons, List.length_nil, Nat.reduceAdd]
  refine Lin.Blk.out ?_
  iterate 2 (refine Lin.bl_val rfl rfl rfl ?_; apply Exists.intro; refine ⟨fun w' hw' => ?_, ?_⟩; (focus (have hBw := hw'.1; have hSw := hw'.2; clear hw'; (try dsimp only at hBw hSw); go_simp; first | with_reducible exact Lin.lin_value | with_reducible exact Lin.lin_skip)); (try simp only [Act.put, List.setIfInBounds_toArray, List.set_cons_zero, List.set_cons_succ]))
  (refine Lin.bl_val rfl rfl rfl ?_; apply Exists.intro; refine ⟨fun w' hw' => ?_, ?_⟩; (focus (have hBw := hw'.1; have hSw := hw'.2; clear hw'; (try dsimp only at hBw hSw); have lay' : Laid w' := Laid.below lay_W2 hBw; go_simp; first | exact Lin.lin_ret (law24_size _ _ _ _) (by rw [s0.out, s1.out]) | exact Lin.lin_ret (law24_size _ _ _ _) (by rw [s2.out, s3.out]))); (try simp only [Act.put, List.setIfInBounds_toArray, List.set_cons_zero, List.set_cons_succ]))
  iterate 2 (refine Lin.bl_val rfl rfl rfl ?_; apply Exists.intro; refine ⟨fun w' hw' => ?_, ?_⟩; (focus (have hBw := hw'.1; have hSw := hw'.2; clear hw'; (try dsimp only at hBw hSw); go_simp; first | with_reducible exact Lin.lin_value | with_reducible exact Lin.lin_skip)); (try simp only [Act.put, List.setIfInBounds_toArray, List.set_cons_zero, List.set_cons_succ]))
  (refine Lin.bl_val rfl rfl rfl ?_; apply Exists.intro; refine ⟨fun w' hw' => ?_, ?_⟩; (focus (have hBw := hw'.1; have hSw := hw'.2; clear hw'; (try dsimp only at hBw hSw); have lay' : Laid w' := Laid.below lay_W2 hBw; go_simp; first | exact Lin.lin_ret (law24_size _ _ _ _) (by rw [s0.out, s1.out]) | exact Lin.lin_ret (law24_size _ _ _ _) (by rw [s2.out, s3.out]))); (try simp only [Act.put, List.setIfInBounds_toArray, List.set_cons_zero, List.set_cons_succ]))
  refine Lin.bl_rest rfl ?_
  refine Lin.bl_rest rfl ?_
  refine Lin.bl_end ?_
  refine Lin.fin0 (fun wa wb hc hb => ⟨hc.1.trans (hb.mono hc.1.size), cell_later hb hc.2.1, cell_later hb hc.2.2.1, cell_later hb hc.2.2.2.1, cell_later hb hc.2.2.2.2⟩) (by kernel_rfl) ?_
  intro X hw_X
  have hb_X := hw_X.1; clear hw_X
  have lay_X : Laid X := Laid.below lay_W2 hb_X
  (replace fcc1 := fl hb_X fcc1 cc1; replace cc1 := cl hb_X cc1; replace fcc2 := fl hb_X fcc2 cc2; replace cc2 := cl hb_X cc2; replace fcc3 := fl hb_X fcc3 cc3; replace cc3 := cl hb_X cc3; replace fcc4 := fl hb_X fcc4 cc4; replace cc4 := cl hb_X cc4; replace hBW := below_after hBW hb_X; have hsb_X := hb_X.size; have hn_X := an (nl cc1) (nl cc3))
  (refine wpAny_ready (rs := [6]) (by kernel_rfl) (by simp) ?_; refine AllReady.cons rfl (fun K hK => ?_) AllReady.nil; go_simp; refine hK _ _ ?_; clear hK K)
  (refine wpAny_ready (rs := [7]) (by kernel_rfl) (by simp) ?_; refine AllReady.cons rfl (fun K hK => ?_) AllReady.nil; go_simp; refine hK _ _ ?_; clear hK K)
  refine wpAny_done (by kernel_rfl) ?_ _
  apply_assumption
  ((first | refine wp_rename ?_ | refine goal_rename ?_); intro Xs hw_Xs; replace cc1 : Xs.cell? ⟨w.heap.size, 0, none⟩ = some (.int .u64 xh) := (by rw [hw_Xs]; go_simp); replace fcc1 := rf hw_Xs fcc1 (by go_simp); replace cc2 : Xs.cell? ⟨w.heap.size, 1, none⟩ = some (.int .u64 xl) := (by rw [hw_Xs]; go_simp); replace fcc2 := rf hw_Xs fcc2 (by go_simp); replace cc3 : Xs.cell? ⟨w.heap.size + 1, 0, none⟩ = some (.int .u64 yh) := (by rw [hw_Xs]; go_simp); replace fcc3 := rf hw_Xs fcc3 (by go_simp); replace cc4 : Xs.cell? ⟨w.heap.size + 1, 1, none⟩ = some (.int .u64 yl) := (by rw [hw_Xs]; go_simp); replace fcc4 := rf hw_Xs fcc4 (by go_simp); replace hBW : Below w.heap.size w Xs := (by rw [hw_Xs]; (first | with_reducible exact drewN_below (by assumption) _ | go_grown)); have hn_Xs := an (nl cc1) (nl cc3); have lay_Xs : Laid Xs := Laid.below (w := w) (by assumption) hBW; clear hw_Xs)
  (go_wp2_with fail; refine (format_Known_b _ _).mono ?_; rintro en v1 ⟨rfl, hB_v1⟩; have lay_v1 := laid_after hB_v1; have hG := cell_grown cc1 (by go_grown) hB_v1; replace fcc1 := fl hG fcc1 cc1; replace cc1 := cl hG cc1; replace fcc2 := fl hG fcc2 cc2; replace cc2 := cl hG cc2; replace fcc3 := fl hG fcc3 cc3; replace cc3 := cl hG cc3; replace fcc4 := fl hG fcc4 cc4; replace cc4 := cl hG cc4; have hs_v1 := hG.size; clear hG; replace hBW : Below w.heap.size w v1 := below_after (w := w) (by go_grown) hB_v1; have hn_v1 := an (nl cc1) (nl cc3); clear hB_v1)
  rcases hg with hfd | ⟨hfd, f1⟩ | ⟨hfd, f1, f2⟩ | ⟨hfd, f1, f2, hk, hs, hk'⟩
  skip
  ·
    (go_wp2_with fail; refine (law24_goes _).mono ?_; rintro en v4 ⟨rfl, hB_v4⟩; have lay_v4 := laid_after hB_v4; have hG := cell_grown cc1 (by go_grown) hB_v4; replace fcc1 := fl hG fcc1 cc1; replace cc1 := cl hG cc1; replace fcc2 := fl hG fcc2 cc2; replace cc2 := cl hG cc2; replace fcc3 := fl hG fcc3 cc3; replace cc3 := cl hG cc3; replace fcc4 := fl hG fcc4 cc4; replace cc4 := cl hG cc4; have hs_v4 := hG.size; clear hG; replace hBW : Below w.heap.size w v4 := below_after (w := w) (by go_grown) hB_v4; have hn_v4 := an (nl cc1) (nl cc3); clear hB_v4)
    go_wp2_with fail
    go_returns
    exact ⟨rfl, by go_grown⟩
  skip
  ·
    (go_wp2_with fail; refine (class_Finite _ _ _ _).mono ?_; rw [f1]; rintro en x1 ⟨rfl, hB_x1⟩; have lay_x1 := laid_after hB_x1; have hG := cell_grown cc1 (by go_grown) hB_x1; replace fcc1 := fl hG fcc1 cc1; replace cc1 := cl hG cc1; replace fcc2 := fl hG fcc2 cc2; replace cc2 := cl hG cc2; replace fcc3 := fl hG fcc3 cc3; replace cc3 := cl hG cc3; replace fcc4 := fl hG fcc4 cc4; replace cc4 := cl hG cc4; have hs_x1 := hG.size; clear hG; replace hBW : Below w.heap.size w x1 := below_after (w := w) (by go_grown) hB_x1; have hn_x1 := an (nl cc1) (nl cc3); clear hB_x1)
    (go_wp2_with fail; refine (law24_goes _).mono ?_; rintro en v4 ⟨rfl, hB_v4⟩; have lay_v4 := laid_after hB_v4; have hG := cell_grown cc1 (by go_grown) hB_v4; replace fcc1 := fl hG fcc1 cc1; replace cc1 := cl hG cc1; replace fcc2 := fl hG fcc2 cc2; replace cc2 := cl hG cc2; replace fcc3 := fl hG fcc3 cc3; replace cc3 := cl hG cc3; replace fcc4 := fl hG fcc4 cc4; replace cc4 := cl hG cc4; have hs_v4 := hG.size; clear hG; replace hBW : Below w.heap.size w v4 := below_after (w := w) (by go_grown) hB_v4; have hn_v4 := an (nl cc1) (nl cc3); clear hB_v4)
    go_wp2_with fail
    go_returns
    exact ⟨rfl, by go_grown⟩
  skip
  ·
    (go_wp2_with fail; refine (class_Finite _ _ _ _).mono ?_; rw [f1]; rintro en x1 ⟨rfl, hB_x1⟩; have lay_x1 := laid_after hB_x1; have hG := cell_grown cc1 (by go_grown) hB_x1; replace fcc1 := fl hG fcc1 cc1; replace cc1 := cl hG cc1; replace fcc2 := fl hG fcc2 cc2; replace cc2 := cl hG cc2; replace fcc3 := fl hG fcc3 cc3; replace cc3 := cl hG cc3; replace fcc4 := fl hG fcc4 cc4; replace cc4 := cl hG cc4; have hs_x1 := hG.size; clear hG; replace hBW : Below w.heap.size w x1 := below_after (w := w) (by go_grown) hB_x1; have hn_x1 := an (nl cc1) (nl cc3); clear hB_x1)
    (go_wp2_with fail; refine (class_Finite _ _ _ _).mono ?_; rw [f2]; rintro en x2 ⟨rfl, hB_x2⟩; have lay_x2 := laid_after hB_x2; have hG := cell_grown cc1 (by go_grown) hB_x2; replace fcc1 := fl hG fcc1 cc1; replace cc1 := cl hG cc1; replace fcc2 := fl hG fcc2 cc2; replace cc2 := cl hG cc2; replace fcc3 := fl hG fcc3 cc3; replace cc3 := cl hG cc3; replace fcc4 := fl hG fcc4 cc4; replace cc4 := cl hG cc4; have hs_x2 := hG.size; clear hG; replace hBW : Below w.heap.size w x2 := below_after (w := w) (by go_grown) hB_x2; have hn_x2 := an (nl cc1) (nl cc3); clear hB_x2)
    (go_wp2_with fail; refine (law24_goes _).mono ?_; rintro en v4 ⟨rfl, hB_v4⟩; have lay_v4 := laid_after hB_v4; have hG := cell_grown cc1 (by go_grown) hB_v4; replace fcc1 := fl hG fcc1 cc1; replace cc1 := cl hG cc1; replace fcc2 := fl hG fcc2 cc2; replace cc2 := cl hG cc2; replace fcc3 := fl hG fcc3 cc3; replace cc3 := cl hG cc3; replace fcc4 := fl hG fcc4 cc4; replace cc4 := cl hG cc4; have hs_v4 := hG.size; clear hG; replace hBW : Below w.heap.size w v4 := below_after (w := w) (by go_grown) hB_v4; have hn_v4 := an (nl cc1) (nl cc3); clear hB_v4)
    go_wp2_with fail
    go_returns
    exact ⟨rfl, by go_grown⟩
  skip
  (go_wp2_with fail; refine (class_Finite _ _ _ _).mono ?_; rw [f1]; rintro en x1 ⟨rfl, hB_x1⟩; have lay_x1 := laid_after hB_x1; have hG := cell_grown cc1 (by go_grown) hB_x1; replace fcc1 := fl hG fcc1 cc1; replace cc1 := cl hG cc1; replace fcc2 := fl hG fcc2 cc2; replace cc2 := cl hG cc2; replace fcc3 := fl hG fcc3 cc3; replace cc3 := cl hG cc3; replace fcc4 := fl hG fcc4 cc4; replace cc4 := cl hG cc4; have hs_x1 := hG.size; clear hG; replace hBW : Below w.heap.size w x1 := below_after (w := w) (by go_grown) hB_x1; have hn_x1 := an (nl cc1) (nl cc3); clear hB_x1)
  (go_wp2_with fail; refine (class_Finite _ _ _ _).mono ?_; rw [f2]; rintro en x2 ⟨rfl, hB_x2⟩; have lay_x2 := laid_after hB_x2; have hG := cell_grown cc1 (by go_grown) hB_x2; replace fcc1 := fl hG fcc1 cc1; replace cc1 := cl hG cc1; replace fcc2 := fl hG fcc2 cc2; replace cc2 := cl hG cc2; replace fcc3 := fl hG fcc3 cc3; replace cc3 := cl hG cc3; replace fcc4 := fl hG fcc4 cc4; replace cc4 := cl hG cc4; have hs_x2 := hG.size; clear hG; replace hBW : Below w.heap.size w x2 := below_after (w := w) (by go_grown) hB_x2; have hn_x2 := an (nl cc1) (nl cc3); clear hB_x2)
  (go_wp2_with fail; refine (word_Cmp _ _ _ _ _).mono ?_; rw [k0.out]; rintro en v5 ⟨rfl, hB_v5⟩; have lay_v5 := laid_after hB_v5; have hG := cell_grown cc1 (by go_grown) hB_v5; replace fcc1 := fl hG fcc1 cc1; replace cc1 := cl hG cc1; replace fcc2 := fl hG fcc2 cc2; replace cc2 := cl hG cc2; replace fcc3 := fl hG fcc3 cc3; replace cc3 := cl hG cc3; replace fcc4 := fl hG fcc4 cc4; replace cc4 := cl hG cc4; have hs_v5 := hG.size; clear hG; replace hBW : Below w.heap.size w v5 := below_after (w := w) (by go_grown) hB_v5; have hn_v5 := an (nl cc1) (nl cc3); clear hB_v5)
  rcases hk with ⟨y1, rfl, rfl, rfl, rfl⟩ | ⟨y1, rfl, rfl, rfl, rfl⟩
  skip
  case' inl =>
    skip
    skip
    skip
    skip
    go_upto_region 7 with fail
    ((first | refine wp_rename ?_ | refine goal_rename ?_); intro W7 hw_W7; have hG := named cc1 W7 (by rw [hw_W7]; go_grown); replace fcc1 := fl hG fcc1 cc1; replace cc1 := cl hG cc1; replace fcc2 := fl hG fcc2 cc2; replace cc2 := cl hG cc2; replace fcc3 := fl hG fcc3 cc3; replace cc3 := cl hG cc3; replace fcc4 := fl hG fcc4 cc4; replace cc4 := cl hG cc4; replace hBW := below_after hBW hG; have hs_W7 := hG.size; clear hG; have hn_W7 := an (nl cc1) (nl cc3); have lay_W7 : Laid W7 := Laid.below (w := w) (by assumption) hBW; clear hw_W7)
  skip
  case' inr =>
    skip
    skip
    skip
    skip
    go_upto_region 7 with fail
    ((first | refine wp_rename ?_ | refine goal_rename ?_); intro W7 hw_W7; replace cc1 : W7.cell? ⟨w.heap.size, 0, none⟩ = some (.int .u64 uh) := (by rw [hw_W7]; go_simp); replace fcc1 := rf hw_W7 fcc1 (by go_simp); replace cc2 : W7.cell? ⟨w.heap.size, 1, none⟩ = some (.int .u64 ul) := (by rw [hw_W7]; go_simp); replace fcc2 := rf hw_W7 fcc2 (by go_simp); replace cc3 : W7.cell? ⟨w.heap.size + 1, 0, none⟩ = some (.int .u64 vh) := (by rw [hw_W7]; go_simp); replace fcc3 := rf hw_W7 fcc3 (by go_simp); replace cc4 : W7.cell? ⟨w.heap.size + 1, 1, none⟩ = some (.int .u64 vl) := (by rw [hw_W7]; go_simp); replace fcc4 := rf hw_W7 fcc4 (by go_simp); replace hBW : Below w.heap.size w W7 := (by rw [hw_W7]; (first | with_reducible exact drewN_below (by assumption) _ | go_grown)); have hn_W7 := an (nl cc1) (nl cc3); have lay_W7 : Laid W7 := Laid.below (w := w) (by assumption) hBW; clear hw_W7)
  all_goals (
  refine Lin.wp_region_lin (by kernel_rfl) (by intro _ _ d _ _ h; cases d <;> exact h) (by kernel_rfl) (fun w' => Below W7.heap.size W7 w' ∧ w'.cell? ⟨w.heap.size, 0, none⟩ = some (.int .u64 uh) ∧ w'.cell? ⟨w.heap.size, 1, none⟩ = some (.int .u64 ul) ∧ w'.cell? ⟨w.heap.size + 1, 0, none⟩ = some (.int .u64 vh) ∧ w'.cell? ⟨w.heap.size + 1, 1, none⟩ = some (.int .u64 vl)) ⟨(Below.refl _ _).drew, by go_simp, by go_simp, by go_simp, by go_simp⟩ ?_
  simp only [List.length_cons, List.length_nil, Nat.reduceAdd]
  refine Lin.Blk.out ?_
  iterate 3 (refine Lin.bl_val rfl rfl rfl ?_; apply Exists.intro; refine ⟨fun w' hw' => ?_, ?_⟩; (focus (have hBw := hw'.1; have hSw := hw'.2; clear hw'; (try dsimp only at hBw hSw); go_simp; first | with_reducible exact Lin.lin_value | with_reducible exact Lin.lin_skip)); (try simp only [Act.put, List.setIfInBounds_toArray, List.set_cons_zero, List.set_cons_succ]))
  (refine Lin.bl_val rfl rfl rfl ?_; apply Exists.intro; refine ⟨fun w' hw' => ?_, ?_⟩; (focus (have hBw := hw'.1; have hSw := hw'.2; clear hw'; (try dsimp only at hBw hSw); have lay' : Laid w' := Laid.below lay_W7 hBw; go_simp; first | exact Lin.lin_ret (rint_Rint _ _ _ _ _ _) (by rw [e0.out, e1.out, e2.out]) | exact Lin.lin_ret (rint_Rint _ _ _ _ _ _) (by rw [g0.out, g1.out, g2.out]))); (try simp only [Act.put, List.setIfInBounds_toArray, List.set_cons_zero, List.set_cons_succ]))
  iterate 3 (refine Lin.bl_val rfl rfl rfl ?_; apply Exists.intro; refine ⟨fun w' hw' => ?_, ?_⟩; (focus (have hBw := hw'.1; have hSw := hw'.2; clear hw'; (try dsimp only at hBw hSw); go_simp; first | with_reducible exact Lin.lin_value | with_reducible exact Lin.lin_skip)); (try simp only [Act.put, List.setIfInBounds_toArray, List.set_cons_zero, List.set_cons_succ]))
  (refine Lin.bl_val rfl rfl rfl ?_; apply Exists.intro; refine ⟨fun w' hw' => ?_, ?_⟩; (focus (have hBw := hw'.1; have hSw := hw'.2; clear hw'; (try dsimp only at hBw hSw); have lay' : Laid w' := Laid.below lay_W7 hBw; go_simp; first | exact Lin.lin_ret (rint_Rint _ _ _ _ _ _) (by rw [e0.out, e1.out, e2.out]) | exact Lin.lin_ret (rint_Rint _ _ _ _ _ _) (by rw [g0.out, g1.out, g2.out]))); (try simp only [Act.put, List.setIfInBounds_toArray, List.set_cons_zero, List.set_cons_succ]))
  refine Lin.bl_rest rfl ?_
  refine Lin.bl_rest rfl ?_
  refine Lin.bl_rest rfl ?_
  refine Lin.bl_rest rfl ?_
  refine Lin.bl_end ?_
  refine Lin.new2 W7.heap.size (fun wa wb hc hb => ⟨hc.1.trans (hb.mono hc.1.size), cell_later hb hc.2.1, cell_later hb hc.2.2.1, cell_later hb hc.2.2.2.1, cell_later hb hc.2.2.2.2⟩) (fun wa hc => hc.1.size) 8 9 _ _ rfl rfl (by decide) (by kernel_rfl) rfl rfl (by kernel_rfl) (by kernel_rfl) (by kernel_rfl) (by kernel_rfl) rfl rfl (.agg #[.int .u64 0, .int .u64 0, .int .u8 0]) (.agg #[.int .u64 0, .int .u64 0, .int .u8 0]) (by intro t ht; cases ht <;> (intro w; kernel_rfl)) (by intro t ht; cases ht <;> (intro w; kernel_rfl)) ?_
  intro b1 b2 Y hw_Y lo_b1 lo_b2 ne_b1_b2 ho_b1 ho_b2
  have nf_b2_b1 : b2 ≠ b1 := Ne.symm ne_b1_b2
  have hb_Y := hw_Y.1; clear hw_Y
  have lay_Y : Laid Y := Laid.below lay_W7 hb_Y
  (replace fcc1 := fl hb_Y fcc1 cc1; replace cc1 := cl hb_Y cc1; replace fcc2 := fl hb_Y fcc2 cc2; replace cc2 := cl hb_Y cc2; replace fcc3 := fl hb_Y fcc3 cc3; replace cc3 := cl hb_Y cc3; replace fcc4 := fl hb_Y fcc4 cc4; replace cc4 := cl hb_Y cc4; replace hBW := below_after hBW hb_Y; have hsb_Y := hb_Y.size; have hn_Y := an (nl cc1) (nl cc3))
  have hi_b1 := Lin.heap_lt ho_b1
  have cc5 : Y.cell? ⟨b1, 0, none⟩ = some (.int .u64 0) := Lin.heap_cell ho_b1 rfl; have fcc5 : Y.frozen? ⟨b1, 0, none⟩ = false := Lin.heap_free ho_b1
  have cc6 : Y.cell? ⟨b1, 1, none⟩ = some (.int .u64 0) := Lin.heap_cell ho_b1 rfl; have fcc6 : Y.frozen? ⟨b1, 1, none⟩ = false := Lin.heap_free ho_b1
  have cc7 : Y.cell? ⟨b1, 2, none⟩ = some (.int .u8 0) := Lin.heap_cell ho_b1 rfl; have fcc7 : Y.frozen? ⟨b1, 2, none⟩ = false := Lin.heap_free ho_b1
  clear ho_b1
  have hi_b2 := Lin.heap_lt ho_b2
  have cc8 : Y.cell? ⟨b2, 0, none⟩ = some (.int .u64 0) := Lin.heap_cell ho_b2 rfl; have fcc8 : Y.frozen? ⟨b2, 0, none⟩ = false := Lin.heap_free ho_b2
  have cc9 : Y.cell? ⟨b2, 1, none⟩ = some (.int .u64 0) := Lin.heap_cell ho_b2 rfl; have fcc9 : Y.frozen? ⟨b2, 1, none⟩ = false := Lin.heap_free ho_b2
  have cc10 : Y.cell? ⟨b2, 2, none⟩ = some (.int .u8 0) := Lin.heap_cell ho_b2 rfl; have fcc10 : Y.frozen? ⟨b2, 2, none⟩ = false := Lin.heap_free ho_b2
  clear ho_b2
  have hN_Y : b1 ≠ Y.heap.size ∧ Y.heap.size ≠ b1 ∧ w.heap.size ≤ b1 ∧ b2 ≠ Y.heap.size ∧ Y.heap.size ≠ b2 ∧ w.heap.size ≤ b2 := (by omega)
  unfold Lin.ptrOf
  (try simp only [Act.put, List.setIfInBounds_toArray, List.set_cons_zero, List.set_cons_succ])
  have hM_Y : w.heap.size ≠ b1 ∧ b1 ≠ w.heap.size ∧ w.heap.size ≠ b2 ∧ b2 ≠ w.heap.size ∧ w.heap.size + 1 ≠ b1 ∧ b1 ≠ w.heap.size + 1 ∧ w.heap.size + 1 ≠ b2 ∧ b2 ≠ w.heap.size + 1 := (by omega)
  (refine wpAny_ready (rs := [10]) (by kernel_rfl) (by simp) ?_; refine AllReady.cons rfl (fun K hK => ?_) AllReady.nil; go_simp; refine hK _ _ ?_; clear hK K)
  (refine wpAny_ready (rs := [11]) (by kernel_rfl) (by simp) ?_; refine AllReady.cons rfl (fun K hK => ?_) AllReady.nil; go_simp; refine hK _ _ ?_; clear hK K)
  refine wpAny_done (by kernel_rfl) ?_ _
  apply_assumption
  ((first | refine wp_rename ?_ | refine goal_rename ?_); intro Ys hw_Ys; replace cc1 := rn hw_Ys cc1 (by go_simp); replace fcc1 := rf hw_Ys fcc1 (by go_simp); replace cc2 := rn hw_Ys cc2 (by go_simp); replace fcc2 := rf hw_Ys fcc2 (by go_simp); replace cc3 := rn hw_Ys cc3 (by go_simp); replace fcc3 := rf hw_Ys fcc3 (by go_simp); replace cc4 := rn hw_Ys cc4 (by go_simp); replace fcc4 := rf hw_Ys fcc4 (by go_simp); replace cc5 : Ys.cell? ⟨b1, 0, none⟩ = some (.int .u64 p0) := (by rw [hw_Ys]; go_simp); replace fcc5 := rf hw_Ys fcc5 (by go_simp); replace cc6 : Ys.cell? ⟨b1, 1, none⟩ = some (.int .u64 p1) := (by rw [hw_Ys]; go_simp); replace fcc6 := rf hw_Ys fcc6 (by go_simp); replace cc7 : Ys.cell? ⟨b1, 2, none⟩ = some (.int .u8 pz) := (by rw [hw_Ys]; go_simp); replace fcc7 := rf hw_Ys fcc7 (by go_simp); replace cc8 : Ys.cell? ⟨b2, 0, none⟩ = some (.int .u64 r0) := (by rw [hw_Ys]; go_simp); replace fcc8 := rf hw_Ys fcc8 (by go_simp); replace cc9 : Ys.cell? ⟨b2, 1, none⟩ = some (.int .u64 r1) := (by rw [hw_Ys]; go_simp); replace fcc9 := rf hw_Ys fcc9 (by go_simp); replace cc10 : Ys.cell? ⟨b2, 2, none⟩ = some (.int .u8 rz) := (by rw [hw_Ys]; go_simp); replace fcc10 := rf hw_Ys fcc10 (by go_simp); replace hBW : Below w.heap.size w Ys := (by rw [hw_Ys]; (first | with_reducible exact drewN_below (by assumption) _ | go_grown)); have hn_Ys := an (nl cc1) (an (nl cc3) (an (nl cc5) (nl cc8))); have lay_Ys : Laid Ys := Laid.below (w := w) (by assumption) hBW; clear hw_Ys)
  go_upto_region 8 with fail
  ((first | refine wp_rename ?_ | refine goal_rename ?_); intro W8 hw_W8; have hG := named cc1 W8 (by rw [hw_W8]; go_grown); replace fcc1 := fl hG fcc1 cc1; replace cc1 := cl hG cc1; replace fcc2 := fl hG fcc2 cc2; replace cc2 := cl hG cc2; replace fcc3 := fl hG fcc3 cc3; replace cc3 := cl hG cc3; replace fcc4 := fl hG fcc4 cc4; replace cc4 := cl hG cc4; replace fcc5 := fl hG fcc5 cc5; replace cc5 := cl hG cc5; replace fcc6 := fl hG fcc6 cc6; replace cc6 := cl hG cc6; replace fcc7 := fl hG fcc7 cc7; replace cc7 := cl hG cc7; replace fcc8 := fl hG fcc8 cc8; replace cc8 := cl hG cc8; replace fcc9 := fl hG fcc9 cc9; replace cc9 := cl hG cc9; replace fcc10 := fl hG fcc10 cc10; replace cc10 := cl hG cc10; replace hBW := below_after hBW hG; have hs_W8 := hG.size; clear hG; have hn_W8 := an (nl cc1) (an (nl cc3) (an (nl cc5) (nl cc8))); have lay_W8 : Laid W8 := Laid.below (w := w) (by assumption) hBW; clear hw_W8)
  refine Lin.wp_region_lin (by kernel_rfl) (by intro _ _ d _ _ h; cases d <;> exact h) (by kernel_rfl) (fun w' => Below W8.heap.size W8 w' ∧ w'.cell? ⟨w.heap.size, 0, none⟩ = some (.int .u64 uh) ∧ w'.cell? ⟨w.heap.size, 1, none⟩ = some (.int .u64 ul)) ⟨(Below.refl _ _).drew, by go_simp, by go_simp⟩ ?_
  simp only [List.length_cons, List.length_nil, Nat.reduceAdd]
  refine Lin.Blk.out ?_
  iterate 2 (refine Lin.bl_val rfl rfl rfl ?_; apply Exists.intro; refine ⟨fun w' hw' => ?_, ?_⟩; (focus (have hBw := hw'.1; have hSw := hw'.2; clear hw'; (try dsimp only at hBw hSw); go_simp; first | with_reducible exact Lin.lin_value | with_reducible exact Lin.lin_skip)); (try simp only [Act.put, List.setIfInBounds_toArray, List.set_cons_zero, List.set_cons_succ]))
  (refine Lin.bl_val rfl rfl rfl ?_; apply Exists.intro; refine ⟨fun w' hw' => ?_, ?_⟩; (focus (have hBw := hw'.1; have hSw := hw'.2; clear hw'; (try dsimp only at hBw hSw); have lay' : Laid w' := Laid.below lay_W8 hBw; go_simp; first | exact Lin.lin_ret (rint_Rint _ _ _ _ _ _) (by rw [u0.out, u1.out, u2.out]) | exact Lin.lin_ret (rint_Rint _ _ _ _ _ _) (by rw [t0.out, t1.out, t2.out]))); (try simp only [Act.put, List.setIfInBounds_toArray, List.set_cons_zero, List.set_cons_succ]))
  iterate 2 (refine Lin.bl_val rfl rfl rfl ?_; apply Exists.intro; refine ⟨fun w' hw' => ?_, ?_⟩; (focus (have hBw := hw'.1; have hSw := hw'.2; clear hw'; (try dsimp only at hBw hSw); go_simp; first | with_reducible exact Lin.lin_value | with_reducible exact Lin.lin_skip)); (try simp only [Act.put, List.setIfInBounds_toArray, List.set_cons_zero, List.set_cons_succ]))
  (refine Lin.bl_val rfl rfl rfl ?_; apply Exists.intro; refine ⟨fun w' hw' => ?_, ?_⟩; (focus (have hBw := hw'.1; have hSw := hw'.2; clear hw'; (try dsimp only at hBw hSw); have lay' : Laid w' := Laid.below lay_W8 hBw; go_simp; first | exact Lin.lin_ret (rint_Rint _ _ _ _ _ _) (by rw [u0.out, u1.out, u2.out]) | exact Lin.lin_ret (rint_Rint _ _ _ _ _ _) (by rw [t0.out, t1.out, t2.out]))); (try simp only [Act.put, List.setIfInBounds_toArray, List.set_cons_zero, List.set_cons_succ]))
  refine Lin.bl_rest rfl ?_
  refine Lin.bl_rest rfl ?_
  refine Lin.bl_rest rfl ?_
  refine Lin.bl_rest rfl ?_
  refine Lin.bl_end ?_
  refine Lin.new2 W8.heap.size (fun wa wb hc hb => ⟨hc.1.trans (hb.mono hc.1.size), cell_later hb hc.2.1, cell_later hb hc.2.2⟩) (fun wa hc => hc.1.size) 6 7 _ _ rfl rfl (by decide) (by kernel_rfl) rfl rfl (by kernel_rfl) (by kernel_rfl) (by kernel_rfl) (by kernel_rfl) rfl rfl (.agg #[.int .u64 0, .int .u64 0, .int .u8 0]) (.agg #[.int .u64 0, .int .u64 0, .int .u8 0]) (by intro t ht; cases ht <;> (intro w; kernel_rfl)) (by intro t ht; cases ht <;> (intro w; kernel_rfl)) ?_
  intro b3 b4 Z hw_Z lo_b3 lo_b4 ne_b3_b4 ho_b3 ho_b4
  have nf_b4_b3 : b4 ≠ b3 := Ne.symm ne_b3_b4
  have hb_Z := hw_Z.1; clear hw_Z
  have lay_Z : Laid Z := Laid.below lay_W8 hb_Z
  (replace fcc1 := fl hb_Z fcc1 cc1; replace cc1 := cl hb_Z cc1; replace fcc2 := fl hb_Z fcc2 cc2; replace cc2 := cl hb_Z cc2; replace fcc3 := fl hb_Z fcc3 cc3; replace cc3 := cl hb_Z cc3; replace fcc4 := fl hb_Z fcc4 cc4; replace cc4 := cl hb_Z cc4; replace fcc5 := fl hb_Z fcc5 cc5; replace cc5 := cl hb_Z cc5; replace fcc6 := fl hb_Z fcc6 cc6; replace cc6 := cl hb_Z cc6; replace fcc7 := fl hb_Z fcc7 cc7; replace cc7 := cl hb_Z cc7; replace fcc8 := fl hb_Z fcc8 cc8; replace cc8 := cl hb_Z cc8; replace fcc9 := fl hb_Z fcc9 cc9; replace cc9 := cl hb_Z cc9; replace fcc10 := fl hb_Z fcc10 cc10; replace cc10 := cl hb_Z cc10; replace hBW := below_after hBW hb_Z; have hsb_Z := hb_Z.size; have hn_Z := an (nl cc1) (an (nl cc3) (an (nl cc5) (nl cc8))))
  have hi_b3 := Lin.heap_lt ho_b3
  have cc11 : Z.cell? ⟨b3, 0, none⟩ = some (.int .u64 0) := Lin.heap_cell ho_b3 rfl; have fcc11 : Z.frozen? ⟨b3, 0, none⟩ = false := Lin.heap_free ho_b3
  have cc12 : Z.cell? ⟨b3, 1, none⟩ = some (.int .u64 0) := Lin.heap_cell ho_b3 rfl; have fcc12 : Z.frozen? ⟨b3, 1, none⟩ = false := Lin.heap_free ho_b3
  have cc13 : Z.cell? ⟨b3, 2, none⟩ = some (.int .u8 0) := Lin.heap_cell ho_b3 rfl; have fcc13 : Z.frozen? ⟨b3, 2, none⟩ = false := Lin.heap_free ho_b3
  clear ho_b3
  have hi_b4 := Lin.heap_lt ho_b4
  have cc14 : Z.cell? ⟨b4, 0, none⟩ = some (.int .u64 0) := Lin.heap_cell ho_b4 rfl; have fcc14 : Z.frozen? ⟨b4, 0, none⟩ = false := Lin.heap_free ho_b4
  have cc15 : Z.cell? ⟨b4, 1, none⟩ = some (.int .u64 0) := Lin.heap_cell ho_b4 rfl; have fcc15 : Z.frozen? ⟨b4, 1, none⟩ = false := Lin.heap_free ho_b4
  have cc16 : Z.cell? ⟨b4, 2, none⟩ = some (.int .u8 0) := Lin.heap_cell ho_b4 rfl; have fcc16 : Z.frozen? ⟨b4, 2, none⟩ = false := Lin.heap_free ho_b4
  clear ho_b4
  have hN_Z : b3 ≠ Z.heap.size ∧ Z.heap.size ≠ b3 ∧ w.heap.size ≤ b3 ∧ b4 ≠ Z.heap.size ∧ Z.heap.size ≠ b4 ∧ w.heap.size ≤ b4 := (by omega)
  unfold Lin.ptrOf
  (try simp only [Act.put, List.setIfInBounds_toArray, List.set_cons_zero, List.set_cons_succ])
  have hM_Z : w.heap.size ≠ b3 ∧ b3 ≠ w.heap.size ∧ w.heap.size ≠ b4 ∧ b4 ≠ w.heap.size ∧ w.heap.size + 1 ≠ b3 ∧ b3 ≠ w.heap.size + 1 ∧ w.heap.size + 1 ≠ b4 ∧ b4 ≠ w.heap.size + 1 ∧ b1 ≠ b3 ∧ b3 ≠ b1 ∧ b1 ≠ b4 ∧ b4 ≠ b1 ∧ b2 ≠ b3 ∧ b3 ≠ b2 ∧ b2 ≠ b4 ∧ b4 ≠ b2 := (by omega)
  (refine wpAny_ready (rs := [8]) (by kernel_rfl) (by simp) ?_; refine AllReady.cons rfl (fun K hK => ?_) AllReady.nil; go_simp; refine hK _ _ ?_; clear hK K)
  (refine wpAny_ready (rs := [9]) (by kernel_rfl) (by simp) ?_; refine AllReady.cons rfl (fun K hK => ?_) AllReady.nil; go_simp; refine hK _ _ ?_; clear hK K)
  refine wpAny_done (by kernel_rfl) ?_ _
  apply_assumption
  ((first | refine wp_rename ?_ | refine goal_rename ?_); intro Zs hw_Zs; replace cc1 := rn hw_Zs cc1 (by go_simp); replace fcc1 := rf hw_Zs fcc1 (by go_simp); replace cc2 := rn hw_Zs cc2 (by go_simp); replace fcc2 := rf hw_Zs fcc2 (by go_simp); replace cc3 := rn hw_Zs cc3 (by go_simp); replace fcc3 := rf hw_Zs fcc3 (by go_simp); replace cc4 := rn hw_Zs cc4 (by go_simp); replace fcc4 := rf hw_Zs fcc4 (by go_simp); replace cc5 := rn hw_Zs cc5 (by go_simp); replace fcc5 := rf hw_Zs fcc5 (by go_simp); replace cc6 := rn hw_Zs cc6 (by go_simp); replace fcc6 := rf hw_Zs fcc6 (by go_simp); replace cc7 := rn hw_Zs cc7 (by go_simp); replace fcc7 := rf hw_Zs fcc7 (by go_simp); replace cc8 := rn hw_Zs cc8 (by go_simp); replace fcc8 := rf hw_Zs fcc8 (by go_simp); replace cc9 := rn hw_Zs cc9 (by go_simp); replace fcc9 := rf hw_Zs fcc9 (by go_simp); replace cc10 := rn hw_Zs cc10 (by go_simp); replace fcc10 := rf hw_Zs fcc10 (by go_simp); replace cc11 : Zs.cell? ⟨b3, 0, none⟩ = some (.int .u64 a0) := (by rw [hw_Zs]; go_simp); replace fcc11 := rf hw_Zs fcc11 (by go_simp); replace cc12 : Zs.cell? ⟨b3, 1, none⟩ = some (.int .u64 a1) := (by rw [hw_Zs]; go_simp); replace fcc12 := rf hw_Zs fcc12 (by go_simp); replace cc13 : Zs.cell? ⟨b3, 2, none⟩ = some (.int .u8 af) := (by rw [hw_Zs]; go_simp); replace fcc13 := rf hw_Zs fcc13 (by go_simp); replace cc14 : Zs.cell? ⟨b4, 0, none⟩ = some (.int .u64 d0) := (by rw [hw_Zs]; go_simp); replace fcc14 := rf hw_Zs fcc14 (by go_simp); replace cc15 : Zs.cell? ⟨b4, 1, none⟩ = some (.int .u64 d1) := (by rw [hw_Zs]; go_simp); replace fcc15 := rf hw_Zs fcc15 (by go_simp); replace cc16 : Zs.cell? ⟨b4, 2, none⟩ = some (.int .u8 df) := (by rw [hw_Zs]; go_simp); replace fcc16 := rf hw_Zs fcc16 (by go_simp); replace hBW : Below w.heap.size w Zs := (by rw [hw_Zs]; (first | with_reducible exact drewN_below (by assumption) _ | go_grown)); have hn_Zs := an (nl cc1) (an (nl cc3) (an (nl cc5) (an (nl cc8) (an (nl cc11) (nl cc14))))); have lay_Zs : Laid Zs := Laid.below (w := w) (by assumption) hBW; clear hw_Zs)
  (go_wp2_with fail; refine (format_Emax _ _).mono ?_; rintro en v6 ⟨rfl, hB_v6⟩; have lay_v6 := laid_after hB_v6; have hG := cell_grown cc1 (by go_grown) hB_v6; replace fcc1 := fl hG fcc1 cc1; replace cc1 := cl hG cc1; replace fcc2 := fl hG fcc2 cc2; replace cc2 := cl hG cc2; replace fcc3 := fl hG fcc3 cc3; replace cc3 := cl hG cc3; replace fcc4 := fl hG fcc4 cc4; replace cc4 := cl hG cc4; replace fcc5 := fl hG fcc5 cc5; replace cc5 := cl hG cc5; replace fcc6 := fl hG fcc6 cc6; replace cc6 := cl hG cc6; replace fcc7 := fl hG fcc7 cc7; replace cc7 := cl hG cc7; replace fcc8 := fl hG fcc8 cc8; replace cc8 := cl hG cc8; replace fcc9 := fl hG fcc9 cc9; replace cc9 := cl hG cc9; replace fcc10 := fl hG fcc10 cc10; replace cc10 := cl hG cc10; replace fcc11 := fl hG fcc11 cc11; replace cc11 := cl hG cc11; replace fcc12 := fl hG fcc12 cc12; replace cc12 := cl hG cc12; replace fcc13 := fl hG fcc13 cc13; replace cc13 := cl hG cc13; replace fcc14 := fl hG fcc14 cc14; replace cc14 := cl hG cc14; replace fcc15 := fl hG fcc15 cc15; replace cc15 := cl hG cc15; replace fcc16 := fl hG fcc16 cc16; replace cc16 := cl hG cc16; have hs_v6 := hG.size; clear hG; replace hBW : Below w.heap.size w v6 := below_after (w := w) (by go_grown) hB_v6; have hn_v6 := an (nl cc1) (an (nl cc3) (an (nl cc5) (an (nl cc8) (an (nl cc11) (nl cc14))))); clear hB_v6)
  (go_wp2_with fail; refine (format_Make _ _ _ _ _ _).mono ?_; rw [c00, i0.out, i1.out]; rintro en v7 ⟨rfl, hB_v7⟩; have lay_v7 := laid_after hB_v7; have hG := cell_grown cc1 (by go_grown) hB_v7; replace fcc1 := fl hG fcc1 cc1; replace cc1 := cl hG cc1; replace fcc2 := fl hG fcc2 cc2; replace cc2 := cl hG cc2; replace fcc3 := fl hG fcc3 cc3; replace cc3 := cl hG cc3; replace fcc4 := fl hG fcc4 cc4; replace cc4 := cl hG cc4; replace fcc5 := fl hG fcc5 cc5; replace cc5 := cl hG cc5; replace fcc6 := fl hG fcc6 cc6; replace cc6 := cl hG cc6; replace fcc7 := fl hG fcc7 cc7; replace cc7 := cl hG cc7; replace fcc8 := fl hG fcc8 cc8; replace cc8 := cl hG cc8; replace fcc9 := fl hG fcc9 cc9; replace cc9 := cl hG cc9; replace fcc10 := fl hG fcc10 cc10; replace cc10 := cl hG cc10; replace fcc11 := fl hG fcc11 cc11; replace cc11 := cl hG cc11; replace fcc12 := fl hG fcc12 cc12; replace cc12 := cl hG cc12; replace fcc13 := fl hG fcc13 cc13; replace cc13 := cl hG cc13; replace fcc14 := fl hG fcc14 cc14; replace cc14 := cl hG cc14; replace fcc15 := fl hG fcc15 cc15; replace cc15 := cl hG cc15; replace fcc16 := fl hG fcc16 cc16; replace cc16 := cl hG cc16; have hs_v7 := hG.size; clear hG; replace hBW : Below w.heap.size w v7 := below_after (w := w) (by go_grown) hB_v7; have hn_v7 := an (nl cc1) (an (nl cc3) (an (nl cc5) (an (nl cc8) (an (nl cc11) (nl cc14))))); clear hB_v7)
  (go_wp2_with fail; refine (addsub_Add _ _ _ _ _ _ _ _).mono ?_; rw [j0.out, j1.out, j2.out]; rintro en v8 ⟨rfl, hB_v8⟩; have lay_v8 := laid_after hB_v8; have hG := cell_grown cc1 (by go_grown) hB_v8; replace fcc1 := fl hG fcc1 cc1; replace cc1 := cl hG cc1; replace fcc2 := fl hG fcc2 cc2; replace cc2 := cl hG cc2; replace fcc3 := fl hG fcc3 cc3; replace cc3 := cl hG cc3; replace fcc4 := fl hG fcc4 cc4; replace cc4 := cl hG cc4; replace fcc5 := fl hG fcc5 cc5; replace cc5 := cl hG cc5; replace fcc6 := fl hG fcc6 cc6; replace cc6 := cl hG cc6; replace fcc7 := fl hG fcc7 cc7; replace cc7 := cl hG cc7; replace fcc8 := fl hG fcc8 cc8; replace cc8 := cl hG cc8; replace fcc9 := fl hG fcc9 cc9; replace cc9 := cl hG cc9; replace fcc10 := fl hG fcc10 cc10; replace cc10 := cl hG cc10; replace fcc11 := fl hG fcc11 cc11; replace cc11 := cl hG cc11; replace fcc12 := fl hG fcc12 cc12; replace cc12 := cl hG cc12; replace fcc13 := fl hG fcc13 cc13; replace cc13 := cl hG cc13; replace fcc14 := fl hG fcc14 cc14; replace cc14 := cl hG cc14; replace fcc15 := fl hG fcc15 cc15; replace cc15 := cl hG cc15; replace fcc16 := fl hG fcc16 cc16; replace cc16 := cl hG cc16; have cc17 := cl hB_v8 (show World.cell? _ ⟨v7.heap.size, 0, none⟩ = some (.int .u64 o0) by go_simp); have cc18 := cl hB_v8 (show World.cell? _ ⟨v7.heap.size, 1, none⟩ = some (.int .u64 o1) by go_simp); have hs_v8 := hG.size; clear hG; replace hBW : Below w.heap.size w v8 := below_after (w := w) (by go_grown) hB_v8; have hn_v8 := an (nl cc1) (an (nl cc3) (an (nl cc5) (an (nl cc8) (an (nl cc11) (an (nl cc14) (nl cc17)))))); clear hB_v8)
  rcases hs with ⟨rfl, rfl, rfl, rfl⟩ | ⟨y2, rfl, rfl, rfl⟩
  all_goals (
  go_wp2_with fail
  refine (word_Cmp _ _ _ _ _).mono ?_
  rw [k1.out]
  rintro en v9 ⟨rfl, hB_v9⟩
  have lay_v9 := laid_after hB_v9
  have hBW9 := below_after (w := w) (by go_grown) hB_v9
  go_wp2_with fail
  refine (law24_goes _).mono ?_
  rintro en v10 ⟨rfl, hB_v10⟩
  have hBW10 := below_after (w := w) (by go_grown) hB_v10
  go_wp2_with fail
  go_returns
  exact ⟨rfl, by go_grown⟩))
theorem walk_RintOrder (f m : Int) (h l h' l' : Int) [hU : U8 f] [hM : U8 m] [U64 h] [U64 l] [U64 h'] [U64 l'] (w : World) [hLay : Laid w] :
    Calls Tryz.prog 10 #[.int .u8 f, .int .u8 m, .agg #[.int .u64 (h), .int .u64 (l)], .agg #[.int .u64 (h'), .int .u64 (l')]] w fun en w' => en = .returned (.bool true) ∧ Below w.heap.size w w' := by
  have f0 := hU.ge
  have m0 := hM.ge
  haveI : U8 (m % 5) := ⟨by omega, by omega⟩
  have hm : m % 5 ≤ 4 := by omega
  have cx := sizeF_cat f (cat h l) f0
  have cy := sizeF_cat f (cat h' l') f0
  by_cases hf : f < 4
  case neg =>
    refine ro_ok f m h l h' l' _ _ _ _ _ (hi (sizeF f (cat h l))) (lo (sizeF f (cat h l))) (hi (sizeF f (cat h' l'))) (lo (sizeF f (cat h' l'))) _ _ _ _ _ _ _ _ _ _ _ _ _ _ _ _ _ _ w ?_ (Lib.hid rfl) (Lib.hid rfl) (Lib.hid rfl) (Lib.hid rfl) (Lib.hid rfl) (Lib.hid rfl) (Lib.hid rfl) (Lib.hid rfl) (Lib.hid rfl) (Lib.hid rfl) (Lib.hid rfl) (Lib.hid rfl) (Lib.hid rfl) (Lib.hid rfl) (Lib.hid rfl) (Lib.hid rfl) (Lib.hid rfl) (Lib.hid rfl) (Lib.hid rfl) (Lib.hid rfl) (Lib.hid rfl) (Lib.hid rfl) (Lib.hid rfl)
    exact Or.inl (decide_eq_false hf)
  cases hx : finC f (sizeF f (cat h l))
  case false =>
    refine ro_ok f m h l h' l' _ _ _ _ _ (hi (sizeF f (cat h l))) (lo (sizeF f (cat h l))) (hi (sizeF f (cat h' l'))) (lo (sizeF f (cat h' l'))) _ _ _ _ _ _ _ _ _ _ _ _ _ _ _ _ _ _ w ?_ (Lib.hid rfl) (Lib.hid rfl) (Lib.hid rfl) (Lib.hid rfl) (Lib.hid rfl) (Lib.hid rfl) (Lib.hid rfl) (Lib.hid rfl) (Lib.hid rfl) (Lib.hid rfl) (Lib.hid rfl) (Lib.hid rfl) (Lib.hid rfl) (Lib.hid rfl) (Lib.hid rfl) (Lib.hid rfl) (Lib.hid rfl) (Lib.hid rfl) (Lib.hid rfl) (Lib.hid rfl) (Lib.hid rfl) (Lib.hid rfl) (Lib.hid rfl)
    rw [cx]
    exact Or.inr (Or.inl ⟨decide_eq_true hf, hx⟩)
  cases hy : finC f (sizeF f (cat h' l'))
  case false =>
    refine ro_ok f m h l h' l' _ _ _ _ _ (hi (sizeF f (cat h l))) (lo (sizeF f (cat h l))) (hi (sizeF f (cat h' l'))) (lo (sizeF f (cat h' l'))) _ _ _ _ _ _ _ _ _ _ _ _ _ _ _ _ _ _ w ?_ (Lib.hid rfl) (Lib.hid rfl) (Lib.hid rfl) (Lib.hid rfl) (Lib.hid rfl) (Lib.hid rfl) (Lib.hid rfl) (Lib.hid rfl) (Lib.hid rfl) (Lib.hid rfl) (Lib.hid rfl) (Lib.hid rfl) (Lib.hid rfl) (Lib.hid rfl) (Lib.hid rfl) (Lib.hid rfl) (Lib.hid rfl) (Lib.hid rfl) (Lib.hid rfl) (Lib.hid rfl) (Lib.hid rfl) (Lib.hid rfl) (Lib.hid rfl)
    rw [cx, cy]
    exact Or.inr (Or.inr (Or.inl ⟨decide_eq_true hf, hx, hy⟩))
  have hI := infC_lt f f0 hf
  have small : ∀ v, classF f (sizeF f v) < 3 → sizeF f v < infC f := fun v hv => by
    have h1 := (class_fin f _ f0 hf).1 hv
    have h2 := sizeF_c f v f0 hf
    have h3 := (pos_parts f (sizeF f v) f0 hf (by rw [h2]; exact code_lt f v f0 hf)).1
    rw [h3] at h1; exact h1
  have x1 := small _ ((fin_dec hf).1 hx)
  have y1 := small _ ((fin_dec hf).1 hy)
  have cr : ∀ n v, cat (hi (rintB f n v)) (lo (rintB f n v)) = rintB f n v := fun n v => cat_small _ (rint_lt f n v f0 hf)
  have co : cat (hi (makeF f false (emaxS f) 0)) (lo (makeF f false (emaxS f) 0)) = makeF f false (emaxS f) 0 := cat_small _ (makeF_lt _ _ _ _ f0)
  have hs : ∀ x, x < infC f → (rintFl f 2 true x = 0 ∧ rintFl f 3 true x = 0 ∧ hi (rintB f 3 x) = hi (rintB f 2 x) ∧ lo (rintB f 3 x) = lo (rintB f 2 x)) ∨ ((rintFl f 2 true x == 0) = false ∧ hi (addB f 0 (rintB f 3 x) (makeF f false (emaxS f) 0)) = hi (rintB f 2 x) ∧ lo (addB f 0 (rintB f 3 x) (makeF f false (emaxS f) 0)) = lo (rintB f 2 x) ∧ addFl f 0 false (rintB f 3 x) (makeF f false (emaxS f) 0) = 0) := by
    intro x hx
    by_cases hr : rintFl f 2 true x = 0
    · obtain ⟨n1, n2⟩ := rint_same f x f0 hf hx hr
      exact Or.inl ⟨hr, n2, by rw [n1], by rw [n1]⟩
    · obtain ⟨n1, n2⟩ := rint_next f x f0 hf hx hr
      exact Or.inr ⟨beq_eq_false_iff_ne.2 hr, by rw [n1], by rw [n1], n2⟩
  rcases Nat.lt_or_ge (sizeF f (cat h' l')) (sizeF f (cat h l)) with hlt | hle
  · have hmo := rint_mono f (m % 5) _ _ f0 hf hm (Nat.le_of_lt hlt) x1
    refine ro_ok f m h l h' l' _ _ _ _ _ (hi (sizeF f (cat h' l'))) (lo (sizeF f (cat h' l'))) (hi (sizeF f (cat h l))) (lo (sizeF f (cat h l))) _ _ _ _ _ _ _ _ _ _ _ _ _ _ _ _ _ _ w ?_ (Lib.hid rfl) (Lib.hid rfl) (Lib.hid rfl) (Lib.hid rfl) (Lib.hid rfl) (Lib.hid rfl) (Lib.hid rfl) (Lib.hid rfl) (Lib.hid rfl) (Lib.hid rfl) (Lib.hid rfl) (Lib.hid rfl) (Lib.hid rfl) (Lib.hid rfl) (Lib.hid rfl) (Lib.hid rfl) (Lib.hid rfl) (Lib.hid rfl) (Lib.hid rfl) (Lib.hid rfl) (Lib.hid rfl) (Lib.hid rfl) (Lib.hid rfl)
    rw [cx, cy, cr, cr, cr, co]
    exact Or.inr (Or.inr (Or.inr ⟨decide_eq_true hf, hx, hy, Or.inr ⟨cmp_gt hlt, rfl, rfl, rfl, rfl⟩, hs _ y1, (cmp_le hmo).2⟩))
  · have hmo := rint_mono f (m % 5) _ _ f0 hf hm hle y1
    refine ro_ok f m h l h' l' _ _ _ _ _ (hi (sizeF f (cat h l))) (lo (sizeF f (cat h l))) (hi (sizeF f (cat h' l'))) (lo (sizeF f (cat h' l'))) _ _ _ _ _ _ _ _ _ _ _ _ _ _ _ _ _ _ w ?_ (Lib.hid rfl) (Lib.hid rfl) (Lib.hid rfl) (Lib.hid rfl) (Lib.hid rfl) (Lib.hid rfl) (Lib.hid rfl) (Lib.hid rfl) (Lib.hid rfl) (Lib.hid rfl) (Lib.hid rfl) (Lib.hid rfl) (Lib.hid rfl) (Lib.hid rfl) (Lib.hid rfl) (Lib.hid rfl) (Lib.hid rfl) (Lib.hid rfl) (Lib.hid rfl) (Lib.hid rfl) (Lib.hid rfl) (Lib.hid rfl) (Lib.hid rfl)
    rw [cx, cy, cr, cr, cr, co]
    exact Or.inr (Or.inr (Or.inr ⟨decide_eq_true hf, hx, hy, Or.inl ⟨(cmp_le hle).1, rfl, rfl, rfl, rfl⟩, hs _ x1, (cmp_le hmo).2⟩))
end Go.Proofs.YtkldkchkhblndaaGreatDoor
