/- The contract of the reference's Round: for every number that is not too long. Condition: the listed table is laid. -/
import Derived.Test.YtkpjeceofcfnkaaGreatDoorNumB
import Derived.Test.YtkpjeceofcfnkaaGreatDoorRndA
import Derived.Test.YtkpjeceofcfnkaaGreatDoorRndB
set_option maxRecDepth 100000
set_option maxHeartbeats 4000000
set_option linter.unusedSimpArgs false
set_option linter.unusedVariables false
namespace Go.Proofs.YtkpjeceofcfnkaaGreatDoor
open Go.RowKit Go.Hb
theorem round_none (f m E : Int) (aft neg : Bool) (v : Value) [hU8 : U8 f] (w : World) (hk : ¬ (f < 4 ∧ m ≤ 4)) :
    Calls Tryz.prog 38 #[.int .u8 f, .agg #[.int .u8 m, .bool aft], .agg #[.bool neg, v, .int .i64 E, .bool false]] w fun en w' => en = .returned (.agg #[.int .u64 0, .int .u64 0, .int .u8 0]) ∧ Below w.heap.size w w' := by
  by_cases hf : f < 4
  · have q1 : decide (f > 3) = false := decide_eq_false (by omega)
    have q2 : decide (m > 4) = true := decide_eq_true (by omega)
    clear hk
    go_enter Tryz.func38, Tryz.ntmps38
    go_wp2_with fail
    refine bodyPost_ret (by simp [results, Tryz.results38, go_sem]; try rfl) rfl ?_
    exact ⟨rfl, by go_grown⟩
  · have q1 : decide (f > 3) = true := decide_eq_true (by omega)
    clear hk
    go_enter Tryz.func38, Tryz.ntmps38
    go_wp2_with fail
    refine bodyPost_ret (by simp [results, Tryz.results38, go_sem]; try rfl) rfl ?_
    exact ⟨rfl, by go_grown⟩
theorem round_zero (f m E b0 b1 : Int) (aft neg : Bool) (v : Value) [hU8 : U8 f] (w : World) [hLay : Laid w] (hf : f < 4) (m0 : 0 ≤ m) (m1 : m ≤ 4) (hR_v : RN w v 0) (h2 : Hid (hi (makeF f neg 0 0) = b0)) (h3 : Hid (lo (makeF f neg 0 0) = b1)) :
    Calls Tryz.prog 38 #[.int .u8 f, .agg #[.int .u8 m, .bool aft], .agg #[.bool neg, v, .int .i64 E, .bool false]] w fun en w' => en = .returned (.agg #[.int .u64 b0, .int .u64 b1, .int .u8 0]) ∧ Below w.heap.size w w' := by
  obtain ⟨q, cap, rfl, _, _⟩ := hR_v
  rw [dl_zero]
  have q1 : decide (f > 3) = false := decide_eq_false (by omega)
  have q2 : decide (m > 4) = false := decide_eq_false (by omega)
  have l0 := dl_nought
  go_enter Tryz.func38, Tryz.ntmps38
  skip
  (go_wp2_with fail; refine (ref_Make_at f 0 _ neg _ 0 _ rfl hf (by omega) (by omega) (RN.nil _) l0).mono ?_; rw [h2.out, h3.out]; rintro en v1 ⟨rfl, hB_v1⟩; have lay_v1 := laid_after hB_v1; have cc1 := cl hB_v1 (show World.cell? _ ⟨w.heap.size, 0, none⟩ = some (.int .u8 m) by go_simp); have cc2 := cl hB_v1 (show World.cell? _ ⟨w.heap.size, 1, none⟩ = some (.bool aft) by go_simp); have cc3 := cl hB_v1 (show World.cell? _ ⟨w.heap.size + 1, 0, none⟩ = some (.bool neg) by go_simp); have cc4 := cl hB_v1 (show World.cell? _ ⟨w.heap.size + 1, 1, none⟩ = some (.slice q 0 cap) by go_simp); have cc5 := cl hB_v1 (show World.cell? _ ⟨w.heap.size + 1, 2, none⟩ = some (.int .i64 E) by go_simp); have cc6 := cl hB_v1 (show World.cell? _ ⟨w.heap.size + 1, 3, none⟩ = some (.bool false) by go_simp); obtain ⟨cc7, fcc7⟩ := pf hB_v1 (show World.cell? _ ⟨w.heap.size + 1 + 1, 0, none⟩ = some (.int .u64 0) by go_simp) (by go_simp); obtain ⟨cc8, fcc8⟩ := pf hB_v1 (show World.cell? _ ⟨w.heap.size + 1 + 1, 1, none⟩ = some (.int .u64 0) by go_simp) (by go_simp); obtain ⟨cc9, fcc9⟩ := pf hB_v1 (show World.cell? _ ⟨w.heap.size + 1 + 1, 2, none⟩ = some (.int .u8 0) by go_simp) (by go_simp); have hs_v1 := hB_v1.size; (try simp only [World.size_alloc, World.size_setCell, World.size_drew] at hs_v1); have hBW : Below w.heap.size w v1 := below_after (w := w) (by go_grown) hB_v1; have hn_v1 := an (nl cc1) (an (nl cc3) (nl cc7)); clear hB_v1)
  go_wp2_with fail
  refine bodyPost_ret (by simp [results, Tryz.results38, go_sem, cc7, cc8, cc9]; try rfl) rfl ?_
  exact ⟨rfl, by go_grown⟩
theorem round_over (f m E eN own b0 b1 : Int) (aft neg : Bool) (Q F : Nat) (v : Value) [hU8 : U8 f] [hM8 : U8 m] (w : World) [hLay : Laid w] (hf : f < 4) (m0 : 0 ≤ m) (m1 : m ≤ 4) (hR_v : RN w v Q) (lq : dl Q ≤ 30000) (hQ : Q ≠ 0) (e0 : -4000000000000 ≤ E) (e1 : E ≤ 4000000000000)
    (lF : dl F ≤ 30000) (hF : Hid (cutR m neg Q (blen Q - precS f) = F))
    (hE : IntKind.i64.wrap (IntKind.i64.wrap ((blen Q : Int) - 1) + E) = eN) (hEq : Hid (eN = (blen Q : Int) - 1 + E)) (x0 : -4000000000001 ≤ eN) (x1 : eN ≤ 4000001000000)
    (hO : (blen F : Int) - 1 + eN - (precS f - 1) = own) (o0 : -4000010000000 ≤ own) (o1 : own ≤ 4000010000000) (hov : emaxS f < own)
    (h2 : Hid (hi (overO f m neg) = b0)) (h3 : Hid (lo (overO f m neg) = b1)) (h4 : Hid (overFl f m = 20)) :
    Calls Tryz.prog 38 #[.int .u8 f, .agg #[.int .u8 m, .bool aft], .agg #[.bool neg, v, .int .i64 E, .bool false]] w fun en w' => en = .returned (.agg #[.int .u64 b0, .int .u64 b1, .int .u8 20]) ∧ Below w.heap.size w w' := by
  have hR_v' := hR_v
  obtain ⟨q, cap, rfl, _, _⟩ := hR_v'
  obtain ⟨mm0, mm1⟩ := emaxS_bd f
  obtain ⟨f1, f2, f3, f4, f5, f6⟩ := fmt_bd f U8.ge hf
  have hdl := dl_ne Q hQ
  have q1 : decide (f > 3) = false := decide_eq_false (by omega)
  have q2 : decide (m > 4) = false := decide_eq_false (by omega)
  have bQ : (blen Q : Int) ≤ 960000 := by unfold dl at lq; omega
  have bF : (blen F : Int) ≤ 960000 := by unfold dl at lF; omega
  go_enter Tryz.func38, Tryz.ntmps38
  skip
  skip
  (go_wp2_with fail; refine (ref_Prec f _).mono ?_; rintro en _ ⟨rfl, rfl⟩)
  (go_wp2_with fail; refine (ref_Emax f _).mono ?_; rintro en _ ⟨rfl, rfl⟩)
  go_upto_region 7 with fail
  ((first | refine wp_rename ?_ | refine goal_rename ?_); intro W7 hw_W7; replace hR_v := RN.later hR_v (w' := W7) (by rw [hw_W7]; first | with_reducible exact drewN_below (Below.refl _ _) _ | go_grown); have cc1 : W7.cell? ⟨w.heap.size, 0, none⟩ = some (.int .u8 m) := (by rw [hw_W7]; go_simp); have cc2 : W7.cell? ⟨w.heap.size, 1, none⟩ = some (.bool aft) := (by rw [hw_W7]; go_simp); have cc3 : W7.cell? ⟨w.heap.size + 1, 0, none⟩ = some (.bool neg) := (by rw [hw_W7]; go_simp); have cc4 : W7.cell? ⟨w.heap.size + 1, 1, none⟩ = some (.slice q (dl Q) cap) := (by rw [hw_W7]; go_simp); have cc5 : W7.cell? ⟨w.heap.size + 1, 2, none⟩ = some (.int .i64 E) := (by rw [hw_W7]; go_simp); have cc6 : W7.cell? ⟨w.heap.size + 1, 3, none⟩ = some (.bool false) := (by rw [hw_W7]; go_simp); have cc7 : W7.cell? ⟨w.heap.size + 1 + 1, 0, none⟩ = some (.int .u64 0) := (by rw [hw_W7]; go_simp); have fcc7 : W7.frozen? ⟨w.heap.size + 1 + 1, 0, none⟩ = false := (by rw [hw_W7]; go_simp); have cc8 : W7.cell? ⟨w.heap.size + 1 + 1, 1, none⟩ = some (.int .u64 0) := (by rw [hw_W7]; go_simp); have fcc8 : W7.frozen? ⟨w.heap.size + 1 + 1, 1, none⟩ = false := (by rw [hw_W7]; go_simp); have cc9 : W7.cell? ⟨w.heap.size + 1 + 1, 2, none⟩ = some (.int .u8 0) := (by rw [hw_W7]; go_simp); have fcc9 : W7.frozen? ⟨w.heap.size + 1 + 1, 2, none⟩ = false := (by rw [hw_W7]; go_simp); have hBW : Below w.heap.size w W7 := (by rw [hw_W7]; (first | with_reducible exact drewN_below (by assumption) _ | go_grown)); have hn_W7 := an (nl cc1) (an (nl cc3) (nl cc7)); have lay_W7 : Laid W7 := Laid.below (w := w) (by assumption) hBW; clear hw_W7)
  refine Lin.wp_region_lin (by kernel_rfl) (by intro _ _ d _ _ h; cases d <;> exact h) (by kernel_rfl) (fun w' => Below W7.heap.size W7 w' ∧ w'.cell? ⟨w.heap.size, 0, none⟩ = some (.int .u8 m) ∧ w'.cell? ⟨w.heap.size, 1, none⟩ = some (.bool aft) ∧ w'.cell? ⟨w.heap.size + 1, 0, none⟩ = some (.bool neg) ∧ w'.cell? ⟨w.heap.size + 1, 1, none⟩ = some (.slice q (dl Q) cap) ∧ w'.cell? ⟨w.heap.size + 1, 2, none⟩ = some (.int .i64 E) ∧ w'.cell? ⟨w.heap.size + 1, 3, none⟩ = some (.bool false) ∧ w'.cell? ⟨w.heap.size + 1 + 1, 0, none⟩ = some (.int .u64 0) ∧ w'.cell? ⟨w.heap.size + 1 + 1, 1, none⟩ = some (.int .u64 0) ∧ w'.cell? ⟨w.heap.size + 1 + 1, 2, none⟩ = some (.int .u8 0)) ⟨(Below.refl _ _).drew, by go_simp, by go_simp, by go_simp, by go_simp, by go_simp, by go_simp, by go_simp, by go_simp, by go_simp⟩ ?_
  simp only [List.length_cons, List.length_nil, Nat.reduceAdd]
  refine Lin.Blk.out ?_
  iterate 8 (first | refine Lin.bl_rest rfl ?_ | (refine Lin.bl_val rfl rfl (by first | rfl | kernel_rfl) ?_; apply Exists.intro; refine ⟨fun w' hw' => ?_, ?_⟩; (focus (have hBw := hw'.1; have hSw := hw'.2; clear hw'; (try dsimp only at hBw hSw); have lay' : Laid w' := Laid.below lay_W7 hBw; go_simp; first | with_reducible exact Lin.lin_value | with_reducible exact Lin.lin_skip | exact Lin.lin_ret (num_Len_b Q _ _ (RN.later hR_v hBw) (by omega)) rfl)); (try simp only [Act.put, List.setIfInBounds_toArray, List.set_cons_zero, List.set_cons_succ])))
  refine Lin.bl_end ?_
  refine Lin.fin0 (fun wa wb hc hb => ⟨hc.1.trans (hb.mono hc.1.size), cell_later hb hc.2.1, cell_later hb hc.2.2.1, cell_later hb hc.2.2.2.1, cell_later hb hc.2.2.2.2.1, cell_later hb hc.2.2.2.2.2.1, cell_later hb hc.2.2.2.2.2.2.1, cell_later hb hc.2.2.2.2.2.2.2.1, cell_later hb hc.2.2.2.2.2.2.2.2.1, cell_later hb hc.2.2.2.2.2.2.2.2.2⟩) (by kernel_rfl) ?_
  intro X hw_X
  have hb_X := hw_X.1; clear hw_X
  have lay_X : Laid X := Laid.below lay_W7 hb_X
  (replace cc1 := cl hb_X cc1; replace cc2 := cl hb_X cc2; replace cc3 := cl hb_X cc3; replace cc4 := cl hb_X cc4; replace cc5 := cl hb_X cc5; replace cc6 := cl hb_X cc6; replace fcc7 := fl hb_X fcc7 cc7; replace cc7 := cl hb_X cc7; replace fcc8 := fl hb_X fcc8 cc8; replace cc8 := cl hb_X cc8; replace fcc9 := fl hb_X fcc9 cc9; replace cc9 := cl hb_X cc9; replace hR_v := RN.later hR_v hb_X; replace hBW := below_after hBW hb_X; have hsb_X := hb_X.size; have hn_X := an (nl cc1) (an (nl cc3) (nl cc7)))
  (refine wpAny_ready (rs := [7]) (by kernel_rfl) (by simp) ?_; refine AllReady.cons rfl (fun K hK => ?_) AllReady.nil; go_simp; refine hK _ _ ?_; clear hK K)
  refine wpAny_done (by kernel_rfl) ?_ _
  apply_assumption
  (first | refine wp_rename ?_ | refine goal_rename ?_); intro X_ hw_X; subst hw_X
  clear hE
  (go_wp2_with fail; refine (ref_Cut_at Q ((blen Q : Nat) - precS f) _ m neg _ _ (by have := hEq.out; omega) hR_v (by omega) (by omega) (by omega) m0 m1).mono ?_; rw [hF.out]; rintro en v1 ⟨⟨u1, rfl, hR_u1⟩, hB_v1⟩; have lay_v1 := laid_after hB_v1; replace hR_v := RN.later hR_v (below_after (by go_grown) hB_v1); have hG := cell_grown cc1 (by go_grown) hB_v1; replace cc1 := cl hG cc1; replace cc2 := cl hG cc2; replace cc3 := cl hG cc3; replace cc4 := cl hG cc4; replace cc5 := cl hG cc5; replace cc6 := cl hG cc6; replace fcc7 := fl hG fcc7 cc7; replace cc7 := cl hG cc7; replace fcc8 := fl hG fcc8 cc8; replace cc8 := cl hG cc8; replace fcc9 := fl hG fcc9 cc9; replace cc9 := cl hG cc9; replace hBW := below_after hBW hG; have hs_v1 := hG.size; clear hG; have hn_v1 := an (nl cc1) (an (nl cc3) (nl cc7)); clear hB_v1)
  (go_wp2_with fail; refine (num_Len F u1 _ hR_u1 (by omega)).mono ?_; rintro en _ ⟨rfl, rfl⟩)
  (go_wp2_with fail; refine (ref_Emax f _).mono ?_; rintro en _ ⟨rfl, rfl⟩)
  clear hR_v hR_u1
  (go_wp2_with fail; refine (ref_Over f m neg _).mono ?_; rw [h2.out, h3.out, h4.out]; rintro en v2 ⟨rfl, hB_v2⟩; have lay_v2 := laid_after hB_v2; have hG := cell_grown cc1 (by go_grown) hB_v2; replace cc1 := cl hG cc1; replace cc2 := cl hG cc2; replace cc3 := cl hG cc3; replace cc4 := cl hG cc4; replace cc5 := cl hG cc5; replace cc6 := cl hG cc6; replace fcc7 := fl hG fcc7 cc7; replace cc7 := cl hG cc7; replace fcc8 := fl hG fcc8 cc8; replace cc8 := cl hG cc8; replace fcc9 := fl hG fcc9 cc9; replace cc9 := cl hG cc9; replace hBW := below_after hBW hG; have hs_v2 := hG.size; clear hG; have hn_v2 := an (nl cc1) (an (nl cc3) (nl cc7)); clear hB_v2)
  go_wp2_with fail
  refine bodyPost_ret (by simp [results, Tryz.results38, go_sem, cc7, cc8, cc9]; try rfl) rfl ?_
  exact ⟨rfl, by go_grown⟩
end Go.Proofs.YtkpjeceofcfnkaaGreatDoor
namespace Go.Proofs.YtkpjeceofcfnkaaGreatDoor
open Go.RowKit Go.Hb
def refR (f m : Int) (neg : Bool) (Q : Nat) (E : Int) : Nat := if f < 4 ∧ m ≤ 4 then refB f m neg Q E else 0
def refRF (f m : Int) (aft neg : Bool) (Q : Nat) (E : Int) : Int := if f < 4 ∧ m ≤ 4 then refFl f m aft neg Q E else 0
theorem cut_small (f m : Int) (neg : Bool) (Q : Nat) (E : Int) (h0 : 0 ≤ f) (hf : f < 4) (hQ : Q ≠ 0) :
    (precS f ≤ blen (cutR m neg Q (blen Q - precS f)) ∧ (blen (cutR m neg Q (blen Q - precS f)) : Int) ≤ precS f + 1) ∧ (blen (cutR m neg Q (unitR f Q E - E)) : Int) ≤ precS f + 1 := by
  obtain ⟨f1, f2, f3, f4, f5, f6⟩ := fmt_bd f h0 hf
  have hK : ∃ K : Int, 20000 ≤ K ∧ precS f ≤ E + K := ⟨20000 + E.natAbs, by omega, by omega⟩
  obtain ⟨K, k1, k2⟩ := hK
  have hb := cut_is _ Q E K hQ (by omega) rfl
  have hq := blen_ne Q hQ
  have hc : (cutAt (precS f).toNat 0 (Q * 2 ^ (E + K).toNat) : Int) = blen Q + (E + K) - precS f := by unfold cutAt; omega
  obtain ⟨_, _, d3, d4⟩ := code_cut (precS f).toNat 0 m neg Q E K (blen Q + E - precS f) (by omega) (by omega) (by omega)
  rw [show (blen Q : Int) + E - precS f - E = blen Q - precS f by omega] at d3 d4
  have hn : 2 ^ ((precS f).toNat - 1) ≤ cutR m neg Q (blen Q - precS f) := by
    rcases d4 with d4 | d4
    · omega
    · exact d4
  obtain ⟨_, _, c3, _⟩ := code_cut (precS f).toNat (unitB f (K - 255)) m neg Q E K (unitR f Q E) (by omega) (by omega) (unit_cut f Q E K h0 hf hQ (by omega) k1)
  have hl : (blen (cutR m neg Q (unitR f Q E - E)) : Int) ≤ precS f + 1 := by
    have h := blen_mono c3
    have e : 2 * 2 ^ ((precS f).toNat - 1) = 2 ^ (precS f).toNat := by rw [← Nat.pow_succ']; congr 1; omega
    have h2 : 2 ^ (precS f).toNat < 2 ^ ((precS f).toNat + 1) := Nat.pow_lt_pow_right (by decide) (by omega)
    rw [e] at h
    have h3 := blen_le_of _ _ h2
    omega
  refine ⟨?_, hl⟩
  rcases blen_full (precS f).toNat _ (by omega) hn d3 with ⟨_, g2⟩ | ⟨_, g2⟩ <;> omega
theorem dl_few (n : Nat) (p : Int) (h : (blen n : Int) ≤ p) (hp : p ≤ 900000) : dl n ≤ 30000 := by unfold dl; omega
theorem round_in (f m E : Int) (aft neg : Bool) (Q : Nat) (v : Value) [hU8 : U8 f] [hM8 : U8 m] (w : World) [hLay : Laid w] (hf : f < 4) (m1 : m ≤ 4) (hR_v : RN w v Q) (lq : dl Q ≤ 30000) (hQ : Q ≠ 0) (e0 : -4000000000000 ≤ E) (e1 : E ≤ 4000000000000) :
    Calls Tryz.prog 38 #[.int .u8 f, .agg #[.int .u8 m, .bool aft], .agg #[.bool neg, v, .int .i64 E, .bool false]] w fun en w' => en = .returned (.agg #[.int .u64 (hi (refB f m neg Q E)), .int .u64 (lo (refB f m neg Q E)), .int .u8 (refFl f m aft neg Q E)]) ∧ Below w.heap.size w w' := by
  obtain ⟨f1, f2, f3, f4, f5, f6⟩ := fmt_bd f U8.ge hf
  obtain ⟨mm0, mm1⟩ := emaxS_bd f
  obtain ⟨⟨p1, p2⟩, p3⟩ := cut_small f m neg Q E U8.ge hf hQ
  have m0 : 0 ≤ m := hM8.ge
  have bQ : (blen Q : Int) ≤ 960000 := by unfold dl at lq; omega
  have bQ1 := blen_ne Q hQ
  have hw1 : IntKind.i64.wrap ((blen Q : Int) - 1) = (blen Q : Int) - 1 := IntWalk.i64_in _ (by omega)
  have hE : IntKind.i64.wrap (IntKind.i64.wrap ((blen Q : Int) - 1) + E) = (blen Q : Int) - 1 + E := by rw [hw1]; exact IntWalk.i64_in _ (by omega)
  have hls : leastS f = 1 - emaxS f := rfl
  have how : ownR f m neg Q E = (blen (cutR m neg Q (blen Q - precS f)) : Int) + blen Q - 1 + E - precS f := rfl
  have hun : unitR f Q E = max ((blen Q : Int) - 1 + E) (1 - emaxS f) - (precS f - 1) := rfl
  have lF := dl_few _ _ p2 (by omega)
  have lN := dl_few _ _ p3 (by omega)
  by_cases hov : emaxS f < ownR f m neg Q E
  · have hk : f < 4 ∧ m ≤ 4 := ⟨hf, m1⟩
    have g1 : refB f m neg Q E = overO f m neg := by unfold refB overO; rw [if_neg hQ, if_pos hov, if_pos hk]
    have g2 : refFl f m aft neg Q E = 20 := by unfold refFl; rw [if_neg hQ, if_pos hov]
    rw [g1, g2]
    exact round_over f m E ((blen Q : Int) - 1 + E) (ownR f m neg Q E) _ _ aft neg Q _ v w hf m0 m1 hR_v lq hQ e0 e1 lF rfl hE rfl (by omega) (by omega) (by omega) (by omega) (by omega) hov rfl rfl (by unfold overFl; exact if_pos hk)
  · have g2 : refFl f m aft neg Q E = flagsS (restR Q (unitR f Q E - E) != 0) (tinyR f m aft neg Q E) := by unfold refFl; rw [if_neg hQ, if_neg hov]
    have hfg : Hid ((restR Q (unitR f Q E - E) = 0 ∧ refFl f m aft neg Q E = 0) ∨ ((restR Q (unitR f Q E - E) == 0) = false ∧ aft = false ∧ ((blen Q : Int) - 1 + E < 1 - emaxS f ∧ refFl f m aft neg Q E = 24 ∨ ¬ (blen Q : Int) - 1 + E < 1 - emaxS f ∧ refFl f m aft neg Q E = 16)) ∨ ((restR Q (unitR f Q E - E) == 0) = false ∧ aft = true ∧ (ownR f m neg Q E < 1 - emaxS f ∧ refFl f m aft neg Q E = 24 ∨ ¬ ownR f m neg Q E < 1 - emaxS f ∧ refFl f m aft neg Q E = 16))) := by
      rw [g2]
      show _ ∨ _
      by_cases hr : restR Q (unitR f Q E - E) = 0
      · exact Or.inl ⟨hr, by rw [hr]; rfl⟩
      · have hr1 : (restR Q (unitR f Q E - E) == 0) = false := by rw [beq_eq_false_iff_ne]; exact hr
        have hr2 : (restR Q (unitR f Q E - E) != 0) = true := by rw [bne, hr1]; rfl
        rw [hr2]
        right
        cases aft
        · left
          refine ⟨hr1, rfl, ?_⟩
          unfold tinyR
          by_cases ht : (blen Q : Int) - 1 + E < 1 - emaxS f
          · exact Or.inl ⟨ht, by rw [if_neg (by decide), hls, decide_eq_true ht]; rfl⟩
          · exact Or.inr ⟨ht, by rw [if_neg (by decide), hls, decide_eq_false ht]; rfl⟩
        · right
          refine ⟨hr1, rfl, ?_⟩
          unfold tinyR
          by_cases ht : ownR f m neg Q E < 1 - emaxS f
          · exact Or.inl ⟨ht, by rw [if_pos rfl, hls, decide_eq_true ht]; rfl⟩
          · exact Or.inr ⟨ht, by rw [if_pos rfl, hls, decide_eq_false ht]; rfl⟩
    have hlow : lowR f m neg Q E = cutR m neg Q (unitR f Q E - E) := rfl
    by_cases hn : (blen (cutR m neg Q (unitR f Q E - E)) : Int) < precS f
    · have g1 : refB f m neg Q E = makeF f neg 0 (cutR m neg Q (unitR f Q E - E)) := by unfold refB; rw [if_neg hQ, if_neg hov, hlow, if_pos hn]
      rw [g1]
      exact round_few f m E ((blen Q : Int) - 1 + E) (ownR f m neg Q E) (unitR f Q E) _ _ _ _ aft neg Q _ _ v w hf m0 m1 hR_v lq hQ e0 e1 lF lN rfl rfl rfl hE rfl (by omega) (by omega) (by omega) (by omega) (by omega) (by omega) (by omega) (by omega) hov (by omega) (by omega) hn rfl rfl hfg
    · have g1 : refB f m neg Q E = makeF f neg ((blen (cutR m neg Q (unitR f Q E - E)) : Int) + unitR f Q E - (1 - emaxS f)) (cutR m neg Q (unitR f Q E - E) / 2 ^ ((blen (cutR m neg Q (unitR f Q E - E)) : Int) - precS f).toNat) := by unfold refB; rw [if_neg hQ, if_neg hov, hlow, if_neg hn, hls]
      rw [g1]
      exact round_norm f m E ((blen Q : Int) - 1 + E) (ownR f m neg Q E) (unitR f Q E) _ _ _ _ aft neg Q _ _ v w hf m0 m1 hR_v lq hQ e0 e1 lF lN rfl rfl rfl hE rfl (by omega) (by omega) (by omega) (by omega) (by omega) (by omega) (by omega) (by omega) hov (by omega) (by omega) hn (by omega) (by omega) rfl rfl hfg
theorem ref_Round (f m E : Int) (aft neg : Bool) (Q : Nat) (v : Value) [hU8 : U8 f] [hM8 : U8 m] (w : World) [hLay : Laid w] (hR_v : RN w v Q) (lq : dl Q ≤ 30000) (e0 : -4000000000000 ≤ E) (e1 : E ≤ 4000000000000) :
    Calls Tryz.prog 38 #[.int .u8 f, .agg #[.int .u8 m, .bool aft], .agg #[.bool neg, v, .int .i64 E, .bool false]] w fun en w' => en = .returned (.agg #[.int .u64 (hi (refR f m neg Q E)), .int .u64 (lo (refR f m neg Q E)), .int .u8 (refRF f m aft neg Q E)]) ∧ Below w.heap.size w w' := by
  unfold refR refRF
  by_cases hk : f < 4 ∧ m ≤ 4
  · rw [if_pos hk, if_pos hk]
    by_cases hQ : Q = 0
    · subst hQ
      have g1 : refB f m neg 0 E = makeF f neg 0 0 := by unfold refB; rw [if_pos rfl]
      have g2 : refFl f m aft neg 0 E = 0 := by unfold refFl; rw [if_pos rfl]
      rw [g1, g2]
      exact round_zero f m E _ _ aft neg v w hk.1 hM8.ge hk.2 hR_v rfl rfl
    · exact round_in f m E aft neg Q v w hk.1 hk.2 hR_v lq hQ e0 e1
  · rw [if_neg hk, if_neg hk]
    exact round_none f m E aft neg v w hk
end Go.Proofs.YtkpjeceofcfnkaaGreatDoor
