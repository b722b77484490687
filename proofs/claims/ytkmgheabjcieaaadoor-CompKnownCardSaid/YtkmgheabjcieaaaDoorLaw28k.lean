/- The walk of CompKnown. -/
import Derived.Test.YtkmgheabjcieaaaDoorLaw28a
import Derived.Test.YtkmgheabjcieaaaDoorLeastN
import Derived.Deep.CutRange
set_option linter.unusedSimpArgs false
set_option linter.unusedVariables false
namespace Go.Proofs.YtkmgheabjcieaaaDoor
open Go.RowKit Go.Hb
/-- The listed numbers, from the least on. -/
def tabK : Nat → Int
  | 0 => 65535 | 1 => 65024 | 2 => 64513 | 3 => 64512 | 4 => 64511 | 5 => 48128 | 6 => 32769 | 7 => 32768
  | 8 => 0 | 9 => 1 | 10 => 15360 | 11 => 31743 | 12 => 31744 | 13 => 31745 | 14 => 32256 | 15 => 32767 | _ => 0
def oK (a b : Int) : Int := if a < b then -1 else if b < a then 1 else 0
def rK (a b : Int) : Int := if a < b then 0 else if b < a then 2 else 1
def nbK (a b : Int) : Bool := decide (a < 3) || decide (a > 12) || decide (b < 3) || decide (b > 12)
def zbK (a b : Int) : Bool := (decide (a = 7) || decide (a = 8)) && (decide (b = 7) || decide (b = 8))
def eK : Int → Bool → Bool → Int
  | _, true, _ => 3
  | _, false, true => 1
  | r, false, false => r
theorem tabU (i : Nat) : U64 (tabK i) := by
  unfold tabK
  split <;> exact ⟨by decide, by decide⟩
theorem tabO (i k : Nat) (hi : i < 16) (hk : k < 16) : ordF 0 (cat 0 (tabK i)) (cat 0 (tabK k)) = oK i k :=
  (by decide +kernel : ∀ i k : Fin 16, ordF 0 (cat 0 (tabK i.val)) (cat 0 (tabK k.val)) = oK (i.val : Nat) (k.val : Nat)) ⟨i, hi⟩ ⟨k, hk⟩
theorem tabQ (i k : Nat) (hi : i < 16) (hk : k < 16) : qV 0 (cat 0 (tabK i)) (cat 0 (tabK k)) = eK (rK i k) (nbK i k) (zbK i k) :=
  (by decide +kernel : ∀ i k : Fin 16, qV 0 (cat 0 (tabK i.val)) (cat 0 (tabK k.val)) = eK (rK (i.val : Nat) (k.val : Nat)) (nbK (i.val : Nat) (k.val : Nat)) (zbK (i.val : Nat) (k.val : Nat))) ⟨i, hi⟩ ⟨k, hk⟩
theorem way9 (i k : Nat) : (i < k ∧ ¬ k < i ∧ oK i k = -1 ∧ rK i k = 0) ∨ (¬ i < k ∧ k < i ∧ oK i k = 1 ∧ rK i k = 2) ∨ (¬ i < k ∧ ¬ k < i ∧ oK i k = 0 ∧ rK i k = 1) := by
  unfold oK rK
  by_cases h : i < k
  · exact Or.inl ⟨h, by omega, if_pos (by omega), if_pos (by omega)⟩
  · by_cases h2 : k < i
    · exact Or.inr (Or.inl ⟨h, h2, by rw [if_neg (by omega), if_pos (by omega)], by rw [if_neg (by omega), if_pos (by omega)]⟩)
    · exact Or.inr (Or.inr ⟨h, h2, by rw [if_neg (by omega), if_neg (by omega)], by rw [if_neg (by omega), if_neg (by omega)]⟩)
theorem way15 (a b : Int) : (decide (a < 3) = true ∧ nbK a b = true) ∨ (decide (a < 3) = false ∧ decide (a > 12) = true ∧ nbK a b = true) ∨ (decide (a < 3) = false ∧ decide (a > 12) = false ∧ decide (b < 3) = true ∧ nbK a b = true)
    ∨ (decide (a < 3) = false ∧ decide (a > 12) = false ∧ decide (b < 3) = false ∧ decide (b > 12) = true ∧ nbK a b = true) ∨ (decide (a < 3) = false ∧ decide (a > 12) = false ∧ decide (b < 3) = false ∧ decide (b > 12) = false ∧ nbK a b = false) := by
  unfold nbK
  cases decide (a < 3) <;> cases decide (a > 12) <;> cases decide (b < 3) <;> cases decide (b > 12) <;> decide
theorem way17 (a b : Int) : (a = 7 ∧ b = 7 ∧ zbK a b = true) ∨ (a = 7 ∧ b = 8 ∧ zbK a b = true) ∨ (a = 7 ∧ (b == 7) = false ∧ (b == 8) = false ∧ zbK a b = false) ∨ (a = 8 ∧ b = 7 ∧ zbK a b = true) ∨ (a = 8 ∧ b = 8 ∧ zbK a b = true)
    ∨ (a = 8 ∧ (b == 7) = false ∧ (b == 8) = false ∧ zbK a b = false) ∨ ((a == 7) = false ∧ (a == 8) = false ∧ zbK a b = false) := by
  unfold zbK
  by_cases h1 : a = 7 <;> by_cases h2 : a = 8 <;> by_cases h3 : b = 7 <;> by_cases h4 : b = 8 <;> simp [h1, h2, h3, h4]
instance u64_L28k_2 : U64 2 := ⟨by omega, by omega⟩
set_option maxRecDepth 100000 in
set_option maxHeartbeats 8000000 in
theorem walk_CompKnown (wo : World) [hLay : Laid wo] :
    Calls Tryd.prog 4 #[] wo fun en w' => en = .returned (.bool true) ∧ Below wo.heap.size wo w' := by
  have a0 : qV 0 (cat 0 31745) (cat 0 0) = 3 := by decide +kernel
  have b0 : qF 0 (cat 0 31745) (cat 0 0) = 1 := by decide +kernel
  have o4 : ordF 4 (cat 0 1) (cat 0 2) = 0 := by decide +kernel
  go_enter Tryd.func4, Tryd.ntmps4
  go_upto_region 2 with fail
  (first | refine wp_rename ?_ | refine goal_rename ?_); intro w hw
  have hcell : ∀ j, j < 16 → w.cell? ⟨wo.heap.size, j, none⟩ = some (.int .u64 (tabK j)) := by
    intro j hj
    rw [hw]
    have h16 : j = 0 ∨ j = 1 ∨ j = 2 ∨ j = 3 ∨ j = 4 ∨ j = 5 ∨ j = 6 ∨ j = 7 ∨ j = 8 ∨ j = 9 ∨ j = 10 ∨ j = 11 ∨ j = 12 ∨ j = 13 ∨ j = 14 ∨ j = 15 := by omega
    rcases h16 with rfl | rfl | rfl | rfl | rfl | rfl | rfl | rfl | rfl | rfl | rfl | rfl | rfl | rfl | rfl | rfl
    all_goals (dsimp only [tabK]; go_simp)
  have hBo : Below wo.heap.size wo w := by rw [hw]; go_grown
  have lay_w : Laid w := Laid.below hLay hBo
  clear hw
  have hcell := Lib.hid hcell
  go_wp2_with fail
  go_loopw [2] (fun vi wr => ∃ i : Nat, i ≤ 16 ∧ vi = .int .i64 i ∧ Below w.heap.size w wr) (fun vi _ => 16 - (intOf vi).toNat)
  case atStart => exact ⟨0, by omega, rfl, by go_grown⟩
  case round =>
    obtain ⟨i, i2, rfl, hnx⟩ := hrel
    have lay_wr : Laid wr := Laid.below (w := w) (by assumption) hnx
    have hs_wr := hnx.size
    by_cases hi : i < 16
    case neg =>
      have e : i = 16 := by omega
      subst e
      clear hcell
      skip
      (go_wp2_with fail; refine (law28_half _ _).mono ?_; rintro en v1 ⟨rfl, hB_v1⟩; have lay_v1 := laid_after hB_v1; have hs_v1 := hB_v1.size; (try simp only [World.size_alloc, World.size_setCell, World.size_drew] at hs_v1); have hBW : Below w.heap.size w v1 := below_after (w := w) (by go_grown) hB_v1; clear hB_v1)
      (go_wp2_with fail; refine (law28_half _ _).mono ?_; rintro en v2 ⟨rfl, hB_v2⟩; have lay_v2 := laid_after hB_v2; have hs_v2 := hB_v2.size; (try simp only [World.size_alloc, World.size_setCell, World.size_drew] at hs_v2); replace hBW : Below w.heap.size w v2 := below_after (w := w) (by go_grown) hB_v2; clear hB_v2)
      (go_wp2_with fail; refine (comp_Quiet _ _ _ _ _ _).mono ?_; rw [a0, b0]; rintro en v3 ⟨rfl, hB_v3⟩; have lay_v3 := laid_after hB_v3; have hs_v3 := hB_v3.size; (try simp only [World.size_alloc, World.size_setCell, World.size_drew] at hs_v3); replace hBW : Below w.heap.size w v3 := below_after (w := w) (by go_grown) hB_v3; clear hB_v3)
      (go_wp2_with fail; refine (least_none 0 0 none 0 _ (Or.inr rfl)).mono ?_; rintro en v4 ⟨rfl, hB_v4⟩; have lay_v4 := laid_after hB_v4; have hs_v4 := hB_v4.size; (try simp only [World.size_alloc, World.size_setCell, World.size_drew] at hs_v4); replace hBW : Below w.heap.size w v4 := below_after (w := w) (by go_grown) hB_v4; clear hB_v4)
      (go_wp2_with fail; refine (law28_half _ _).mono ?_; rintro en v5 ⟨rfl, hB_v5⟩; have lay_v5 := laid_after hB_v5; have cc1 := cl hB_v5 (show World.cell? _ ⟨v4.heap.size, 0, none⟩ = some (.int .u64 0) by go_simp); have cc2 := cl hB_v5 (show World.cell? _ ⟨v4.heap.size, 1, none⟩ = some (.int .u64 0) by go_simp); have hs_v5 := hB_v5.size; (try simp only [World.size_alloc, World.size_setCell, World.size_drew] at hs_v5); replace hBW : Below w.heap.size w v5 := below_after (w := w) (by go_grown) hB_v5; have hn_v5 := nl cc1; clear hB_v5)
      (go_wp2_with fail; refine (law28_half _ _).mono ?_; rintro en v6 ⟨rfl, hB_v6⟩; have lay_v6 := laid_after hB_v6; have hG := cell_grown cc1 (by go_grown) hB_v6; replace cc1 := cl hG cc1; replace cc2 := cl hG cc2; have hs_v6 := hG.size; clear hG; replace hBW : Below w.heap.size w v6 := below_after (w := w) (by go_grown) hB_v6; have hn_v6 := nl cc1; clear hB_v6)
      (go_wp2_with fail; refine (comp_Order _ _ _ _ _ _).mono ?_; rw [o4]; rintro en v7 ⟨rfl, hB_v7⟩; have lay_v7 := laid_after hB_v7; have hG := cell_grown cc1 (by go_grown) hB_v7; replace cc1 := cl hG cc1; replace cc2 := cl hG cc2; have hs_v7 := hG.size; clear hG; replace hBW : Below w.heap.size w v7 := below_after (w := w) (by go_grown) hB_v7; have hn_v7 := nl cc1; clear hB_v7)
      (go_wp2_with fail; refine (law28_goes _).mono ?_; rintro en v8 ⟨rfl, hB_v8⟩; have lay_v8 := laid_after hB_v8; have hG := cell_grown cc1 (by go_grown) hB_v8; replace cc1 := cl hG cc1; replace cc2 := cl hG cc2; have hs_v8 := hG.size; clear hG; replace hBW : Below w.heap.size w v8 := below_after (w := w) (by go_grown) hB_v8; have hn_v8 := nl cc1; clear hB_v8)
      go_wp2_with fail
      go_returns
      exact ⟨rfl, below_after hBo (by go_grown)⟩
    case pos =>
      rename World => w1
      go_wp2_with fail
      try generalize decide ((i : Int) < 16) = t16
      go_loopw [3] (fun vk wr => ∃ k : Nat, k ≤ 16 ∧ vk = .int .i64 k ∧ Below w.heap.size w wr) (fun vk _ => 16 - (intOf vk).toNat)
      case atStart => exact ⟨0, by omega, rfl, hnx⟩
      case round =>
        obtain ⟨k, k2, rfl, hny⟩ := hrel
        have lay_wr2 : Laid wr := Laid.below (w := w) (by assumption) hny
        have hs_wr2 := hny.size
        by_cases hk : k < 16
        case neg =>
          have e : k = 16 := by omega
          subst e
          go_wp2_with fail
          go_roundw
          case rel => exact ⟨i + 1, by omega, by go_num, hny⟩
          case measure => simp [intOf]; omega
        case pos =>
          have ho := tabO i k hi hk
          have hv := tabQ i k hi hk
          have h9 := way9 i k
          have h15 := way15 i k
          have h17 := way17 i k
          have di := cell_later hny (hcell.out i hi)
          have dk := cell_later hny (hcell.out k hk)
          have ui := tabU i
          have uk := tabU k
          generalize hO : oK i k = o at ho h9
          generalize hR : rK i k = r at hv h9
          generalize hB : nbK i k = bn at hv h15
          generalize hZ : zbK i k = bz at hv h17
          clear hO hR hB hZ hcell hnx
          generalize tabK i = x at *
          generalize tabK k = y at *
          have h15 := Lib.hid h15
          have h17 := Lib.hid h17
          skip
          rcases h9 with ⟨d1, d2, rfl, rfl⟩ | ⟨d1, d2, rfl, rfl⟩ | ⟨d1, d2, rfl, rfl⟩
          all_goals (
            go_upto_region 13 with fail
            ((first | refine wp_rename ?_ | refine goal_rename ?_); intro W13 hw_W13; have cc1 : W13.cell? ⟨wo.heap.size, i, none⟩ = some (.int .u64 x) := (by rw [hw_W13]; go_simp); have cc2 : W13.cell? ⟨wo.heap.size, k, none⟩ = some (.int .u64 y) := (by rw [hw_W13]; go_simp); have hBW : Below w.heap.size w W13 := (by rw [hw_W13]; (first | with_reducible exact drewN_below (by assumption) _ | go_grown)); have hn_W13 := an (nl cc1) (nl cc2); have lay_W13 : Laid W13 := Laid.below (w := w) (by assumption) hBW; clear hw_W13)
            refine Lin.wp_region_lin (by kernel_rfl) (by intro _ _ d _ _ h; cases d <;> exact h) (by kernel_rfl) (fun w' => Below W13.heap.size W13 w' ∧ w'.cell? ⟨wo.heap.size, i, none⟩ = some (.int .u64 x) ∧ w'.cell? ⟨wo.heap.size, k, none⟩ = some (.int .u64 y)) ⟨(Below.refl _ _).drew, by go_simp, by go_simp⟩ ?_
            simp only [List.length_cons, List.length_nil, Nat.reduceAdd]
            refine Lin.Blk.out ?_
            iterate 4 (refine Lin.bl_val rfl rfl rfl ?_; apply Exists.intro; refine ⟨fun w' hw' => ?_, ?_⟩; (focus (have hBw := hw'.1; have hSw := hw'.2; clear hw'; (try dsimp only at hBw hSw); go_simp; first | with_reducible exact Lin.lin_value | with_reducible exact Lin.lin_skip)); (try simp only [Act.put, List.setIfInBounds_toArray, List.set_cons_zero, List.set_cons_succ]))
            (refine Lin.bl_val rfl rfl rfl ?_; apply Exists.intro; refine ⟨fun w' hw' => ?_, ?_⟩; (focus (have hBw := hw'.1; have hSw := hw'.2; clear hw'; (try dsimp only at hBw hSw); have lay' : Laid w' := Laid.below lay_W13 hBw; go_simp; first | exact Lin.lin_ret (law28_half _ _) rfl | exact Lin.lin_ret (comp_Order _ _ _ _ _ _) (by rw [ho]))); (try simp only [Act.put, List.setIfInBounds_toArray, List.set_cons_zero, List.set_cons_succ]))
            iterate 4 (refine Lin.bl_val rfl rfl rfl ?_; apply Exists.intro; refine ⟨fun w' hw' => ?_, ?_⟩; (focus (have hBw := hw'.1; have hSw := hw'.2; clear hw'; (try dsimp only at hBw hSw); go_simp; first | with_reducible exact Lin.lin_value | with_reducible exact Lin.lin_skip)); (try simp only [Act.put, List.setIfInBounds_toArray, List.set_cons_zero, List.set_cons_succ]))
            iterate 2 (refine Lin.bl_val rfl rfl rfl ?_; apply Exists.intro; refine ⟨fun w' hw' => ?_, ?_⟩; (focus (have hBw := hw'.1; have hSw := hw'.2; clear hw'; (try dsimp only at hBw hSw); have lay' : Laid w' := Laid.below lay_W13 hBw; go_simp; first | exact Lin.lin_ret (law28_half _ _) rfl | exact Lin.lin_ret (comp_Order _ _ _ _ _ _) (by rw [ho]))); (try simp only [Act.put, List.setIfInBounds_toArray, List.set_cons_zero, List.set_cons_succ]))
            iterate 2 (refine Lin.bl_val rfl rfl rfl ?_; apply Exists.intro; refine ⟨fun w' hw' => ?_, ?_⟩; (focus (have hBw := hw'.1; have hSw := hw'.2; clear hw'; (try dsimp only at hBw hSw); go_simp; first | with_reducible exact Lin.lin_value | with_reducible exact Lin.lin_skip)); (try simp only [Act.put, List.setIfInBounds_toArray, List.set_cons_zero, List.set_cons_succ]))
            refine Lin.bl_end ?_
            refine Lin.fin0 (fun wa wb hc hb => ⟨hc.1.trans (hb.mono hc.1.size), cell_later hb hc.2.1, cell_later hb hc.2.2⟩) (by kernel_rfl) ?_
            intro X hw_X
            have hb_X := hw_X.1; clear hw_X
            have lay_X : Laid X := Laid.below lay_W13 hb_X
            (replace cc1 := cl hb_X cc1; replace cc2 := cl hb_X cc2; replace hBW := below_after hBW hb_X; have hsb_X := hb_X.size; have hn_X := an (nl cc1) (nl cc2))
            refine wpAny_done (by kernel_rfl) ?_ _
            apply_assumption
            (first | refine wp_rename ?_ | refine goal_rename ?_); intro X_ hw_X; subst hw_X
            go_upto_region 15 with fail
            ((first | refine wp_rename ?_ | refine goal_rename ?_); intro W15 hw_W15; have hG := named cc1 W15 (by rw [hw_W15]; first | with_reducible exact drewN_below (Below.refl _ _) _ | go_grown); replace cc1 := cl hG cc1; replace cc2 := cl hG cc2; replace hBW := below_after hBW hG; have hs_W15 := hG.size; clear hG; have hn_W15 := an (nl cc1) (nl cc2); have lay_W15 : Laid W15 := Laid.below (w := w) (by assumption) hBW; clear hw_W15)
            go_cut [57] from 19 to 88 (fun s57 wx => s57 = .bool bn ∧ Below W15.heap.size W15 wx)
            case first =>
              have h15 := h15.out
              generalize (i : Int) = a at *
              generalize (k : Int) = b at *
              rcases h15 with ⟨q1, rfl⟩ | ⟨q1, q2, rfl⟩ | ⟨q1, q2, q3, rfl⟩ | ⟨q1, q2, q3, q4, rfl⟩ | ⟨q1, q2, q3, q4, rfl⟩
              all_goals (go_wp2_with fail; go_meet)
              all_goals exact ⟨rfl, by go_grown⟩
            case rest =>
              obtain ⟨rfl, hb_X15⟩ := hcut
              (first | refine wp_rename ?_ | refine goal_rename ?_); intro X15 hw_X15; subst hw_X15
              (replace cc1 := cl hb_X15 cc1; replace cc2 := cl hb_X15 cc2; replace hBW := below_after hBW hb_X15; have hsb_X15 := hb_X15.size; have hn_X15 := an (nl cc1) (nl cc2))
              have lay_X15 : Laid X15 := Laid.below lay_W15 hb_X15
              cases bn
              case true =>
                skip
                dsimp only [eK] at hv
                go_upto_region 19 with fail
                ((first | refine wp_rename ?_ | refine goal_rename ?_); intro W19 hw_W19; have hG := named cc1 W19 (by rw [hw_W19]; first | with_reducible exact drewN_below (Below.refl _ _) _ | go_grown); replace cc1 := cl hG cc1; replace cc2 := cl hG cc2; replace hBW := below_after hBW hG; have hs_W19 := hG.size; clear hG; have hn_W19 := an (nl cc1) (nl cc2); have lay_W19 : Laid W19 := Laid.below (w := w) (by assumption) hBW; clear hw_W19)
                refine Lin.wp_region_lin (by kernel_rfl) (by intro _ _ d _ _ h; cases d <;> exact h) (by kernel_rfl) (fun w' => Below W19.heap.size W19 w' ∧ w'.cell? ⟨wo.heap.size, i, none⟩ = some (.int .u64 x) ∧ w'.cell? ⟨wo.heap.size, k, none⟩ = some (.int .u64 y)) ⟨(Below.refl _ _).drew, by go_simp, by go_simp⟩ ?_
                simp only [List.length_cons, List.length_nil, Nat.reduceAdd]
                refine Lin.Blk.out ?_
                iterate 4 (refine Lin.bl_val rfl rfl rfl ?_; apply Exists.intro; refine ⟨fun w' hw' => ?_, ?_⟩; (focus (have hBw := hw'.1; have hSw := hw'.2; clear hw'; (try dsimp only at hBw hSw); go_simp; first | with_reducible exact Lin.lin_value | with_reducible exact Lin.lin_skip)); (try simp only [Act.put, List.setIfInBounds_toArray, List.set_cons_zero, List.set_cons_succ]))
                (refine Lin.bl_val rfl rfl rfl ?_; apply Exists.intro; refine ⟨fun w' hw' => ?_, ?_⟩; (focus (have hBw := hw'.1; have hSw := hw'.2; clear hw'; (try dsimp only at hBw hSw); have lay' : Laid w' := Laid.below lay_W19 hBw; go_simp; first | exact Lin.lin_ret (law28_half _ _) rfl | exact Lin.lin_ret (comp_Quiet _ _ _ _ _ _) (by rw [hv]))); (try simp only [Act.put, List.setIfInBounds_toArray, List.set_cons_zero, List.set_cons_succ]))
                iterate 4 (refine Lin.bl_val rfl rfl rfl ?_; apply Exists.intro; refine ⟨fun w' hw' => ?_, ?_⟩; (focus (have hBw := hw'.1; have hSw := hw'.2; clear hw'; (try dsimp only at hBw hSw); go_simp; first | with_reducible exact Lin.lin_value | with_reducible exact Lin.lin_skip)); (try simp only [Act.put, List.setIfInBounds_toArray, List.set_cons_zero, List.set_cons_succ]))
                iterate 2 (refine Lin.bl_val rfl rfl rfl ?_; apply Exists.intro; refine ⟨fun w' hw' => ?_, ?_⟩; (focus (have hBw := hw'.1; have hSw := hw'.2; clear hw'; (try dsimp only at hBw hSw); have lay' : Laid w' := Laid.below lay_W19 hBw; go_simp; first | exact Lin.lin_ret (law28_half _ _) rfl | exact Lin.lin_ret (comp_Quiet _ _ _ _ _ _) (by rw [hv]))); (try simp only [Act.put, List.setIfInBounds_toArray, List.set_cons_zero, List.set_cons_succ]))
                (refine Lin.bl_val rfl rfl rfl ?_; apply Exists.intro; refine ⟨fun w' hw' => ?_, ?_⟩; (focus (have hBw := hw'.1; have hSw := hw'.2; clear hw'; (try dsimp only at hBw hSw); go_simp; first | with_reducible exact Lin.lin_value | with_reducible exact Lin.lin_skip)); (try simp only [Act.put, List.setIfInBounds_toArray, List.set_cons_zero, List.set_cons_succ]))
                iterate 2 (refine Lin.bl_loose rfl rfl rfl ?_; apply Exists.intro; refine ⟨fun w' => ?_, ?_⟩; (focus (go_simp; try with_reducible rfl)); (try simp only [Act.put, List.setIfInBounds_toArray, List.set_cons_zero, List.set_cons_succ]))
                refine Lin.bl_rest rfl ?_
                refine Lin.bl_rest rfl ?_
                refine Lin.bl_end ?_
                refine Lin.fin0 (fun wa wb hc hb => ⟨hc.1.trans (hb.mono hc.1.size), cell_later hb hc.2.1, cell_later hb hc.2.2⟩) (by kernel_rfl) ?_
                intro Z hw_Z
                have hb_Z := hw_Z.1; clear hw_Z
                have lay_Z : Laid Z := Laid.below lay_W19 hb_Z
                (replace cc1 := cl hb_Z cc1; replace cc2 := cl hb_Z cc2; replace hBW := below_after hBW hb_Z; have hsb_Z := hb_Z.size; have hn_Z := an (nl cc1) (nl cc2))
                (refine wpAny_ready (rs := [14]) (by kernel_rfl) (by simp) ?_; refine AllReady.cons rfl (fun K hK => ?_) AllReady.nil; go_simp; refine hK _ _ ?_; clear hK K)
                (refine wpAny_ready (rs := [15]) (by kernel_rfl) (by simp) ?_; refine AllReady.cons rfl (fun K hK => ?_) AllReady.nil; go_simp; refine hK _ _ ?_; clear hK K)
                refine wpAny_done (by kernel_rfl) ?_ _
                apply_assumption
                (first | refine wp_rename ?_ | refine goal_rename ?_); intro Z_ hw_Z; subst hw_Z
                go_wp2_with fail
                go_roundw
                case rel => exact ⟨k + 1, by omega, by first | exact ⟨by go_num, by first | assumption | go_grown⟩ | go_num⟩
                case measure => simp [intOf]; omega
              case false =>
                skip
                go_upto_region 17 with fail
                ((first | refine wp_rename ?_ | refine goal_rename ?_); intro W17 hw_W17; have hG := named cc1 W17 (by rw [hw_W17]; first | with_reducible exact drewN_below (Below.refl _ _) _ | go_grown); replace cc1 := cl hG cc1; replace cc2 := cl hG cc2; replace hBW := below_after hBW hG; have hs_W17 := hG.size; clear hG; have hn_W17 := an (nl cc1) (nl cc2); have lay_W17 : Laid W17 := Laid.below (w := w) (by assumption) hBW; clear hw_W17)
                go_cut [71] from 19 to 88 (fun s71 wx => s71 = .bool bz ∧ Below W17.heap.size W17 wx)
                case first =>
                  have h17 := h17.out
                  generalize (i : Int) = a at *
                  generalize (k : Int) = b at *
                  rcases h17 with ⟨rfl, rfl, rfl⟩ | ⟨rfl, rfl, rfl⟩ | ⟨rfl, q1, q2, rfl⟩ | ⟨rfl, rfl, rfl⟩ | ⟨rfl, rfl, rfl⟩ | ⟨rfl, q1, q2, rfl⟩ | ⟨q1, q2, rfl⟩
                  all_goals (go_wp2_with fail; go_meet)
                  all_goals exact ⟨rfl, by go_grown⟩
                case rest =>
                  obtain ⟨rfl, hb_X17⟩ := hcut
                  (first | refine wp_rename ?_ | refine goal_rename ?_); intro X17 hw_X17; subst hw_X17
                  (replace cc1 := cl hb_X17 cc1; replace cc2 := cl hb_X17 cc2; replace hBW := below_after hBW hb_X17; have hsb_X17 := hb_X17.size; have hn_X17 := an (nl cc1) (nl cc2))
                  have lay_X17 : Laid X17 := Laid.below lay_W17 hb_X17
                  cases bz
                  all_goals (
                    dsimp only [eK] at hv
                    go_upto_region 19 with fail
                    ((first | refine wp_rename ?_ | refine goal_rename ?_); intro W19 hw_W19; have hG := named cc1 W19 (by rw [hw_W19]; first | with_reducible exact drewN_below (Below.refl _ _) _ | go_grown); replace cc1 := cl hG cc1; replace cc2 := cl hG cc2; replace hBW := below_after hBW hG; have hs_W19 := hG.size; clear hG; have hn_W19 := an (nl cc1) (nl cc2); have lay_W19 : Laid W19 := Laid.below (w := w) (by assumption) hBW; clear hw_W19)
                    refine Lin.wp_region_lin (by kernel_rfl) (by intro _ _ d _ _ h; cases d <;> exact h) (by kernel_rfl) (fun w' => Below W19.heap.size W19 w' ∧ w'.cell? ⟨wo.heap.size, i, none⟩ = some (.int .u64 x) ∧ w'.cell? ⟨wo.heap.size, k, none⟩ = some (.int .u64 y)) ⟨(Below.refl _ _).drew, by go_simp, by go_simp⟩ ?_
                    simp only [List.length_cons, List.length_nil, Nat.reduceAdd]
                    refine Lin.Blk.out ?_
                    iterate 4 (refine Lin.bl_val rfl rfl rfl ?_; apply Exists.intro; refine ⟨fun w' hw' => ?_, ?_⟩; (focus (have hBw := hw'.1; have hSw := hw'.2; clear hw'; (try dsimp only at hBw hSw); go_simp; first | with_reducible exact Lin.lin_value | with_reducible exact Lin.lin_skip)); (try simp only [Act.put, List.setIfInBounds_toArray, List.set_cons_zero, List.set_cons_succ]))
                    (refine Lin.bl_val rfl rfl rfl ?_; apply Exists.intro; refine ⟨fun w' hw' => ?_, ?_⟩; (focus (have hBw := hw'.1; have hSw := hw'.2; clear hw'; (try dsimp only at hBw hSw); have lay' : Laid w' := Laid.below lay_W19 hBw; go_simp; first | exact Lin.lin_ret (law28_half _ _) rfl | exact Lin.lin_ret (comp_Quiet _ _ _ _ _ _) (by rw [hv]))); (try simp only [Act.put, List.setIfInBounds_toArray, List.set_cons_zero, List.set_cons_succ]))
                    iterate 4 (refine Lin.bl_val rfl rfl rfl ?_; apply Exists.intro; refine ⟨fun w' hw' => ?_, ?_⟩; (focus (have hBw := hw'.1; have hSw := hw'.2; clear hw'; (try dsimp only at hBw hSw); go_simp; first | with_reducible exact Lin.lin_value | with_reducible exact Lin.lin_skip)); (try simp only [Act.put, List.setIfInBounds_toArray, List.set_cons_zero, List.set_cons_succ]))
                    iterate 2 (refine Lin.bl_val rfl rfl rfl ?_; apply Exists.intro; refine ⟨fun w' hw' => ?_, ?_⟩; (focus (have hBw := hw'.1; have hSw := hw'.2; clear hw'; (try dsimp only at hBw hSw); have lay' : Laid w' := Laid.below lay_W19 hBw; go_simp; first | exact Lin.lin_ret (law28_half _ _) rfl | exact Lin.lin_ret (comp_Quiet _ _ _ _ _ _) (by rw [hv]))); (try simp only [Act.put, List.setIfInBounds_toArray, List.set_cons_zero, List.set_cons_succ]))
                    (refine Lin.bl_val rfl rfl rfl ?_; apply Exists.intro; refine ⟨fun w' hw' => ?_, ?_⟩; (focus (have hBw := hw'.1; have hSw := hw'.2; clear hw'; (try dsimp only at hBw hSw); go_simp; first | with_reducible exact Lin.lin_value | with_reducible exact Lin.lin_skip)); (try simp only [Act.put, List.setIfInBounds_toArray, List.set_cons_zero, List.set_cons_succ]))
                    iterate 2 (refine Lin.bl_loose rfl rfl rfl ?_; apply Exists.intro; refine ⟨fun w' => ?_, ?_⟩; (focus (go_simp; try with_reducible rfl)); (try simp only [Act.put, List.setIfInBounds_toArray, List.set_cons_zero, List.set_cons_succ]))
                    refine Lin.bl_rest rfl ?_
                    refine Lin.bl_rest rfl ?_
                    refine Lin.bl_end ?_
                    refine Lin.fin0 (fun wa wb hc hb => ⟨hc.1.trans (hb.mono hc.1.size), cell_later hb hc.2.1, cell_later hb hc.2.2⟩) (by kernel_rfl) ?_
                    intro Z hw_Z
                    have hb_Z := hw_Z.1; clear hw_Z
                    have lay_Z : Laid Z := Laid.below lay_W19 hb_Z
                    (replace cc1 := cl hb_Z cc1; replace cc2 := cl hb_Z cc2; replace hBW := below_after hBW hb_Z; have hsb_Z := hb_Z.size; have hn_Z := an (nl cc1) (nl cc2))
                    (refine wpAny_ready (rs := [14]) (by kernel_rfl) (by simp) ?_; refine AllReady.cons rfl (fun K hK => ?_) AllReady.nil; go_simp; refine hK _ _ ?_; clear hK K)
                    (refine wpAny_ready (rs := [15]) (by kernel_rfl) (by simp) ?_; refine AllReady.cons rfl (fun K hK => ?_) AllReady.nil; go_simp; refine hK _ _ ?_; clear hK K)
                    refine wpAny_done (by kernel_rfl) ?_ _
                    apply_assumption
                    (first | refine wp_rename ?_ | refine goal_rename ?_); intro Z_ hw_Z; subst hw_Z
                    go_wp2_with fail
                    go_roundw
                    case rel => exact ⟨k + 1, by omega, by first | exact ⟨by go_num, by first | assumption | go_grown⟩ | go_num⟩
                    case measure => simp [intOf]; omega))
end Go.Proofs.YtkmgheabjcieaaaDoor
