/- The walk of CompLeast, for every input. -/
import Derived.Test.YtkmgheabjcieaaaDoorLaw28a
import Derived.Test.YtkmgheabjcieaaaDoorLeastN
set_option linter.unusedSimpArgs false
set_option linter.unusedVariables false
namespace Go.Proofs.YtkmgheabjcieaaaDoor
open Go.RowKit Go.Hb
theorem low_low (v : Nat) (n : Int) : lowN (lowN v n) n = lowN v n := by unfold lowN; exact Nat.mod_mod _ _
theorem low_bd (v : Nat) (f : Int) : lowN v (widthS f) < 340282366920938463463374607431768211456 := by
  have h := (widthS_bd f).2
  have h2 : lowN v (widthS f) < 2 ^ (widthS f).toNat := Nat.mod_lt _ (Nat.two_pow_pos _)
  have h3 : 2 ^ (widthS f).toNat ≤ 2 ^ 128 := Nat.pow_le_pow_right (by decide) (by omega)
  exact Nat.lt_of_lt_of_le h2 h3
theorem ord_low (f : Int) (x m : Nat) (h0 : 0 ≤ f) (hf : f < 4) : ordF f x (lowN m (widthS f)) = ordF f x m := by
  rw [ord_key f _ _ hf, ord_key f _ _ hf, (key_cut f (lowN m (widthS f)) m h0 hf).mpr (low_low m _)]
/-- No number of the list comes before the least one. -/
theorem ord_least (f ch cl2 : Int) (n : Nat) (H L : Nat → Int) (k : Nat) (h0 : 0 ≤ f) (hf : f < 4) (hk : k < n)
    (k0 : Hid (hi (lowN (cat (H (minJ f H L n)) (L (minJ f H L n))) (widthS f)) = ch)) (k1 : Hid (lo (lowN (cat (H (minJ f H L n)) (L (minJ f H L n))) (widthS f)) = cl2)) :
    decide (ordF f (cat (H k) (L k)) (cat ch cl2) < 0) = false := by
  rw [← k0.out, ← k1.out, cat_hl _ (low_bd _ f), ord_low f _ _ h0 hf]
  have := minJ_min f H L n k hk
  exact decide_eq_false (by omega)
set_option maxRecDepth 100000 in
set_option maxHeartbeats 4000000 in
theorem least_in (f ch cl2 : Int) (n : Nat) (H L : Nat → Int) (b off cap : Nat) [hU : U8 f] [hch : U64 ch] [hcl : U64 cl2] (hH : ∀ i, U64 (H i)) (hL : ∀ i, U64 (L i)) (w : World) [hLay : Laid w] (hf : f < 4) (n1 : 1 ≤ n) (n2 : n ≤ 50)
    (hc : ∀ i, i < n → w.cell? ⟨b, off + i * 2, none⟩ = some (.int .u64 (H i)) ∧ w.cell? ⟨b, off + i * 2 + 1, none⟩ = some (.int .u64 (L i)))
    (k0 : Hid (hi (lowN (cat (H (minJ f H L n)) (L (minJ f H L n))) (widthS f)) = ch)) (k1 : Hid (lo (lowN (cat (H (minJ f H L n)) (L (minJ f H L n))) (widthS f)) = cl2)) :
    Calls Tryd.prog 3 #[.int .u8 f, .slice (some ⟨b, off, none⟩) n cap] w fun en w' => en = .returned (.bool true) ∧ Below w.heap.size w w' := by
  have hfd : decide (f < 4) = true := decide_eq_true hf
  have hn50 : decide ((n : Int) > 50) = false := decide_eq_false (by omega)
  have hn0 : ((n : Int) == 0) = false := by rw [beq_eq_false_iff_ne]; omega
  have hml : minJ f H L n < n := by
    obtain ⟨m, rfl⟩ : ∃ m, n = m + 1 := ⟨n - 1, by omega⟩
    exact minJ_lt f H L m
  have hord : ∀ k, k < n → decide (ordF f (cat (H k) (L k)) (cat ch cl2) < 0) = false := fun k hk => ord_least f ch cl2 n H L k hU.ge hf hk k0 k1
  have c0 : w.cell? ⟨b, off, none⟩ = some (.int .u64 (H 0)) := by have := (hc 0 n1).1; simpa using this
  have sb : b < w.heap.size := World.block_lt_of_cell? w _ c0
  go_enter Tryd.func3, Tryd.ntmps3
  skip
  (go_wp2_with fail; refine (least_n f ch cl2 n H L b off cap hH hL _ hf n1 (by omega) hc k0 k1).mono ?_; rintro en v1 ⟨rfl, hB_v1⟩; have lay_v1 := laid_after hB_v1; have hs_v1 := hB_v1.size; (try simp only [World.size_alloc, World.size_setCell, World.size_drew] at hs_v1); have hBW : Below w.heap.size w v1 := below_after (w := w) (by go_grown) hB_v1; clear hB_v1)
  (go_wp2_with fail; refine (format_Known_b _ _).mono ?_; rintro en v2 ⟨rfl, hB_v2⟩; have lay_v2 := laid_after hB_v2; have cc1 := cl hB_v2 (show World.cell? _ ⟨v1.heap.size, 0, none⟩ = some (.int .u64 ch) by go_simp); have cc2 := cl hB_v2 (show World.cell? _ ⟨v1.heap.size, 1, none⟩ = some (.int .u64 cl2) by go_simp); have hs_v2 := hB_v2.size; (try simp only [World.size_alloc, World.size_setCell, World.size_drew] at hs_v2); replace hBW : Below w.heap.size w v2 := below_after (w := w) (by go_grown) hB_v2; have hn_v2 := nl cc1; clear hB_v2)
  go_wp2_with fail
  go_loopw [7, 8] (fun s i wr => ∃ (k : Nat) (fo : Bool), k ≤ n ∧ s = .bool fo ∧ i = .int .i64 k ∧ (minJ f H L n < k → fo = true) ∧ wr.cell? ⟨v1.heap.size, 0, none⟩ = some (.int .u64 ch) ∧ wr.cell? ⟨v1.heap.size, 1, none⟩ = some (.int .u64 cl2) ∧ v1.heap.size < wr.heap.size ∧ Below w.heap.size w wr) (fun _ i _ => n - (intOf i).toNat)
  case atStart =>
    exact ⟨0, false, by omega, rfl, rfl, by omega, by first | assumption | go_simp, by first | assumption | go_simp, World.block_lt_of_cell? (a := ⟨v1.heap.size, 0, none⟩) _ (by first | assumption | go_simp), by go_grown⟩
  case round =>
    obtain ⟨k, fo, k2, rfl, rfl, hfo, d0, d1, hsz, hnx⟩ := hrel
    have lay_wr : Laid wr := Laid.below (w := w) (by assumption) hnx
    by_cases hkn : k < n
    case neg =>
      have e := hfo (by omega)
      subst e
      skip
      (go_wp2_with fail; refine (law28_goes _).mono ?_; rintro en v9 ⟨rfl, hB_v9⟩; have lay_v9 := laid_after hB_v9; have hs_v9 := hB_v9.size; (try simp only [World.size_alloc, World.size_setCell, World.size_drew] at hs_v9); have hBW : Below w.heap.size w v9 := below_after (w := w) (by go_grown) hB_v9; clear hB_v9)
      go_wp2_with fail
      go_returns
      exact ⟨rfl, by go_grown⟩
    case pos =>
      obtain ⟨e0, e1⟩ := hc k hkn
      have e0 := cell_later hnx e0
      have e1 := cell_later hnx e1
      have kh := hH k
      have kl := hL k
      have hok := hord k hkn
      cases fo
      case true =>
        skip
        go_upto_region 10 with fail
        ((first | refine wp_rename ?_ | refine goal_rename ?_); intro W1 hw_W1; have cc1 : W1.cell? ⟨b, off + k * 2, none⟩ = some (.int .u64 (H k)) := (by rw [hw_W1]; go_simp); have cc2 : W1.cell? ⟨b, off + k * 2 + 1, none⟩ = some (.int .u64 (L k)) := (by rw [hw_W1]; go_simp); have cc3 : W1.cell? ⟨v1.heap.size, 0, none⟩ = some (.int .u64 ch) := (by rw [hw_W1]; go_simp); have cc4 : W1.cell? ⟨v1.heap.size, 1, none⟩ = some (.int .u64 cl2) := (by rw [hw_W1]; go_simp); have hBW : Below w.heap.size w W1 := (by rw [hw_W1]; (first | with_reducible exact drewN_below (by assumption) _ | go_grown)); have hn_W1 := an (nl cc1) (nl cc3); have lay_W1 : Laid W1 := Laid.below (w := w) (by assumption) hBW; clear hw_W1)
        refine Lin.wp_region_lin (by kernel_rfl) (by intro _ _ d _ _ h; cases d <;> exact h) (by kernel_rfl) (fun w' => Below W1.heap.size W1 w' ∧ w'.cell? ⟨b, off + k * 2, none⟩ = some (.int .u64 (H k)) ∧ w'.cell? ⟨b, off + k * 2 + 1, none⟩ = some (.int .u64 (L k)) ∧ w'.cell? ⟨v1.heap.size, 0, none⟩ = some (.int .u64 ch) ∧ w'.cell? ⟨v1.heap.size, 1, none⟩ = some (.int .u64 cl2)) ⟨(Below.refl _ _).drew, by go_simp, by go_simp, by go_simp, by go_simp⟩ ?_
        simp only [List.length_cons, List.length_nil, Nat.reduceAdd]
        refine Lin.Blk.out ?_
        iterate 2 (refine Lin.bl_val rfl rfl rfl ?_; apply Exists.intro; refine ⟨fun w' hw' => ?_, ?_⟩; (focus (have hBw := hw'.1; have hSw := hw'.2; clear hw'; (try dsimp only at hBw hSw); go_simp; first | with_reducible exact Lin.lin_value | with_reducible exact Lin.lin_skip)); (try simp only [Act.put, List.setIfInBounds_toArray, List.set_cons_zero, List.set_cons_succ]))
        iterate 8 (refine Lin.bl_skip rfl (by kernel_rfl) ?_; (try simp only [Act.put, List.setIfInBounds_toArray, List.set_cons_zero, List.set_cons_succ]))
        (refine Lin.bl_val rfl rfl rfl ?_; apply Exists.intro; refine ⟨fun w' hw' => ?_, ?_⟩; (focus (have hBw := hw'.1; have hSw := hw'.2; clear hw'; (try dsimp only at hBw hSw); go_simp; first | with_reducible exact Lin.lin_value | with_reducible exact Lin.lin_skip)); (try simp only [Act.put, List.setIfInBounds_toArray, List.set_cons_zero, List.set_cons_succ]))
        refine Lin.bl_rest rfl ?_
        refine Lin.bl_end ?_
        refine Lin.fin0 (fun wa wb hc hb => ⟨hc.1.trans (hb.mono hc.1.size), cell_later hb hc.2.1, cell_later hb hc.2.2.1, cell_later hb hc.2.2.2.1, cell_later hb hc.2.2.2.2⟩) (by kernel_rfl) ?_
        intro X hw_X
        have hb_X := hw_X.1; clear hw_X
        have lay_X : Laid X := Laid.below lay_W1 hb_X
        (replace cc1 := cl hb_X cc1; replace cc2 := cl hb_X cc2; replace cc3 := cl hb_X cc3; replace cc4 := cl hb_X cc4; replace hBW := below_after hBW hb_X; have hsb_X := hb_X.size; have hn_X := an (nl cc1) (nl cc3))
        (refine wpAny_ready (rs := [11]) (by kernel_rfl) (by simp) ?_; refine AllReady.cons rfl (fun K hK => ?_) AllReady.nil; go_simp; refine hK _ _ ?_; clear hK K)
        refine wpAny_done (by kernel_rfl) ?_ _
        apply_assumption
        (first | refine wp_rename ?_ | refine goal_rename ?_); intro X_ hw_X; subst hw_X
        go_upto_region 11 with fail
        ((first | refine wp_rename ?_ | refine goal_rename ?_); intro W2 hw_W2; have hG := named cc1 W2 (by rw [hw_W2]; first | with_reducible exact drewN_below (Below.refl _ _) _ | go_grown); replace cc1 := cl hG cc1; replace cc2 := cl hG cc2; replace cc3 := cl hG cc3; replace cc4 := cl hG cc4; replace hBW := below_after hBW hG; have hs_W2 := hG.size; clear hG; have hn_W2 := an (nl cc1) (nl cc3); have lay_W2 : Laid W2 := Laid.below (w := w) (by assumption) hBW; clear hw_W2)
        refine Lin.wp_region_lin (by kernel_rfl) (by intro _ _ d _ _ h; cases d <;> exact h) (by kernel_rfl) (fun w' => Below W2.heap.size W2 w' ∧ w'.cell? ⟨b, off + k * 2, none⟩ = some (.int .u64 (H k)) ∧ w'.cell? ⟨b, off + k * 2 + 1, none⟩ = some (.int .u64 (L k)) ∧ w'.cell? ⟨v1.heap.size, 0, none⟩ = some (.int .u64 ch) ∧ w'.cell? ⟨v1.heap.size, 1, none⟩ = some (.int .u64 cl2)) ⟨(Below.refl _ _).drew, by go_simp, by go_simp, by go_simp, by go_simp⟩ ?_
        simp only [List.length_cons, List.length_nil, Nat.reduceAdd]
        refine Lin.Blk.out ?_
        iterate 6 (refine Lin.bl_val rfl rfl rfl ?_; apply Exists.intro; refine ⟨fun w' hw' => ?_, ?_⟩; (focus (have hBw := hw'.1; have hSw := hw'.2; clear hw'; (try dsimp only at hBw hSw); go_simp; first | with_reducible exact Lin.lin_value | with_reducible exact Lin.lin_skip)); (try simp only [Act.put, List.setIfInBounds_toArray, List.set_cons_zero, List.set_cons_succ]))
        (refine Lin.bl_val rfl rfl rfl ?_; apply Exists.intro; refine ⟨fun w' hw' => ?_, ?_⟩; (focus (have hBw := hw'.1; have hSw := hw'.2; clear hw'; (try dsimp only at hBw hSw); have lay' : Laid w' := Laid.below lay_W2 hBw; go_simp; first | exact Lin.lin_ret (comp_Order _ _ _ _ _ _) rfl)); (try simp only [Act.put, List.setIfInBounds_toArray, List.set_cons_zero, List.set_cons_succ]))
        (refine Lin.bl_val rfl rfl rfl ?_; apply Exists.intro; refine ⟨fun w' hw' => ?_, ?_⟩; (focus (have hBw := hw'.1; have hSw := hw'.2; clear hw'; (try dsimp only at hBw hSw); go_simp; first | with_reducible exact Lin.lin_value | with_reducible exact Lin.lin_skip)); (try simp only [Act.put, List.setIfInBounds_toArray, List.set_cons_zero, List.set_cons_succ]))
        refine Lin.bl_end ?_
        refine Lin.fin0 (fun wa wb hc hb => ⟨hc.1.trans (hb.mono hc.1.size), cell_later hb hc.2.1, cell_later hb hc.2.2.1, cell_later hb hc.2.2.2.1, cell_later hb hc.2.2.2.2⟩) (by kernel_rfl) ?_
        intro Y hw_Y
        have hb_Y := hw_Y.1; clear hw_Y
        have lay_Y : Laid Y := Laid.below lay_W2 hb_Y
        (replace cc1 := cl hb_Y cc1; replace cc2 := cl hb_Y cc2; replace cc3 := cl hb_Y cc3; replace cc4 := cl hb_Y cc4; replace hBW := below_after hBW hb_Y; have hsb_Y := hb_Y.size; have hn_Y := an (nl cc1) (nl cc3))
        refine wpAny_done (by kernel_rfl) ?_ _
        apply_assumption
        (first | refine wp_rename ?_ | refine goal_rename ?_); intro Y_ hw_Y; subst hw_Y
        go_wp2_with fail
        go_roundw
        case rel => exact ⟨k + 1, true, by omega, by go_simp, by go_num, fun _ => rfl, by first | assumption | go_simp, by first | assumption | go_simp, World.block_lt_of_cell? (a := ⟨v1.heap.size, 0, none⟩) _ (by first | assumption | go_simp), by go_grown⟩
        case measure => simp [intOf]; omega
      case false =>
        obtain ⟨g0, hg0⟩ : ∃ g, Hid (hi (lowN (cat (H k) (L k)) (widthS f)) = g) := ⟨_, Lib.hid rfl⟩
        obtain ⟨g1, hg1⟩ : ∃ g, Hid (lo (lowN (cat (H k) (L k)) (widthS f)) = g) := ⟨_, Lib.hid rfl⟩
        have heq := fun W => run_eql_bits W g0 g1 ch cl2
        have hfo2 : minJ f H L n < k + 1 → decide (g0 = ch ∧ g1 = cl2) = true := fun hlt => by
          by_cases hj : minJ f H L n < k
          · exact absurd (hfo hj) (by decide)
          · have e : minJ f H L n = k := by omega
            have k0' := k0.out
            have k1' := k1.out
            rw [e] at k0' k1'
            exact decide_eq_true ⟨hg0.out.symm.trans k0', hg1.out.symm.trans k1'⟩
        skip
        go_upto_region 10 with fail
        ((first | refine wp_rename ?_ | refine goal_rename ?_); intro W1 hw_W1; have cc1 : W1.cell? ⟨b, off + k * 2, none⟩ = some (.int .u64 (H k)) := (by rw [hw_W1]; go_simp); have cc2 : W1.cell? ⟨b, off + k * 2 + 1, none⟩ = some (.int .u64 (L k)) := (by rw [hw_W1]; go_simp); have cc3 : W1.cell? ⟨v1.heap.size, 0, none⟩ = some (.int .u64 ch) := (by rw [hw_W1]; go_simp); have cc4 : W1.cell? ⟨v1.heap.size, 1, none⟩ = some (.int .u64 cl2) := (by rw [hw_W1]; go_simp); have hBW : Below w.heap.size w W1 := (by rw [hw_W1]; (first | with_reducible exact drewN_below (by assumption) _ | go_grown)); have hn_W1 := an (nl cc1) (nl cc3); have lay_W1 : Laid W1 := Laid.below (w := w) (by assumption) hBW; clear hw_W1)
        refine Lin.wp_region_lin (by kernel_rfl) (by intro _ _ d _ _ h; cases d <;> exact h) (by kernel_rfl) (fun w' => Below W1.heap.size W1 w' ∧ w'.cell? ⟨b, off + k * 2, none⟩ = some (.int .u64 (H k)) ∧ w'.cell? ⟨b, off + k * 2 + 1, none⟩ = some (.int .u64 (L k)) ∧ w'.cell? ⟨v1.heap.size, 0, none⟩ = some (.int .u64 ch) ∧ w'.cell? ⟨v1.heap.size, 1, none⟩ = some (.int .u64 cl2)) ⟨(Below.refl _ _).drew, by go_simp, by go_simp, by go_simp, by go_simp⟩ ?_
        simp only [List.length_cons, List.length_nil, Nat.reduceAdd]
        refine Lin.Blk.out ?_
        iterate 2 (refine Lin.bl_val rfl rfl rfl ?_; apply Exists.intro; refine ⟨fun w' hw' => ?_, ?_⟩; (focus (have hBw := hw'.1; have hSw := hw'.2; clear hw'; (try dsimp only at hBw hSw); go_simp; first | with_reducible exact Lin.lin_value | with_reducible exact Lin.lin_skip)); (try simp only [Act.put, List.setIfInBounds_toArray, List.set_cons_zero, List.set_cons_succ]))
        iterate 5 (refine Lin.bl_val rfl rfl (by kernel_rfl) ?_; apply Exists.intro; refine ⟨fun w' hw' => ?_, ?_⟩; (focus (have hBw := hw'.1; have hSw := hw'.2; clear hw'; (try dsimp only at hBw hSw); go_simp; first | with_reducible exact Lin.lin_value | with_reducible exact Lin.lin_skip)); (try simp only [Act.put, List.setIfInBounds_toArray, List.set_cons_zero, List.set_cons_succ]))
        (refine Lin.bl_val rfl rfl (by kernel_rfl) ?_; apply Exists.intro; refine ⟨fun w' hw' => ?_, ?_⟩; (focus (have hBw := hw'.1; have hSw := hw'.2; clear hw'; (try dsimp only at hBw hSw); have lay' : Laid w' := Laid.below lay_W1 hBw; go_simp; first | exact Lin.lin_ret (format_Cut _ _ _ _) (by rw [hg0.out, hg1.out]))); (try simp only [Act.put, List.setIfInBounds_toArray, List.set_cons_zero, List.set_cons_succ]))
        iterate 2 (refine Lin.bl_val rfl rfl (by kernel_rfl) ?_; apply Exists.intro; refine ⟨fun w' hw' => ?_, ?_⟩; (focus (have hBw := hw'.1; have hSw := hw'.2; clear hw'; (try dsimp only at hBw hSw); go_simp; first | with_reducible exact Lin.lin_value | with_reducible exact Lin.lin_skip)); (try simp only [Act.put, List.setIfInBounds_toArray, List.set_cons_zero, List.set_cons_succ]))
        (refine Lin.bl_val rfl rfl rfl ?_; apply Exists.intro; refine ⟨fun w' hw' => ?_, ?_⟩; (focus (have hBw := hw'.1; have hSw := hw'.2; clear hw'; (try dsimp only at hBw hSw); go_simp; first | with_reducible exact Lin.lin_value | with_reducible exact Lin.lin_skip)); (try simp only [Act.put, List.setIfInBounds_toArray, List.set_cons_zero, List.set_cons_succ]))
        refine Lin.bl_rest rfl ?_
        refine Lin.bl_end ?_
        refine Lin.fin0 (fun wa wb hc hb => ⟨hc.1.trans (hb.mono hc.1.size), cell_later hb hc.2.1, cell_later hb hc.2.2.1, cell_later hb hc.2.2.2.1, cell_later hb hc.2.2.2.2⟩) (by kernel_rfl) ?_
        intro X hw_X
        have hb_X := hw_X.1; clear hw_X
        have lay_X : Laid X := Laid.below lay_W1 hb_X
        (replace cc1 := cl hb_X cc1; replace cc2 := cl hb_X cc2; replace cc3 := cl hb_X cc3; replace cc4 := cl hb_X cc4; replace hBW := below_after hBW hb_X; have hsb_X := hb_X.size; have hn_X := an (nl cc1) (nl cc3))
        (refine wpAny_ready (rs := [11]) (by kernel_rfl) (by simp) ?_; refine AllReady.cons rfl (fun K hK => ?_) AllReady.nil; go_simp; refine hK _ _ ?_; clear hK K)
        refine wpAny_done (by kernel_rfl) ?_ _
        apply_assumption
        (first | refine wp_rename ?_ | refine goal_rename ?_); intro X_ hw_X; subst hw_X
        go_upto_region 11 with fail
        ((first | refine wp_rename ?_ | refine goal_rename ?_); intro W2 hw_W2; have hG := named cc1 W2 (by rw [hw_W2]; first | with_reducible exact drewN_below (Below.refl _ _) _ | go_grown); replace cc1 := cl hG cc1; replace cc2 := cl hG cc2; replace cc3 := cl hG cc3; replace cc4 := cl hG cc4; replace hBW := below_after hBW hG; have hs_W2 := hG.size; clear hG; have hn_W2 := an (nl cc1) (nl cc3); have lay_W2 : Laid W2 := Laid.below (w := w) (by assumption) hBW; clear hw_W2)
        refine Lin.wp_region_lin (by kernel_rfl) (by intro _ _ d _ _ h; cases d <;> exact h) (by kernel_rfl) (fun w' => Below W2.heap.size W2 w' ∧ w'.cell? ⟨b, off + k * 2, none⟩ = some (.int .u64 (H k)) ∧ w'.cell? ⟨b, off + k * 2 + 1, none⟩ = some (.int .u64 (L k)) ∧ w'.cell? ⟨v1.heap.size, 0, none⟩ = some (.int .u64 ch) ∧ w'.cell? ⟨v1.heap.size, 1, none⟩ = some (.int .u64 cl2)) ⟨(Below.refl _ _).drew, by go_simp, by go_simp, by go_simp, by go_simp⟩ ?_
        simp only [List.length_cons, List.length_nil, Nat.reduceAdd]
        refine Lin.Blk.out ?_
        iterate 6 (refine Lin.bl_val rfl rfl rfl ?_; apply Exists.intro; refine ⟨fun w' hw' => ?_, ?_⟩; (focus (have hBw := hw'.1; have hSw := hw'.2; clear hw'; (try dsimp only at hBw hSw); go_simp; first | with_reducible exact Lin.lin_value | with_reducible exact Lin.lin_skip)); (try simp only [Act.put, List.setIfInBounds_toArray, List.set_cons_zero, List.set_cons_succ]))
        (refine Lin.bl_val rfl rfl rfl ?_; apply Exists.intro; refine ⟨fun w' hw' => ?_, ?_⟩; (focus (have hBw := hw'.1; have hSw := hw'.2; clear hw'; (try dsimp only at hBw hSw); have lay' : Laid w' := Laid.below lay_W2 hBw; go_simp; first | exact Lin.lin_ret (comp_Order _ _ _ _ _ _) rfl)); (try simp only [Act.put, List.setIfInBounds_toArray, List.set_cons_zero, List.set_cons_succ]))
        (refine Lin.bl_val rfl rfl rfl ?_; apply Exists.intro; refine ⟨fun w' hw' => ?_, ?_⟩; (focus (have hBw := hw'.1; have hSw := hw'.2; clear hw'; (try dsimp only at hBw hSw); go_simp; first | with_reducible exact Lin.lin_value | with_reducible exact Lin.lin_skip)); (try simp only [Act.put, List.setIfInBounds_toArray, List.set_cons_zero, List.set_cons_succ]))
        refine Lin.bl_end ?_
        refine Lin.fin0 (fun wa wb hc hb => ⟨hc.1.trans (hb.mono hc.1.size), cell_later hb hc.2.1, cell_later hb hc.2.2.1, cell_later hb hc.2.2.2.1, cell_later hb hc.2.2.2.2⟩) (by kernel_rfl) ?_
        intro Y hw_Y
        have hb_Y := hw_Y.1; clear hw_Y
        have lay_Y : Laid Y := Laid.below lay_W2 hb_Y
        (replace cc1 := cl hb_Y cc1; replace cc2 := cl hb_Y cc2; replace cc3 := cl hb_Y cc3; replace cc4 := cl hb_Y cc4; replace hBW := below_after hBW hb_Y; have hsb_Y := hb_Y.size; have hn_Y := an (nl cc1) (nl cc3))
        refine wpAny_done (by kernel_rfl) ?_ _
        apply_assumption
        (first | refine wp_rename ?_ | refine goal_rename ?_); intro Y_ hw_Y; subst hw_Y
        go_wp2_with fail
        go_roundw
        case rel => exact ⟨k + 1, decide (g0 = ch ∧ g1 = cl2), by omega, by go_simp, by go_num, hfo2, by first | assumption | go_simp, by first | assumption | go_simp, World.block_lt_of_cell? (a := ⟨v1.heap.size, 0, none⟩) _ (by first | assumption | go_simp), by go_grown⟩
        case measure => simp [intOf]; omega
theorem walk_CompLeast (f : Int) (n : Nat) (q : Option Addr) (cap : Nat) [hU : U8 f] (w : World) [hLay : Laid w]
    (hq : n = 0 ∨ ∃ (b off : Nat) (A B : Nat → Int), q = some ⟨b, off, none⟩ ∧ (∀ i, U64 (A i)) ∧ (∀ i, U64 (B i)) ∧ ∀ i, i < n → w.cell? ⟨b, off + i * 2, none⟩ = some (.int .u64 (A i)) ∧ w.cell? ⟨b, off + i * 2 + 1, none⟩ = some (.int .u64 (B i))) :
    Calls Tryd.prog 3 #[.int .u8 f, .slice q n cap] w fun en w' => en = .returned (.bool true) ∧ Below w.heap.size w w' := by
  by_cases hb : n ≤ 50
  case neg =>
    have hd : decide ((n : Int) > 50) = true := decide_eq_true (by omega)
    clear hq hb
    go_enter Tryd.func3, Tryd.ntmps3
    go_wp2_with fail
    go_returns
    exact ⟨rfl, by go_grown⟩
  case pos =>
    have hd : decide ((n : Int) > 50) = false := decide_eq_false (by omega)
    by_cases hf : f < 4
    case neg =>
      have hfd : decide (f < 4) = false := decide_eq_false hf
      have heb := fun W => eql_bits_same W 0 0
      clear hq hb
      go_enter Tryd.func3, Tryd.ntmps3
      skip
      (go_wp2_with fail; refine (least_none f n q cap _ (Or.inl (by omega))).mono ?_; rintro en v1 ⟨rfl, hB_v1⟩; have lay_v1 := laid_after hB_v1; have hs_v1 := hB_v1.size; (try simp only [World.size_alloc, World.size_setCell, World.size_drew] at hs_v1); have hBW : Below w.heap.size w v1 := below_after (w := w) (by go_grown) hB_v1; clear hB_v1)
      (go_wp2_with fail; refine (format_Known_b _ _).mono ?_; rintro en v2 ⟨rfl, hB_v2⟩; have lay_v2 := laid_after hB_v2; have cc1 := cl hB_v2 (show World.cell? _ ⟨v1.heap.size, 0, none⟩ = some (.int .u64 0) by go_simp); have cc2 := cl hB_v2 (show World.cell? _ ⟨v1.heap.size, 1, none⟩ = some (.int .u64 0) by go_simp); have hs_v2 := hB_v2.size; (try simp only [World.size_alloc, World.size_setCell, World.size_drew] at hs_v2); replace hBW : Below w.heap.size w v2 := below_after (w := w) (by go_grown) hB_v2; have hn_v2 := nl cc1; clear hB_v2)
      (go_wp2_with fail; refine (law28_goes _).mono ?_; rintro en v3 ⟨rfl, hB_v3⟩; have lay_v3 := laid_after hB_v3; have hG := cell_grown cc1 (by go_grown) hB_v3; replace cc1 := cl hG cc1; replace cc2 := cl hG cc2; have hs_v3 := hG.size; clear hG; replace hBW : Below w.heap.size w v3 := below_after (w := w) (by go_grown) hB_v3; have hn_v3 := nl cc1; clear hB_v3)
      go_wp2_with fail
      go_returns
      exact ⟨rfl, by go_grown⟩
    case pos =>
      rcases hq with hz | ⟨b, off, A, B, rfl, hA, hB, hc⟩
      · subst hz
        have hfd : decide (f < 4) = true := decide_eq_true hf
        have heb := fun W => eql_bits_same W 0 0
        clear hb hd
        go_enter Tryd.func3, Tryd.ntmps3
        skip
        (go_wp2_with fail; refine (least_none f 0 q cap _ (Or.inr rfl)).mono ?_; rintro en v1 ⟨rfl, hB_v1⟩; have lay_v1 := laid_after hB_v1; have hs_v1 := hB_v1.size; (try simp only [World.size_alloc, World.size_setCell, World.size_drew] at hs_v1); have hBW : Below w.heap.size w v1 := below_after (w := w) (by go_grown) hB_v1; clear hB_v1)
        (go_wp2_with fail; refine (format_Known_b _ _).mono ?_; rintro en v2 ⟨rfl, hB_v2⟩; have lay_v2 := laid_after hB_v2; have cc1 := cl hB_v2 (show World.cell? _ ⟨v1.heap.size, 0, none⟩ = some (.int .u64 0) by go_simp); have cc2 := cl hB_v2 (show World.cell? _ ⟨v1.heap.size, 1, none⟩ = some (.int .u64 0) by go_simp); have hs_v2 := hB_v2.size; (try simp only [World.size_alloc, World.size_setCell, World.size_drew] at hs_v2); replace hBW : Below w.heap.size w v2 := below_after (w := w) (by go_grown) hB_v2; have hn_v2 := nl cc1; clear hB_v2)
        (go_wp2_with fail; refine (law28_goes _).mono ?_; rintro en v3 ⟨rfl, hB_v3⟩; have lay_v3 := laid_after hB_v3; have hG := cell_grown cc1 (by go_grown) hB_v3; replace cc1 := cl hG cc1; replace cc2 := cl hG cc2; have hs_v3 := hG.size; clear hG; replace hBW : Below w.heap.size w v3 := below_after (w := w) (by go_grown) hB_v3; have hn_v3 := nl cc1; clear hB_v3)
        go_wp2_with fail
        go_returns
        exact ⟨rfl, by go_grown⟩
      · by_cases hz : n = 0
        · subst hz
          have hfd : decide (f < 4) = true := decide_eq_true hf
          have heb := fun W => eql_bits_same W 0 0
          clear hb hd hc
          go_enter Tryd.func3, Tryd.ntmps3
          skip
          (go_wp2_with fail; refine (least_none f 0 (some ⟨b, off, none⟩) cap _ (Or.inr rfl)).mono ?_; rintro en v1 ⟨rfl, hB_v1⟩; have lay_v1 := laid_after hB_v1; have hs_v1 := hB_v1.size; (try simp only [World.size_alloc, World.size_setCell, World.size_drew] at hs_v1); have hBW : Below w.heap.size w v1 := below_after (w := w) (by go_grown) hB_v1; clear hB_v1)
          (go_wp2_with fail; refine (format_Known_b _ _).mono ?_; rintro en v2 ⟨rfl, hB_v2⟩; have lay_v2 := laid_after hB_v2; have cc1 := cl hB_v2 (show World.cell? _ ⟨v1.heap.size, 0, none⟩ = some (.int .u64 0) by go_simp); have cc2 := cl hB_v2 (show World.cell? _ ⟨v1.heap.size, 1, none⟩ = some (.int .u64 0) by go_simp); have hs_v2 := hB_v2.size; (try simp only [World.size_alloc, World.size_setCell, World.size_drew] at hs_v2); replace hBW : Below w.heap.size w v2 := below_after (w := w) (by go_grown) hB_v2; have hn_v2 := nl cc1; clear hB_v2)
          (go_wp2_with fail; refine (law28_goes _).mono ?_; rintro en v3 ⟨rfl, hB_v3⟩; have lay_v3 := laid_after hB_v3; have hG := cell_grown cc1 (by go_grown) hB_v3; replace cc1 := cl hG cc1; replace cc2 := cl hG cc2; have hs_v3 := hG.size; clear hG; replace hBW : Below w.heap.size w v3 := below_after (w := w) (by go_grown) hB_v3; have hn_v3 := nl cc1; clear hB_v3)
          go_wp2_with fail
          go_returns
          exact ⟨rfl, by go_grown⟩
        · exact least_in f _ _ n A B b off cap hA hB w hf (by omega) hb hc (Lib.hid rfl) (Lib.hid rfl)
end Go.Proofs.YtkmgheabjcieaaaDoor
