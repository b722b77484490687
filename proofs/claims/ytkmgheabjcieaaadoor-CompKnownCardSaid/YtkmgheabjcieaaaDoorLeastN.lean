/- The contracts of slices.MinFunc and comp.Least over a list of numbers: the first of the least ones, by the total order. Condition: the listed table is laid. -/
import Derived.Test.YtkmgheabjcieaaaDoorLeast
import Derived.LoopTactic
set_option linter.unusedSimpArgs false
set_option linter.unusedVariables false
namespace Go.Proofs.YtkmgheabjcieaaaDoor
open Go.RowKit Go.Hb
theorem ord_self (f : Int) (a : Nat) : ordF f a a = 0 := by
  have := ord_anti f a a; omega
/-- The place of the first of the least ones of k numbers. -/
def minJ (f : Int) (H L : Nat → Int) : Nat → Nat
  | 0 => 0
  | k + 1 => if ordF f (cat (H k) (L k)) (cat (H (minJ f H L k)) (L (minJ f H L k))) < 0 then k else minJ f H L k
theorem minJ_one (f : Int) (H L : Nat → Int) : minJ f H L 1 = 0 := by
  unfold minJ
  split
  · rfl
  · rfl
theorem minJ_lt (f : Int) (H L : Nat → Int) : ∀ k, minJ f H L (k + 1) < k + 1
  | 0 => by rw [minJ_one]; decide
  | k + 1 => by
    have := minJ_lt f H L k
    unfold minJ
    split <;> omega
theorem minJ_min (f : Int) (H L : Nat → Int) : ∀ k i, i < k → 0 ≤ ordF f (cat (H i) (L i)) (cat (H (minJ f H L k)) (L (minJ f H L k)))
  | 0, i, h => by omega
  | k + 1, i, h => by
    have ih := minJ_min f H L k
    unfold minJ
    split
    · rename_i hk
      by_cases hik : i = k
      · rw [hik, ord_self]; exact Int.le_refl _
      · have h1 := ih i (by omega)
        have h2 := ord_trans f (cat (H k) (L k)) (cat (H (minJ f H L k)) (L (minJ f H L k))) (cat (H i) (L i)) (by omega) (by rw [ord_anti f (cat (H i) (L i))]; omega)
        rw [ord_anti f (cat (H k) (L k)) (cat (H i) (L i))]
        omega
    · rename_i hk
      by_cases hik : i = k
      · rw [hik]; omega
      · exact ih i (by omega)
set_option maxRecDepth 100000 in
set_option maxHeartbeats 4000000 in
theorem min_n (f : Int) (n : Nat) (H L : Nat → Int) (b off cap bf : Nat) [hU : U8 f] (hH : ∀ i, U64 (H i)) (hL : ∀ i, U64 (L i)) (w : World) [hLay : Laid w] (n1 : 1 ≤ n) (n2 : n ≤ 1000)
    (hc : ∀ i, i < n → w.cell? ⟨b, off + i * 2, none⟩ = some (.int .u64 (H i)) ∧ w.cell? ⟨b, off + i * 2 + 1, none⟩ = some (.int .u64 (L i))) (cf : w.cell? ⟨bf, 0, none⟩ = some (.int .u8 f)) :
    Calls Tryd.prog 12 #[.slice (some ⟨b, off, none⟩) n cap, .func (.func 13) #[] #[.pointer (some ⟨bf, 0, none⟩)]] w fun en w' => en = .returned (.agg #[.int .u64 (H (minJ f H L n)), .int .u64 (L (minJ f H L n))]) ∧ Below w.heap.size w w' := by
  have c0 : w.cell? ⟨b, off, none⟩ = some (.int .u64 (H 0)) := by have := (hc 0 n1).1; simpa using this
  have c1 : w.cell? ⟨b, off + 1, none⟩ = some (.int .u64 (L 0)) := by have := (hc 0 n1).2; simpa using this
  have sb : b < w.heap.size := World.block_lt_of_cell? w _ c0
  have sbf : bf < w.heap.size := World.block_lt_of_cell? w _ cf
  have hn1 : decide ((n : Int) < 1) = false := decide_eq_false (by omega)
  have hm1 := minJ_one f H L
  go_enter Tryd.func12, Tryd.ntmps12
  skip
  go_wp2_with fail
  go_loopw [6] (fun i wr => ∃ k : Nat, 1 ≤ k ∧ k ≤ n ∧ i = .int .i64 k ∧ wr.cell? ⟨w.heap.size + 1, 0, none⟩ = some (.int .u64 (H (minJ f H L k))) ∧ wr.cell? ⟨w.heap.size + 1, 1, none⟩ = some (.int .u64 (L (minJ f H L k))) ∧ wr.frozen? ⟨w.heap.size + 1, 0, none⟩ = false ∧ wr.frozen? ⟨w.heap.size + 1, 1, none⟩ = false ∧ wr.cell? ⟨w.heap.size, 0, none⟩ = some (.int .u64 0) ∧ wr.cell? ⟨w.heap.size, 1, none⟩ = some (.int .u64 0) ∧ wr.frozen? ⟨w.heap.size, 0, none⟩ = false ∧ wr.frozen? ⟨w.heap.size, 1, none⟩ = false ∧ Below w.heap.size w wr) (fun i _ => n - (intOf i).toNat)
  case atStart =>
    exact ⟨1, by omega, n1, rfl, by rw [hm1]; go_simp, by rw [hm1]; go_simp, by go_simp, by go_simp, by go_simp, by go_simp, by go_simp, by go_simp, by go_grown⟩
  case round =>
    obtain ⟨k, k1, k2, rfl, d0, d1, f0, f1, r0, r1, q0, q1, hnx⟩ := hrel
    have hstep : minJ f H L (k + 1) = if ordF f (cat (H k) (L k)) (cat (H (minJ f H L k)) (L (minJ f H L k))) < 0 then k else minJ f H L k := rfl
    clear hm1
    generalize hj : minJ f H L k = j at *
    have jh := hH j
    have jl := hL j
    have kh := hH k
    have kl := hL k
    by_cases hkn : k < n
    case neg =>
      have e : k = n := by omega
      subst e
      go_wp2_with fail
      refine bodyPost_ret (by simp [results, Tryd.results12, go_sem, d0, d1, r0, r1, f0, f1, q0, q1]; try rfl) rfl ?_
      exact ⟨by rw [hj], by go_grown⟩
    case pos =>
      obtain ⟨e0, e1⟩ := hc k hkn
      have e0 := cell_later hnx e0
      have e1 := cell_later hnx e1
      have cf := cell_later hnx cf
      have lay_wr : Laid wr := Laid.below (w := w) (by assumption) hnx
      skip
      go_upto_region 7 with fail
      ((first | refine wp_rename ?_ | refine goal_rename ?_); intro W7 hw_W7; have cc1 : W7.cell? ⟨bf, 0, none⟩ = some (.int .u8 f) := (by rw [hw_W7]; go_simp); have cc2 : W7.cell? ⟨b, off + k * 2, none⟩ = some (.int .u64 (H k)) := (by rw [hw_W7]; go_simp); have cc3 : W7.cell? ⟨b, off + k * 2 + 1, none⟩ = some (.int .u64 (L k)) := (by rw [hw_W7]; go_simp); have cc4 : W7.cell? ⟨w.heap.size, 0, none⟩ = some (.int .u64 0) := (by rw [hw_W7]; go_simp); have fcc4 : W7.frozen? ⟨w.heap.size, 0, none⟩ = false := (by rw [hw_W7]; go_simp); have cc5 : W7.cell? ⟨w.heap.size, 1, none⟩ = some (.int .u64 0) := (by rw [hw_W7]; go_simp); have fcc5 : W7.frozen? ⟨w.heap.size, 1, none⟩ = false := (by rw [hw_W7]; go_simp); have cc6 : W7.cell? ⟨w.heap.size + 1, 0, none⟩ = some (.int .u64 (H j)) := (by rw [hw_W7]; go_simp); have fcc6 : W7.frozen? ⟨w.heap.size + 1, 0, none⟩ = false := (by rw [hw_W7]; go_simp); have cc7 : W7.cell? ⟨w.heap.size + 1, 1, none⟩ = some (.int .u64 (L j)) := (by rw [hw_W7]; go_simp); have fcc7 : W7.frozen? ⟨w.heap.size + 1, 1, none⟩ = false := (by rw [hw_W7]; go_simp); have hBW : Below w.heap.size w W7 := (by rw [hw_W7]; (first | with_reducible exact drewN_below (by assumption) _ | go_grown)); have hn_W7 := an (nl cc1) (an (nl cc2) (an (nl cc4) (nl cc6))); have lay_W7 : Laid W7 := Laid.below (w := w) (by assumption) hBW; clear hw_W7)
      refine Lin.wp_region_lin (by kernel_rfl) (by intro _ _ d _ _ h; cases d <;> exact h) (by kernel_rfl) (fun w' => Below W7.heap.size W7 w' ∧ w'.cell? ⟨bf, 0, none⟩ = some (.int .u8 f) ∧ w'.cell? ⟨b, off + k * 2, none⟩ = some (.int .u64 (H k)) ∧ w'.cell? ⟨b, off + k * 2 + 1, none⟩ = some (.int .u64 (L k)) ∧ w'.cell? ⟨w.heap.size, 0, none⟩ = some (.int .u64 0) ∧ w'.cell? ⟨w.heap.size, 1, none⟩ = some (.int .u64 0) ∧ w'.cell? ⟨w.heap.size + 1, 0, none⟩ = some (.int .u64 (H j)) ∧ w'.cell? ⟨w.heap.size + 1, 1, none⟩ = some (.int .u64 (L j))) ⟨(Below.refl _ _).drew, by go_simp, by go_simp, by go_simp, by go_simp, by go_simp, by go_simp, by go_simp⟩ ?_
      simp only [List.length_cons, List.length_nil, Nat.reduceAdd]
      refine Lin.Blk.out ?_
      iterate 6 (refine Lin.bl_val rfl rfl rfl ?_; apply Exists.intro; refine ⟨fun w' hw' => ?_, ?_⟩; (focus (have hBw := hw'.1; have hSw := hw'.2; clear hw'; (try dsimp only at hBw hSw); go_simp; first | with_reducible exact Lin.lin_value | with_reducible exact Lin.lin_skip)); (try simp only [Act.put, List.setIfInBounds_toArray, List.set_cons_zero, List.set_cons_succ]))
      (refine Lin.bl_val rfl rfl rfl ?_; apply Exists.intro; refine ⟨fun w' hw' => ?_, ?_⟩; (focus (have hBw := hw'.1; have hSw := hw'.2; clear hw'; (try dsimp only at hBw hSw); have lay' : Laid w' := Laid.below lay_W7 hBw; go_simp; first | exact Lin.lin_ret (least_cmp f _ _ _ _ bf _ hSw.1 (World.block_lt_of_cell? _ _ hSw.1)) rfl)); (try simp only [Act.put, List.setIfInBounds_toArray, List.set_cons_zero, List.set_cons_succ]))
      (refine Lin.bl_val rfl rfl rfl ?_; apply Exists.intro; refine ⟨fun w' hw' => ?_, ?_⟩; (focus (have hBw := hw'.1; have hSw := hw'.2; clear hw'; (try dsimp only at hBw hSw); go_simp; first | with_reducible exact Lin.lin_value | with_reducible exact Lin.lin_skip)); (try simp only [Act.put, List.setIfInBounds_toArray, List.set_cons_zero, List.set_cons_succ]))
      refine Lin.bl_end ?_
      refine Lin.fin0 (fun wa wb hc hb => ⟨hc.1.trans (hb.mono hc.1.size), cell_later hb hc.2.1, cell_later hb hc.2.2.1, cell_later hb hc.2.2.2.1, cell_later hb hc.2.2.2.2.1, cell_later hb hc.2.2.2.2.2.1, cell_later hb hc.2.2.2.2.2.2.1, cell_later hb hc.2.2.2.2.2.2.2⟩) (by kernel_rfl) ?_
      intro X hw_X
      have hb_X := hw_X.1; clear hw_X
      have lay_X : Laid X := Laid.below lay_W7 hb_X
      (replace cc1 := cl hb_X cc1; replace cc2 := cl hb_X cc2; replace cc3 := cl hb_X cc3; replace fcc4 := fl hb_X fcc4 cc4; replace cc4 := cl hb_X cc4; replace fcc5 := fl hb_X fcc5 cc5; replace cc5 := cl hb_X cc5; replace fcc6 := fl hb_X fcc6 cc6; replace cc6 := cl hb_X cc6; replace fcc7 := fl hb_X fcc7 cc7; replace cc7 := cl hb_X cc7; replace hBW := below_after hBW hb_X; have hsb_X := hb_X.size; have hn_X := an (nl cc1) (an (nl cc2) (an (nl cc4) (nl cc6))))
      refine wpAny_done (by kernel_rfl) ?_ _
      apply_assumption
      (first | refine wp_rename ?_ | refine goal_rename ?_); intro X_ hw_X; subst hw_X
      by_cases ho : ordF f (cat (H k) (L k)) (cat (H j) (L j)) < 0
      · have hod := decide_eq_true ho
        rw [if_pos ho] at hstep
        go_wp2_with fail
        go_roundw
        case rel =>
          exact ⟨k + 1, by omega, by omega, by go_num, by rw [hstep]; go_simp, by rw [hstep]; go_simp, by go_simp, by go_simp, by go_simp, by go_simp, by go_simp, by go_simp, by go_grown⟩
        case measure => simp [intOf]; omega
      · have hod := decide_eq_false ho
        rw [if_neg ho] at hstep
        go_wp2_with fail
        go_roundw
        case rel =>
          exact ⟨k + 1, by omega, by omega, by go_num, by rw [hstep]; go_simp, by rw [hstep]; go_simp, by go_simp, by go_simp, by go_simp, by go_simp, by go_simp, by go_simp, by go_grown⟩
        case measure => simp [intOf]; omega
set_option maxRecDepth 100000 in
set_option maxHeartbeats 4000000 in
theorem least_n (f ch cl2 : Int) (n : Nat) (H L : Nat → Int) (b off cap : Nat) [hU : U8 f] (hH : ∀ i, U64 (H i)) (hL : ∀ i, U64 (L i)) (w : World) [hLay : Laid w] (hf : f < 4) (n1 : 1 ≤ n) (n2 : n ≤ 1000)
    (hc : ∀ i, i < n → w.cell? ⟨b, off + i * 2, none⟩ = some (.int .u64 (H i)) ∧ w.cell? ⟨b, off + i * 2 + 1, none⟩ = some (.int .u64 (L i)))
    (k0 : Hid (hi (lowN (cat (H (minJ f H L n)) (L (minJ f H L n))) (widthS f)) = ch)) (k1 : Hid (lo (lowN (cat (H (minJ f H L n)) (L (minJ f H L n))) (widthS f)) = cl2)) :
    Calls Tryd.prog 5 #[.int .u8 f, .slice (some ⟨b, off, none⟩) n cap] w fun en w' => en = .returned (.tuple #[.agg #[.int .u64 (ch), .int .u64 (cl2)], .bool true]) ∧ Below w.heap.size w w' := by
  have c0 : w.cell? ⟨b, off, none⟩ = some (.int .u64 (H 0)) := by have := (hc 0 n1).1; simpa using this
  have sb : b < w.heap.size := World.block_lt_of_cell? w _ c0
  have hfd : decide (f < 4) = true := decide_eq_true hf
  have hn0 : ((n : Int) == 0) = false := by rw [beq_eq_false_iff_ne]; omega
  have jh := hH (minJ f H L n)
  have jl := hL (minJ f H L n)
  clear hf
  go_enter Tryd.func5, Tryd.ntmps5
  skip
  (go_wp2_with fail; refine (format_Known_b _ _).mono ?_; rintro en v1 ⟨rfl, hB_v1⟩; have lay_v1 := laid_after hB_v1; have cc1 := cl hB_v1 (show World.cell? _ ⟨b, off, none⟩ = some (.int .u64 (H 0)) by go_simp); have cc2 := cl hB_v1 (show World.cell? _ ⟨w.heap.size, 0, none⟩ = some (.int .u8 f) by go_simp); obtain ⟨cc3, fcc3⟩ := pf hB_v1 (show World.cell? _ ⟨w.heap.size + 1, 0, none⟩ = some (.int .u64 0) by go_simp) (by go_simp); obtain ⟨cc4, fcc4⟩ := pf hB_v1 (show World.cell? _ ⟨w.heap.size + 1, 1, none⟩ = some (.int .u64 0) by go_simp) (by go_simp); have hs_v1 := hB_v1.size; (try simp only [World.size_alloc, World.size_setCell, World.size_drew] at hs_v1); have hBW : Below w.heap.size w v1 := below_after (w := w) (by go_grown) hB_v1; have hn_v1 := an (nl cc1) (an (nl cc2) (nl cc3)); clear hB_v1)
  go_upto_region 3 with fail
  ((first | refine wp_rename ?_ | refine goal_rename ?_); intro W3 hw_W3; have hG := named cc1 W3 (by rw [hw_W3]; first | with_reducible exact drewN_below (Below.refl _ _) _ | go_grown); replace cc1 := cl hG cc1; replace cc2 := cl hG cc2; replace fcc3 := fl hG fcc3 cc3; replace cc3 := cl hG cc3; replace fcc4 := fl hG fcc4 cc4; replace cc4 := cl hG cc4; replace hBW := below_after hBW hG; have hs_W3 := hG.size; clear hG; have hn_W3 := an (nl cc1) (an (nl cc2) (nl cc3)); have lay_W3 : Laid W3 := Laid.below (w := w) (by assumption) hBW; clear hw_W3)
  have hcW : ∀ w', Below W3.heap.size W3 w' → ∀ i, i < n → w'.cell? ⟨b, off + i * 2, none⟩ = some (.int .u64 (H i)) ∧ w'.cell? ⟨b, off + i * 2 + 1, none⟩ = some (.int .u64 (L i)) := fun w' hb i hi => ⟨cell_later hb (cell_later hBW (hc i hi).1), cell_later hb (cell_later hBW (hc i hi).2)⟩
  refine Lin.wp_region_lin (by kernel_rfl) (by intro _ _ d _ _ h; cases d <;> exact h) (by kernel_rfl) (fun w' => Below W3.heap.size W3 w' ∧ w'.cell? ⟨w.heap.size, 0, none⟩ = some (.int .u8 f)) ⟨(Below.refl _ _).drew, by go_simp⟩ ?_
  simp only [List.length_cons, List.length_nil, Nat.reduceAdd]
  refine Lin.Blk.out ?_
  iterate 3 (refine Lin.bl_val rfl rfl rfl ?_; apply Exists.intro; refine ⟨fun w' hw' => ?_, ?_⟩; (focus (have hBw := hw'.1; have hSw := hw'.2; clear hw'; (try dsimp only at hBw hSw); go_simp; first | with_reducible exact Lin.lin_value | with_reducible exact Lin.lin_skip)); (try simp only [Act.put, List.setIfInBounds_toArray, List.set_cons_zero, List.set_cons_succ]))
  iterate 2 (refine Lin.bl_val rfl rfl rfl ?_; apply Exists.intro; refine ⟨fun w' hw' => ?_, ?_⟩; (focus (have hBw := hw'.1; have hSw := hw'.2; clear hw'; (try dsimp only at hBw hSw); have lay' : Laid w' := Laid.below lay_W3 hBw; go_simp; first | exact Lin.lin_ret (min_n f n H L b off cap w.heap.size hH hL _ n1 n2 (hcW _ hBw) hSw) rfl | exact Lin.lin_ret (format_Cut _ _ _ _) (by rw [k0.out, k1.out]))); (try simp only [Act.put, List.setIfInBounds_toArray, List.set_cons_zero, List.set_cons_succ]))
  refine Lin.bl_rest rfl ?_
  refine Lin.bl_rest rfl ?_
  refine Lin.bl_end ?_
  refine Lin.fin0 (fun wa wb hc hb => ⟨hc.1.trans (hb.mono hc.1.size), cell_later hb hc.2⟩) (by kernel_rfl) ?_
  intro X hw_X
  have hb_X := hw_X.1; clear hw_X
  have lay_X : Laid X := Laid.below lay_W3 hb_X
  (replace cc1 := cl hb_X cc1; replace cc2 := cl hb_X cc2; replace fcc3 := fl hb_X fcc3 cc3; replace cc3 := cl hb_X cc3; replace fcc4 := fl hb_X fcc4 cc4; replace cc4 := cl hb_X cc4; replace hBW := below_after hBW hb_X; have hsb_X := hb_X.size; have hn_X := an (nl cc1) (an (nl cc2) (nl cc3)))
  (refine wpAny_ready (rs := [5]) (by kernel_rfl) (by simp) ?_; refine AllReady.cons rfl (fun K hK => ?_) AllReady.nil; go_simp; refine hK _ _ ?_; clear hK K)
  (refine wpAny_ready (rs := [6]) (by kernel_rfl) (by simp) ?_; refine AllReady.cons rfl (fun K hK => ?_) AllReady.nil; go_simp; refine hK _ _ ?_; clear hK K)
  refine wpAny_done (by kernel_rfl) ?_ _
  apply_assumption
  ((first | refine wp_rename ?_ | refine goal_rename ?_); intro Xs hw_Xs; replace cc1 := rn hw_Xs cc1 (by go_simp); replace cc2 := rn hw_Xs cc2 (by go_simp); replace cc3 : Xs.cell? ⟨w.heap.size + 1, 0, none⟩ = some (.int .u64 ch) := (by rw [hw_Xs]; go_simp); replace fcc3 := rf hw_Xs fcc3 (by go_simp); replace cc4 : Xs.cell? ⟨w.heap.size + 1, 1, none⟩ = some (.int .u64 cl2) := (by rw [hw_Xs]; go_simp); replace fcc4 := rf hw_Xs fcc4 (by go_simp); replace hBW : Below w.heap.size w Xs := (by rw [hw_Xs]; (first | with_reducible exact drewN_below (by assumption) _ | go_grown)); have hn_Xs := an (nl cc1) (an (nl cc2) (nl cc3)); have lay_Xs : Laid Xs := Laid.below (w := w) (by assumption) hBW; clear hw_Xs)
  go_wp2_with fail
  refine bodyPost_ret (by simp [results, Tryd.results5, go_sem, cc3, cc4]; try rfl) rfl ?_
  exact ⟨rfl, by go_grown⟩
set_option maxRecDepth 100000 in
theorem least_none (f : Int) (n : Nat) (p : Option Addr) (cap : Nat) [hU : U8 f] (w : World) [hLay : Laid w] (hf : ¬ f < 4 ∨ n = 0) :
    Calls Tryd.prog 5 #[.int .u8 f, .slice p n cap] w fun en w' => en = .returned (.tuple #[.agg #[.int .u64 (0), .int .u64 (0)], .bool false]) ∧ Below w.heap.size w w' := by
  by_cases hk : f < 4
  · have hfd : decide (f < 4) = true := decide_eq_true hk
    have e : n = 0 := by omega
    subst e
    clear hk hf
    go_enter Tryd.func5, Tryd.ntmps5
    skip
    (go_wp2_with fail; refine (format_Known_b _ _).mono ?_; rintro en v1 ⟨rfl, hB_v1⟩; have lay_v1 := laid_after hB_v1; have cc1 := cl hB_v1 (show World.cell? _ ⟨w.heap.size, 0, none⟩ = some (.int .u8 f) by go_simp); obtain ⟨cc2, fcc2⟩ := pf hB_v1 (show World.cell? _ ⟨w.heap.size + 1, 0, none⟩ = some (.int .u64 0) by go_simp) (by go_simp); obtain ⟨cc3, fcc3⟩ := pf hB_v1 (show World.cell? _ ⟨w.heap.size + 1, 1, none⟩ = some (.int .u64 0) by go_simp) (by go_simp); have hs_v1 := hB_v1.size; (try simp only [World.size_alloc, World.size_setCell, World.size_drew] at hs_v1); have hBW : Below w.heap.size w v1 := below_after (w := w) (by go_grown) hB_v1; have hn_v1 := an (nl cc1) (nl cc2); clear hB_v1)
    go_wp2_with fail
    refine bodyPost_ret (by simp [results, Tryd.results5, go_sem, cc2, cc3]; try rfl) rfl ?_
    exact ⟨rfl, by go_grown⟩
  · have hfd : decide (f < 4) = false := decide_eq_false hk
    clear hk hf
    go_enter Tryd.func5, Tryd.ntmps5
    skip
    (go_wp2_with fail; refine (format_Known_b _ _).mono ?_; rintro en v1 ⟨rfl, hB_v1⟩; have lay_v1 := laid_after hB_v1; have cc1 := cl hB_v1 (show World.cell? _ ⟨w.heap.size, 0, none⟩ = some (.int .u8 f) by go_simp); obtain ⟨cc2, fcc2⟩ := pf hB_v1 (show World.cell? _ ⟨w.heap.size + 1, 0, none⟩ = some (.int .u64 0) by go_simp) (by go_simp); obtain ⟨cc3, fcc3⟩ := pf hB_v1 (show World.cell? _ ⟨w.heap.size + 1, 1, none⟩ = some (.int .u64 0) by go_simp) (by go_simp); have hs_v1 := hB_v1.size; (try simp only [World.size_alloc, World.size_setCell, World.size_drew] at hs_v1); have hBW : Below w.heap.size w v1 := below_after (w := w) (by go_grown) hB_v1; have hn_v1 := an (nl cc1) (nl cc2); clear hB_v1)
    go_wp2_with fail
    refine bodyPost_ret (by simp [results, Tryd.results5, go_sem, cc2, cc3]; try rfl) rfl ?_
    exact ⟨rfl, by go_grown⟩
end Go.Proofs.YtkmgheabjcieaaaDoor
