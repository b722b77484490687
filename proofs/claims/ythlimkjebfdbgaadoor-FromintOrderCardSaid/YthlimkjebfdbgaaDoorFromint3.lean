/- The walk of FromintOrder: for every input. -/
import Derived.Test.YthlimkjebfdbgaaDoorFromint2
import Derived.Test.YthlimkjebfdbgaaDoorLin
import Derived.Test.YthlimkjebfdbgaaDoorCodes4
set_option linter.unusedSimpArgs false
set_option linter.unusedVariables false
namespace Go.Proofs.YthlimkjebfdbgaaDoor
open Go.RowKit Go.Hb
set_option maxRecDepth 100000 in
set_option maxHeartbeats 8000000 in
theorem order_core (f m : Int) (aft : Bool) (a b : Int) [hU : U8 f] [hM : U8 m] [ha : U64 a] [hb : U64 b] (w : World) [hLay : Laid w] (p0 p1 pf q0 q1 qf mn mx : Int) [hmn : U64 mn] [hmx : U64 mx]
    (x1 : min a b = mn) (x2 : max a b = mx)
    (e1 : Hid (hi (fromB 3 f (m % 5) mn) = p0)) (e2 : Hid (lo (fromB 3 f (m % 5) mn) = p1)) (e3 : Hid (fromFl 3 f (m % 5) aft mn = pf))
    (e4 : Hid (hi (fromB 3 f (m % 5) mx) = q0)) (e5 : Hid (lo (fromB 3 f (m % 5) mx) = q1)) (e6 : Hid (fromFl 3 f (m % 5) aft mx = qf)) (hc : Hid (p0 < q0 ∨ (q0 = p0 ∧ p1 ≤ q1))) :
    Calls Tryd.prog 4 #[.int .u8 f, .agg #[.int .u8 m, .bool aft], .int .u64 a, .int .u64 b] w fun en w' => en = .returned (.bool true) ∧ Below w.heap.size w w' := by
  have hm0 := hM.ge
  haveI hm5 : U8 (m % 5) := ⟨by omega, by omega⟩
  go_enter Tryd.func4, Tryd.ntmps4
  skip
  go_upto_region 2 with fail
  ((first | refine wp_rename ?_ | refine goal_rename ?_); intro W0 hw_W0; have cc1 : W0.cell? ⟨w.heap.size, 0, none⟩ = some (.int .u8 (m % 5)) := (by rw [hw_W0]; go_simp); have cc2 : W0.cell? ⟨w.heap.size, 1, none⟩ = some (.bool aft) := (by rw [hw_W0]; go_simp); have hBW : Below w.heap.size w W0 := (by rw [hw_W0]; (first | with_reducible exact drewN_below (by assumption) _ | go_grown)); have hl_W0 : w.heap.size < W0.heap.size := (by rw [hw_W0]; (try simp only [World.size_alloc, World.size_setCell, World.size_drew, drewN_size]); omega); have lay_W0 : Laid W0 := Laid.below (w := w) (by assumption) hBW; clear hw_W0)
  refine Lin.wp_region_lin (by kernel_rfl) (by kernel_rfl) (fun w' => Below W0.heap.size W0 w' ∧ w'.cell? ⟨w.heap.size, 0, none⟩ = some (.int .u8 (m % 5)) ∧ w'.cell? ⟨w.heap.size, 1, none⟩ = some (.bool aft)) ⟨(Below.refl _ _).drew, by go_simp, by go_simp⟩ ?_
  simp only [List.length_cons, List.length_nil, Nat.reduceAdd]
  repeat (first | (refine Lin.lex_rest rfl ?_) | (refine Lin.lex_skip rfl rfl ?_; (try simp only [Act.put, List.setIfInBounds_toArray, List.set_cons_zero, List.set_cons_succ])) | (refine Lin.lex_val rfl rfl ?_; apply Exists.intro; refine ⟨fun w' hw' => ?_, ?_⟩; focus (have hBw := hw'.1; have hSw := hw'.2; clear hw'; (try dsimp only at hBw hSw); have lay' : Laid w' := Laid.below lay_W0 hBw; go_simp; first | with_reducible exact Lin.lin_value | with_reducible exact Lin.lin_skip | exact Lin.lin_ret (fromint_From _ _ _ _ _ _) (by rw [e1.out, e2.out, e3.out]) | exact Lin.lin_ret (fromint_From _ _ _ _ _ _) (by rw [e4.out, e5.out, e6.out])); (try simp only [Act.put, List.setIfInBounds_toArray, List.set_cons_zero, List.set_cons_succ])))
  refine Lin.lex_end ?_
  refine Lin.new2 W0.heap.size (fun wa wb hc hb => ⟨hc.1.trans (hb.mono hc.1.size), cell_later hb hc.2.1, cell_later hb hc.2.2⟩) (fun wa hc => hc.1.size) 12 13 _ _ rfl rfl (by decide) (by kernel_rfl) rfl rfl (by kernel_rfl) (by kernel_rfl) (by kernel_rfl) (by kernel_rfl) rfl rfl (.agg #[.int .u64 0, .int .u64 0, .int .u8 0]) (.agg #[.int .u64 0, .int .u64 0, .int .u8 0]) (by intro t ht; cases ht <;> (intro w; kernel_rfl)) (by intro t ht; cases ht <;> (intro w; kernel_rfl)) ?_
  intro g k X hw_X lo_g lo_k ne_g_k ho_g ho_k
  have nf_k_g : k ≠ g := Ne.symm ne_g_k
  have hb_X := hw_X.1; clear hw_X
  have lay_X : Laid X := Laid.below lay_W0 hb_X
  (replace cc1 := cell_later hb_X cc1; replace cc2 := cell_later hb_X cc2; replace hBW := below_after hBW hb_X; have hsb_X := hb_X.size; have hl_X : w.heap.size < X.heap.size := (by omega); have hn_X : w.heap.size ≠ X.heap.size ∧ X.heap.size ≠ w.heap.size ∧ w.heap.size ≠ X.heap.size + 1 ∧ X.heap.size + 1 ≠ w.heap.size := (by omega))
  have hi_g := Lin.heap_lt ho_g
  have cc3 : X.cell? ⟨g, 0, none⟩ = some (.int .u64 0) := Lin.heap_cell ho_g rfl; have fcc3 : X.frozen? ⟨g, 0, none⟩ = false := Lin.heap_free ho_g
  have cc4 : X.cell? ⟨g, 1, none⟩ = some (.int .u64 0) := Lin.heap_cell ho_g rfl; have fcc4 : X.frozen? ⟨g, 1, none⟩ = false := Lin.heap_free ho_g
  have cc5 : X.cell? ⟨g, 2, none⟩ = some (.int .u8 0) := Lin.heap_cell ho_g rfl; have fcc5 : X.frozen? ⟨g, 2, none⟩ = false := Lin.heap_free ho_g
  clear ho_g
  have hi_k := Lin.heap_lt ho_k
  have cc6 : X.cell? ⟨k, 0, none⟩ = some (.int .u64 0) := Lin.heap_cell ho_k rfl; have fcc6 : X.frozen? ⟨k, 0, none⟩ = false := Lin.heap_free ho_k
  have cc7 : X.cell? ⟨k, 1, none⟩ = some (.int .u64 0) := Lin.heap_cell ho_k rfl; have fcc7 : X.frozen? ⟨k, 1, none⟩ = false := Lin.heap_free ho_k
  have cc8 : X.cell? ⟨k, 2, none⟩ = some (.int .u8 0) := Lin.heap_cell ho_k rfl; have fcc8 : X.frozen? ⟨k, 2, none⟩ = false := Lin.heap_free ho_k
  clear ho_k
  have hN_X : g ≠ X.heap.size ∧ X.heap.size ≠ g ∧ w.heap.size ≤ g ∧ k ≠ X.heap.size ∧ X.heap.size ≠ k ∧ w.heap.size ≤ k := (by omega)
  unfold Lin.ptrOf
  (try simp only [Act.put, List.setIfInBounds_toArray, List.set_cons_zero, List.set_cons_succ])
  have hM_X : w.heap.size ≠ g ∧ g ≠ w.heap.size ∧ w.heap.size ≠ k ∧ k ≠ w.heap.size := (by omega)
  (refine wpAny_ready (rs := [14]) (by kernel_rfl) (by simp) ?_; refine AllReady.cons rfl (fun K hK => ?_) AllReady.nil; go_simp; refine hK _ _ ?_; clear hK K)
  (refine wpAny_ready (rs := [15]) (by kernel_rfl) (by simp) ?_; refine AllReady.cons rfl (fun K hK => ?_) AllReady.nil; go_simp; refine hK _ _ ?_; clear hK K)
  refine wpAny_done (by kernel_rfl) ?_ _
  apply_assumption
  ((first | refine wp_rename ?_ | refine goal_rename ?_); intro Xs hw_Xs; replace cc1 : Xs.cell? ⟨w.heap.size, 0, none⟩ = some (.int .u8 (m % 5)) := (by rw [hw_Xs]; (first | with_reducible exact cc1 | go_simp | exact cc1)); replace cc2 : Xs.cell? ⟨w.heap.size, 1, none⟩ = some (.bool aft) := (by rw [hw_Xs]; (first | with_reducible exact cc2 | go_simp | exact cc2)); replace cc3 : Xs.cell? ⟨g, 0, none⟩ = some (.int .u64 p0) := (by rw [hw_Xs]; (first | with_reducible exact cc3 | go_simp | exact cc3)); replace fcc3 : Xs.frozen? ⟨g, 0, none⟩ = false := (by rw [hw_Xs]; (first | with_reducible exact fcc3 | go_simp | exact fcc3)); replace cc4 : Xs.cell? ⟨g, 1, none⟩ = some (.int .u64 p1) := (by rw [hw_Xs]; (first | with_reducible exact cc4 | go_simp | exact cc4)); replace fcc4 : Xs.frozen? ⟨g, 1, none⟩ = false := (by rw [hw_Xs]; (first | with_reducible exact fcc4 | go_simp | exact fcc4)); replace cc5 : Xs.cell? ⟨g, 2, none⟩ = some (.int .u8 pf) := (by rw [hw_Xs]; (first | with_reducible exact cc5 | go_simp | exact cc5)); replace fcc5 : Xs.frozen? ⟨g, 2, none⟩ = false := (by rw [hw_Xs]; (first | with_reducible exact fcc5 | go_simp | exact fcc5)); replace cc6 : Xs.cell? ⟨k, 0, none⟩ = some (.int .u64 q0) := (by rw [hw_Xs]; (first | with_reducible exact cc6 | go_simp | exact cc6)); replace fcc6 : Xs.frozen? ⟨k, 0, none⟩ = false := (by rw [hw_Xs]; (first | with_reducible exact fcc6 | go_simp | exact fcc6)); replace cc7 : Xs.cell? ⟨k, 1, none⟩ = some (.int .u64 q1) := (by rw [hw_Xs]; (first | with_reducible exact cc7 | go_simp | exact cc7)); replace fcc7 : Xs.frozen? ⟨k, 1, none⟩ = false := (by rw [hw_Xs]; (first | with_reducible exact fcc7 | go_simp | exact fcc7)); replace cc8 : Xs.cell? ⟨k, 2, none⟩ = some (.int .u8 qf) := (by rw [hw_Xs]; (first | with_reducible exact cc8 | go_simp | exact cc8)); replace fcc8 : Xs.frozen? ⟨k, 2, none⟩ = false := (by rw [hw_Xs]; (first | with_reducible exact fcc8 | go_simp | exact fcc8)); replace hBW : Below w.heap.size w Xs := (by rw [hw_Xs]; (first | with_reducible exact drewN_below (by assumption) _ | go_grown)); have hl_Xs : w.heap.size < Xs.heap.size ∧ g < Xs.heap.size ∧ k < Xs.heap.size := (by rw [hw_Xs]; (try simp only [World.size_alloc, World.size_setCell, World.size_drew, drewN_size]); omega); have lay_Xs : Laid Xs := Laid.below (w := w) (by assumption) hBW; clear hw_Xs)
  rcases hc.out with h | ⟨h1, h2⟩
  · have hd := decide_eq_true h
    (go_wp2_with fail; refine (law27_goes _).mono ?_; rintro en v1 ⟨rfl, hB_v1⟩; have lay_v1 := laid_after hB_v1; replace cc1 := cell_later hB_v1 (cell_later (by go_grown) cc1); replace cc2 := cell_later hB_v1 (cell_later (by go_grown) cc2); replace cc3 := cell_later hB_v1 (cell_later (by go_grown) cc3); replace fcc3 := frozen_later hB_v1 (frozen_later (by go_grown) fcc3 (by first | omega | (simp; done) | (simp; omega))) (by first | omega | (simp; done) | (simp; omega)); replace cc4 := cell_later hB_v1 (cell_later (by go_grown) cc4); replace fcc4 := frozen_later hB_v1 (frozen_later (by go_grown) fcc4 (by first | omega | (simp; done) | (simp; omega))) (by first | omega | (simp; done) | (simp; omega)); replace cc5 := cell_later hB_v1 (cell_later (by go_grown) cc5); replace fcc5 := frozen_later hB_v1 (frozen_later (by go_grown) fcc5 (by first | omega | (simp; done) | (simp; omega))) (by first | omega | (simp; done) | (simp; omega)); replace cc6 := cell_later hB_v1 (cell_later (by go_grown) cc6); replace fcc6 := frozen_later hB_v1 (frozen_later (by go_grown) fcc6 (by first | omega | (simp; done) | (simp; omega))) (by first | omega | (simp; done) | (simp; omega)); replace cc7 := cell_later hB_v1 (cell_later (by go_grown) cc7); replace fcc7 := frozen_later hB_v1 (frozen_later (by go_grown) fcc7 (by first | omega | (simp; done) | (simp; omega))) (by first | omega | (simp; done) | (simp; omega)); replace cc8 := cell_later hB_v1 (cell_later (by go_grown) cc8); replace fcc8 := frozen_later hB_v1 (frozen_later (by go_grown) fcc8 (by first | omega | (simp; done) | (simp; omega))) (by first | omega | (simp; done) | (simp; omega)); have hs_v1 := hB_v1.size; (try simp only [World.size_alloc, World.size_setCell, World.size_drew] at hs_v1); replace hBW : Below w.heap.size w v1 := below_after (w := w) (by go_grown) hB_v1; have hl_v1 : w.heap.size < v1.heap.size ∧ g < v1.heap.size ∧ k < v1.heap.size := (by omega); have hn_v1 : w.heap.size ≠ v1.heap.size ∧ v1.heap.size ≠ w.heap.size ∧ w.heap.size ≠ v1.heap.size + 1 ∧ v1.heap.size + 1 ≠ w.heap.size ∧ g ≠ v1.heap.size ∧ v1.heap.size ≠ g ∧ g ≠ v1.heap.size + 1 ∧ v1.heap.size + 1 ≠ g ∧ k ≠ v1.heap.size ∧ v1.heap.size ≠ k ∧ k ≠ v1.heap.size + 1 ∧ v1.heap.size + 1 ≠ k := (by omega); clear hB_v1)
    go_wp2_with fail
    go_returns
    exact ⟨rfl, by go_grown⟩
  · subst h1
    have hd := decide_eq_true h2
    (go_wp2_with fail; refine (law27_goes _).mono ?_; rintro en v2 ⟨rfl, hB_v2⟩; have lay_v2 := laid_after hB_v2; replace cc1 := cell_later hB_v2 (cell_later (by go_grown) cc1); replace cc2 := cell_later hB_v2 (cell_later (by go_grown) cc2); replace cc3 := cell_later hB_v2 (cell_later (by go_grown) cc3); replace fcc3 := frozen_later hB_v2 (frozen_later (by go_grown) fcc3 (by first | omega | (simp; done) | (simp; omega))) (by first | omega | (simp; done) | (simp; omega)); replace cc4 := cell_later hB_v2 (cell_later (by go_grown) cc4); replace fcc4 := frozen_later hB_v2 (frozen_later (by go_grown) fcc4 (by first | omega | (simp; done) | (simp; omega))) (by first | omega | (simp; done) | (simp; omega)); replace cc5 := cell_later hB_v2 (cell_later (by go_grown) cc5); replace fcc5 := frozen_later hB_v2 (frozen_later (by go_grown) fcc5 (by first | omega | (simp; done) | (simp; omega))) (by first | omega | (simp; done) | (simp; omega)); replace cc6 := cell_later hB_v2 (cell_later (by go_grown) cc6); replace fcc6 := frozen_later hB_v2 (frozen_later (by go_grown) fcc6 (by first | omega | (simp; done) | (simp; omega))) (by first | omega | (simp; done) | (simp; omega)); replace cc7 := cell_later hB_v2 (cell_later (by go_grown) cc7); replace fcc7 := frozen_later hB_v2 (frozen_later (by go_grown) fcc7 (by first | omega | (simp; done) | (simp; omega))) (by first | omega | (simp; done) | (simp; omega)); replace cc8 := cell_later hB_v2 (cell_later (by go_grown) cc8); replace fcc8 := frozen_later hB_v2 (frozen_later (by go_grown) fcc8 (by first | omega | (simp; done) | (simp; omega))) (by first | omega | (simp; done) | (simp; omega)); have hs_v2 := hB_v2.size; (try simp only [World.size_alloc, World.size_setCell, World.size_drew] at hs_v2); replace hBW : Below w.heap.size w v2 := below_after (w := w) (by go_grown) hB_v2; have hl_v2 : w.heap.size < v2.heap.size ∧ g < v2.heap.size ∧ k < v2.heap.size := (by omega); have hn_v2 : w.heap.size ≠ v2.heap.size ∧ v2.heap.size ≠ w.heap.size ∧ w.heap.size ≠ v2.heap.size + 1 ∧ v2.heap.size + 1 ≠ w.heap.size ∧ g ≠ v2.heap.size ∧ v2.heap.size ≠ g ∧ g ≠ v2.heap.size + 1 ∧ v2.heap.size + 1 ≠ g ∧ k ≠ v2.heap.size ∧ v2.heap.size ≠ k ∧ k ≠ v2.heap.size + 1 ∧ v2.heap.size + 1 ≠ k := (by omega); clear hB_v2)
    go_wp2_with fail
    go_returns
    exact ⟨rfl, by go_grown⟩
set_option maxRecDepth 100000 in
theorem fromB_mono (f m a b : Int) [hU : U8 f] [ha : U64 a] [hb : U64 b] (h : a ≤ b) : fromB 3 f m a ≤ fromB 3 f m b := by
  have n1 : negK 3 a = false := by unfold negK; simp
  have n2 : negK 3 b = false := by unfold negK; simp
  have s1 : sizeK 3 a = a := by unfold sizeK; rw [if_neg (by rw [n1]; decide)]; rfl
  have s2 : sizeK 3 b = b := by unfold sizeK; rw [if_neg (by rw [n2]; decide)]; rfl
  unfold fromB
  rw [if_pos (by decide), if_pos (by decide), n1, n2, s1, s2]
  refine res_mono f m 255 255 _ _ U8.ge (by rw [two256]; exact cat4_lt a 0 0 0) (by rw [two256]; exact cat4_lt b 0 0 0) (numX_le KK 255 _ _ ?_)
  have h1 : a.toNat ≤ b.toNat := Int.toNat_le_toNat h
  unfold cat4
  exact Nat.add_le_add_right (Nat.add_le_add_right (Nat.add_le_add_right h1 _) _) _
theorem hl_order (x y : Nat) (hy : y < 2 ^ 128) (h : x ≤ y) : hi x < hi y ∨ (hi y = hi x ∧ lo x ≤ lo y) := by
  have e : (2 : Nat) ^ 128 = 340282366920938463463374607431768211456 := rfl
  rw [e] at hy
  unfold hi lo
  omega
theorem walk_FromintOrder (f m : Int) (aft : Bool) (a b : Int) [hU : U8 f] [hM : U8 m] [ha : U64 a] [hb : U64 b] (w : World) [hLay : Laid w] :
    Calls Tryd.prog 4 #[.int .u8 f, .agg #[.int .u8 m, .bool aft], .int .u64 a, .int .u64 b] w fun en w' => en = .returned (.bool true) ∧ Below w.heap.size w w' := by
  haveI : U64 (min a b) := ⟨by have := ha.ge; have := hb.ge; omega, by have := ha.lt; omega⟩
  haveI : U64 (max a b) := ⟨by have := ha.ge; omega, by have := ha.lt; have := hb.lt; omega⟩
  have hmono := fromB_mono f (m % 5) (min a b) (max a b) (by omega)
  have hlt : fromB 3 f (m % 5) (max a b) < 2 ^ 128 := by unfold fromB; rw [if_pos (by decide)]; exact resB_lt f _ _ _ _ U8.ge
  exact order_core f m aft a b w _ _ _ _ _ _ _ _ rfl rfl (Lib.hid rfl) (Lib.hid rfl) (Lib.hid rfl) (Lib.hid rfl) (Lib.hid rfl) (Lib.hid rfl) (Lib.hid (hl_order _ _ hlt hmono))
end Go.Proofs.YthlimkjebfdbgaaDoor
