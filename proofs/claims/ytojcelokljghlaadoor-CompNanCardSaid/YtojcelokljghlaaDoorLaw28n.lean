/- The walks of CompNan. -/
import Derived.Test.YtojcelokljghlaaDoorLaw28a
set_option linter.unusedSimpArgs false
set_option linter.unusedVariables false
namespace Go.Proofs.YtojcelokljghlaaDoor
open Go.RowKit Go.Hb
theorem sig_nan (f : Int) (v : Nat) (h : sigB f v = true) : nanB f v = true := by
  unfold sigB at h; unfold nanB
  rw [beq_iff_eq] at h
  rw [h]; rfl
theorem class_AnyX (f h l h' l' : Int) (fv : Value) (r : Bool) (b : Nat) [hU : U8 f] [U64 h] [U64 l] [U64 h'] [U64 l'] (w : World) [hLay : Laid w]
    (hr : (fv = .func (.func 28) #[] #[] ∧ (nanB f (cat h l) || nanB f (cat h' l')) = r) ∨ (fv = .func (.func 41) #[] #[] ∧ (sigB f (cat h l) || sigB f (cat h' l')) = r))
    (c0 : w.cell? ⟨b, 0, none⟩ = some (.int .u64 h)) (c1 : w.cell? ⟨b, 1, none⟩ = some (.int .u64 l)) (c2 : w.cell? ⟨b, 2, none⟩ = some (.int .u64 h')) (c3 : w.cell? ⟨b, 3, none⟩ = some (.int .u64 l')) :
    Calls Tryd.prog 27 #[.int .u8 f, fv, .slice (some ⟨b, 0, none⟩) 2 2] w fun en w' => en = .returned (.bool r) ∧ Below w.heap.size w w' := by
  rcases hr with ⟨rfl, hr⟩ | ⟨rfl, hr⟩
  · rw [← hr]; exact class_AnyNaN f h l h' l' b w c0 c1 c2 c3
  · rw [← hr]; exact class_AnySig f h l h' l' b w c0 c1 c2 c3
theorem relF_bd (f : Int) (a b : Nat) : relF f a b ≠ 3 := by
  have := sizC_bd (classF f a) (unE f a) (up128 (unS f a)) (classF f b) (unE f b) (up128 (unS f b))
  unfold relF relC
  repeat' split
  all_goals omega
set_option maxRecDepth 100000 in
set_option maxHeartbeats 8000000 in
theorem cn_in (f h l h' l' x p q : Int) (nn ss : Bool) [hU : U8 f] [U64 h] [U64 l] [U64 h'] [U64 l'] (w : World) [hLay : Laid w] (hf : f < 4) (a1 : Hid (qV f (cat h l) (cat h' l') = x)) (a2 : Hid (qF f (cat h l) (cat h' l') = p)) (a3 : Hid (sF f (cat h l) (cat h' l') = q))
    (n1 : Hid ((nanB f (cat h l) || nanB f (cat h' l')) = nn)) (n2 : Hid ((sigB f (cat h l) || sigB f (cat h' l')) = ss)) (hx : (x == 3) = nn) (hp : (p == 1) = ss) (hq : (q == 1) = nn) :
    Calls Tryd.prog 11 #[.int .u8 f, .agg #[.int .u64 (h), .int .u64 (l)], .agg #[.int .u64 (h'), .int .u64 (l')]] w fun en w' => en = .returned (.bool true) ∧ Below w.heap.size w w' := by
  have hfd : decide (f < 4) = true := decide_eq_true hf
  clear hf
  go_enter Tryd.func11, Tryd.ntmps11
  skip
  (go_wp2_with fail; refine (comp_Quiet _ _ _ _ _ _).mono ?_; rw [a1.out, a2.out]; rintro en v1 ⟨rfl, hB_v1⟩; have lay_v1 := laid_after hB_v1; have cc1 := cell_later hB_v1 (show World.cell? _ ⟨w.heap.size, 0, none⟩ = some (.int .u64 h) by go_simp); have cc2 := cell_later hB_v1 (show World.cell? _ ⟨w.heap.size, 1, none⟩ = some (.int .u64 l) by go_simp); have cc3 := cell_later hB_v1 (show World.cell? _ ⟨w.heap.size + 1, 0, none⟩ = some (.int .u64 h') by go_simp); have cc4 := cell_later hB_v1 (show World.cell? _ ⟨w.heap.size + 1, 1, none⟩ = some (.int .u64 l') by go_simp); have hs_v1 := hB_v1.size; (try simp only [World.size_alloc, World.size_setCell, World.size_drew] at hs_v1); have hBW : Below w.heap.size w v1 := below_after (w := w) (by go_grown) hB_v1; have hl_v1 : w.heap.size < v1.heap.size ∧ w.heap.size + 1 < v1.heap.size := (by omega); have hn_v1 : w.heap.size ≠ v1.heap.size ∧ v1.heap.size ≠ w.heap.size ∧ w.heap.size ≠ v1.heap.size + 1 ∧ v1.heap.size + 1 ≠ w.heap.size ∧ w.heap.size + 1 ≠ v1.heap.size ∧ v1.heap.size ≠ w.heap.size + 1 ∧ w.heap.size + 1 ≠ v1.heap.size + 1 ∧ v1.heap.size + 1 ≠ w.heap.size + 1 := (by omega); clear hB_v1)
  (go_wp2_with fail; refine (comp_Signaling _ _ _ _ _ _).mono ?_; rw [a1.out, a3.out]; rintro en v2 ⟨rfl, hB_v2⟩; have lay_v2 := laid_after hB_v2; replace cc1 := cell_later hB_v2 (cell_later (by go_grown) cc1); replace cc2 := cell_later hB_v2 (cell_later (by go_grown) cc2); replace cc3 := cell_later hB_v2 (cell_later (by go_grown) cc3); replace cc4 := cell_later hB_v2 (cell_later (by go_grown) cc4); have hs_v2 := hB_v2.size; (try simp only [World.size_alloc, World.size_setCell, World.size_drew] at hs_v2); replace hBW : Below w.heap.size w v2 := below_after (w := w) (by go_grown) hB_v2; have hl_v2 : w.heap.size < v2.heap.size ∧ w.heap.size + 1 < v2.heap.size := (by omega); have hn_v2 : w.heap.size ≠ v2.heap.size ∧ v2.heap.size ≠ w.heap.size ∧ w.heap.size ≠ v2.heap.size + 1 ∧ v2.heap.size + 1 ≠ w.heap.size ∧ w.heap.size + 1 ≠ v2.heap.size ∧ v2.heap.size ≠ w.heap.size + 1 ∧ w.heap.size + 1 ≠ v2.heap.size + 1 ∧ v2.heap.size + 1 ≠ w.heap.size + 1 := (by omega); clear hB_v2)
  (go_wp2_with fail; refine (format_Known_b _ _).mono ?_; rintro en v3 ⟨rfl, hB_v3⟩; have lay_v3 := laid_after hB_v3; replace cc1 := cell_later hB_v3 (cell_later (by go_grown) cc1); replace cc2 := cell_later hB_v3 (cell_later (by go_grown) cc2); replace cc3 := cell_later hB_v3 (cell_later (by go_grown) cc3); replace cc4 := cell_later hB_v3 (cell_later (by go_grown) cc4); have hs_v3 := hB_v3.size; (try simp only [World.size_alloc, World.size_setCell, World.size_drew] at hs_v3); replace hBW : Below w.heap.size w v3 := below_after (w := w) (by go_grown) hB_v3; have hl_v3 : w.heap.size < v3.heap.size ∧ w.heap.size + 1 < v3.heap.size := (by omega); have hn_v3 : w.heap.size ≠ v3.heap.size ∧ v3.heap.size ≠ w.heap.size ∧ w.heap.size ≠ v3.heap.size + 1 ∧ v3.heap.size + 1 ≠ w.heap.size ∧ w.heap.size + 1 ≠ v3.heap.size ∧ v3.heap.size ≠ w.heap.size + 1 ∧ w.heap.size + 1 ≠ v3.heap.size + 1 ∧ v3.heap.size + 1 ≠ w.heap.size + 1 := (by omega); clear hB_v3)
  go_upto_region 5 with fail
  ((first | refine wp_rename ?_ | refine goal_rename ?_); intro W5 hw_W5; replace cc1 : W5.cell? ⟨w.heap.size, 0, none⟩ = some (.int .u64 h) := (by rw [hw_W5]; (first | with_reducible exact cc1 | go_simp | exact cc1)); replace cc2 : W5.cell? ⟨w.heap.size, 1, none⟩ = some (.int .u64 l) := (by rw [hw_W5]; (first | with_reducible exact cc2 | go_simp | exact cc2)); replace cc3 : W5.cell? ⟨w.heap.size + 1, 0, none⟩ = some (.int .u64 h') := (by rw [hw_W5]; (first | with_reducible exact cc3 | go_simp | exact cc3)); replace cc4 : W5.cell? ⟨w.heap.size + 1, 1, none⟩ = some (.int .u64 l') := (by rw [hw_W5]; (first | with_reducible exact cc4 | go_simp | exact cc4)); replace hBW : Below w.heap.size w W5 := (by rw [hw_W5]; (first | with_reducible exact drewN_below (by assumption) _ | go_grown)); have hl_W5 : w.heap.size < W5.heap.size ∧ w.heap.size + 1 < W5.heap.size := (by rw [hw_W5]; (try simp only [World.size_alloc, World.size_setCell, World.size_drew, drewN_size]); omega); have lay_W5 : Laid W5 := Laid.below (w := w) (by assumption) hBW; clear hw_W5)
  go_region_held3 (fun w' => w'.cell? ⟨w.heap.size, 0, none⟩ = some (.int .u64 h) ∧ w'.cell? ⟨w.heap.size, 1, none⟩ = some (.int .u64 l) ∧ w'.cell? ⟨w.heap.size + 1, 0, none⟩ = some (.int .u64 h') ∧ w'.cell? ⟨w.heap.size + 1, 1, none⟩ = some (.int .u64 l')) ((refine ⟨?_, ?_, ?_, ?_⟩ <;> (refine cell_later (w := W5) ?_ (by assumption); go_grown))) ((go_at_call 27; refine (class_AnyX _ h l h' l' _ _ _ _ (by first | exact Or.inl ⟨rfl, n1.out⟩ | exact Or.inr ⟨rfl, n2.out⟩) (by first | assumption | (go_simp; done) | (refine cell_later hB_z1 ?_; go_simp)) (by first | assumption | (go_simp; done) | (refine cell_later hB_z1 ?_; go_simp)) (by first | assumption | (go_simp; done) | (refine cell_later hB_z1 ?_; go_simp)) (by first | assumption | (go_simp; done) | (refine cell_later hB_z1 ?_; go_simp))).mono ?_; rintro en z1 ⟨rfl, hB_z1⟩; have hb_z1 : Below W5.heap.size W5 z1 := below_after (by go_grown) hB_z1; have hs_z1 := hb_z1.size; have lay_z1 := laid_after hB_z1))
  all_goals (replace cc1 := cell_later hb_z1 cc1; replace cc2 := cell_later hb_z1 cc2; replace cc3 := cell_later hb_z1 cc3; replace cc4 := cell_later hb_z1 cc4; replace hBW := below_after hBW hb_z1; have hsb_z1 := hb_z1.size; have hl_z1 : w.heap.size < z1.heap.size ∧ w.heap.size + 1 < z1.heap.size := (by omega); have hn_z1 : w.heap.size ≠ z1.heap.size ∧ z1.heap.size ≠ w.heap.size ∧ w.heap.size ≠ z1.heap.size + 1 ∧ z1.heap.size + 1 ≠ w.heap.size ∧ w.heap.size + 1 ≠ z1.heap.size ∧ z1.heap.size ≠ w.heap.size + 1 ∧ w.heap.size + 1 ≠ z1.heap.size + 1 ∧ z1.heap.size + 1 ≠ w.heap.size + 1 := (by omega))
  all_goals (go_wp2_with fail; refine (law28_goes _).mono ?_; rintro en v9 ⟨rfl, hB_v9⟩; have lay_v9 := laid_after hB_v9; replace cc1 := cell_later hB_v9 (cell_later (by go_grown) cc1); replace cc2 := cell_later hB_v9 (cell_later (by go_grown) cc2); replace cc3 := cell_later hB_v9 (cell_later (by go_grown) cc3); replace cc4 := cell_later hB_v9 (cell_later (by go_grown) cc4); have hs_v9 := hB_v9.size; (try simp only [World.size_alloc, World.size_setCell, World.size_drew] at hs_v9); replace hBW : Below w.heap.size w v9 := below_after (w := w) (by go_grown) hB_v9; have hl_v9 : w.heap.size < v9.heap.size ∧ w.heap.size + 1 < v9.heap.size := (by omega); have hn_v9 : w.heap.size ≠ v9.heap.size ∧ v9.heap.size ≠ w.heap.size ∧ w.heap.size ≠ v9.heap.size + 1 ∧ v9.heap.size + 1 ≠ w.heap.size ∧ w.heap.size + 1 ≠ v9.heap.size ∧ v9.heap.size ≠ w.heap.size + 1 ∧ w.heap.size + 1 ≠ v9.heap.size + 1 ∧ v9.heap.size + 1 ≠ w.heap.size + 1 := (by omega); clear hB_v9)
  all_goals go_wp2_with fail
  all_goals go_returns
  all_goals exact ⟨rfl, by go_grown⟩
set_option maxRecDepth 100000 in
set_option maxHeartbeats 8000000 in
theorem cn_none (f h l h' l' : Int) [hU : U8 f] [U64 h] [U64 l] [U64 h'] [U64 l'] (w : World) [hLay : Laid w] (hf : ¬ f < 4) :
    Calls Tryd.prog 11 #[.int .u8 f, .agg #[.int .u64 (h), .int .u64 (l)], .agg #[.int .u64 (h'), .int .u64 (l')]] w fun en w' => en = .returned (.bool true) ∧ Below w.heap.size w w' := by
  have hfd : decide (f < 4) = false := decide_eq_false hf
  have a1 : qV f (cat h l) (cat h' l') = 0 := by unfold qV; rw [if_neg hf]
  have a2 : qF f (cat h l) (cat h' l') = 0 := by unfold qF; rw [if_neg (fun h => hf h.1)]
  have a3 : sF f (cat h l) (cat h' l') = 0 := by unfold sF; rw [if_neg (fun h => hf h.1)]
  have hor : bits BinOp.or IntKind.u8 0 0 = 0 := by decide +kernel
  clear hf
  go_enter Tryd.func11, Tryd.ntmps11
  skip
  (go_wp2_with fail; refine (comp_Quiet _ _ _ _ _ _).mono ?_; rw [a1, a2]; rintro en v1 ⟨rfl, hB_v1⟩; have lay_v1 := laid_after hB_v1; have cc1 := cell_later hB_v1 (show World.cell? _ ⟨w.heap.size, 0, none⟩ = some (.int .u64 h) by go_simp); have cc2 := cell_later hB_v1 (show World.cell? _ ⟨w.heap.size, 1, none⟩ = some (.int .u64 l) by go_simp); have cc3 := cell_later hB_v1 (show World.cell? _ ⟨w.heap.size + 1, 0, none⟩ = some (.int .u64 h') by go_simp); have cc4 := cell_later hB_v1 (show World.cell? _ ⟨w.heap.size + 1, 1, none⟩ = some (.int .u64 l') by go_simp); have hs_v1 := hB_v1.size; (try simp only [World.size_alloc, World.size_setCell, World.size_drew] at hs_v1); have hBW : Below w.heap.size w v1 := below_after (w := w) (by go_grown) hB_v1; have hl_v1 : w.heap.size < v1.heap.size ∧ w.heap.size + 1 < v1.heap.size := (by omega); have hn_v1 : w.heap.size ≠ v1.heap.size ∧ v1.heap.size ≠ w.heap.size ∧ w.heap.size ≠ v1.heap.size + 1 ∧ v1.heap.size + 1 ≠ w.heap.size ∧ w.heap.size + 1 ≠ v1.heap.size ∧ v1.heap.size ≠ w.heap.size + 1 ∧ w.heap.size + 1 ≠ v1.heap.size + 1 ∧ v1.heap.size + 1 ≠ w.heap.size + 1 := (by omega); clear hB_v1)
  (go_wp2_with fail; refine (comp_Signaling _ _ _ _ _ _).mono ?_; rw [a1, a3]; rintro en v2 ⟨rfl, hB_v2⟩; have lay_v2 := laid_after hB_v2; replace cc1 := cell_later hB_v2 (cell_later (by go_grown) cc1); replace cc2 := cell_later hB_v2 (cell_later (by go_grown) cc2); replace cc3 := cell_later hB_v2 (cell_later (by go_grown) cc3); replace cc4 := cell_later hB_v2 (cell_later (by go_grown) cc4); have hs_v2 := hB_v2.size; (try simp only [World.size_alloc, World.size_setCell, World.size_drew] at hs_v2); replace hBW : Below w.heap.size w v2 := below_after (w := w) (by go_grown) hB_v2; have hl_v2 : w.heap.size < v2.heap.size ∧ w.heap.size + 1 < v2.heap.size := (by omega); have hn_v2 : w.heap.size ≠ v2.heap.size ∧ v2.heap.size ≠ w.heap.size ∧ w.heap.size ≠ v2.heap.size + 1 ∧ v2.heap.size + 1 ≠ w.heap.size ∧ w.heap.size + 1 ≠ v2.heap.size ∧ v2.heap.size ≠ w.heap.size + 1 ∧ w.heap.size + 1 ≠ v2.heap.size + 1 ∧ v2.heap.size + 1 ≠ w.heap.size + 1 := (by omega); clear hB_v2)
  (go_wp2_with fail; refine (format_Known_b _ _).mono ?_; rintro en v3 ⟨rfl, hB_v3⟩; have lay_v3 := laid_after hB_v3; replace cc1 := cell_later hB_v3 (cell_later (by go_grown) cc1); replace cc2 := cell_later hB_v3 (cell_later (by go_grown) cc2); replace cc3 := cell_later hB_v3 (cell_later (by go_grown) cc3); replace cc4 := cell_later hB_v3 (cell_later (by go_grown) cc4); have hs_v3 := hB_v3.size; (try simp only [World.size_alloc, World.size_setCell, World.size_drew] at hs_v3); replace hBW : Below w.heap.size w v3 := below_after (w := w) (by go_grown) hB_v3; have hl_v3 : w.heap.size < v3.heap.size ∧ w.heap.size + 1 < v3.heap.size := (by omega); have hn_v3 : w.heap.size ≠ v3.heap.size ∧ v3.heap.size ≠ w.heap.size ∧ w.heap.size ≠ v3.heap.size + 1 ∧ v3.heap.size + 1 ≠ w.heap.size ∧ w.heap.size + 1 ≠ v3.heap.size ∧ v3.heap.size ≠ w.heap.size + 1 ∧ w.heap.size + 1 ≠ v3.heap.size + 1 ∧ v3.heap.size + 1 ≠ w.heap.size + 1 := (by omega); clear hB_v3)
  (go_wp2_with fail; refine (law28_goes _).mono ?_; rintro en v9 ⟨rfl, hB_v9⟩; have lay_v9 := laid_after hB_v9; replace cc1 := cell_later hB_v9 (cell_later (by go_grown) cc1); replace cc2 := cell_later hB_v9 (cell_later (by go_grown) cc2); replace cc3 := cell_later hB_v9 (cell_later (by go_grown) cc3); replace cc4 := cell_later hB_v9 (cell_later (by go_grown) cc4); have hs_v9 := hB_v9.size; (try simp only [World.size_alloc, World.size_setCell, World.size_drew] at hs_v9); replace hBW : Below w.heap.size w v9 := below_after (w := w) (by go_grown) hB_v9; have hl_v9 : w.heap.size < v9.heap.size ∧ w.heap.size + 1 < v9.heap.size := (by omega); have hn_v9 : w.heap.size ≠ v9.heap.size ∧ v9.heap.size ≠ w.heap.size ∧ w.heap.size ≠ v9.heap.size + 1 ∧ v9.heap.size + 1 ≠ w.heap.size ∧ w.heap.size + 1 ≠ v9.heap.size ∧ v9.heap.size ≠ w.heap.size + 1 ∧ w.heap.size + 1 ≠ v9.heap.size + 1 ∧ v9.heap.size + 1 ≠ w.heap.size + 1 := (by omega); clear hB_v9)
  go_wp2_with fail
  go_returns
  exact ⟨rfl, by go_grown⟩
theorem walk_CompNan (f h l h' l' : Int) [hU : U8 f] [U64 h] [U64 l] [U64 h'] [U64 l'] (w : World) [hLay : Laid w] :
    Calls Tryd.prog 11 #[.int .u8 f, .agg #[.int .u64 (h), .int .u64 (l)], .agg #[.int .u64 (h'), .int .u64 (l')]] w fun en w' => en = .returned (.bool true) ∧ Below w.heap.size w w' := by
  by_cases hf : f < 4
  case neg => exact cn_none f h l h' l' w hf
  cases hn : nan2 f (cat h l) (cat h' l')
  · have hs : sig2 f (cat h l) (cat h' l') = false := by
      unfold nan2 at hn
      rw [Bool.or_eq_false_iff] at hn
      unfold sig2
      rw [Bool.or_eq_false_iff]
      exact ⟨Bool.eq_false_iff.2 (fun h => by rw [sig_nan f _ h] at hn; exact absurd hn.1 (by decide)), Bool.eq_false_iff.2 (fun h => by rw [sig_nan f _ h] at hn; exact absurd hn.2 (by decide))⟩
    have e1 : qV f (cat h l) (cat h' l') = relF f (cat h l) (cat h' l') := by unfold qV; rw [if_pos hf, hn]; rfl
    have e2 : qF f (cat h l) (cat h' l') = 0 := by unfold qF; rw [hn]; simp
    have e3 : sF f (cat h l) (cat h' l') = 0 := by unfold sF; rw [hn]; simp
    exact cn_in f h l h' l' _ _ _ _ _ w hf (Lib.hid e1) (Lib.hid e2) (Lib.hid e3) (Lib.hid hn) (Lib.hid hs) (beq_eq_false_iff_ne.2 (relF_bd _ _ _)) rfl rfl
  · have e1 : qV f (cat h l) (cat h' l') = 3 := by unfold qV; rw [if_pos hf, hn]; rfl
    have e3 : sF f (cat h l) (cat h' l') = 1 := by unfold sF; rw [if_pos ⟨hf, hn⟩]
    cases hs : sig2 f (cat h l) (cat h' l')
    · have e2 : qF f (cat h l) (cat h' l') = 0 := by unfold qF; rw [hs]; simp
      exact cn_in f h l h' l' _ _ _ _ _ w hf (Lib.hid e1) (Lib.hid e2) (Lib.hid e3) (Lib.hid hn) (Lib.hid hs) rfl rfl rfl
    · have e2 : qF f (cat h l) (cat h' l') = 1 := by unfold qF; rw [if_pos ⟨hf, hn, hs⟩]
      exact cn_in f h l h' l' _ _ _ _ _ w hf (Lib.hid e1) (Lib.hid e2) (Lib.hid e3) (Lib.hid hn) (Lib.hid hs) rfl rfl rfl
end Go.Proofs.YtojcelokljghlaaDoor
