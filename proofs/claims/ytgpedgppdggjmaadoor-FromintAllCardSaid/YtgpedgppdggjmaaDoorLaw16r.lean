/- The walks of PackRounds and PackExact: for every input. Condition: the listed table is laid. -/
import Derived.Test.YtgpedgppdggjmaaDoorRnd
import Derived.Test.YtgpedgppdggjmaaDoorNumW
import Derived.Test.YtgpedgppdggjmaaDoorPack6
import Derived.Test.YtgpedgppdggjmaaDoorLaw16a
set_option linter.unusedSimpArgs false
set_option linter.unusedVariables false
namespace Go.Proofs.YtgpedgppdggjmaaDoor
open Go.RowKit Go.Hb
theorem kk_far (e : Int) : 20000 ≤ 255 + KK ∧ 0 ≤ farS e - 255 + (255 + KK) ∧ 200 ≤ farS e - 255 + (255 + KK) ∧ farS e - 255 + (255 + KK) = farS e + KK ∧ 255 + KK - 255 = KK ∧ -4000000000000 ≤ farS e - 255 ∧ farS e - 255 ≤ 4000000000000 := by
  unfold KK farS; omega
/-- The reference's rounding and the program's, of one number told in two ways. -/
theorem ref_res (f m e E : Int) (aft neg : Bool) (Q v : Nat) (h0 : 0 ≤ f) (hv : v < 2 ^ 256) (hz : Q = 0 ↔ v = 0) (hE : 200 ≤ E + (255 + KK)) (hX : Q * 2 ^ (E + (255 + KK)).toNat = numX KK e v) :
    refR f m neg Q E = resB f m neg e v ∧ refRF f m aft neg Q E = resFl f m aft neg e v := by
  unfold refR refRF
  by_cases hk : f < 4 ∧ m ≤ 4
  · obtain ⟨f1, f2, f3, f4, f5, f6⟩ := fmt_bd f h0 hk.1
    obtain ⟨k1, _, _, _, k5, _⟩ := kk_far e
    rw [if_pos hk, if_pos hk]
    by_cases hQ : Q = 0
    · have hv0 := hz.1 hQ
      unfold refB refFl resB resFl
      rw [if_pos hQ, if_pos hQ, if_pos hk, if_pos hk, if_pos hv0, if_pos hv0]
      exact ⟨rfl, rfl⟩
    · rw [res_code f m neg e v h0 hk.1 hk.2 hv, res_flag f m aft neg e v h0 hk.1 hk.2 hv, ref_code f m neg Q E (255 + KK) h0 hk.1 hQ (by omega) k1 (by omega), ref_flag f m aft neg Q E (255 + KK) h0 hk.1 hQ (by omega) k1 (by omega), k5, hX]
      exact ⟨rfl, rfl⟩
  · rw [if_neg hk, if_neg hk, res_none f m neg e v hk, resFl_none f m aft neg e v hk]
    exact ⟨rfl, rfl⟩
theorem ref_same (f m e : Int) (aft neg : Bool) (v : Nat) (h0 : 0 ≤ f) (hv : v < 2 ^ 256) : refR f m neg v (farS e - 255) = resB f m neg e v ∧ refRF f m aft neg v (farS e - 255) = resFl f m aft neg e v := by
  obtain ⟨_, _, k3, k4, _⟩ := kk_far e
  exact ref_res f m e (farS e - 255) aft neg v v h0 hv Iff.rfl k3 (by rw [k4]; rfl)
def GivesV (neg : Bool) (n : Nat) (E : Int) (e : Ending) (w : World) : Prop := ∃ u, e = .returned (.agg #[.bool neg, u, .int .i64 E, .bool false]) ∧ RN w u n
/-- A list goes on reading so behind a store into a cell that holds no digit. -/
theorem RN.set {w : World} {v x y : Value} {n : Nat} {a : Addr} (h : RN w v n) (hc : w.cell? a = some x) (hx : ∀ k : Int, x ≠ .int .u32 k) : RN (w.setCell a y) v n := by
  obtain ⟨q, cap, rfl, hcap, h⟩ := h
  refine ⟨q, cap, rfl, hcap, ?_⟩
  rcases h with h | ⟨b, off, rfl, h⟩
  · exact Or.inl h
  · refine Or.inr ⟨b, off, rfl, fun i hi => ?_⟩
    have hi' := h i hi
    have hne : a ≠ ⟨b, off + i, none⟩ := fun e => by rw [e, hi'] at hc; cases hc; exact hx _ rfl
    have hk : (w.setCell a y).cell? ⟨b, off + i, none⟩ = w.cell? ⟨b, off + i, none⟩ := by first | exact World.cell?_setCell_other _ _ hne | exact World.cell?_setCell_other _ _ _ hne | exact World.cell?_setCell_other _ _ _ _ hne | exact World.cell?_setCell_other _ hne
    rw [hk]
    exact hi'
set_option maxRecDepth 100000 in
set_option maxHeartbeats 4000000 in
theorem law16_value (neg : Bool) (e x0 x1 x2 x3 : Int) [U64 x0] [U64 x1] [U64 x2] [U64 x3] (w : World) [hLay : Laid w] :
    Calls Tryd.prog 22 #[.bool neg, .int .i64 e, .agg #[.int .u64 (x0), .int .u64 (x1), .int .u64 (x2), .int .u64 (x3)]] w fun en w' => GivesV neg (cat4 x0 x1 x2 x3) (farS e - 255) en w' ∧ Below w.heap.size w w' := by
  have hfar : max (-1099511627776) (min e 1099511627776) = farS e := rfl
  have hfb : -1099511627776 ≤ farS e ∧ farS e ≤ 1099511627776 := by unfold farS; omega
  obtain ⟨hf1, hf2⟩ := hfb
  have hp : IntKind.i64.wrap (farS e - 255) = farS e - 255 := IntWalk.i64_in _ (by omega)
  go_enter Tryd.func22, Tryd.ntmps22
  skip
  (go_wp2_with fail; refine (num_Wide x0 x1 x2 x3 _).mono ?_; rintro en v1 ⟨⟨u1, rfl, hR_u1⟩, hB_v1⟩; have lay_v1 := laid_after hB_v1; have cc1 := cl hB_v1 (show World.cell? _ ⟨w.heap.size, 0, none⟩ = some (.int .u64 x0) by go_simp); have cc2 := cl hB_v1 (show World.cell? _ ⟨w.heap.size, 1, none⟩ = some (.int .u64 x1) by go_simp); have cc3 := cl hB_v1 (show World.cell? _ ⟨w.heap.size, 2, none⟩ = some (.int .u64 x2) by go_simp); have cc4 := cl hB_v1 (show World.cell? _ ⟨w.heap.size, 3, none⟩ = some (.int .u64 x3) by go_simp); obtain ⟨cc5, fcc5⟩ := pf hB_v1 (show World.cell? _ ⟨w.heap.size + 1, 0, none⟩ = some (.bool false) by go_simp) (by go_simp); obtain ⟨cc6, fcc6⟩ := pf hB_v1 (show World.cell? _ ⟨w.heap.size + 1, 1, none⟩ = some (.slice none 0 0) by go_simp) (by go_simp); obtain ⟨cc7, fcc7⟩ := pf hB_v1 (show World.cell? _ ⟨w.heap.size + 1, 2, none⟩ = some (.int .i64 0) by go_simp) (by go_simp); obtain ⟨cc8, fcc8⟩ := pf hB_v1 (show World.cell? _ ⟨w.heap.size + 1, 3, none⟩ = some (.bool false) by go_simp) (by go_simp); have hs_v1 := hB_v1.size; (try simp only [World.size_alloc, World.size_setCell, World.size_drew] at hs_v1); have hBW : Below w.heap.size w v1 := below_after (w := w) (by go_grown) hB_v1; have hn_v1 := an (nl cc1) (nl cc5); clear hB_v1)
  obtain ⟨qu, cu, rfl, _, _⟩ := id hR_u1
  go_wp2_with fail
  refine bodyPost_ret (by simp [results, Tryd.results22, go_sem, cc5, cc6, cc7, cc8]; try rfl) rfl ?_
  refine ⟨⟨_, rfl, ?_⟩, by go_grown⟩
  refine RN.set (x := .bool false) (RN.set (x := .int .i64 0) (RN.set (x := .slice none 0 0) (RN.set (x := .bool false) hR_u1 cc5 (fun k h => by cases h)) ?_ (fun k h => by cases h)) ?_ (fun k h => by cases h)) ?_ (fun k h => by cases h)
  all_goals go_simp
set_option maxRecDepth 100000 in
set_option maxHeartbeats 4000000 in
theorem rounds_walk (f m e x0 x1 x2 x3 r0 r1 rf : Int) (aft neg : Bool) [hU : U8 f] [hM : U8 m] [U64 x0] [U64 x1] [U64 x2] [U64 x3] (w : World) [hLay : Laid w] (lq : dl (cat4 x0 x1 x2 x3) ≤ 30000) (e0 : -4000000000000 ≤ farS e - 255) (e1 : farS e - 255 ≤ 4000000000000)
    (a0 : Hid (hi (resB f m neg e (cat4 x0 x1 x2 x3)) = r0)) (a1 : Hid (lo (resB f m neg e (cat4 x0 x1 x2 x3)) = r1)) (a2 : Hid (resFl f m aft neg e (cat4 x0 x1 x2 x3) = rf))
    (b0 : Hid (hi (refR f m neg (cat4 x0 x1 x2 x3) (farS e - 255)) = r0)) (b1 : Hid (lo (refR f m neg (cat4 x0 x1 x2 x3) (farS e - 255)) = r1)) (b2 : Hid (refRF f m aft neg (cat4 x0 x1 x2 x3) (farS e - 255) = rf)) :
    Calls Tryd.prog 4 #[.int .u8 f, .agg #[.int .u8 m, .bool aft], .bool neg, .int .i64 e, .agg #[.int .u64 (x0), .int .u64 (x1), .int .u64 (x2), .int .u64 (x3)]] w fun en w' => en = .returned (.bool true) ∧ Below w.heap.size w w' := by
  have he := fun W => eql_res_same W r0 r1 rf
  go_enter Tryd.func4, Tryd.ntmps4
  skip
  go_upto_region 1 with fail
  ((first | refine wp_rename ?_ | refine goal_rename ?_); intro W1 hw_W1; have cc1 : W1.cell? ⟨w.heap.size, 0, none⟩ = some (.int .u8 m) := (by rw [hw_W1]; go_simp); have cc2 : W1.cell? ⟨w.heap.size, 1, none⟩ = some (.bool aft) := (by rw [hw_W1]; go_simp); have cc3 : W1.cell? ⟨w.heap.size + 1, 0, none⟩ = some (.int .u64 x0) := (by rw [hw_W1]; go_simp); have cc4 : W1.cell? ⟨w.heap.size + 1, 1, none⟩ = some (.int .u64 x1) := (by rw [hw_W1]; go_simp); have cc5 : W1.cell? ⟨w.heap.size + 1, 2, none⟩ = some (.int .u64 x2) := (by rw [hw_W1]; go_simp); have cc6 : W1.cell? ⟨w.heap.size + 1, 3, none⟩ = some (.int .u64 x3) := (by rw [hw_W1]; go_simp); have hBW : Below w.heap.size w W1 := (by rw [hw_W1]; (first | with_reducible exact drewN_below (by assumption) _ | go_grown)); have hn_W1 := an (nl cc1) (nl cc3); have lay_W1 : Laid W1 := Laid.below (w := w) (by assumption) hBW; clear hw_W1)
  go_region_held3 (fun w' => w'.cell? ⟨w.heap.size, 0, none⟩ = some (.int .u8 m) ∧ w'.cell? ⟨w.heap.size, 1, none⟩ = some (.bool aft) ∧ w'.cell? ⟨w.heap.size + 1, 0, none⟩ = some (.int .u64 x0) ∧ w'.cell? ⟨w.heap.size + 1, 1, none⟩ = some (.int .u64 x1) ∧ w'.cell? ⟨w.heap.size + 1, 2, none⟩ = some (.int .u64 x2) ∧ w'.cell? ⟨w.heap.size + 1, 3, none⟩ = some (.int .u64 x3)) ((refine ⟨?_, ?_, ?_, ?_, ?_, ?_⟩ <;> (refine cell_later (w := W1) ?_ (by assumption); go_grown))) (first | (go_at_call 20; refine (pack_Round f m e x0 x1 x2 x3 aft neg _).mono ?_; rw [a0.out, a1.out, a2.out]; rintro en p1 ⟨rfl, hB_p1⟩; have hb_p1 : Below W1.heap.size W1 p1 := below_after (by go_grown) hB_p1; have hs_p1 := hb_p1.size; have lay_p1 := laid_after hB_p1) | (go_at_call 22; refine (law16_value neg e x0 x1 x2 x3 _).mono ?_; rintro en p2 ⟨⟨u2, rfl, hR_u2⟩, hB_p2⟩; have hb_p2 : Below W1.heap.size W1 p2 := below_after (by go_grown) hB_p2; have hs_p2 := hb_p2.size; have lay_p2 := laid_after hB_p2) | (go_at_call 21; refine (ref_Round f m (farS e - 255) aft neg _ u2 _ (hR_u2.later (by go_grown)) lq e0 e1).mono ?_; rw [b0.out, b1.out, b2.out]; rintro en p3 ⟨rfl, hB_p3⟩; have hb_p3 : Below W1.heap.size W1 p3 := below_after (by go_grown) hB_p3; have hs_p3 := hb_p3.size; have lay_p3 := laid_after hB_p3) | (go_at_call 23; refine (law16_goes _).mono ?_; rintro en p4 ⟨rfl, hB_p4⟩; have hb_p4 : Below W1.heap.size W1 p4 := below_after (by go_grown) hB_p4; have hs_p4 := hb_p4.size; have lay_p4 := laid_after hB_p4))
  (replace cc1 := cl hb_p4 cc1; replace cc2 := cl hb_p4 cc2; replace cc3 := cl hb_p4 cc3; replace cc4 := cl hb_p4 cc4; replace cc5 := cl hb_p4 cc5; replace cc6 := cl hb_p4 cc6; replace hBW := below_after hBW hb_p4; have hsb_p4 := hb_p4.size; have hn_p4 := an (nl cc1) (nl cc3))
  go_wp2_with fail
  go_returns
  exact ⟨rfl, by go_grown⟩
theorem dl_wide (x0 x1 x2 x3 : Int) [U64 x0] [U64 x1] [U64 x2] [U64 x3] : dl (cat4 x0 x1 x2 x3) ≤ 30000 :=
  Nat.le_trans (dl_le _ 8 (cat4_lt x0 x1 x2 x3)) (by omega)
theorem walk_PackRounds (f m : Int) (aft neg : Bool) (e x0 x1 x2 x3 : Int) [hU : U8 f] [hM : U8 m] [U64 x0] [U64 x1] [U64 x2] [U64 x3] (w : World) [hLay : Laid w] :
    Calls Tryd.prog 4 #[.int .u8 f, .agg #[.int .u8 m, .bool aft], .bool neg, .int .i64 e, .agg #[.int .u64 (x0), .int .u64 (x1), .int .u64 (x2), .int .u64 (x3)]] w fun en w' => en = .returned (.bool true) ∧ Below w.heap.size w w' := by
  obtain ⟨_, _, _, _, _, k6, k7⟩ := kk_far e
  obtain ⟨h1, h2⟩ := ref_same f m e aft neg (cat4 x0 x1 x2 x3) U8.ge (by rw [two256]; exact cat4_lt x0 x1 x2 x3)
  exact rounds_walk f m e x0 x1 x2 x3 _ _ _ aft neg w (dl_wide x0 x1 x2 x3) k6 k7 rfl rfl rfl (by rw [h1]; exact rfl) (by rw [h1]; exact rfl) (by rw [h2]; exact rfl)
set_option maxRecDepth 100000 in
set_option maxHeartbeats 4000000 in
theorem exact_walk (f e x0 x1 x2 x3 c0 c1 r0 r1 rf : Int) (ok neg : Bool) [hU : U8 f] [U64 x0] [U64 x1] [U64 x2] [U64 x3] (w : World) [hLay : Laid w] (lq : dl (cat4 x0 x1 x2 x3) ≤ 30000) (e0 : -4000000000000 ≤ farS e - 255) (e1 : farS e - 255 ≤ 4000000000000)
    (a0 : Hid (hi (exB f neg e (cat4 x0 x1 x2 x3)) = c0)) (a1 : Hid (lo (exB f neg e (cat4 x0 x1 x2 x3)) = c1)) (a2 : Hid (exOk f neg e (cat4 x0 x1 x2 x3) = ok))
    (b0 : Hid (hi (refR f 4 neg (cat4 x0 x1 x2 x3) (farS e - 255)) = r0)) (b1 : Hid (lo (refR f 4 neg (cat4 x0 x1 x2 x3) (farS e - 255)) = r1)) (b2 : Hid (refRF f 4 false neg (cat4 x0 x1 x2 x3) (farS e - 255) = rf))
    (hq : (ok = false ∧ c0 = 0 ∧ c1 = 0 ∧ decide (f > 3) = true) ∨ (ok = false ∧ c0 = 0 ∧ c1 = 0 ∧ decide (f > 3) = false ∧ (rf != 0) = true) ∨ (ok = true ∧ r0 = c0 ∧ r1 = c1 ∧ rf = 0 ∧ decide (f > 3) = false)) :
    Calls Tryd.prog 5 #[.int .u8 f, .bool neg, .int .i64 e, .agg #[.int .u64 (x0), .int .u64 (x1), .int .u64 (x2), .int .u64 (x3)]] w fun en w' => en = .returned (.bool true) ∧ Below w.heap.size w w' := by
  have he1 := fun W => eql_bits_same W 0 0
  rcases hq with ⟨rfl, rfl, rfl, q1⟩ | ⟨rfl, rfl, rfl, q1, q2⟩ | ⟨rfl, rfl, rfl, rfl, q1⟩
  · go_enter Tryd.func5, Tryd.ntmps5
    skip
    (go_wp2_with fail; refine (pack_Exact f e x0 x1 x2 x3 neg _).mono ?_; rw [a0.out, a1.out, a2.out]; rintro en v1 ⟨rfl, hB_v1⟩; have lay_v1 := laid_after hB_v1; have cc1 := cl hB_v1 (show World.cell? _ ⟨w.heap.size, 0, none⟩ = some (.int .u64 x0) by go_simp); have cc2 := cl hB_v1 (show World.cell? _ ⟨w.heap.size, 1, none⟩ = some (.int .u64 x1) by go_simp); have cc3 := cl hB_v1 (show World.cell? _ ⟨w.heap.size, 2, none⟩ = some (.int .u64 x2) by go_simp); have cc4 := cl hB_v1 (show World.cell? _ ⟨w.heap.size, 3, none⟩ = some (.int .u64 x3) by go_simp); have hs_v1 := hB_v1.size; (try simp only [World.size_alloc, World.size_setCell, World.size_drew] at hs_v1); have hBW : Below w.heap.size w v1 := below_after (w := w) (by go_grown) hB_v1; have hn_v1 := nl cc1; clear hB_v1)
    (go_wp2_with fail; refine (law16_value neg e x0 x1 x2 x3 _).mono ?_; rintro en v2 ⟨⟨u2, rfl, hR_u2⟩, hB_v2⟩; have lay_v2 := laid_after hB_v2; have hG := cell_grown cc1 (by go_grown) hB_v2; replace cc1 := cl hG cc1; replace cc2 := cl hG cc2; replace cc3 := cl hG cc3; replace cc4 := cl hG cc4; obtain ⟨cc5, fcc5⟩ := pf hB_v2 (show World.cell? _ ⟨v1.heap.size, 0, none⟩ = some (.int .u64 0) by go_simp) (by go_simp); obtain ⟨cc6, fcc6⟩ := pf hB_v2 (show World.cell? _ ⟨v1.heap.size, 1, none⟩ = some (.int .u64 0) by go_simp) (by go_simp); have hs_v2 := hG.size; clear hG; replace hBW : Below w.heap.size w v2 := below_after (w := w) (by go_grown) hB_v2; have hn_v2 := an (nl cc1) (nl cc5); clear hB_v2)
    (go_wp2_with fail; refine (ref_Round f 4 (farS e - 255) false neg _ u2 _ hR_u2 lq e0 e1).mono ?_; rw [b0.out, b1.out, b2.out]; rintro en v3 ⟨rfl, hB_v3⟩; have lay_v3 := laid_after hB_v3; replace hR_u2 := RN.later hR_u2 (below_after (by go_grown) hB_v3); have hG := cell_grown cc1 (by go_grown) hB_v3; replace cc1 := cl hG cc1; replace cc2 := cl hG cc2; replace cc3 := cl hG cc3; replace cc4 := cl hG cc4; replace fcc5 := fl hG fcc5 cc5; replace cc5 := cl hG cc5; replace fcc6 := fl hG fcc6 cc6; replace cc6 := cl hG cc6; have hs_v3 := hG.size; clear hG; replace hBW : Below w.heap.size w v3 := below_after (w := w) (by go_grown) hB_v3; have hn_v3 := an (nl cc1) (nl cc5); clear hB_v3)
    (go_wp2_with fail; refine (law16_goes _).mono ?_; rintro en v4 ⟨rfl, hB_v4⟩; have lay_v4 := laid_after hB_v4; replace hR_u2 := RN.later hR_u2 (below_after (by go_grown) hB_v4); have hG := cell_grown cc1 (by go_grown) hB_v4; replace cc1 := cl hG cc1; replace cc2 := cl hG cc2; replace cc3 := cl hG cc3; replace cc4 := cl hG cc4; replace fcc5 := fl hG fcc5 cc5; replace cc5 := cl hG cc5; replace fcc6 := fl hG fcc6 cc6; replace cc6 := cl hG cc6; obtain ⟨cc7, fcc7⟩ := pf hB_v4 (show World.cell? _ ⟨v3.heap.size, 0, none⟩ = some (.int .u64 r0) by go_simp) (by go_simp); obtain ⟨cc8, fcc8⟩ := pf hB_v4 (show World.cell? _ ⟨v3.heap.size, 1, none⟩ = some (.int .u64 r1) by go_simp) (by go_simp); obtain ⟨cc9, fcc9⟩ := pf hB_v4 (show World.cell? _ ⟨v3.heap.size, 2, none⟩ = some (.int .u8 rf) by go_simp) (by go_simp); have hs_v4 := hG.size; clear hG; replace hBW : Below w.heap.size w v4 := below_after (w := w) (by go_grown) hB_v4; have hn_v4 := an (nl cc1) (an (nl cc5) (nl cc7)); clear hB_v4)
    go_wp2_with fail
    go_returns
    exact ⟨rfl, by go_grown⟩
  · go_enter Tryd.func5, Tryd.ntmps5
    skip
    (go_wp2_with fail; refine (pack_Exact f e x0 x1 x2 x3 neg _).mono ?_; rw [a0.out, a1.out, a2.out]; rintro en v1 ⟨rfl, hB_v1⟩; have lay_v1 := laid_after hB_v1; have cc1 := cl hB_v1 (show World.cell? _ ⟨w.heap.size, 0, none⟩ = some (.int .u64 x0) by go_simp); have cc2 := cl hB_v1 (show World.cell? _ ⟨w.heap.size, 1, none⟩ = some (.int .u64 x1) by go_simp); have cc3 := cl hB_v1 (show World.cell? _ ⟨w.heap.size, 2, none⟩ = some (.int .u64 x2) by go_simp); have cc4 := cl hB_v1 (show World.cell? _ ⟨w.heap.size, 3, none⟩ = some (.int .u64 x3) by go_simp); have hs_v1 := hB_v1.size; (try simp only [World.size_alloc, World.size_setCell, World.size_drew] at hs_v1); have hBW : Below w.heap.size w v1 := below_after (w := w) (by go_grown) hB_v1; have hn_v1 := nl cc1; clear hB_v1)
    (go_wp2_with fail; refine (law16_value neg e x0 x1 x2 x3 _).mono ?_; rintro en v2 ⟨⟨u2, rfl, hR_u2⟩, hB_v2⟩; have lay_v2 := laid_after hB_v2; have hG := cell_grown cc1 (by go_grown) hB_v2; replace cc1 := cl hG cc1; replace cc2 := cl hG cc2; replace cc3 := cl hG cc3; replace cc4 := cl hG cc4; obtain ⟨cc5, fcc5⟩ := pf hB_v2 (show World.cell? _ ⟨v1.heap.size, 0, none⟩ = some (.int .u64 0) by go_simp) (by go_simp); obtain ⟨cc6, fcc6⟩ := pf hB_v2 (show World.cell? _ ⟨v1.heap.size, 1, none⟩ = some (.int .u64 0) by go_simp) (by go_simp); have hs_v2 := hG.size; clear hG; replace hBW : Below w.heap.size w v2 := below_after (w := w) (by go_grown) hB_v2; have hn_v2 := an (nl cc1) (nl cc5); clear hB_v2)
    (go_wp2_with fail; refine (ref_Round f 4 (farS e - 255) false neg _ u2 _ hR_u2 lq e0 e1).mono ?_; rw [b0.out, b1.out, b2.out]; rintro en v3 ⟨rfl, hB_v3⟩; have lay_v3 := laid_after hB_v3; replace hR_u2 := RN.later hR_u2 (below_after (by go_grown) hB_v3); have hG := cell_grown cc1 (by go_grown) hB_v3; replace cc1 := cl hG cc1; replace cc2 := cl hG cc2; replace cc3 := cl hG cc3; replace cc4 := cl hG cc4; replace fcc5 := fl hG fcc5 cc5; replace cc5 := cl hG cc5; replace fcc6 := fl hG fcc6 cc6; replace cc6 := cl hG cc6; have hs_v3 := hG.size; clear hG; replace hBW : Below w.heap.size w v3 := below_after (w := w) (by go_grown) hB_v3; have hn_v3 := an (nl cc1) (nl cc5); clear hB_v3)
    (go_wp2_with fail; refine (law16_goes _).mono ?_; rintro en v4 ⟨rfl, hB_v4⟩; have lay_v4 := laid_after hB_v4; replace hR_u2 := RN.later hR_u2 (below_after (by go_grown) hB_v4); have hG := cell_grown cc1 (by go_grown) hB_v4; replace cc1 := cl hG cc1; replace cc2 := cl hG cc2; replace cc3 := cl hG cc3; replace cc4 := cl hG cc4; replace fcc5 := fl hG fcc5 cc5; replace cc5 := cl hG cc5; replace fcc6 := fl hG fcc6 cc6; replace cc6 := cl hG cc6; obtain ⟨cc7, fcc7⟩ := pf hB_v4 (show World.cell? _ ⟨v3.heap.size, 0, none⟩ = some (.int .u64 r0) by go_simp) (by go_simp); obtain ⟨cc8, fcc8⟩ := pf hB_v4 (show World.cell? _ ⟨v3.heap.size, 1, none⟩ = some (.int .u64 r1) by go_simp) (by go_simp); obtain ⟨cc9, fcc9⟩ := pf hB_v4 (show World.cell? _ ⟨v3.heap.size, 2, none⟩ = some (.int .u8 rf) by go_simp) (by go_simp); have hs_v4 := hG.size; clear hG; replace hBW : Below w.heap.size w v4 := below_after (w := w) (by go_grown) hB_v4; have hn_v4 := an (nl cc1) (an (nl cc5) (nl cc7)); clear hB_v4)
    go_wp2_with fail
    go_returns
    exact ⟨rfl, by go_grown⟩
  · have he2 := fun W => eql_bits_same W r0 r1
    go_enter Tryd.func5, Tryd.ntmps5
    skip
    (go_wp2_with fail; refine (pack_Exact f e x0 x1 x2 x3 neg _).mono ?_; rw [a0.out, a1.out, a2.out]; rintro en v1 ⟨rfl, hB_v1⟩; have lay_v1 := laid_after hB_v1; have cc1 := cl hB_v1 (show World.cell? _ ⟨w.heap.size, 0, none⟩ = some (.int .u64 x0) by go_simp); have cc2 := cl hB_v1 (show World.cell? _ ⟨w.heap.size, 1, none⟩ = some (.int .u64 x1) by go_simp); have cc3 := cl hB_v1 (show World.cell? _ ⟨w.heap.size, 2, none⟩ = some (.int .u64 x2) by go_simp); have cc4 := cl hB_v1 (show World.cell? _ ⟨w.heap.size, 3, none⟩ = some (.int .u64 x3) by go_simp); have hs_v1 := hB_v1.size; (try simp only [World.size_alloc, World.size_setCell, World.size_drew] at hs_v1); have hBW : Below w.heap.size w v1 := below_after (w := w) (by go_grown) hB_v1; have hn_v1 := nl cc1; clear hB_v1)
    (go_wp2_with fail; refine (law16_value neg e x0 x1 x2 x3 _).mono ?_; rintro en v2 ⟨⟨u2, rfl, hR_u2⟩, hB_v2⟩; have lay_v2 := laid_after hB_v2; have hG := cell_grown cc1 (by go_grown) hB_v2; replace cc1 := cl hG cc1; replace cc2 := cl hG cc2; replace cc3 := cl hG cc3; replace cc4 := cl hG cc4; obtain ⟨cc5, fcc5⟩ := pf hB_v2 (show World.cell? _ ⟨v1.heap.size, 0, none⟩ = some (.int .u64 r0) by go_simp) (by go_simp); obtain ⟨cc6, fcc6⟩ := pf hB_v2 (show World.cell? _ ⟨v1.heap.size, 1, none⟩ = some (.int .u64 r1) by go_simp) (by go_simp); have hs_v2 := hG.size; clear hG; replace hBW : Below w.heap.size w v2 := below_after (w := w) (by go_grown) hB_v2; have hn_v2 := an (nl cc1) (nl cc5); clear hB_v2)
    (go_wp2_with fail; refine (ref_Round f 4 (farS e - 255) false neg _ u2 _ hR_u2 lq e0 e1).mono ?_; rw [b0.out, b1.out, b2.out]; rintro en v3 ⟨rfl, hB_v3⟩; have lay_v3 := laid_after hB_v3; replace hR_u2 := RN.later hR_u2 (below_after (by go_grown) hB_v3); have hG := cell_grown cc1 (by go_grown) hB_v3; replace cc1 := cl hG cc1; replace cc2 := cl hG cc2; replace cc3 := cl hG cc3; replace cc4 := cl hG cc4; replace fcc5 := fl hG fcc5 cc5; replace cc5 := cl hG cc5; replace fcc6 := fl hG fcc6 cc6; replace cc6 := cl hG cc6; have hs_v3 := hG.size; clear hG; replace hBW : Below w.heap.size w v3 := below_after (w := w) (by go_grown) hB_v3; have hn_v3 := an (nl cc1) (nl cc5); clear hB_v3)
    (go_wp2_with fail; refine (law16_goes _).mono ?_; rintro en v4 ⟨rfl, hB_v4⟩; have lay_v4 := laid_after hB_v4; replace hR_u2 := RN.later hR_u2 (below_after (by go_grown) hB_v4); have hG := cell_grown cc1 (by go_grown) hB_v4; replace cc1 := cl hG cc1; replace cc2 := cl hG cc2; replace cc3 := cl hG cc3; replace cc4 := cl hG cc4; replace fcc5 := fl hG fcc5 cc5; replace cc5 := cl hG cc5; replace fcc6 := fl hG fcc6 cc6; replace cc6 := cl hG cc6; obtain ⟨cc7, fcc7⟩ := pf hB_v4 (show World.cell? _ ⟨v3.heap.size, 0, none⟩ = some (.int .u64 r0) by go_simp) (by go_simp); obtain ⟨cc8, fcc8⟩ := pf hB_v4 (show World.cell? _ ⟨v3.heap.size, 1, none⟩ = some (.int .u64 r1) by go_simp) (by go_simp); obtain ⟨cc9, fcc9⟩ := pf hB_v4 (show World.cell? _ ⟨v3.heap.size, 2, none⟩ = some (.int .u8 0) by go_simp) (by go_simp); have hs_v4 := hG.size; clear hG; replace hBW : Below w.heap.size w v4 := below_after (w := w) (by go_grown) hB_v4; have hn_v4 := an (nl cc1) (an (nl cc5) (nl cc7)); clear hB_v4)
    go_wp2_with fail
    go_returns
    exact ⟨rfl, by go_grown⟩
theorem walk_PackExact (f : Int) (neg : Bool) (e x0 x1 x2 x3 : Int) [hU : U8 f] [U64 x0] [U64 x1] [U64 x2] [U64 x3] (w : World) [hLay : Laid w] :
    Calls Tryd.prog 5 #[.int .u8 f, .bool neg, .int .i64 e, .agg #[.int .u64 (x0), .int .u64 (x1), .int .u64 (x2), .int .u64 (x3)]] w fun en w' => en = .returned (.bool true) ∧ Below w.heap.size w w' := by
  obtain ⟨_, _, _, _, _, k6, k7⟩ := kk_far e
  obtain ⟨h1, h2⟩ := ref_same f 4 e false neg (cat4 x0 x1 x2 x3) U8.ge (by rw [two256]; exact cat4_lt x0 x1 x2 x3)
  refine exact_walk f e x0 x1 x2 x3 _ _ _ _ _ _ neg w (dl_wide x0 x1 x2 x3) k6 k7 rfl rfl rfl rfl rfl rfl ?_
  rw [h1, h2]
  unfold exB exOk
  by_cases hf : f < 4
  · by_cases hfl : resFl f 4 false neg e (cat4 x0 x1 x2 x3) = 0
    · refine Or.inr (Or.inr ⟨?_, ?_, ?_, hfl, decide_eq_false (by omega)⟩)
      · rw [hfl, decide_eq_true hf]; rfl
      · rw [if_pos ⟨hf, hfl⟩]
      · rw [if_pos ⟨hf, hfl⟩]
    · refine Or.inr (Or.inl ⟨?_, ?_, ?_, decide_eq_false (by omega), ?_⟩)
      · rw [decide_eq_true hf, Bool.true_and, beq_eq_false_iff_ne]; exact hfl
      · rw [if_neg (fun h => hfl h.2)]; rfl
      · rw [if_neg (fun h => hfl h.2)]; rfl
      · rw [bne_iff_ne]; exact hfl
  · refine Or.inl ⟨?_, ?_, ?_, decide_eq_true (by omega)⟩
    · rw [decide_eq_false hf]; rfl
    · rw [if_neg (fun h => hf h.1)]; rfl
    · rw [if_neg (fun h => hf h.1)]; rfl
end Go.Proofs.YtgpedgppdggjmaaDoor
