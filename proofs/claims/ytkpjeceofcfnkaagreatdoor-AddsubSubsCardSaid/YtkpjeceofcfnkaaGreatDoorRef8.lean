/- The contracts of the reference's fields, classes, exact and whole numbers (chapters 7, 8, 9, 24): for every input. Condition: the listed table is laid. -/
import Derived.Test.YtkpjeceofcfnkaaGreatDoorNumB
import Derived.Test.YtkpjeceofcfnkaaGreatDoorFields
import Derived.Test.YtkpjeceofcfnkaaGreatDoorCodes4
import Derived.Test.YtkpjeceofcfnkaaGreatDoorWholes
set_option maxRecDepth 100000
set_option maxHeartbeats 4000000
set_option linter.unusedSimpArgs false
set_option linter.unusedVariables false
namespace Go.Proofs.YtkpjeceofcfnkaaGreatDoor
open Go.RowKit Go.Hb
theorem ref_Width_b (f : Int) [hU : U8 f] (w : World) : Calls Tryz.prog 44 #[.int .u8 f] w fun en w' => en = .returned (.int .i64 (widthS f)) ∧ Below w.heap.size w w' := (ref_Width f w).mono fun _ _ ⟨h1, h2⟩ => ⟨h1, h2 ▸ Below.refl _ _⟩
theorem ref_Prec_b (f : Int) [hU : U8 f] (w : World) : Calls Tryz.prog 23 #[.int .u8 f] w fun en w' => en = .returned (.int .i64 (precS f)) ∧ Below w.heap.size w w' := (ref_Prec f w).mono fun _ _ ⟨h1, h2⟩ => ⟨h1, h2 ▸ Below.refl _ _⟩
theorem num_Bit_b (a i : Nat) (j : Int) (v : Value) (w : World) (hj : j = (i : Nat)) (h : RN w v a) (hi : i ≤ 1000000) : Calls Tryz.prog 49 #[v, .int .i64 j] w fun en w' => en = .returned (.bool (a.testBit i)) ∧ Below w.heap.size w w' := (num_Bit_at a i j v w hj h hi).mono fun _ _ ⟨h1, h2⟩ => ⟨h1, h2 ▸ Below.refl _ _⟩
theorem dl_cat (h l : Int) [U64 h] [U64 l] : dl (cat h l) ≤ 100000 := dl_of _ 128 (by rw [two128]; exact cat_lt h l) (by omega)
/-- A format's bits. -/
theorem ref_FCut (f h l : Int) [hU : U8 f] [U64 h] [U64 l] (w : World) [hLay : Laid w] :
    Calls Tryz.prog 45 #[.int .u8 f, .agg #[.int .u64 (h), .int .u64 (l)]] w fun en w' => GivesN (cat h l % 2 ^ (widthS f).toNat) en w' ∧ Below w.heap.size w w' := by
  have lc := dl_cat h l
  have hw : 0 ≤ widthS f ∧ widthS f ≤ 128 := by unfold widthS; repeat' split <;> omega
  go_enter Tryz.func45, Tryz.ntmps45
  skip
  (go_wp2_with fail; refine (num_Big h l _).mono ?_; rintro en v1 ⟨⟨u1, rfl, hR_u1⟩, hB_v1⟩; have lay_v1 := laid_after hB_v1; have cc1 := cl hB_v1 (show World.cell? _ ⟨w.heap.size, 0, none⟩ = some (.int .u64 h) by go_simp); have cc2 := cl hB_v1 (show World.cell? _ ⟨w.heap.size, 1, none⟩ = some (.int .u64 l) by go_simp); have hs_v1 := hB_v1.size; (try simp only [World.size_alloc, World.size_setCell, World.size_drew] at hs_v1); have hBW : Below w.heap.size w v1 := below_after (w := w) (by go_grown) hB_v1; have hn_v1 := nl cc1; clear hB_v1)
  (go_wp2_with fail; refine (ref_Width f _).mono ?_; rintro en _ ⟨rfl, rfl⟩)
  (go_wp2_with fail; refine (num_Cut_at (cat h l) (widthS f).toNat _ u1 _ (by omega) hR_u1 lc (by omega)).mono ?_; rintro en v2 ⟨⟨u2, rfl, hR_u2⟩, hB_v2⟩; have lay_v2 := laid_after hB_v2; replace hR_u1 := RN.later hR_u1 (below_after (by go_grown) hB_v2); have hG := cell_grown cc1 (by go_grown) hB_v2; replace cc1 := cl hG cc1; replace cc2 := cl hG cc2; replace hBW := below_after hBW hG; have hs_v2 := hG.size; clear hG; have hn_v2 := nl cc1; clear hB_v2)
  go_wp2_with fail
  go_returns
  exact ⟨⟨_, rfl, hR_u2⟩, by go_grown⟩
def GivesS (s : Bool) (x : Int) (n : Nat) (e : Ending) (w : World) : Prop := ∃ u, e = .returned (.tuple #[.bool s, .int .i64 x, u]) ∧ RN w u n
theorem split_walk (f h l x e0 e1 : Int) (s : Bool) (n r d : Nat) [hU : U8 f] [U64 h] [U64 l] (w : World) [hLay : Laid w] (hf : f < 4) (hn : Hid (cat h l % 2 ^ (widthS f).toNat = n)) (hr : Hid (n % 2 ^ (widthS f - 1).toNat = r)) (hd : Hid (r % 2 ^ (precS f - 1).toNat = d)) (hs : Hid (n.testBit (widthS f - 1).toNat = s))
    (h0 : Hid (hi (r / 2 ^ (precS f - 1).toNat) = e0)) (h1 : Hid (lo (r / 2 ^ (precS f - 1).toNat) = e1)) (hx : IntKind.i64.wrap e1 = x) (ln : dl n ≤ 100000) (lr : dl r ≤ 100000) :
    Calls Tryz.prog 15 #[.int .u8 f, .agg #[.int .u64 (h), .int .u64 (l)]] w fun en w' => GivesS s x d en w' ∧ Below w.heap.size w w' := by
  obtain ⟨b1, b2, b3, b4, b5, b6⟩ := fmt_bd f U8.ge hf
  have hw0 : (widthS f == 0) = false := by rw [beq_eq_false_iff_ne]; omega
  have hp1 : IntKind.i64.wrap (precS f - 1) = precS f - 1 := IntWalk.i64_in _ (by omega)
  have hp2 : IntKind.i64.wrap (widthS f - 1) = widthS f - 1 := IntWalk.i64_in _ (by omega)
  go_enter Tryz.func15, Tryz.ntmps15
  skip
  (go_wp2_with fail; refine (ref_Width f _).mono ?_; rintro en _ ⟨rfl, rfl⟩)
  (go_wp2_with fail; refine (ref_FCut f h l _).mono ?_; rw [hn.out]; rintro en v1 ⟨⟨u1, rfl, hR_u1⟩, hB_v1⟩; have lay_v1 := laid_after hB_v1; have cc1 := cl hB_v1 (show World.cell? _ ⟨w.heap.size, 0, none⟩ = some (.int .u64 h) by go_simp); have cc2 := cl hB_v1 (show World.cell? _ ⟨w.heap.size, 1, none⟩ = some (.int .u64 l) by go_simp); have hs_v1 := hB_v1.size; (try simp only [World.size_alloc, World.size_setCell, World.size_drew] at hs_v1); have hBW : Below w.heap.size w v1 := below_after (w := w) (by go_grown) hB_v1; have hn_v1 := nl cc1; clear hB_v1)
  (go_wp2_with fail; refine (ref_Width f _).mono ?_; rintro en _ ⟨rfl, rfl⟩)
  (go_wp2_with fail; refine (num_Cut_at n (widthS f - 1).toNat _ u1 _ (by omega) hR_u1 ln (by omega)).mono ?_; rw [hr.out]; rintro en v2 ⟨⟨u2, rfl, hR_u2⟩, hB_v2⟩; have lay_v2 := laid_after hB_v2; replace hR_u1 := RN.later hR_u1 (below_after (by go_grown) hB_v2); have hG := cell_grown cc1 (by go_grown) hB_v2; replace cc1 := cl hG cc1; replace cc2 := cl hG cc2; replace hBW := below_after hBW hG; have hs_v2 := hG.size; clear hG; have hn_v2 := nl cc1; clear hB_v2)
  (go_wp2_with fail; refine (ref_Prec f _).mono ?_; rintro en _ ⟨rfl, rfl⟩)
  (go_wp2_with fail; refine (num_Shr_at r (precS f - 1).toNat _ u2 _ (by omega) hR_u2 lr (by omega)).mono ?_; rintro en v3 ⟨⟨u3, rfl, hR_u3⟩, hB_v3⟩; have lay_v3 := laid_after hB_v3; replace hR_u1 := RN.later hR_u1 (below_after (by go_grown) hB_v3); replace hR_u2 := RN.later hR_u2 (below_after (by go_grown) hB_v3); have hG := cell_grown cc1 (by go_grown) hB_v3; replace cc1 := cl hG cc1; replace cc2 := cl hG cc2; replace hBW := below_after hBW hG; have hs_v3 := hG.size; clear hG; have hn_v3 := nl cc1; clear hB_v3)
  (go_wp2_with fail; refine (num_Bits _ u3 _ hR_u3).mono ?_; rw [h0.out, h1.out]; rintro en v4 ⟨rfl, hB_v4⟩; have lay_v4 := laid_after hB_v4; replace hR_u1 := RN.later hR_u1 (below_after (by go_grown) hB_v4); replace hR_u2 := RN.later hR_u2 (below_after (by go_grown) hB_v4); replace hR_u3 := RN.later hR_u3 (below_after (by go_grown) hB_v4); have hG := cell_grown cc1 (by go_grown) hB_v4; replace cc1 := cl hG cc1; replace cc2 := cl hG cc2; replace hBW := below_after hBW hG; have hs_v4 := hG.size; clear hG; have hn_v4 := nl cc1; clear hB_v4)
  go_upto_region 6 with fail
  ((first | refine wp_rename ?_ | refine goal_rename ?_); intro W6 hw_W6; have hG := named cc1 W6 (by rw [hw_W6]; first | with_reducible exact drewN_below (Below.refl _ _) _ | go_grown); replace cc1 := cl hG cc1; replace cc2 := cl hG cc2; replace hR_u1 := RN.later hR_u1 (w' := W6) (by rw [hw_W6]; first | with_reducible exact drewN_below (Below.refl _ _) _ | go_grown); replace hR_u2 := RN.later hR_u2 (w' := W6) (by rw [hw_W6]; first | with_reducible exact drewN_below (Below.refl _ _) _ | go_grown); replace hR_u3 := RN.later hR_u3 (w' := W6) (by rw [hw_W6]; first | with_reducible exact drewN_below (Below.refl _ _) _ | go_grown); have cc3 : W6.cell? ⟨v4.heap.size, 0, none⟩ = some (.int .u64 e0) := (by rw [hw_W6]; go_simp); have cc4 : W6.cell? ⟨v4.heap.size, 1, none⟩ = some (.int .u64 e1) := (by rw [hw_W6]; go_simp); replace hBW := below_after hBW hG; have hs_W6 := hG.size; clear hG; have hn_W6 := an (nl cc1) (nl cc3); have lay_W6 : Laid W6 := Laid.below (w := w) (by assumption) hBW; clear hw_W6)
  go_region_held3 (fun w' => w'.cell? ⟨v4.heap.size, 0, none⟩ = some (.int .u64 e0) ∧ w'.cell? ⟨v4.heap.size, 1, none⟩ = some (.int .u64 e1)) ((refine ⟨?_, ?_⟩ <;> (refine cell_later (w := W6) ?_ (by assumption); go_grown))) (first | (go_at_call 44; refine (ref_Width_b f _).mono ?_; rintro en p1 ⟨rfl, hB_p1⟩; have hb_p1 : Below W6.heap.size W6 p1 := below_after (by go_grown) hB_p1; have hs_p1 := hb_p1.size; have lay_p1 := laid_after hB_p1) | (go_at_call 49; refine (num_Bit_b n (widthS f - 1).toNat _ u1 _ (by omega) (hR_u1.later (by go_grown)) (by omega)).mono ?_; rw [hs.out]; rintro en p2 ⟨rfl, hB_p2⟩; have hb_p2 : Below W6.heap.size W6 p2 := below_after (by go_grown) hB_p2; have hs_p2 := hb_p2.size; have lay_p2 := laid_after hB_p2) | (go_at_call 23; refine (ref_Prec_b f _).mono ?_; rintro en p3 ⟨rfl, hB_p3⟩; have hb_p3 : Below W6.heap.size W6 p3 := below_after (by go_grown) hB_p3; have hs_p3 := hb_p3.size; have lay_p3 := laid_after hB_p3) | (go_at_call 46; refine (num_Cut_at r (precS f - 1).toNat _ u2 _ (by omega) (hR_u2.later (by go_grown)) lr (by omega)).mono ?_; rw [hd.out]; rintro en p4 ⟨⟨u4, rfl, hR_u4⟩, hB_p4⟩; have hb_p4 : Below W6.heap.size W6 p4 := below_after (by go_grown) hB_p4; have hs_p4 := hb_p4.size; have lay_p4 := laid_after hB_p4))
  go_wp2_with fail
  go_returns
  exact ⟨⟨_, rfl, hR_u4⟩, below_after hBW hb_p4⟩
theorem split_none (f h l : Int) [hU : U8 f] [U64 h] [U64 l] (w : World) (hf : 4 ≤ f) :
    Calls Tryz.prog 15 #[.int .u8 f, .agg #[.int .u64 (h), .int .u64 (l)]] w fun en w' => GivesS false 0 0 en w' ∧ Below w.heap.size w w' := by
  have hw := (fmt_none f hf).1
  go_enter Tryz.func15, Tryz.ntmps15
  (go_wp2_with fail; refine (ref_Width f _).mono ?_; rw [hw]; rintro en _ ⟨rfl, rfl⟩)
  go_wp2_with fail
  go_returns
  exact ⟨⟨_, rfl, RN.nil _⟩, by go_grown⟩
theorem split_parts (f : Int) (v : Nat) (h0 : 0 ≤ f) (hf : f < 4) :
    (v % 2 ^ (widthS f).toNat).testBit (widthS f - 1).toNat = sgnF f v ∧ v % 2 ^ (widthS f).toNat % 2 ^ (widthS f - 1).toNat / 2 ^ (precS f - 1).toNat = expF f v ∧ v % 2 ^ (widthS f).toNat % 2 ^ (widthS f - 1).toNat % 2 ^ (precS f - 1).toNat = fracF f v := by
  obtain ⟨b1, b2, b3, b4, b5, b6⟩ := fmt_bd f h0 hf
  have e1 : v % 2 ^ (widthS f).toNat % 2 ^ (widthS f - 1).toNat = v % 2 ^ (widthS f - 1).toNat := Nat.mod_mod_of_dvd _ (Nat.pow_dvd_pow 2 (by omega))
  have e2 : (2 : Nat) ^ (widthS f - 1).toNat = 2 ^ (precS f - 1).toNat * 2 ^ (widthS f - precS f).toNat := by rw [← Nat.pow_add]; congr 1; omega
  refine ⟨?_, ?_, ?_⟩
  · unfold sgnF
    rw [if_neg (by omega), Nat.testBit_mod_two_pow, decide_eq_true (by omega), Bool.true_and]
  · unfold expF
    rw [if_neg (by omega), e1, e2, Nat.mod_mul_right_div_self]
  · unfold fracF
    rw [if_neg (by omega), e1]
    exact Nat.mod_mod_of_dvd _ (Nat.pow_dvd_pow 2 (by omega))
theorem exp_lt (f : Int) (v : Nat) : expF f v < 32768 := by
  unfold expF
  split
  · omega
  · have hw : (widthS f - precS f).toNat ≤ 15 := by unfold widthS precS; repeat' split <;> omega
    have := Nat.mod_lt (v / 2 ^ (precS f - 1).toNat) (Nat.two_pow_pos (widthS f - precS f).toNat)
    have h2 : 2 ^ (widthS f - precS f).toNat ≤ 2 ^ 15 := Nat.pow_le_pow_right (by decide) hw
    have h3 : (2 : Nat) ^ 15 = 32768 := by decide
    omega
theorem ref_Split (f h l : Int) [hU : U8 f] [U64 h] [U64 l] (w : World) [hLay : Laid w] :
    Calls Tryz.prog 15 #[.int .u8 f, .agg #[.int .u64 (h), .int .u64 (l)]] w fun en w' => GivesS (sgnF f (cat h l)) (expF f (cat h l)) (fracF f (cat h l)) en w' ∧ Below w.heap.size w w' := by
  by_cases hf : f < 4
  · obtain ⟨p1, p2, p3⟩ := split_parts f (cat h l) U8.ge hf
    have hx := exp_lt f (cat h l)
    have lc := dl_cat h l
    refine split_walk f h l _ _ _ _ _ _ _ w hf rfl rfl p3 p1 rfl rfl ?_ (Nat.le_trans (dl_mono (Nat.mod_le _ _)) lc) (Nat.le_trans (dl_mono (Nat.le_trans (Nat.mod_le _ _) (Nat.mod_le _ _))) lc)
    rw [p2]
    have e : lo (expF f (cat h l)) = (expF f (cat h l) : Int) := by unfold lo; omega
    rw [e]
    exact IntWalk.i64_in _ (by omega)
  · have e1 : sgnF f (cat h l) = false := by unfold sgnF; rw [if_pos (by omega)]
    have e2 : expF f (cat h l) = 0 := by unfold expF; rw [if_pos (by omega)]
    have e3 : fracF f (cat h l) = 0 := by unfold fracF; rw [if_pos (by omega)]
    rw [e1, e2, e3]
    exact split_none f h l w (by omega)
theorem cls_walk (f h l X c : Int) (s : Bool) (d : Nat) [hU : U8 f] [U64 h] [U64 l] (w : World) [hLay : Laid w] (hf : f < 4) (hs : Hid (sgnF f (cat h l) = s)) (hx : Hid ((expF f (cat h l) : Int) = X)) (hd : Hid (fracF f (cat h l) = d)) (x0 : 0 ≤ X) (x1 : X < 32768) (ld : dl d ≤ 100000)
    (hq : (X = 0 ∧ ((d = 0 ∧ c = 0) ∨ (d ≠ 0 ∧ c = 1))) ∨ ((X == 0) = false ∧ (X != 2 * emaxS f + 1) = true ∧ c = 2) ∨ ((X == 0) = false ∧ (X != 2 * emaxS f + 1) = false ∧ ((d = 0 ∧ c = 3) ∨ (d ≠ 0 ∧ ((0 ≤ cmpR d (2 ^ (precS f - 2).toNat) ∧ c = 4) ∨ (cmpR d (2 ^ (precS f - 2).toNat) < 0 ∧ c = 5)))))) :
    Calls Tryz.prog 6 #[.int .u8 f, .agg #[.int .u64 (h), .int .u64 (l)]] w fun en w' => en = .returned (.tuple #[.int .u8 c, .bool s]) ∧ Below w.heap.size w w' := by
  obtain ⟨b1, b2, b3, b4, b5, b6⟩ := fmt_bd f U8.ge hf
  obtain ⟨m0, m1⟩ := emaxS_bd f
  have q1 : decide (f > 3) = false := decide_eq_false (by omega)
  have hp1 : IntKind.i64.wrap (2 * emaxS f) = 2 * emaxS f := IntWalk.i64_in _ (by omega)
  have hp2 : IntKind.i64.wrap (2 * emaxS f + 1) = 2 * emaxS f + 1 := IntWalk.i64_in _ (by omega)
  have hp3 : IntKind.i64.wrap (precS f - 2) = precS f - 2 := IntWalk.i64_in _ (by omega)
  have lp : dl (2 ^ (precS f - 2).toNat) ≤ 100000 := dl_of _ (precS f).toNat (Nat.pow_lt_pow_right (by decide) (by omega)) (by omega)
  rcases hq with ⟨rfl, hq⟩ | ⟨hx0, hx1, rfl⟩ | ⟨hx0, hx1, hq⟩
  · rcases hq with ⟨hd0, rfl⟩ | ⟨hd0, rfl⟩
    · have hdl : dl d = 0 := by rw [hd0, dl_zero]
      clear hd0
      go_enter Tryz.func6, Tryz.ntmps6
      skip
      (go_wp2_with fail; refine (ref_Split f h l _).mono ?_; rw [hs.out, hx.out, hd.out]; rintro en v1 ⟨⟨u1, rfl, hR_u1⟩, hB_v1⟩; have lay_v1 := laid_after hB_v1; have cc1 := cl hB_v1 (show World.cell? _ ⟨w.heap.size, 0, none⟩ = some (.int .u64 h) by go_simp); have cc2 := cl hB_v1 (show World.cell? _ ⟨w.heap.size, 1, none⟩ = some (.int .u64 l) by go_simp); have hs_v1 := hB_v1.size; (try simp only [World.size_alloc, World.size_setCell, World.size_drew] at hs_v1); have hBW : Below w.heap.size w v1 := below_after (w := w) (by go_grown) hB_v1; have hn_v1 := nl cc1; clear hB_v1)
      obtain ⟨qu, cu, rfl, _, _⟩ := id hR_u1
      go_wp2_with fail
      go_returns
      exact ⟨rfl, by go_grown⟩
    · have hdl := dl_ne d hd0
      clear hd0
      go_enter Tryz.func6, Tryz.ntmps6
      skip
      (go_wp2_with fail; refine (ref_Split f h l _).mono ?_; rw [hs.out, hx.out, hd.out]; rintro en v1 ⟨⟨u1, rfl, hR_u1⟩, hB_v1⟩; have lay_v1 := laid_after hB_v1; have cc1 := cl hB_v1 (show World.cell? _ ⟨w.heap.size, 0, none⟩ = some (.int .u64 h) by go_simp); have cc2 := cl hB_v1 (show World.cell? _ ⟨w.heap.size, 1, none⟩ = some (.int .u64 l) by go_simp); have hs_v1 := hB_v1.size; (try simp only [World.size_alloc, World.size_setCell, World.size_drew] at hs_v1); have hBW : Below w.heap.size w v1 := below_after (w := w) (by go_grown) hB_v1; have hn_v1 := nl cc1; clear hB_v1)
      obtain ⟨qu, cu, rfl, _, _⟩ := id hR_u1
      go_wp2_with fail
      go_returns
      exact ⟨rfl, by go_grown⟩
  · go_enter Tryz.func6, Tryz.ntmps6
    skip
    (go_wp2_with fail; refine (ref_Split f h l _).mono ?_; rw [hs.out, hx.out, hd.out]; rintro en v1 ⟨⟨u1, rfl, hR_u1⟩, hB_v1⟩; have lay_v1 := laid_after hB_v1; have cc1 := cl hB_v1 (show World.cell? _ ⟨w.heap.size, 0, none⟩ = some (.int .u64 h) by go_simp); have cc2 := cl hB_v1 (show World.cell? _ ⟨w.heap.size, 1, none⟩ = some (.int .u64 l) by go_simp); have hs_v1 := hB_v1.size; (try simp only [World.size_alloc, World.size_setCell, World.size_drew] at hs_v1); have hBW : Below w.heap.size w v1 := below_after (w := w) (by go_grown) hB_v1; have hn_v1 := nl cc1; clear hB_v1)
    (go_wp2_with fail; refine (ref_Emax f _).mono ?_; rintro en _ ⟨rfl, rfl⟩)
    go_wp2_with fail
    go_returns
    exact ⟨rfl, by go_grown⟩
  · rcases hq with ⟨hd0, rfl⟩ | ⟨hd0, hq⟩
    · have hdl : dl d = 0 := by rw [hd0, dl_zero]
      clear hd0
      go_enter Tryz.func6, Tryz.ntmps6
      skip
      (go_wp2_with fail; refine (ref_Split f h l _).mono ?_; rw [hs.out, hx.out, hd.out]; rintro en v1 ⟨⟨u1, rfl, hR_u1⟩, hB_v1⟩; have lay_v1 := laid_after hB_v1; have cc1 := cl hB_v1 (show World.cell? _ ⟨w.heap.size, 0, none⟩ = some (.int .u64 h) by go_simp); have cc2 := cl hB_v1 (show World.cell? _ ⟨w.heap.size, 1, none⟩ = some (.int .u64 l) by go_simp); have hs_v1 := hB_v1.size; (try simp only [World.size_alloc, World.size_setCell, World.size_drew] at hs_v1); have hBW : Below w.heap.size w v1 := below_after (w := w) (by go_grown) hB_v1; have hn_v1 := nl cc1; clear hB_v1)
      obtain ⟨qu, cu, rfl, _, _⟩ := id hR_u1
      (go_wp2_with fail; refine (ref_Emax f _).mono ?_; rintro en _ ⟨rfl, rfl⟩)
      go_wp2_with fail
      go_returns
      exact ⟨rfl, by go_grown⟩
    · have hdl := dl_ne d hd0
      clear hd0
      have hc : ∃ y, cmpR d (2 ^ (precS f - 2).toNat) = y := ⟨_, rfl⟩
      obtain ⟨y, hc⟩ := hc
      rw [hc] at hq
      replace hc := Lib.hid hc
      rcases hq with ⟨hy, rfl⟩ | ⟨hy, rfl⟩
      all_goals (
        go_enter Tryz.func6, Tryz.ntmps6
        skip
        (go_wp2_with fail; refine (ref_Split f h l _).mono ?_; rw [hs.out, hx.out, hd.out]; rintro en v1 ⟨⟨u1, rfl, hR_u1⟩, hB_v1⟩; have lay_v1 := laid_after hB_v1; have cc1 := cl hB_v1 (show World.cell? _ ⟨w.heap.size, 0, none⟩ = some (.int .u64 h) by go_simp); have cc2 := cl hB_v1 (show World.cell? _ ⟨w.heap.size, 1, none⟩ = some (.int .u64 l) by go_simp); have hs_v1 := hB_v1.size; (try simp only [World.size_alloc, World.size_setCell, World.size_drew] at hs_v1); have hBW : Below w.heap.size w v1 := below_after (w := w) (by go_grown) hB_v1; have hn_v1 := nl cc1; clear hB_v1)
        obtain ⟨qu, cu, rfl, _, _⟩ := id hR_u1
        (go_wp2_with fail; refine (ref_Emax f _).mono ?_; rintro en _ ⟨rfl, rfl⟩)
        (go_wp2_with fail; refine (ref_Prec f _).mono ?_; rintro en _ ⟨rfl, rfl⟩)
        (go_wp2_with fail; refine (num_Full_at (precS f - 2).toNat _ _ (by omega) (by omega)).mono ?_; rintro en v2 ⟨⟨u2, rfl, hR_u2⟩, hB_v2⟩; have lay_v2 := laid_after hB_v2; replace hR_u1 := RN.later hR_u1 (below_after (by go_grown) hB_v2); have hG := cell_grown cc1 (by go_grown) hB_v2; replace cc1 := cl hG cc1; replace cc2 := cl hG cc2; replace hBW := below_after hBW hG; have hs_v2 := hG.size; clear hG; have hn_v2 := nl cc1; clear hB_v2)
        (go_wp2_with fail; refine (num_Cmp d _ _ u2 _ hR_u1 hR_u2 ld lp).mono ?_; rw [hc.out]; rintro en v3 ⟨rfl, hB_v3⟩; have lay_v3 := laid_after hB_v3; replace hR_u1 := RN.later hR_u1 (below_after (by go_grown) hB_v3); replace hR_u2 := RN.later hR_u2 (below_after (by go_grown) hB_v3); have hG := cell_grown cc1 (by go_grown) hB_v3; replace cc1 := cl hG cc1; replace cc2 := cl hG cc2; replace hBW := below_after hBW hG; have hs_v3 := hG.size; clear hG; have hn_v3 := nl cc1; clear hB_v3)
        go_wp2_with fail
        go_returns
        exact ⟨rfl, by go_grown⟩)
theorem frac_lt (f : Int) (v : Nat) (h0 : 0 ≤ f) (hf : f < 4) : fracF f v < 2 ^ (precS f - 1).toNat := by
  unfold fracF; rw [if_neg (by omega)]; exact Nat.mod_lt _ (Nat.two_pow_pos _)
/-- The class and the sign. -/
theorem ref_Of (f h l : Int) [hU : U8 f] [U64 h] [U64 l] (w : World) [hLay : Laid w] :
    Calls Tryz.prog 6 #[.int .u8 f, .agg #[.int .u64 (h), .int .u64 (l)]] w fun en w' => en = .returned (.tuple #[.int .u8 (classF f (cat h l)), .bool (sgnF f (cat h l))]) ∧ Below w.heap.size w w' := by
  by_cases hf : f < 4
  · obtain ⟨b1, b2, b3, b4, b5, b6⟩ := fmt_bd f U8.ge hf
    obtain ⟨x1, x2⟩ := fmt_ex f U8.ge hf
    have hx := exp_lt f (cat h l)
    have hfl := frac_lt f (cat h l) U8.ge hf
    have hel : (expF f (cat h l) : Int) < 2 * emaxS f + 2 := by
      have : expF f (cat h l) < 2 ^ (widthS f - precS f).toNat := by unfold expF; rw [if_neg (by omega)]; exact Nat.mod_lt _ (Nat.two_pow_pos _)
      rw [x1] at this; omega
    have ep : 2 ^ (precS f - 1).toNat = 2 * 2 ^ (precS f - 2).toNat := by rw [← Nat.pow_succ']; congr 1; omega
    refine cls_walk f h l _ _ _ _ w hf rfl rfl rfl (by omega) (by omega) (dl_of _ (precS f - 1).toNat hfl (by omega)) ?_
    unfold classF
    rw [if_neg (by omega)]
    by_cases h1 : expF f (cat h l) = 0
    · left
      rw [if_pos h1, h1]
      refine ⟨rfl, ?_⟩
      by_cases h2 : fracF f (cat h l) = 0
      · exact Or.inl ⟨h2, by rw [if_pos h2]⟩
      · exact Or.inr ⟨h2, by rw [if_neg h2]⟩
    · right
      rw [if_neg h1]
      have h1' : ((expF f (cat h l) : Int) == 0) = false := by rw [beq_eq_false_iff_ne]; omega
      by_cases h2 : (expF f (cat h l) : Int) < 2 * emaxS f + 1
      · exact Or.inl ⟨h1', by rw [bne_iff_ne]; omega, by rw [if_pos h2]⟩
      · right
        rw [if_neg h2]
        refine ⟨h1', by rw [bne_eq_false_iff_eq]; omega, ?_⟩
        by_cases h3 : fracF f (cat h l) = 0
        · exact Or.inl ⟨h3, by rw [if_pos h3]⟩
        · right
          rw [if_neg h3]
          refine ⟨h3, ?_⟩
          rw [ep] at hfl
          generalize fracF f (cat h l) = d at *
          have hb : d.testBit (precS f - 2).toNat = decide (2 ^ (precS f - 2).toNat ≤ d) := by
            rw [bit_div]
            by_cases h4 : 2 ^ (precS f - 2).toNat ≤ d
            · rw [decide_eq_true h4, decide_eq_true]
              have : d / 2 ^ (precS f - 2).toNat = 1 := Nat.div_eq_of_lt_le (by omega) (by omega)
              rw [this]
            · rw [decide_eq_false h4, decide_eq_false]
              rw [Nat.div_eq_of_lt (by omega)]; decide
          rw [hb]
          by_cases h4 : 2 ^ (precS f - 2).toNat ≤ d
          · left
            refine ⟨?_, by rw [decide_eq_true h4]; rfl⟩
            unfold cmpR; rw [if_neg (by omega)]; split <;> omega
          · right
            refine ⟨?_, by rw [decide_eq_false h4]; rfl⟩
            rw [cmpR_lt (by omega)]; decide
  · have e1 : sgnF f (cat h l) = false := by unfold sgnF; rw [if_pos (by omega)]
    have e2 : classF f (cat h l) = 0 := by unfold classF; rw [if_pos (by omega)]
    have q1 : decide (f > 3) = true := decide_eq_true (by omega)
    rw [e1, e2]
    clear e1 e2
    go_enter Tryz.func6, Tryz.ntmps6
    go_wp2_with fail
    go_returns
    exact ⟨rfl, by go_grown⟩
theorem ref_NaN (f h l : Int) [hU : U8 f] [U64 h] [U64 l] (w : World) [hLay : Laid w] :
    Calls Tryz.prog 81 #[.int .u8 f, .agg #[.int .u64 (h), .int .u64 (l)]] w fun en w' => en = .returned (.bool (decide (4 ≤ classF f (cat h l)))) ∧ Below w.heap.size w w' := by
  have hc := classF_bd f (cat h l)
  generalize hC : classF f (cat h l) = c at hc
  replace hC := Lib.hid hC
  have : (c = 0 ∨ c = 1 ∨ c = 2 ∨ c = 3) ∨ c = 4 ∨ c = 5 := by omega
  rcases this with hlt | rfl | rfl
  · have e : decide (4 ≤ c) = false := decide_eq_false (by omega)
    have e4 : (c == 4) = false := by rw [beq_eq_false_iff_ne]; omega
    have e5 : (c == 5) = false := by rw [beq_eq_false_iff_ne]; omega
    rw [e]
    clear e hlt hc
    go_enter Tryz.func81, Tryz.ntmps81
    skip
    (go_wp2_with fail; refine (ref_Of f _ _ _).mono ?_; rw [hC.out]; rintro en v1 ⟨rfl, hB_v1⟩; have lay_v1 := laid_after hB_v1; have cc1 := cl hB_v1 (show World.cell? _ ⟨w.heap.size, 0, none⟩ = some (.int .u64 h) by go_simp); have cc2 := cl hB_v1 (show World.cell? _ ⟨w.heap.size, 1, none⟩ = some (.int .u64 l) by go_simp); have hs_v1 := hB_v1.size; (try simp only [World.size_alloc, World.size_setCell, World.size_drew] at hs_v1); have hBW : Below w.heap.size w v1 := below_after (w := w) (by go_grown) hB_v1; have hn_v1 := nl cc1; clear hB_v1)
    go_wp2_with fail
    go_returns
    exact ⟨rfl, by go_grown⟩
  all_goals (
    go_enter Tryz.func81, Tryz.ntmps81
    skip
    (go_wp2_with fail; refine (ref_Of f _ _ _).mono ?_; rw [hC.out]; rintro en v1 ⟨rfl, hB_v1⟩; have lay_v1 := laid_after hB_v1; have cc1 := cl hB_v1 (show World.cell? _ ⟨w.heap.size, 0, none⟩ = some (.int .u64 h) by go_simp); have cc2 := cl hB_v1 (show World.cell? _ ⟨w.heap.size, 1, none⟩ = some (.int .u64 l) by go_simp); have hs_v1 := hB_v1.size; (try simp only [World.size_alloc, World.size_setCell, World.size_drew] at hs_v1); have hBW : Below w.heap.size w v1 := below_after (w := w) (by go_grown) hB_v1; have hn_v1 := nl cc1; clear hB_v1)
    go_wp2_with fail
    go_returns
    exact ⟨rfl, by go_grown⟩)
theorem ref_Signaling (f h l : Int) [hU : U8 f] [U64 h] [U64 l] (w : World) [hLay : Laid w] :
    Calls Tryz.prog 83 #[.int .u8 f, .agg #[.int .u64 (h), .int .u64 (l)]] w fun en w' => en = .returned (.bool (decide (classF f (cat h l) = 5))) ∧ Below w.heap.size w w' := by
  by_cases h5 : classF f (cat h l) = 5
  · have h5' := Lib.hid h5
    rw [decide_eq_true h5]
    clear h5
    go_enter Tryz.func83, Tryz.ntmps83
    skip
    (go_wp2_with fail; refine (ref_Of f _ _ _).mono ?_; rw [h5'.out]; rintro en v1 ⟨rfl, hB_v1⟩; have lay_v1 := laid_after hB_v1; have cc1 := cl hB_v1 (show World.cell? _ ⟨w.heap.size, 0, none⟩ = some (.int .u64 h) by go_simp); have cc2 := cl hB_v1 (show World.cell? _ ⟨w.heap.size, 1, none⟩ = some (.int .u64 l) by go_simp); have hs_v1 := hB_v1.size; (try simp only [World.size_alloc, World.size_setCell, World.size_drew] at hs_v1); have hBW : Below w.heap.size w v1 := below_after (w := w) (by go_grown) hB_v1; have hn_v1 := nl cc1; clear hB_v1)
    go_wp2_with fail
    go_returns
    exact ⟨rfl, by go_grown⟩
  · rw [decide_eq_false h5]
    have e5 : (classF f (cat h l) == 5) = false := by rw [beq_eq_false_iff_ne]; exact h5
    clear h5
    go_enter Tryz.func83, Tryz.ntmps83
    skip
    (go_wp2_with fail; refine (ref_Of f _ _ _).mono ?_; rintro en v1 ⟨rfl, hB_v1⟩; have lay_v1 := laid_after hB_v1; have cc1 := cl hB_v1 (show World.cell? _ ⟨w.heap.size, 0, none⟩ = some (.int .u64 h) by go_simp); have cc2 := cl hB_v1 (show World.cell? _ ⟨w.heap.size, 1, none⟩ = some (.int .u64 l) by go_simp); have hs_v1 := hB_v1.size; (try simp only [World.size_alloc, World.size_setCell, World.size_drew] at hs_v1); have hBW : Below w.heap.size w v1 := below_after (w := w) (by go_grown) hB_v1; have hn_v1 := nl cc1; clear hB_v1)
    go_wp2_with fail
    go_returns
    exact ⟨rfl, by go_grown⟩
end Go.Proofs.YtkpjeceofcfnkaaGreatDoor
namespace Go.Proofs.YtkpjeceofcfnkaaGreatDoor
open Go.RowKit Go.Hb
def mR (f : Int) (v : Nat) : Nat := if expF f v = 0 then fracF f v else fracF f v + 2 ^ (precS f - 1).toNat
def eR (f : Int) (v : Nat) : Int := (if expF f v = 0 then 1 else (expF f v : Int)) - emaxS f - (precS f - 1)
def GivesW (s : Bool) (n : Nat) (E : Int) (e : Ending) (w : World) : Prop := ∃ u, e = .returned (.agg #[.bool s, u, .int .i64 E]) ∧ RN w u n
theorem nine_walk (f h l X E : Int) (s : Bool) (d M : Nat) [hU : U8 f] [U64 h] [U64 l] (w : World) [hLay : Laid w] (hf : f < 4) (hs : Hid (sgnF f (cat h l) = s)) (hx : Hid ((expF f (cat h l) : Int) = X)) (hd : Hid (fracF f (cat h l) = d)) (x0 : 0 ≤ X) (x1 : X < 32768) (ld : dl d ≤ 100000)
    (hq : (X = 0 ∧ d = M ∧ 1 - emaxS f - (precS f - 1) = E) ∨ ((X == 0) = false ∧ d + 2 ^ (precS f - 1).toNat = M ∧ X - emaxS f - (precS f - 1) = E)) :
    Calls Tryz.prog 24 #[.int .u8 f, .agg #[.int .u64 (h), .int .u64 (l)]] w fun en w' => GivesW s M E en w' ∧ Below w.heap.size w w' := by
  obtain ⟨b1, b2, b3, b4, b5, b6⟩ := fmt_bd f U8.ge hf
  obtain ⟨m0, m1⟩ := emaxS_bd f
  have lp : dl (2 ^ (precS f - 1).toNat) ≤ 100000 := dl_of _ (precS f).toNat (Nat.pow_lt_pow_right (by decide) (by omega)) (by omega)
  rcases hq with ⟨rfl, hM, hE⟩ | ⟨hx0, hM, hE⟩
  · go_enter Tryz.func24, Tryz.ntmps24
    skip
    (go_wp2_with fail; refine (ref_Split f h l _).mono ?_; rw [hs.out, hx.out, hd.out]; rintro en v1 ⟨⟨u1, rfl, hR_u1⟩, hB_v1⟩; have lay_v1 := laid_after hB_v1; have cc1 := cl hB_v1 (show World.cell? _ ⟨w.heap.size, 0, none⟩ = some (.int .u64 h) by go_simp); have cc2 := cl hB_v1 (show World.cell? _ ⟨w.heap.size, 1, none⟩ = some (.int .u64 l) by go_simp); obtain ⟨cc3, fcc3⟩ := pf hB_v1 (show World.cell? _ ⟨w.heap.size + 1, 0, none⟩ = some (.bool false) by go_simp) (by go_simp); obtain ⟨cc4, fcc4⟩ := pf hB_v1 (show World.cell? _ ⟨w.heap.size + 1, 1, none⟩ = some (.slice none 0 0) by go_simp) (by go_simp); obtain ⟨cc5, fcc5⟩ := pf hB_v1 (show World.cell? _ ⟨w.heap.size + 1, 2, none⟩ = some (.int .i64 0) by go_simp) (by go_simp); have hs_v1 := hB_v1.size; (try simp only [World.size_alloc, World.size_setCell, World.size_drew] at hs_v1); have hBW : Below w.heap.size w v1 := below_after (w := w) (by go_grown) hB_v1; have hn_v1 := an (nl cc1) (nl cc3); clear hB_v1)
    rw [hM] at hR_u1
    obtain ⟨qu, cu, rfl, _, _⟩ := id hR_u1
    (go_wp2_with fail; refine (ref_Prec f _).mono ?_; rintro en _ ⟨rfl, rfl⟩)
    (go_wp2_with fail; refine (ref_Emax f _).mono ?_; rintro en _ ⟨rfl, rfl⟩)
    go_wp2_with fail
    refine bodyPost_ret (by simp [results, Tryz.results24, go_sem, cc3, cc4, cc5]; try rfl) rfl ?_
    refine ⟨⟨_, rfl, ?_⟩, by go_grown⟩
    refine RN.set (x := .int .i64 0) (RN.set (x := .slice none 0 0) (RN.set (x := .bool false) hR_u1 cc3 (fun k h => by cases h)) ?_ (fun k h => by cases h)) ?_ (fun k h => by cases h)
    all_goals go_simp
  · go_enter Tryz.func24, Tryz.ntmps24
    skip
    (go_wp2_with fail; refine (ref_Split f h l _).mono ?_; rw [hs.out, hx.out, hd.out]; rintro en v1 ⟨⟨u1, rfl, hR_u1⟩, hB_v1⟩; have lay_v1 := laid_after hB_v1; have cc1 := cl hB_v1 (show World.cell? _ ⟨w.heap.size, 0, none⟩ = some (.int .u64 h) by go_simp); have cc2 := cl hB_v1 (show World.cell? _ ⟨w.heap.size, 1, none⟩ = some (.int .u64 l) by go_simp); obtain ⟨cc3, fcc3⟩ := pf hB_v1 (show World.cell? _ ⟨w.heap.size + 1, 0, none⟩ = some (.bool false) by go_simp) (by go_simp); obtain ⟨cc4, fcc4⟩ := pf hB_v1 (show World.cell? _ ⟨w.heap.size + 1, 1, none⟩ = some (.slice none 0 0) by go_simp) (by go_simp); obtain ⟨cc5, fcc5⟩ := pf hB_v1 (show World.cell? _ ⟨w.heap.size + 1, 2, none⟩ = some (.int .i64 0) by go_simp) (by go_simp); have hs_v1 := hB_v1.size; (try simp only [World.size_alloc, World.size_setCell, World.size_drew] at hs_v1); have hBW : Below w.heap.size w v1 := below_after (w := w) (by go_grown) hB_v1; have hn_v1 := an (nl cc1) (nl cc3); clear hB_v1)
    (go_wp2_with fail; refine (ref_Prec f _).mono ?_; rintro en _ ⟨rfl, rfl⟩)
    (go_wp2_with fail; refine (num_Full_at (precS f - 1).toNat _ _ (by omega) (by omega)).mono ?_; rintro en v2 ⟨⟨u2, rfl, hR_u2⟩, hB_v2⟩; have lay_v2 := laid_after hB_v2; replace hR_u1 := RN.later hR_u1 (below_after (by go_grown) hB_v2); have hG := cell_grown cc1 (by go_grown) hB_v2; replace cc1 := cl hG cc1; replace cc2 := cl hG cc2; replace fcc3 := fl hG fcc3 cc3; replace cc3 := cl hG cc3; replace fcc4 := fl hG fcc4 cc4; replace cc4 := cl hG cc4; replace fcc5 := fl hG fcc5 cc5; replace cc5 := cl hG cc5; replace hBW := below_after hBW hG; have hs_v2 := hG.size; clear hG; have hn_v2 := an (nl cc1) (nl cc3); clear hB_v2)
    (go_wp2_with fail; refine (num_Add d _ u1 u2 _ hR_u1 hR_u2 ld lp).mono ?_; rw [hM]; rintro en v3 ⟨⟨u3, rfl, hR_u3⟩, hB_v3⟩; have lay_v3 := laid_after hB_v3; replace hR_u1 := RN.later hR_u1 (below_after (by go_grown) hB_v3); replace hR_u2 := RN.later hR_u2 (below_after (by go_grown) hB_v3); have hG := cell_grown cc1 (by go_grown) hB_v3; replace cc1 := cl hG cc1; replace cc2 := cl hG cc2; replace fcc3 := fl hG fcc3 cc3; replace cc3 := cl hG cc3; replace fcc4 := fl hG fcc4 cc4; replace cc4 := cl hG cc4; replace fcc5 := fl hG fcc5 cc5; replace cc5 := cl hG cc5; replace hBW := below_after hBW hG; have hs_v3 := hG.size; clear hG; have hn_v3 := an (nl cc1) (nl cc3); clear hB_v3)
    obtain ⟨qu, cu, rfl, _, _⟩ := id hR_u3
    (go_wp2_with fail; refine (ref_Emax f _).mono ?_; rintro en _ ⟨rfl, rfl⟩)
    go_wp2_with fail
    refine bodyPost_ret (by simp [results, Tryz.results24, go_sem, cc3, cc4, cc5]; try rfl) rfl ?_
    refine ⟨⟨_, rfl, ?_⟩, by go_grown⟩
    refine RN.set (x := .int .i64 0) (RN.set (x := .slice none 0 0) (RN.set (x := .bool false) hR_u3 cc3 (fun k h => by cases h)) ?_ (fun k h => by cases h)) ?_ (fun k h => by cases h)
    all_goals go_simp
theorem ref_Nine (f h l : Int) [hU : U8 f] [U64 h] [U64 l] (w : World) [hLay : Laid w] (hf : f < 4) :
    Calls Tryz.prog 24 #[.int .u8 f, .agg #[.int .u64 (h), .int .u64 (l)]] w fun en w' => GivesW (sgnF f (cat h l)) (mR f (cat h l)) (eR f (cat h l)) en w' ∧ Below w.heap.size w w' := by
  obtain ⟨b1, b2, b3, b4, b5, b6⟩ := fmt_bd f U8.ge hf
  have hx := exp_lt f (cat h l)
  refine nine_walk f h l _ _ _ _ _ w hf rfl rfl rfl (by omega) (by omega) (dl_of _ (precS f - 1).toNat (frac_lt f (cat h l) U8.ge hf) (by omega)) ?_
  unfold mR eR
  by_cases h0 : expF f (cat h l) = 0
  · left; rw [if_pos h0, if_pos h0, h0]; exact ⟨rfl, rfl, rfl⟩
  · right; rw [if_neg h0, if_neg h0]; exact ⟨by rw [beq_eq_false_iff_ne]; omega, rfl, rfl⟩
/-- The exact number, in codes. -/
theorem val_exact (f : Int) (v : Nat) (h0 : 0 ≤ f) (hf : f < 4) : mR f v * 2 ^ (eR f v + (255 + KK)).toNat = valC (precS f).toNat (unitB f KK) (codeF f v) := by
  obtain ⟨b1, b2, b3, b4, b5, b6⟩ := fmt_bd f h0 hf
  obtain ⟨m0, m1⟩ := emaxS_bd f
  have hfl := frac_lt f v h0 hf
  have hp : (precS f).toNat - 1 = (precS f - 1).toNat := by omega
  have hk : (20000 : Int) ≤ KK := by unfold KK; omega
  unfold valC codeF mR eR unitB leastS
  rw [hp]
  have hup := Nat.two_pow_pos (precS f - 1).toNat
  by_cases hx : expF f v = 0
  · rw [if_pos hx, if_pos hx, hx, Nat.zero_mul, Nat.zero_add, if_pos hfl]
    congr 2
    omega
  · rw [if_neg hx, if_neg hx]
    have h1 : 1 * 2 ^ (precS f - 1).toNat ≤ expF f v * 2 ^ (precS f - 1).toNat := Nat.mul_le_mul_right _ (by omega)
    rw [if_neg (by omega)]
    have e1 : (expF f v * 2 ^ (precS f - 1).toNat + fracF f v) % 2 ^ (precS f - 1).toNat = fracF f v := by rw [Nat.add_comm, Nat.add_mul_mod_self_right, Nat.mod_eq_of_lt hfl]
    have e2 : (expF f v * 2 ^ (precS f - 1).toNat + fracF f v) / 2 ^ (precS f - 1).toNat = expF f v := by rw [Nat.add_comm, Nat.add_mul_div_right _ _ hup, Nat.div_eq_of_lt hfl, Nat.zero_add]
    rw [e1, e2, Nat.add_comm (fracF f v)]
    congr 2
    omega
theorem mR_dl (f : Int) (v : Nat) (h0 : 0 ≤ f) (hf : f < 4) : dl (mR f v) ≤ 10 ∧ blen (mR f v) ≤ 200 := by
  obtain ⟨b1, b2, b3, b4, b5, b6⟩ := fmt_bd f h0 hf
  have hfl := frac_lt f v h0 hf
  have h1 : mR f v < 2 ^ ((precS f - 1).toNat + 1) := by
    unfold mR
    rw [Nat.pow_succ]
    split <;> omega
  have h2 := blen_le_of _ _ h1
  exact ⟨by unfold dl; omega, by omega⟩
theorem eR_bd (f : Int) (v : Nat) (h0 : 0 ≤ f) (hf : f < 4) : -100000 ≤ eR f v ∧ eR f v ≤ 100000 := by
  obtain ⟨b1, b2, b3, b4, b5, b6⟩ := fmt_bd f h0 hf
  obtain ⟨m0, m1⟩ := emaxS_bd f
  have hx := exp_lt f v
  unfold eR
  split <;> omega
/-- Whole numbers: rounded, and whether it is another one. -/
def wholeR (f m : Int) (v : Nat) : Nat := cutR m (sgnF f v) (mR f v) (-(eR f v))
def otherR (f : Int) (v : Nat) : Bool := restR (mR f v) (-(eR f v)) != 0
theorem cutR_zero (m : Int) (s : Bool) (M : Nat) (E : Int) (hE : 0 ≤ E) : cutR m s M (-E) = M * 2 ^ E.toNat ∧ restR M (-E) = 0 := by
  have e : restR M (-E) = 0 := by unfold restR; rw [if_pos (by omega)]
  refine ⟨?_, e⟩
  unfold cutR
  rw [e, next_zero]
  unfold floorR
  rw [if_pos (by omega), show (- -E).toNat = E.toNat by omega]
  rfl
def GivesNO (n : Nat) (b : Bool) (e : Ending) (w : World) : Prop := ∃ u, e = .returned (.tuple #[u, .bool b]) ∧ RN w u n
theorem whole_walk (f m h l E r : Int) (s o : Bool) (M n : Nat) [hU : U8 f] [U64 h] [U64 l] (w : World) [hLay : Laid w] (hf : f < 4) (m0 : 0 ≤ m) (m1 : m ≤ 4) (hs : Hid (sgnF f (cat h l) = s)) (hM : Hid (mR f (cat h l) = M)) (hE : Hid (eR f (cat h l) = E)) (e0 : -100000 ≤ E) (e1 : E ≤ 100000) (lM : dl M ≤ 30000)
    (hq : (0 ≤ E ∧ Hid (M * 2 ^ E.toNat = n) ∧ o = false) ∨ (¬ 0 ≤ E ∧ Hid (cutR m s M (-E) = n) ∧ Hid (restR M (-E) = r) ∧ (r != 0) = o)) :
    Calls Tryz.prog 7 #[.int .u8 f, .int .u8 m, .agg #[.int .u64 (h), .int .u64 (l)]] w fun en w' => GivesNO n o en w' ∧ Below w.heap.size w w' := by
  have hng : IntKind.i64.wrap (-E) = -E := IntWalk.i64_in _ (by omega)
  rcases hq with ⟨h1, h2, rfl⟩ | ⟨h1, h2, h3, h4⟩
  · go_enter Tryz.func7, Tryz.ntmps7
    skip
    (go_wp2_with fail; refine (ref_Nine f h l _ hf).mono ?_; rw [hs.out, hM.out, hE.out]; rintro en v1 ⟨⟨u1, rfl, hR_u1⟩, hB_v1⟩; have lay_v1 := laid_after hB_v1; have cc1 := cl hB_v1 (show World.cell? _ ⟨w.heap.size, 0, none⟩ = some (.int .u64 h) by go_simp); have cc2 := cl hB_v1 (show World.cell? _ ⟨w.heap.size, 1, none⟩ = some (.int .u64 l) by go_simp); have hs_v1 := hB_v1.size; (try simp only [World.size_alloc, World.size_setCell, World.size_drew] at hs_v1); have hBW : Below w.heap.size w v1 := below_after (w := w) (by go_grown) hB_v1; have hn_v1 := nl cc1; clear hB_v1)
    obtain ⟨qu, cu, rfl, _, _⟩ := id hR_u1
    (go_wp2_with fail; refine (num_Shl_at M E.toNat _ _ _ (by omega) (hR_u1.later (by go_grown)) (by omega) (by omega)).mono ?_; rw [h2.out]; rintro en v2 ⟨⟨u2, rfl, hR_u2⟩, hB_v2⟩; have lay_v2 := laid_after hB_v2; replace hR_u1 := RN.later hR_u1 (below_after (by go_grown) hB_v2); have hG := cell_grown cc1 (by go_grown) hB_v2; replace cc1 := cl hG cc1; replace cc2 := cl hG cc2; have cc3 := cl hB_v2 (show World.cell? _ ⟨v1.heap.size, 0, none⟩ = some (.bool s) by go_simp); have cc4 := cl hB_v2 (show World.cell? _ ⟨v1.heap.size, 1, none⟩ = some (.slice qu (dl M) cu) by go_simp); have cc5 := cl hB_v2 (show World.cell? _ ⟨v1.heap.size, 2, none⟩ = some (.int .i64 E) by go_simp); replace hBW := below_after hBW hG; have hs_v2 := hG.size; clear hG; have hn_v2 := an (nl cc1) (nl cc3); clear hB_v2)
    go_wp2_with fail
    go_returns
    exact ⟨⟨_, rfl, hR_u2⟩, by go_grown⟩
  · go_enter Tryz.func7, Tryz.ntmps7
    skip
    (go_wp2_with fail; refine (ref_Nine f h l _ hf).mono ?_; rw [hs.out, hM.out, hE.out]; rintro en v1 ⟨⟨u1, rfl, hR_u1⟩, hB_v1⟩; have lay_v1 := laid_after hB_v1; have cc1 := cl hB_v1 (show World.cell? _ ⟨w.heap.size, 0, none⟩ = some (.int .u64 h) by go_simp); have cc2 := cl hB_v1 (show World.cell? _ ⟨w.heap.size, 1, none⟩ = some (.int .u64 l) by go_simp); have hs_v1 := hB_v1.size; (try simp only [World.size_alloc, World.size_setCell, World.size_drew] at hs_v1); have hBW : Below w.heap.size w v1 := below_after (w := w) (by go_grown) hB_v1; have hn_v1 := nl cc1; clear hB_v1)
    obtain ⟨qu, cu, rfl, _, _⟩ := id hR_u1
    (go_wp2_with fail; refine (ref_Cut_at M (-E) _ m s _ _ rfl (hR_u1.later (by go_grown)) lM (by omega) (by omega) m0 m1).mono ?_; rw [h2.out, h3.out]; rintro en v2 ⟨⟨u2, rfl, hR_u2⟩, hB_v2⟩; have lay_v2 := laid_after hB_v2; replace hR_u1 := RN.later hR_u1 (below_after (by go_grown) hB_v2); have hG := cell_grown cc1 (by go_grown) hB_v2; replace cc1 := cl hG cc1; replace cc2 := cl hG cc2; have cc3 := cl hB_v2 (show World.cell? _ ⟨v1.heap.size, 0, none⟩ = some (.bool s) by go_simp); have cc4 := cl hB_v2 (show World.cell? _ ⟨v1.heap.size, 1, none⟩ = some (.slice qu (dl M) cu) by go_simp); have cc5 := cl hB_v2 (show World.cell? _ ⟨v1.heap.size, 2, none⟩ = some (.int .i64 E) by go_simp); replace hBW := below_after hBW hG; have hs_v2 := hG.size; clear hG; have hn_v2 := an (nl cc1) (nl cc3); clear hB_v2)
    go_wp2_with fail
    go_returns
    exact ⟨⟨_, rfl, hR_u2⟩, by go_grown⟩
theorem ref_Whole (f m h l : Int) [hU : U8 f] [hM : U8 m] [U64 h] [U64 l] (w : World) [hLay : Laid w] (hf : f < 4) (m1 : m ≤ 4) :
    Calls Tryz.prog 7 #[.int .u8 f, .int .u8 m, .agg #[.int .u64 (h), .int .u64 (l)]] w fun en w' => GivesNO (wholeR f m (cat h l)) (otherR f (cat h l)) en w' ∧ Below w.heap.size w w' := by
  obtain ⟨e0, e1⟩ := eR_bd f (cat h l) U8.ge hf
  obtain ⟨l0, _⟩ := mR_dl f (cat h l) U8.ge hf
  refine whole_walk f m h l (eR f (cat h l)) (restR (mR f (cat h l)) (-(eR f (cat h l)))) _ _ _ _ w hf hM.ge m1 rfl rfl rfl e0 e1 (by omega) ?_
  unfold wholeR otherR
  by_cases h0 : 0 ≤ eR f (cat h l)
  · left
    obtain ⟨g1, g2⟩ := cutR_zero m (sgnF f (cat h l)) (mR f (cat h l)) _ h0
    rw [g1, g2]
    exact ⟨h0, rfl, rfl⟩
  · exact Or.inr ⟨h0, rfl, rfl, rfl⟩
theorem wholeR_dl3 (f m : Int) (v : Nat) (h0 : 0 ≤ f) (hf : f < 4) : dl (wholeR f m v) ≤ 30000 := by
  obtain ⟨e0, e1⟩ := eR_bd f v h0 hf
  obtain ⟨_, l1⟩ := mR_dl f v h0 hf
  have hM := lt_of_blen _ _ l1
  have hK : ∃ K : Nat, K = 300000 := ⟨_, rfl⟩
  obtain ⟨K, hK⟩ := hK
  have key : wholeR f m v ≤ 2 ^ K := by
    have hfl : floorR (mR f v) (-(eR f v)) + 1 ≤ 2 ^ K := by
      unfold floorR
      split
      · have h1 : mR f v * 2 ^ (- -(eR f v)).toNat < 2 ^ 200 * 2 ^ (- -(eR f v)).toNat := Nat.mul_lt_mul_of_pos_right hM (Nat.two_pow_pos _)
        rw [← Nat.pow_add] at h1
        exact Nat.le_trans h1 (Nat.pow_le_pow_right (by decide) (by omega))
      · exact Nat.le_trans (Nat.lt_of_le_of_lt (Nat.div_le_self _ _) hM) (Nat.pow_le_pow_right (by decide) (by omega))
    unfold wholeR cutR
    split <;> omega
  have hb := blen_le_of _ (K + 1) (Nat.lt_of_le_of_lt key (Nat.pow_lt_pow_right (by decide) (by omega)))
  unfold dl
  omega
theorem wholeR_dl (f m : Int) (v : Nat) (h0 : 0 ≤ f) (hf : f < 4) : dl (wholeR f m v) ≤ 100000 := Nat.le_trans (wholeR_dl3 f m v h0 hf) (by omega)
theorem rnd_whole (f m : Int) (v : Nat) (h0 : 0 ≤ f) (hf : f < 4) : rndN (255 + KK).toNat m (sgnF f v) (valC (precS f).toNat (unitB f KK) (codeF f v)) = wholeR f m v ∧ (restN (valC (precS f).toNat (unitB f KK) (codeF f v)) (255 + KK).toNat != 0) = otherR f v := by
  obtain ⟨e0, e1⟩ := eR_bd f v h0 hf
  have hk : 0 ≤ KK - 200000 := by unfold KK; omega
  obtain ⟨c1, c2⟩ := cut_unit (mR f v) (255 + KK).toNat (eR f v) (255 + KK) 0 (by omega) (by omega)
  rw [Int.zero_sub] at c1 c2
  rw [← val_exact f v h0 hf]
  unfold rndN wholeR otherR cutR
  rw [c1, c2]
  exact ⟨rfl, rfl⟩
end Go.Proofs.YtkpjeceofcfnkaaGreatDoor
