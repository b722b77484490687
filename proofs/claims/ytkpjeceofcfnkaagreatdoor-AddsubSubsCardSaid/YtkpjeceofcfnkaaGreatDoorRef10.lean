/- The contracts of the reference's NaNs (chapter 10): Default, Quiet, Pick of one and of two: for every input. Condition: the listed table is laid. -/
import Derived.Test.YtkpjeceofcfnkaaGreatDoorRef8
import Derived.Test.YtkpjeceofcfnkaaGreatDoorNan2
set_option maxRecDepth 100000
set_option maxHeartbeats 4000000
set_option linter.unusedSimpArgs false
set_option linter.unusedVariables false
namespace Go.Proofs.YtkpjeceofcfnkaaGreatDoor
open Go.RowKit Go.Hb
theorem one_low (k : Int) : lsh (cat 0 1) k = 2 ^ k.toNat := by unfold lsh; rw [show cat 0 1 = 1 from rfl, Nat.one_mul]
theorem defF_two (f : Int) (h0 : 0 ≤ f) : defF f = makeF f false (2 * emaxS f + 1) (2 ^ (precS f - 2).toNat) := by
  obtain ⟨p0, p1⟩ := precS_bd f
  unfold defF
  rw [one_low, cat_small _ (Nat.pow_lt_pow_right (by decide) (by omega))]
theorem defF_none (f : Int) (hf : ¬ f < 4) : makeF f false (2 * emaxS f + 1) (2 ^ (precS f - 2).toNat) = 0 := by
  unfold makeF
  simp [hf]
theorem ref_Default (f : Int) [hU : U8 f] (w : World) [hLay : Laid w] (hf : f < 4) :
    Calls Tryz.prog 80 #[.int .u8 f] w fun en w' => en = .returned (.agg #[.int .u64 (hi (defF f)), .int .u64 (lo (defF f))]) ∧ Below w.heap.size w w' := by
  obtain ⟨b1, b2, b3, b4, b5, b6⟩ := fmt_bd f U8.ge hf
  obtain ⟨m0, m1⟩ := emaxS_bd f
  have q1 : decide (f > 3) = false := decide_eq_false (by omega)
  have lp : dl (2 ^ (precS f - 2).toNat) ≤ 100000 := dl_of _ (precS f).toNat (Nat.pow_lt_pow_right (by decide) (by omega)) (by omega)
  have hw1 : IntKind.i64.wrap (precS f - 2) = precS f - 2 := IntWalk.i64_in _ (by omega)
  have hw2 : IntKind.i64.wrap (2 * emaxS f) = 2 * emaxS f := IntWalk.i64_in _ (by omega)
  have hw3 : IntKind.i64.wrap (2 * emaxS f + 1) = 2 * emaxS f + 1 := IntWalk.i64_in _ (by omega)
  rw [defF_two f U8.ge]
  go_enter Tryz.func80, Tryz.ntmps80
  skip
  (go_wp2_with fail; refine (ref_Emax f _).mono ?_; rintro en _ ⟨rfl, rfl⟩)
  (go_wp2_with fail; refine (ref_Prec f _).mono ?_; rintro en _ ⟨rfl, rfl⟩)
  (go_wp2_with fail; refine (num_Full_at (precS f - 2).toNat _ _ (by omega) (by omega)).mono ?_; rintro en v1 ⟨⟨u1, rfl, hR_u1⟩, hB_v1⟩; have lay_v1 := laid_after hB_v1; obtain ⟨cc1, fcc1⟩ := pf hB_v1 (show World.cell? _ ⟨w.heap.size, 0, none⟩ = some (.int .u64 0) by go_simp) (by go_simp); obtain ⟨cc2, fcc2⟩ := pf hB_v1 (show World.cell? _ ⟨w.heap.size, 1, none⟩ = some (.int .u64 0) by go_simp) (by go_simp); have hs_v1 := hB_v1.size; (try simp only [World.size_alloc, World.size_setCell, World.size_drew] at hs_v1); have hBW : Below w.heap.size w v1 := below_after (w := w) (by go_grown) hB_v1; have hn_v1 := nl cc1; clear hB_v1)
  (go_wp2_with fail; refine (ref_Make_at f (2 * emaxS f + 1) _ false u1 _ _ rfl hf (by omega) (by omega) hR_u1 lp).mono ?_; rintro en v2 ⟨rfl, hB_v2⟩; have lay_v2 := laid_after hB_v2; replace hR_u1 := RN.later hR_u1 (below_after (by go_grown) hB_v2); have hG := cell_grown cc1 (by go_grown) hB_v2; replace fcc1 := fl hG fcc1 cc1; replace cc1 := cl hG cc1; replace fcc2 := fl hG fcc2 cc2; replace cc2 := cl hG cc2; replace hBW := below_after hBW hG; have hs_v2 := hG.size; clear hG; have hn_v2 := nl cc1; clear hB_v2)
  go_wp2_with fail
  refine bodyPost_ret (by simp [results, Tryz.results80, go_sem, cc1, cc2]; try rfl) rfl ?_
  exact ⟨rfl, by go_grown⟩
theorem quiet_bit (f : Int) (v : Nat) (h0 : 0 ≤ f) (hf : f < 4) : quietF f v = lowN v (widthS f) + (if classF f v = 5 then 2 ^ (precS f - 2).toNat else 0) := by
  obtain ⟨b1, b2, b3, b4, b5, b6⟩ := fmt_bd f h0 hf
  have hb : (lowN v (widthS f)).testBit (precS f - 2).toNat = (fracF f v).testBit (precS f - 2).toNat := by
    unfold lowN fracF
    rw [if_neg (by omega), Nat.testBit_mod_two_pow, Nat.testBit_mod_two_pow, decide_eq_true (by omega), decide_eq_true (by omega)]
  unfold quietF
  by_cases hn : nanB f v = true
  · have h4 : 4 ≤ classF f v := of_decide_eq_true hn
    rw [if_pos hn, one_low, or_bit, hb]
    unfold classF at h4 ⊢
    rw [if_neg (show ¬ 4 ≤ f by omega)] at h4 ⊢
    by_cases h1 : expF f v = 0
    · rw [if_pos h1] at h4; split at h4 <;> omega
    · rw [if_neg h1] at h4 ⊢
      by_cases h2 : (expF f v : Int) < 2 * emaxS f + 1
      · rw [if_pos h2] at h4; omega
      · rw [if_neg h2] at h4 ⊢
        by_cases h3 : fracF f v = 0
        · rw [if_pos h3] at h4; omega
        · rw [if_neg h3]
          by_cases h6 : (fracF f v).testBit (precS f - 2).toNat = true
          · rw [if_pos h6, if_pos h6, if_neg (by decide), Nat.add_zero]
          · rw [if_neg h6, if_neg h6, if_pos rfl]
  · have h4 : ¬ 4 ≤ classF f v := fun h => hn (decide_eq_true h)
    rw [if_neg hn, if_neg (by omega), Nat.add_zero]
theorem rquiet_walk (f h l rh rl : Int) (s : Bool) (n M : Nat) [hU : U8 f] [U64 h] [U64 l] (w : World) [hLay : Laid w] (hf : f < 4) (hn : Hid (cat h l % 2 ^ (widthS f).toNat = n)) (ln : dl n ≤ 100000) (hs : Hid (decide (classF f (cat h l) = 5) = s))
    (hq : (s = false ∧ n = M) ∨ (s = true ∧ n + 2 ^ (precS f - 2).toNat = M)) (h0 : Hid (hi M = rh)) (h1 : Hid (lo M = rl)) :
    Calls Tryz.prog 82 #[.int .u8 f, .agg #[.int .u64 (h), .int .u64 (l)]] w fun en w' => en = .returned (.agg #[.int .u64 (rh), .int .u64 (rl)]) ∧ Below w.heap.size w w' := by
  obtain ⟨b1, b2, b3, b4, b5, b6⟩ := fmt_bd f U8.ge hf
  have lp : dl (2 ^ (precS f - 2).toNat) ≤ 100000 := dl_of _ (precS f).toNat (Nat.pow_lt_pow_right (by decide) (by omega)) (by omega)
  have hw1 : IntKind.i64.wrap (precS f - 2) = precS f - 2 := IntWalk.i64_in _ (by omega)
  go_enter Tryz.func82, Tryz.ntmps82
  skip
  (go_wp2_with fail; refine (ref_FCut f h l _).mono ?_; rw [hn.out]; rintro en v1 ⟨⟨u1, rfl, hR_u1⟩, hB_v1⟩; have lay_v1 := laid_after hB_v1; have cc1 := cl hB_v1 (show World.cell? _ ⟨w.heap.size, 0, none⟩ = some (.int .u64 h) by go_simp); have cc2 := cl hB_v1 (show World.cell? _ ⟨w.heap.size, 1, none⟩ = some (.int .u64 l) by go_simp); obtain ⟨cc3, fcc3⟩ := pf hB_v1 (show World.cell? _ ⟨w.heap.size + 1, 0, none⟩ = some (.int .u64 0) by go_simp) (by go_simp); obtain ⟨cc4, fcc4⟩ := pf hB_v1 (show World.cell? _ ⟨w.heap.size + 1, 1, none⟩ = some (.int .u64 0) by go_simp) (by go_simp); have hs_v1 := hB_v1.size; (try simp only [World.size_alloc, World.size_setCell, World.size_drew] at hs_v1); have hBW : Below w.heap.size w v1 := below_after (w := w) (by go_grown) hB_v1; have hn_v1 := an (nl cc1) (nl cc3); clear hB_v1)
  (go_wp2_with fail; refine (ref_Signaling f h l _).mono ?_; rw [hs.out]; rintro en v2 ⟨rfl, hB_v2⟩; have lay_v2 := laid_after hB_v2; replace hR_u1 := RN.later hR_u1 (below_after (by go_grown) hB_v2); have hG := cell_grown cc1 (by go_grown) hB_v2; replace cc1 := cl hG cc1; replace cc2 := cl hG cc2; replace fcc3 := fl hG fcc3 cc3; replace cc3 := cl hG cc3; replace fcc4 := fl hG fcc4 cc4; replace cc4 := cl hG cc4; replace hBW := below_after hBW hG; have hs_v2 := hG.size; clear hG; have hn_v2 := an (nl cc1) (nl cc3); clear hB_v2)
  skip
  rcases hq with ⟨rfl, hM⟩ | ⟨rfl, hM⟩
  · rw [hM] at hR_u1
    (go_wp2_with fail; refine (num_Bits _ u1 _ hR_u1).mono ?_; rw [h0.out, h1.out]; rintro en v5 ⟨rfl, hB_v5⟩; have lay_v5 := laid_after hB_v5; replace hR_u1 := RN.later hR_u1 (below_after (by go_grown) hB_v5); have hG := cell_grown cc1 (by go_grown) hB_v5; replace cc1 := cl hG cc1; replace cc2 := cl hG cc2; replace fcc3 := fl hG fcc3 cc3; replace cc3 := cl hG cc3; replace fcc4 := fl hG fcc4 cc4; replace cc4 := cl hG cc4; replace hBW := below_after hBW hG; have hs_v5 := hG.size; clear hG; have hn_v5 := an (nl cc1) (nl cc3); clear hB_v5)
    go_wp2_with fail
    refine bodyPost_ret (by simp [results, Tryz.results82, go_sem, cc3, cc4]; try rfl) rfl ?_
    exact ⟨rfl, by go_grown⟩
  · skip
    (go_wp2_with fail; refine (ref_Prec f _).mono ?_; rintro en _ ⟨rfl, rfl⟩)
    (go_wp2_with fail; refine (num_Full_at (precS f - 2).toNat _ _ (by omega) (by omega)).mono ?_; rintro en v3 ⟨⟨u3, rfl, hR_u3⟩, hB_v3⟩; have lay_v3 := laid_after hB_v3; replace hR_u1 := RN.later hR_u1 (below_after (by go_grown) hB_v3); have hG := cell_grown cc1 (by go_grown) hB_v3; replace cc1 := cl hG cc1; replace cc2 := cl hG cc2; replace fcc3 := fl hG fcc3 cc3; replace cc3 := cl hG cc3; replace fcc4 := fl hG fcc4 cc4; replace cc4 := cl hG cc4; replace hBW := below_after hBW hG; have hs_v3 := hG.size; clear hG; have hn_v3 := an (nl cc1) (nl cc3); clear hB_v3)
    (go_wp2_with fail; refine (num_Add n _ u1 u3 _ hR_u1 hR_u3 ln lp).mono ?_; rw [hM]; rintro en v4 ⟨⟨u4, rfl, hR_u4⟩, hB_v4⟩; have lay_v4 := laid_after hB_v4; replace hR_u1 := RN.later hR_u1 (below_after (by go_grown) hB_v4); replace hR_u3 := RN.later hR_u3 (below_after (by go_grown) hB_v4); have hG := cell_grown cc1 (by go_grown) hB_v4; replace cc1 := cl hG cc1; replace cc2 := cl hG cc2; replace fcc3 := fl hG fcc3 cc3; replace cc3 := cl hG cc3; replace fcc4 := fl hG fcc4 cc4; replace cc4 := cl hG cc4; replace hBW := below_after hBW hG; have hs_v4 := hG.size; clear hG; have hn_v4 := an (nl cc1) (nl cc3); clear hB_v4)
    (go_wp2_with fail; refine (num_Bits _ u4 _ hR_u4).mono ?_; rw [h0.out, h1.out]; rintro en v5 ⟨rfl, hB_v5⟩; have lay_v5 := laid_after hB_v5; replace hR_u1 := RN.later hR_u1 (below_after (by go_grown) hB_v5); replace hR_u3 := RN.later hR_u3 (below_after (by go_grown) hB_v5); replace hR_u4 := RN.later hR_u4 (below_after (by go_grown) hB_v5); have hG := cell_grown cc1 (by go_grown) hB_v5; replace cc1 := cl hG cc1; replace cc2 := cl hG cc2; replace fcc3 := fl hG fcc3 cc3; replace cc3 := cl hG cc3; replace fcc4 := fl hG fcc4 cc4; replace cc4 := cl hG cc4; replace hBW := below_after hBW hG; have hs_v5 := hG.size; clear hG; have hn_v5 := an (nl cc1) (nl cc3); clear hB_v5)
    go_wp2_with fail
    refine bodyPost_ret (by simp [results, Tryz.results82, go_sem, cc3, cc4]; try rfl) rfl ?_
    exact ⟨rfl, by go_grown⟩
theorem ref_Quiet (f h l : Int) [hU : U8 f] [U64 h] [U64 l] (w : World) [hLay : Laid w] (hf : f < 4) :
    Calls Tryz.prog 82 #[.int .u8 f, .agg #[.int .u64 (h), .int .u64 (l)]] w fun en w' => en = .returned (.agg #[.int .u64 (hi (quietF f (cat h l))), .int .u64 (lo (quietF f (cat h l)))]) ∧ Below w.heap.size w w' := by
  refine rquiet_walk f h l _ _ _ _ _ w hf rfl (Nat.le_trans (dl_mono (Nat.mod_le _ _)) (dl_cat h l)) rfl ?_ rfl rfl
  rw [quiet_bit f (cat h l) U8.ge hf]
  by_cases h5 : classF f (cat h l) = 5
  · refine Or.inr ⟨decide_eq_true h5, ?_⟩
    unfold lowN
    rw [if_pos h5]
  · refine Or.inl ⟨decide_eq_false h5, ?_⟩
    unfold lowN
    rw [if_neg h5, Nat.add_zero]

theorem rpick2_n (f h l h' l' qh ql fg : Int) (inv ok : Bool) (b : Nat) [hU : U8 f] [U64 h] [U64 l] [U64 h'] [U64 l'] (w : World) [hLay : Laid w] (c0 : w.cell? ⟨b, 0, none⟩ = some (.int .u64 h)) (c1 : w.cell? ⟨b, 1, none⟩ = some (.int .u64 l)) (c2 : w.cell? ⟨b, 2, none⟩ = some (.int .u64 h')) (c3 : w.cell? ⟨b, 3, none⟩ = some (.int .u64 l')) (hf : f < 4) (n1 : Hid (decide (4 ≤ classF f (cat h l)) = false)) (s1 : Hid (decide (classF f (cat h l) = 5) = false)) (x y : Bool) (n2 : Hid (decide (4 ≤ classF f (cat h' l')) = x)) (s2 : Hid (decide (classF f (cat h' l') = 5) = y))
    (hq : (x = false ∧ y = false ∧ inv = false ∧ ok = false ∧ qh = 0 ∧ ql = 0 ∧ fg = 0) ∨ (x = false ∧ y = false ∧ inv = true ∧ ok = true ∧ fg = 1 ∧ Hid (hi (defF f) = qh) ∧ Hid (lo (defF f) = ql)) ∨ (x = true ∧ y = false ∧ inv = false ∧ ok = true ∧ fg = 0 ∧ Hid (hi (quietF f (cat h' l')) = qh) ∧ Hid (lo (quietF f (cat h' l')) = ql)) ∨ (x = true ∧ y = true ∧ inv = false ∧ ok = true ∧ fg = 1 ∧ Hid (hi (quietF f (cat h' l')) = qh) ∧ Hid (lo (quietF f (cat h' l')) = ql))) :
    Calls Tryz.prog 36 #[.int .u8 f, .bool inv, .slice (some ⟨b, 0, none⟩) 2 2] w fun en w' => en = .returned (.tuple #[.agg #[.int .u64 qh, .int .u64 ql, .int .u8 fg], .bool ok]) ∧ Below w.heap.size w w' := by
  have q1_ : decide (f > 3) = false := decide_eq_false (by omega)
  have sb : b < w.heap.size := World.block_lt_of_cell? w _ c0
  go_enter Tryz.func36, Tryz.ntmps36
  skip
  (go_wp2_with fail; refine (ref_Default f _ hf).mono ?_; rintro en v0 ⟨rfl, hB_v0⟩; have lay_v0 := laid_after hB_v0; have cc1 := cl hB_v0 (show World.cell? _ ⟨b, 0, none⟩ = some (.int .u64 h) by go_simp); have cc2 := cl hB_v0 (show World.cell? _ ⟨b, 1, none⟩ = some (.int .u64 l) by go_simp); have cc3 := cl hB_v0 (show World.cell? _ ⟨b, 2, none⟩ = some (.int .u64 h') by go_simp); have cc4 := cl hB_v0 (show World.cell? _ ⟨b, 3, none⟩ = some (.int .u64 l') by go_simp); obtain ⟨cc5, fcc5⟩ := pf hB_v0 (show World.cell? _ ⟨w.heap.size, 0, none⟩ = some (.int .u64 0) by go_simp) (by go_simp); obtain ⟨cc6, fcc6⟩ := pf hB_v0 (show World.cell? _ ⟨w.heap.size, 1, none⟩ = some (.int .u64 0) by go_simp) (by go_simp); obtain ⟨cc7, fcc7⟩ := pf hB_v0 (show World.cell? _ ⟨w.heap.size, 2, none⟩ = some (.int .u8 0) by go_simp) (by go_simp); have hs_v0 := hB_v0.size; (try simp only [World.size_alloc, World.size_setCell, World.size_drew] at hs_v0); have hBW : Below w.heap.size w v0 := below_after (w := w) (by go_grown) hB_v0; have hn_v0 := an (nl cc1) (nl cc5); clear hB_v0)
  go_wp2_with fail
  refine wp_loop_rounds 3 ?_
  rw [rounds_succ]
  (go_wp2_with fail; refine (ref_NaN f h l _).mono ?_; rw [n1.out]; rintro en v1 ⟨rfl, hB_v1⟩; have lay_v1 := laid_after hB_v1; have hG := cell_grown cc1 (by go_grown) hB_v1; replace cc1 := cl hG cc1; replace cc2 := cl hG cc2; replace cc3 := cl hG cc3; replace cc4 := cl hG cc4; replace fcc5 := fl hG fcc5 cc5; replace cc5 := cl hG cc5; replace fcc6 := fl hG fcc6 cc6; replace cc6 := cl hG cc6; replace fcc7 := fl hG fcc7 cc7; replace cc7 := cl hG cc7; obtain ⟨cc8, fcc8⟩ := pf hB_v1 (show World.cell? _ ⟨v0.heap.size, 0, none⟩ = some (.int .u64 (hi (defF f))) by go_simp) (by go_simp); obtain ⟨cc9, fcc9⟩ := pf hB_v1 (show World.cell? _ ⟨v0.heap.size, 1, none⟩ = some (.int .u64 (lo (defF f))) by go_simp) (by go_simp); obtain ⟨cc10, fcc10⟩ := pf hB_v1 (show World.cell? _ ⟨v0.heap.size, 2, none⟩ = some (.int .u8 0) by go_simp) (by go_simp); replace hBW := below_after hBW hG; have hs_v1 := hG.size; clear hG; have hn_v1 := an (nl cc1) (an (nl cc5) (nl cc8)); clear hB_v1)
  (go_wp2_with fail; refine (ref_Signaling f h l _).mono ?_; rw [s1.out]; rintro en v2 ⟨rfl, hB_v2⟩; have lay_v2 := laid_after hB_v2; have hG := cell_grown cc1 (by go_grown) hB_v2; replace cc1 := cl hG cc1; replace cc2 := cl hG cc2; replace cc3 := cl hG cc3; replace cc4 := cl hG cc4; replace fcc5 := fl hG fcc5 cc5; replace cc5 := cl hG cc5; replace fcc6 := fl hG fcc6 cc6; replace cc6 := cl hG cc6; replace fcc7 := fl hG fcc7 cc7; replace cc7 := cl hG cc7; replace fcc8 := fl hG fcc8 cc8; replace cc8 := cl hG cc8; replace fcc9 := fl hG fcc9 cc9; replace cc9 := cl hG cc9; replace fcc10 := fl hG fcc10 cc10; replace cc10 := cl hG cc10; replace hBW := below_after hBW hG; have hs_v2 := hG.size; clear hG; have hn_v2 := an (nl cc1) (an (nl cc5) (nl cc8)); clear hB_v2)
  go_wp2_with fail
  rw [rounds_succ]
  skip
  rcases hq with ⟨rfl, rfl, rfl, rfl, rfl, rfl, rfl⟩ | ⟨rfl, rfl, rfl, rfl, rfl, d0, d1⟩ | ⟨rfl, rfl, rfl, rfl, rfl, r0, r1⟩ | ⟨rfl, rfl, rfl, rfl, rfl, r0, r1⟩
  · skip
    (go_wp2_with fail; refine (ref_NaN f h' l' _).mono ?_; rw [n2.out]; rintro en v3 ⟨rfl, hB_v3⟩; have lay_v3 := laid_after hB_v3; have hG := cell_grown cc1 (by go_grown) hB_v3; replace cc1 := cl hG cc1; replace cc2 := cl hG cc2; replace cc3 := cl hG cc3; replace cc4 := cl hG cc4; replace fcc5 := fl hG fcc5 cc5; replace cc5 := cl hG cc5; replace fcc6 := fl hG fcc6 cc6; replace cc6 := cl hG cc6; replace fcc7 := fl hG fcc7 cc7; replace cc7 := cl hG cc7; replace fcc8 := fl hG fcc8 cc8; replace cc8 := cl hG cc8; replace fcc9 := fl hG fcc9 cc9; replace cc9 := cl hG cc9; replace fcc10 := fl hG fcc10 cc10; replace cc10 := cl hG cc10; replace hBW := below_after hBW hG; have hs_v3 := hG.size; clear hG; have hn_v3 := an (nl cc1) (an (nl cc5) (nl cc8)); clear hB_v3)
    (go_wp2_with fail; refine (ref_Signaling f h' l' _).mono ?_; rw [s2.out]; rintro en v4 ⟨rfl, hB_v4⟩; have lay_v4 := laid_after hB_v4; have hG := cell_grown cc1 (by go_grown) hB_v4; replace cc1 := cl hG cc1; replace cc2 := cl hG cc2; replace cc3 := cl hG cc3; replace cc4 := cl hG cc4; replace fcc5 := fl hG fcc5 cc5; replace cc5 := cl hG cc5; replace fcc6 := fl hG fcc6 cc6; replace cc6 := cl hG cc6; replace fcc7 := fl hG fcc7 cc7; replace cc7 := cl hG cc7; replace fcc8 := fl hG fcc8 cc8; replace cc8 := cl hG cc8; replace fcc9 := fl hG fcc9 cc9; replace cc9 := cl hG cc9; replace fcc10 := fl hG fcc10 cc10; replace cc10 := cl hG cc10; replace hBW := below_after hBW hG; have hs_v4 := hG.size; clear hG; have hn_v4 := an (nl cc1) (an (nl cc5) (nl cc8)); clear hB_v4)
    go_wp2_with fail
    rw [rounds_succ]
    go_wp2_with fail
    refine bodyPost_ret (by simp [results, Tryz.results36, go_sem, cc5, cc6, cc7]; try rfl) rfl ?_
    exact ⟨rfl, by go_grown⟩
  · skip
    (go_wp2_with fail; refine (ref_NaN f h' l' _).mono ?_; rw [n2.out]; rintro en v5 ⟨rfl, hB_v5⟩; have lay_v5 := laid_after hB_v5; have hG := cell_grown cc1 (by go_grown) hB_v5; replace cc1 := cl hG cc1; replace cc2 := cl hG cc2; replace cc3 := cl hG cc3; replace cc4 := cl hG cc4; replace fcc5 := fl hG fcc5 cc5; replace cc5 := cl hG cc5; replace fcc6 := fl hG fcc6 cc6; replace cc6 := cl hG cc6; replace fcc7 := fl hG fcc7 cc7; replace cc7 := cl hG cc7; replace fcc8 := fl hG fcc8 cc8; replace cc8 := cl hG cc8; replace fcc9 := fl hG fcc9 cc9; replace cc9 := cl hG cc9; replace fcc10 := fl hG fcc10 cc10; replace cc10 := cl hG cc10; replace hBW := below_after hBW hG; have hs_v5 := hG.size; clear hG; have hn_v5 := an (nl cc1) (an (nl cc5) (nl cc8)); clear hB_v5)
    (go_wp2_with fail; refine (ref_Signaling f h' l' _).mono ?_; rw [s2.out]; rintro en v6 ⟨rfl, hB_v6⟩; have lay_v6 := laid_after hB_v6; have hG := cell_grown cc1 (by go_grown) hB_v6; replace cc1 := cl hG cc1; replace cc2 := cl hG cc2; replace cc3 := cl hG cc3; replace cc4 := cl hG cc4; replace fcc5 := fl hG fcc5 cc5; replace cc5 := cl hG cc5; replace fcc6 := fl hG fcc6 cc6; replace cc6 := cl hG cc6; replace fcc7 := fl hG fcc7 cc7; replace cc7 := cl hG cc7; replace fcc8 := fl hG fcc8 cc8; replace cc8 := cl hG cc8; replace fcc9 := fl hG fcc9 cc9; replace cc9 := cl hG cc9; replace fcc10 := fl hG fcc10 cc10; replace cc10 := cl hG cc10; replace hBW := below_after hBW hG; have hs_v6 := hG.size; clear hG; have hn_v6 := an (nl cc1) (an (nl cc5) (nl cc8)); clear hB_v6)
    go_wp2_with fail
    rw [rounds_succ]
    go_upto_region 13 with fail
    ((first | refine wp_rename ?_ | refine goal_rename ?_); intro W7 hw_W7; have hG := named cc1 W7 (by rw [hw_W7]; first | with_reducible exact drewN_below (Below.refl _ _) _ | go_grown); replace cc1 := cl hG cc1; replace cc2 := cl hG cc2; replace cc3 := cl hG cc3; replace cc4 := cl hG cc4; replace fcc5 := fl hG fcc5 cc5; replace cc5 := cl hG cc5; replace fcc6 := fl hG fcc6 cc6; replace cc6 := cl hG cc6; replace fcc7 := fl hG fcc7 cc7; replace cc7 := cl hG cc7; replace fcc8 := fl hG fcc8 cc8; replace cc8 := cl hG cc8; replace fcc9 := fl hG fcc9 cc9; replace cc9 := cl hG cc9; replace fcc10 := fl hG fcc10 cc10; replace cc10 := cl hG cc10; replace hBW := below_after hBW hG; have hs_W7 := hG.size; clear hG; have hn_W7 := an (nl cc1) (an (nl cc5) (nl cc8)); have lay_W7 : Laid W7 := Laid.below (w := w) (by assumption) hBW; clear hw_W7)
    skip
    go_upto_region 15 with fail
    ((first | refine wp_rename ?_ | refine goal_rename ?_); intro W8 hw_W8; replace cc1 := rn hw_W8 cc1 (by go_simp); replace cc2 := rn hw_W8 cc2 (by go_simp); replace cc3 := rn hw_W8 cc3 (by go_simp); replace cc4 := rn hw_W8 cc4 (by go_simp); replace cc5 := rn hw_W8 cc5 (by go_simp); replace fcc5 := rf hw_W8 fcc5 (by go_simp); replace cc6 := rn hw_W8 cc6 (by go_simp); replace fcc6 := rf hw_W8 fcc6 (by go_simp); replace cc7 := rn hw_W8 cc7 (by go_simp); replace fcc7 := rf hw_W8 fcc7 (by go_simp); replace cc8 := rn hw_W8 cc8 (by go_simp); replace fcc8 := rf hw_W8 fcc8 (by go_simp); replace cc9 := rn hw_W8 cc9 (by go_simp); replace fcc9 := rf hw_W8 fcc9 (by go_simp); replace cc10 : W8.cell? ⟨v0.heap.size, 2, none⟩ = some (.int .u8 1) := (by rw [hw_W8]; go_simp); replace fcc10 := rf hw_W8 fcc10 (by go_simp); replace hBW : Below w.heap.size w W8 := (by rw [hw_W8]; (first | with_reducible exact drewN_below (by assumption) _ | go_grown)); have hn_W8 := an (nl cc1) (an (nl cc5) (nl cc8)); have lay_W8 : Laid W8 := Laid.below (w := w) (by assumption) hBW; clear hw_W8)
    go_wp2_with fail
    refine bodyPost_ret (by simp [results, Tryz.results36, go_sem, cc5, cc6, cc7]; try rfl) rfl ?_
    rw [d0.out, d1.out]
    exact ⟨rfl, by go_grown⟩
  · skip
    (go_wp2_with fail; refine (ref_NaN f h' l' _).mono ?_; rw [n2.out]; rintro en v9 ⟨rfl, hB_v9⟩; have lay_v9 := laid_after hB_v9; have hG := cell_grown cc1 (by go_grown) hB_v9; replace cc1 := cl hG cc1; replace cc2 := cl hG cc2; replace cc3 := cl hG cc3; replace cc4 := cl hG cc4; replace fcc5 := fl hG fcc5 cc5; replace cc5 := cl hG cc5; replace fcc6 := fl hG fcc6 cc6; replace cc6 := cl hG cc6; replace fcc7 := fl hG fcc7 cc7; replace cc7 := cl hG cc7; replace fcc8 := fl hG fcc8 cc8; replace cc8 := cl hG cc8; replace fcc9 := fl hG fcc9 cc9; replace cc9 := cl hG cc9; replace fcc10 := fl hG fcc10 cc10; replace cc10 := cl hG cc10; replace hBW := below_after hBW hG; have hs_v9 := hG.size; clear hG; have hn_v9 := an (nl cc1) (an (nl cc5) (nl cc8)); clear hB_v9)
    (go_wp2_with fail; refine (ref_Quiet f h' l' _ hf).mono ?_; rw [r0.out, r1.out]; rintro en v10 ⟨rfl, hB_v10⟩; have lay_v10 := laid_after hB_v10; have hG := cell_grown cc1 (by go_grown) hB_v10; replace cc1 := cl hG cc1; replace cc2 := cl hG cc2; replace cc3 := cl hG cc3; replace cc4 := cl hG cc4; replace fcc5 := fl hG fcc5 cc5; replace cc5 := cl hG cc5; replace fcc6 := fl hG fcc6 cc6; replace cc6 := cl hG cc6; replace fcc7 := fl hG fcc7 cc7; replace cc7 := cl hG cc7; replace fcc8 := fl hG fcc8 cc8; replace cc8 := cl hG cc8; replace fcc9 := fl hG fcc9 cc9; replace cc9 := cl hG cc9; replace fcc10 := fl hG fcc10 cc10; replace cc10 := cl hG cc10; replace hBW := below_after hBW hG; have hs_v10 := hG.size; clear hG; have hn_v10 := an (nl cc1) (an (nl cc5) (nl cc8)); clear hB_v10)
    skip
    skip
    go_upto_region 11 with fail
    ((first | refine wp_rename ?_ | refine goal_rename ?_); intro W11 hw_W11; replace cc1 := rn hw_W11 cc1 (by go_simp); replace cc2 := rn hw_W11 cc2 (by go_simp); replace cc3 := rn hw_W11 cc3 (by go_simp); replace cc4 := rn hw_W11 cc4 (by go_simp); replace cc5 := rn hw_W11 cc5 (by go_simp); replace fcc5 := rf hw_W11 fcc5 (by go_simp); replace cc6 := rn hw_W11 cc6 (by go_simp); replace fcc6 := rf hw_W11 fcc6 (by go_simp); replace cc7 := rn hw_W11 cc7 (by go_simp); replace fcc7 := rf hw_W11 fcc7 (by go_simp); replace cc8 : W11.cell? ⟨v0.heap.size, 0, none⟩ = some (.int .u64 qh) := (by rw [hw_W11]; go_simp); replace fcc8 := rf hw_W11 fcc8 (by go_simp); replace cc9 : W11.cell? ⟨v0.heap.size, 1, none⟩ = some (.int .u64 ql) := (by rw [hw_W11]; go_simp); replace fcc9 := rf hw_W11 fcc9 (by go_simp); replace cc10 := rn hw_W11 cc10 (by go_simp); replace fcc10 := rf hw_W11 fcc10 (by go_simp); replace hBW : Below w.heap.size w W11 := (by rw [hw_W11]; (first | with_reducible exact drewN_below (by assumption) _ | go_grown)); have hn_W11 := an (nl cc1) (an (nl cc5) (nl cc8)); have lay_W11 : Laid W11 := Laid.below (w := w) (by assumption) hBW; clear hw_W11)
    (go_wp2_with fail; refine (ref_Signaling f h' l' _).mono ?_; rw [s2.out]; rintro en v12 ⟨rfl, hB_v12⟩; have lay_v12 := laid_after hB_v12; have hG := cell_grown cc1 (by go_grown) hB_v12; replace cc1 := cl hG cc1; replace cc2 := cl hG cc2; replace cc3 := cl hG cc3; replace cc4 := cl hG cc4; replace fcc5 := fl hG fcc5 cc5; replace cc5 := cl hG cc5; replace fcc6 := fl hG fcc6 cc6; replace cc6 := cl hG cc6; replace fcc7 := fl hG fcc7 cc7; replace cc7 := cl hG cc7; replace fcc8 := fl hG fcc8 cc8; replace cc8 := cl hG cc8; replace fcc9 := fl hG fcc9 cc9; replace cc9 := cl hG cc9; replace fcc10 := fl hG fcc10 cc10; replace cc10 := cl hG cc10; replace hBW := below_after hBW hG; have hs_v12 := hG.size; clear hG; have hn_v12 := an (nl cc1) (an (nl cc5) (nl cc8)); clear hB_v12)
    go_wp2_with fail
    rw [rounds_succ]
    go_wp2_with fail
    refine bodyPost_ret (by simp [results, Tryz.results36, go_sem, cc5, cc6, cc7]; try rfl) rfl ?_
    exact ⟨rfl, by go_grown⟩
  · skip
    (go_wp2_with fail; refine (ref_NaN f h' l' _).mono ?_; rw [n2.out]; rintro en v13 ⟨rfl, hB_v13⟩; have lay_v13 := laid_after hB_v13; have hG := cell_grown cc1 (by go_grown) hB_v13; replace cc1 := cl hG cc1; replace cc2 := cl hG cc2; replace cc3 := cl hG cc3; replace cc4 := cl hG cc4; replace fcc5 := fl hG fcc5 cc5; replace cc5 := cl hG cc5; replace fcc6 := fl hG fcc6 cc6; replace cc6 := cl hG cc6; replace fcc7 := fl hG fcc7 cc7; replace cc7 := cl hG cc7; replace fcc8 := fl hG fcc8 cc8; replace cc8 := cl hG cc8; replace fcc9 := fl hG fcc9 cc9; replace cc9 := cl hG cc9; replace fcc10 := fl hG fcc10 cc10; replace cc10 := cl hG cc10; replace hBW := below_after hBW hG; have hs_v13 := hG.size; clear hG; have hn_v13 := an (nl cc1) (an (nl cc5) (nl cc8)); clear hB_v13)
    (go_wp2_with fail; refine (ref_Quiet f h' l' _ hf).mono ?_; rw [r0.out, r1.out]; rintro en v14 ⟨rfl, hB_v14⟩; have lay_v14 := laid_after hB_v14; have hG := cell_grown cc1 (by go_grown) hB_v14; replace cc1 := cl hG cc1; replace cc2 := cl hG cc2; replace cc3 := cl hG cc3; replace cc4 := cl hG cc4; replace fcc5 := fl hG fcc5 cc5; replace cc5 := cl hG cc5; replace fcc6 := fl hG fcc6 cc6; replace cc6 := cl hG cc6; replace fcc7 := fl hG fcc7 cc7; replace cc7 := cl hG cc7; replace fcc8 := fl hG fcc8 cc8; replace cc8 := cl hG cc8; replace fcc9 := fl hG fcc9 cc9; replace cc9 := cl hG cc9; replace fcc10 := fl hG fcc10 cc10; replace cc10 := cl hG cc10; replace hBW := below_after hBW hG; have hs_v14 := hG.size; clear hG; have hn_v14 := an (nl cc1) (an (nl cc5) (nl cc8)); clear hB_v14)
    skip
    skip
    go_upto_region 11 with fail
    ((first | refine wp_rename ?_ | refine goal_rename ?_); intro W15 hw_W15; replace cc1 := rn hw_W15 cc1 (by go_simp); replace cc2 := rn hw_W15 cc2 (by go_simp); replace cc3 := rn hw_W15 cc3 (by go_simp); replace cc4 := rn hw_W15 cc4 (by go_simp); replace cc5 := rn hw_W15 cc5 (by go_simp); replace fcc5 := rf hw_W15 fcc5 (by go_simp); replace cc6 := rn hw_W15 cc6 (by go_simp); replace fcc6 := rf hw_W15 fcc6 (by go_simp); replace cc7 := rn hw_W15 cc7 (by go_simp); replace fcc7 := rf hw_W15 fcc7 (by go_simp); replace cc8 : W15.cell? ⟨v0.heap.size, 0, none⟩ = some (.int .u64 qh) := (by rw [hw_W15]; go_simp); replace fcc8 := rf hw_W15 fcc8 (by go_simp); replace cc9 : W15.cell? ⟨v0.heap.size, 1, none⟩ = some (.int .u64 ql) := (by rw [hw_W15]; go_simp); replace fcc9 := rf hw_W15 fcc9 (by go_simp); replace cc10 := rn hw_W15 cc10 (by go_simp); replace fcc10 := rf hw_W15 fcc10 (by go_simp); replace hBW : Below w.heap.size w W15 := (by rw [hw_W15]; (first | with_reducible exact drewN_below (by assumption) _ | go_grown)); have hn_W15 := an (nl cc1) (an (nl cc5) (nl cc8)); have lay_W15 : Laid W15 := Laid.below (w := w) (by assumption) hBW; clear hw_W15)
    (go_wp2_with fail; refine (ref_Signaling f h' l' _).mono ?_; rw [s2.out]; rintro en v16 ⟨rfl, hB_v16⟩; have lay_v16 := laid_after hB_v16; have hG := cell_grown cc1 (by go_grown) hB_v16; replace cc1 := cl hG cc1; replace cc2 := cl hG cc2; replace cc3 := cl hG cc3; replace cc4 := cl hG cc4; replace fcc5 := fl hG fcc5 cc5; replace cc5 := cl hG cc5; replace fcc6 := fl hG fcc6 cc6; replace cc6 := cl hG cc6; replace fcc7 := fl hG fcc7 cc7; replace cc7 := cl hG cc7; replace fcc8 := fl hG fcc8 cc8; replace cc8 := cl hG cc8; replace fcc9 := fl hG fcc9 cc9; replace cc9 := cl hG cc9; replace fcc10 := fl hG fcc10 cc10; replace cc10 := cl hG cc10; replace hBW := below_after hBW hG; have hs_v16 := hG.size; clear hG; have hn_v16 := an (nl cc1) (an (nl cc5) (nl cc8)); clear hB_v16)
    skip
    go_upto_region 7 with fail
    ((first | refine wp_rename ?_ | refine goal_rename ?_); intro W17 hw_W17; replace cc1 := rn hw_W17 cc1 (by go_simp); replace cc2 := rn hw_W17 cc2 (by go_simp); replace cc3 := rn hw_W17 cc3 (by go_simp); replace cc4 := rn hw_W17 cc4 (by go_simp); replace cc5 := rn hw_W17 cc5 (by go_simp); replace fcc5 := rf hw_W17 fcc5 (by go_simp); replace cc6 := rn hw_W17 cc6 (by go_simp); replace fcc6 := rf hw_W17 fcc6 (by go_simp); replace cc7 := rn hw_W17 cc7 (by go_simp); replace fcc7 := rf hw_W17 fcc7 (by go_simp); replace cc8 := rn hw_W17 cc8 (by go_simp); replace fcc8 := rf hw_W17 fcc8 (by go_simp); replace cc9 := rn hw_W17 cc9 (by go_simp); replace fcc9 := rf hw_W17 fcc9 (by go_simp); replace cc10 : W17.cell? ⟨v0.heap.size, 2, none⟩ = some (.int .u8 1) := (by rw [hw_W17]; go_simp); replace fcc10 := rf hw_W17 fcc10 (by go_simp); replace hBW : Below w.heap.size w W17 := (by rw [hw_W17]; (first | with_reducible exact drewN_below (by assumption) _ | go_grown)); have hn_W17 := an (nl cc1) (an (nl cc5) (nl cc8)); have lay_W17 : Laid W17 := Laid.below (w := w) (by assumption) hBW; clear hw_W17)
    go_wp2_with fail
    rw [rounds_succ]
    go_wp2_with fail
    refine bodyPost_ret (by simp [results, Tryz.results36, go_sem, cc5, cc6, cc7]; try rfl) rfl ?_
    exact ⟨rfl, by go_grown⟩
theorem rpick2_q (f h l h' l' qh ql fg : Int) (inv ok : Bool) (b : Nat) [hU : U8 f] [U64 h] [U64 l] [U64 h'] [U64 l'] (w : World) [hLay : Laid w] (c0 : w.cell? ⟨b, 0, none⟩ = some (.int .u64 h)) (c1 : w.cell? ⟨b, 1, none⟩ = some (.int .u64 l)) (c2 : w.cell? ⟨b, 2, none⟩ = some (.int .u64 h')) (c3 : w.cell? ⟨b, 3, none⟩ = some (.int .u64 l')) (hf : f < 4) (n1 : Hid (decide (4 ≤ classF f (cat h l)) = true)) (s1 : Hid (decide (classF f (cat h l) = 5) = false)) (q0 : Hid (hi (quietF f (cat h l)) = qh)) (q1 : Hid (lo (quietF f (cat h l)) = ql)) (x y : Bool) (n2 : Hid (decide (4 ≤ classF f (cat h' l')) = x)) (s2 : Hid (decide (classF f (cat h' l') = 5) = y))
    (hq : (x = false ∧ y = false ∧ inv = false ∧ ok = true ∧ fg = 0) ∨ (x = true ∧ y = false ∧ inv = false ∧ ok = true ∧ fg = 0) ∨ (x = true ∧ y = true ∧ inv = false ∧ ok = true ∧ fg = 1)) :
    Calls Tryz.prog 36 #[.int .u8 f, .bool inv, .slice (some ⟨b, 0, none⟩) 2 2] w fun en w' => en = .returned (.tuple #[.agg #[.int .u64 qh, .int .u64 ql, .int .u8 fg], .bool ok]) ∧ Below w.heap.size w w' := by
  have q1_ : decide (f > 3) = false := decide_eq_false (by omega)
  have sb : b < w.heap.size := World.block_lt_of_cell? w _ c0
  go_enter Tryz.func36, Tryz.ntmps36
  skip
  (go_wp2_with fail; refine (ref_Default f _ hf).mono ?_; rintro en v0 ⟨rfl, hB_v0⟩; have lay_v0 := laid_after hB_v0; have cc1 := cl hB_v0 (show World.cell? _ ⟨b, 0, none⟩ = some (.int .u64 h) by go_simp); have cc2 := cl hB_v0 (show World.cell? _ ⟨b, 1, none⟩ = some (.int .u64 l) by go_simp); have cc3 := cl hB_v0 (show World.cell? _ ⟨b, 2, none⟩ = some (.int .u64 h') by go_simp); have cc4 := cl hB_v0 (show World.cell? _ ⟨b, 3, none⟩ = some (.int .u64 l') by go_simp); obtain ⟨cc5, fcc5⟩ := pf hB_v0 (show World.cell? _ ⟨w.heap.size, 0, none⟩ = some (.int .u64 0) by go_simp) (by go_simp); obtain ⟨cc6, fcc6⟩ := pf hB_v0 (show World.cell? _ ⟨w.heap.size, 1, none⟩ = some (.int .u64 0) by go_simp) (by go_simp); obtain ⟨cc7, fcc7⟩ := pf hB_v0 (show World.cell? _ ⟨w.heap.size, 2, none⟩ = some (.int .u8 0) by go_simp) (by go_simp); have hs_v0 := hB_v0.size; (try simp only [World.size_alloc, World.size_setCell, World.size_drew] at hs_v0); have hBW : Below w.heap.size w v0 := below_after (w := w) (by go_grown) hB_v0; have hn_v0 := an (nl cc1) (nl cc5); clear hB_v0)
  go_wp2_with fail
  refine wp_loop_rounds 3 ?_
  rw [rounds_succ]
  (go_wp2_with fail; refine (ref_NaN f h l _).mono ?_; rw [n1.out]; rintro en v1 ⟨rfl, hB_v1⟩; have lay_v1 := laid_after hB_v1; have hG := cell_grown cc1 (by go_grown) hB_v1; replace cc1 := cl hG cc1; replace cc2 := cl hG cc2; replace cc3 := cl hG cc3; replace cc4 := cl hG cc4; replace fcc5 := fl hG fcc5 cc5; replace cc5 := cl hG cc5; replace fcc6 := fl hG fcc6 cc6; replace cc6 := cl hG cc6; replace fcc7 := fl hG fcc7 cc7; replace cc7 := cl hG cc7; obtain ⟨cc8, fcc8⟩ := pf hB_v1 (show World.cell? _ ⟨v0.heap.size, 0, none⟩ = some (.int .u64 (hi (defF f))) by go_simp) (by go_simp); obtain ⟨cc9, fcc9⟩ := pf hB_v1 (show World.cell? _ ⟨v0.heap.size, 1, none⟩ = some (.int .u64 (lo (defF f))) by go_simp) (by go_simp); obtain ⟨cc10, fcc10⟩ := pf hB_v1 (show World.cell? _ ⟨v0.heap.size, 2, none⟩ = some (.int .u8 0) by go_simp) (by go_simp); replace hBW := below_after hBW hG; have hs_v1 := hG.size; clear hG; have hn_v1 := an (nl cc1) (an (nl cc5) (nl cc8)); clear hB_v1)
  (go_wp2_with fail; refine (ref_Quiet f h l _ hf).mono ?_; rw [q0.out, q1.out]; rintro en v2 ⟨rfl, hB_v2⟩; have lay_v2 := laid_after hB_v2; have hG := cell_grown cc1 (by go_grown) hB_v2; replace cc1 := cl hG cc1; replace cc2 := cl hG cc2; replace cc3 := cl hG cc3; replace cc4 := cl hG cc4; replace fcc5 := fl hG fcc5 cc5; replace cc5 := cl hG cc5; replace fcc6 := fl hG fcc6 cc6; replace cc6 := cl hG cc6; replace fcc7 := fl hG fcc7 cc7; replace cc7 := cl hG cc7; replace fcc8 := fl hG fcc8 cc8; replace cc8 := cl hG cc8; replace fcc9 := fl hG fcc9 cc9; replace cc9 := cl hG cc9; replace fcc10 := fl hG fcc10 cc10; replace cc10 := cl hG cc10; replace hBW := below_after hBW hG; have hs_v2 := hG.size; clear hG; have hn_v2 := an (nl cc1) (an (nl cc5) (nl cc8)); clear hB_v2)
  skip
  skip
  go_upto_region 11 with fail
  ((first | refine wp_rename ?_ | refine goal_rename ?_); intro W3 hw_W3; replace cc1 := rn hw_W3 cc1 (by go_simp); replace cc2 := rn hw_W3 cc2 (by go_simp); replace cc3 := rn hw_W3 cc3 (by go_simp); replace cc4 := rn hw_W3 cc4 (by go_simp); replace cc5 := rn hw_W3 cc5 (by go_simp); replace fcc5 := rf hw_W3 fcc5 (by go_simp); replace cc6 := rn hw_W3 cc6 (by go_simp); replace fcc6 := rf hw_W3 fcc6 (by go_simp); replace cc7 := rn hw_W3 cc7 (by go_simp); replace fcc7 := rf hw_W3 fcc7 (by go_simp); replace cc8 : W3.cell? ⟨v0.heap.size, 0, none⟩ = some (.int .u64 qh) := (by rw [hw_W3]; go_simp); replace fcc8 := rf hw_W3 fcc8 (by go_simp); replace cc9 : W3.cell? ⟨v0.heap.size, 1, none⟩ = some (.int .u64 ql) := (by rw [hw_W3]; go_simp); replace fcc9 := rf hw_W3 fcc9 (by go_simp); replace cc10 := rn hw_W3 cc10 (by go_simp); replace fcc10 := rf hw_W3 fcc10 (by go_simp); replace hBW : Below w.heap.size w W3 := (by rw [hw_W3]; (first | with_reducible exact drewN_below (by assumption) _ | go_grown)); have hn_W3 := an (nl cc1) (an (nl cc5) (nl cc8)); have lay_W3 : Laid W3 := Laid.below (w := w) (by assumption) hBW; clear hw_W3)
  (go_wp2_with fail; refine (ref_Signaling f h l _).mono ?_; rw [s1.out]; rintro en v4 ⟨rfl, hB_v4⟩; have lay_v4 := laid_after hB_v4; have hG := cell_grown cc1 (by go_grown) hB_v4; replace cc1 := cl hG cc1; replace cc2 := cl hG cc2; replace cc3 := cl hG cc3; replace cc4 := cl hG cc4; replace fcc5 := fl hG fcc5 cc5; replace cc5 := cl hG cc5; replace fcc6 := fl hG fcc6 cc6; replace cc6 := cl hG cc6; replace fcc7 := fl hG fcc7 cc7; replace cc7 := cl hG cc7; replace fcc8 := fl hG fcc8 cc8; replace cc8 := cl hG cc8; replace fcc9 := fl hG fcc9 cc9; replace cc9 := cl hG cc9; replace fcc10 := fl hG fcc10 cc10; replace cc10 := cl hG cc10; replace hBW := below_after hBW hG; have hs_v4 := hG.size; clear hG; have hn_v4 := an (nl cc1) (an (nl cc5) (nl cc8)); clear hB_v4)
  go_wp2_with fail
  rw [rounds_succ]
  skip
  rcases hq with ⟨rfl, rfl, rfl, rfl, rfl⟩ | ⟨rfl, rfl, rfl, rfl, rfl⟩ | ⟨rfl, rfl, rfl, rfl, rfl⟩
  · skip
    (go_wp2_with fail; refine (ref_NaN f h' l' _).mono ?_; rw [n2.out]; rintro en v5 ⟨rfl, hB_v5⟩; have lay_v5 := laid_after hB_v5; have hG := cell_grown cc1 (by go_grown) hB_v5; replace cc1 := cl hG cc1; replace cc2 := cl hG cc2; replace cc3 := cl hG cc3; replace cc4 := cl hG cc4; replace fcc5 := fl hG fcc5 cc5; replace cc5 := cl hG cc5; replace fcc6 := fl hG fcc6 cc6; replace cc6 := cl hG cc6; replace fcc7 := fl hG fcc7 cc7; replace cc7 := cl hG cc7; replace fcc8 := fl hG fcc8 cc8; replace cc8 := cl hG cc8; replace fcc9 := fl hG fcc9 cc9; replace cc9 := cl hG cc9; replace fcc10 := fl hG fcc10 cc10; replace cc10 := cl hG cc10; replace hBW := below_after hBW hG; have hs_v5 := hG.size; clear hG; have hn_v5 := an (nl cc1) (an (nl cc5) (nl cc8)); clear hB_v5)
    (go_wp2_with fail; refine (ref_Signaling f h' l' _).mono ?_; rw [s2.out]; rintro en v6 ⟨rfl, hB_v6⟩; have lay_v6 := laid_after hB_v6; have hG := cell_grown cc1 (by go_grown) hB_v6; replace cc1 := cl hG cc1; replace cc2 := cl hG cc2; replace cc3 := cl hG cc3; replace cc4 := cl hG cc4; replace fcc5 := fl hG fcc5 cc5; replace cc5 := cl hG cc5; replace fcc6 := fl hG fcc6 cc6; replace cc6 := cl hG cc6; replace fcc7 := fl hG fcc7 cc7; replace cc7 := cl hG cc7; replace fcc8 := fl hG fcc8 cc8; replace cc8 := cl hG cc8; replace fcc9 := fl hG fcc9 cc9; replace cc9 := cl hG cc9; replace fcc10 := fl hG fcc10 cc10; replace cc10 := cl hG cc10; replace hBW := below_after hBW hG; have hs_v6 := hG.size; clear hG; have hn_v6 := an (nl cc1) (an (nl cc5) (nl cc8)); clear hB_v6)
    go_wp2_with fail
    rw [rounds_succ]
    go_wp2_with fail
    refine bodyPost_ret (by simp [results, Tryz.results36, go_sem, cc5, cc6, cc7]; try rfl) rfl ?_
    exact ⟨rfl, by go_grown⟩
  · skip
    (go_wp2_with fail; refine (ref_NaN f h' l' _).mono ?_; rw [n2.out]; rintro en v7 ⟨rfl, hB_v7⟩; have lay_v7 := laid_after hB_v7; have hG := cell_grown cc1 (by go_grown) hB_v7; replace cc1 := cl hG cc1; replace cc2 := cl hG cc2; replace cc3 := cl hG cc3; replace cc4 := cl hG cc4; replace fcc5 := fl hG fcc5 cc5; replace cc5 := cl hG cc5; replace fcc6 := fl hG fcc6 cc6; replace cc6 := cl hG cc6; replace fcc7 := fl hG fcc7 cc7; replace cc7 := cl hG cc7; replace fcc8 := fl hG fcc8 cc8; replace cc8 := cl hG cc8; replace fcc9 := fl hG fcc9 cc9; replace cc9 := cl hG cc9; replace fcc10 := fl hG fcc10 cc10; replace cc10 := cl hG cc10; replace hBW := below_after hBW hG; have hs_v7 := hG.size; clear hG; have hn_v7 := an (nl cc1) (an (nl cc5) (nl cc8)); clear hB_v7)
    (go_wp2_with fail; refine (ref_Signaling f h' l' _).mono ?_; rw [s2.out]; rintro en v8 ⟨rfl, hB_v8⟩; have lay_v8 := laid_after hB_v8; have hG := cell_grown cc1 (by go_grown) hB_v8; replace cc1 := cl hG cc1; replace cc2 := cl hG cc2; replace cc3 := cl hG cc3; replace cc4 := cl hG cc4; replace fcc5 := fl hG fcc5 cc5; replace cc5 := cl hG cc5; replace fcc6 := fl hG fcc6 cc6; replace cc6 := cl hG cc6; replace fcc7 := fl hG fcc7 cc7; replace cc7 := cl hG cc7; replace fcc8 := fl hG fcc8 cc8; replace cc8 := cl hG cc8; replace fcc9 := fl hG fcc9 cc9; replace cc9 := cl hG cc9; replace fcc10 := fl hG fcc10 cc10; replace cc10 := cl hG cc10; replace hBW := below_after hBW hG; have hs_v8 := hG.size; clear hG; have hn_v8 := an (nl cc1) (an (nl cc5) (nl cc8)); clear hB_v8)
    go_wp2_with fail
    rw [rounds_succ]
    go_wp2_with fail
    refine bodyPost_ret (by simp [results, Tryz.results36, go_sem, cc5, cc6, cc7]; try rfl) rfl ?_
    exact ⟨rfl, by go_grown⟩
  · skip
    (go_wp2_with fail; refine (ref_NaN f h' l' _).mono ?_; rw [n2.out]; rintro en v9 ⟨rfl, hB_v9⟩; have lay_v9 := laid_after hB_v9; have hG := cell_grown cc1 (by go_grown) hB_v9; replace cc1 := cl hG cc1; replace cc2 := cl hG cc2; replace cc3 := cl hG cc3; replace cc4 := cl hG cc4; replace fcc5 := fl hG fcc5 cc5; replace cc5 := cl hG cc5; replace fcc6 := fl hG fcc6 cc6; replace cc6 := cl hG cc6; replace fcc7 := fl hG fcc7 cc7; replace cc7 := cl hG cc7; replace fcc8 := fl hG fcc8 cc8; replace cc8 := cl hG cc8; replace fcc9 := fl hG fcc9 cc9; replace cc9 := cl hG cc9; replace fcc10 := fl hG fcc10 cc10; replace cc10 := cl hG cc10; replace hBW := below_after hBW hG; have hs_v9 := hG.size; clear hG; have hn_v9 := an (nl cc1) (an (nl cc5) (nl cc8)); clear hB_v9)
    (go_wp2_with fail; refine (ref_Signaling f h' l' _).mono ?_; rw [s2.out]; rintro en v10 ⟨rfl, hB_v10⟩; have lay_v10 := laid_after hB_v10; have hG := cell_grown cc1 (by go_grown) hB_v10; replace cc1 := cl hG cc1; replace cc2 := cl hG cc2; replace cc3 := cl hG cc3; replace cc4 := cl hG cc4; replace fcc5 := fl hG fcc5 cc5; replace cc5 := cl hG cc5; replace fcc6 := fl hG fcc6 cc6; replace cc6 := cl hG cc6; replace fcc7 := fl hG fcc7 cc7; replace cc7 := cl hG cc7; replace fcc8 := fl hG fcc8 cc8; replace cc8 := cl hG cc8; replace fcc9 := fl hG fcc9 cc9; replace cc9 := cl hG cc9; replace fcc10 := fl hG fcc10 cc10; replace cc10 := cl hG cc10; replace hBW := below_after hBW hG; have hs_v10 := hG.size; clear hG; have hn_v10 := an (nl cc1) (an (nl cc5) (nl cc8)); clear hB_v10)
    skip
    go_upto_region 7 with fail
    ((first | refine wp_rename ?_ | refine goal_rename ?_); intro W11 hw_W11; replace cc1 := rn hw_W11 cc1 (by go_simp); replace cc2 := rn hw_W11 cc2 (by go_simp); replace cc3 := rn hw_W11 cc3 (by go_simp); replace cc4 := rn hw_W11 cc4 (by go_simp); replace cc5 := rn hw_W11 cc5 (by go_simp); replace fcc5 := rf hw_W11 fcc5 (by go_simp); replace cc6 := rn hw_W11 cc6 (by go_simp); replace fcc6 := rf hw_W11 fcc6 (by go_simp); replace cc7 := rn hw_W11 cc7 (by go_simp); replace fcc7 := rf hw_W11 fcc7 (by go_simp); replace cc8 := rn hw_W11 cc8 (by go_simp); replace fcc8 := rf hw_W11 fcc8 (by go_simp); replace cc9 := rn hw_W11 cc9 (by go_simp); replace fcc9 := rf hw_W11 fcc9 (by go_simp); replace cc10 : W11.cell? ⟨v0.heap.size, 2, none⟩ = some (.int .u8 1) := (by rw [hw_W11]; go_simp); replace fcc10 := rf hw_W11 fcc10 (by go_simp); replace hBW : Below w.heap.size w W11 := (by rw [hw_W11]; (first | with_reducible exact drewN_below (by assumption) _ | go_grown)); have hn_W11 := an (nl cc1) (an (nl cc5) (nl cc8)); have lay_W11 : Laid W11 := Laid.below (w := w) (by assumption) hBW; clear hw_W11)
    go_wp2_with fail
    rw [rounds_succ]
    go_wp2_with fail
    refine bodyPost_ret (by simp [results, Tryz.results36, go_sem, cc5, cc6, cc7]; try rfl) rfl ?_
    exact ⟨rfl, by go_grown⟩
theorem rpick2_s (f h l h' l' qh ql fg : Int) (inv ok : Bool) (b : Nat) [hU : U8 f] [U64 h] [U64 l] [U64 h'] [U64 l'] (w : World) [hLay : Laid w] (c0 : w.cell? ⟨b, 0, none⟩ = some (.int .u64 h)) (c1 : w.cell? ⟨b, 1, none⟩ = some (.int .u64 l)) (c2 : w.cell? ⟨b, 2, none⟩ = some (.int .u64 h')) (c3 : w.cell? ⟨b, 3, none⟩ = some (.int .u64 l')) (hf : f < 4) (n1 : Hid (decide (4 ≤ classF f (cat h l)) = true)) (s1 : Hid (decide (classF f (cat h l) = 5) = true)) (q0 : Hid (hi (quietF f (cat h l)) = qh)) (q1 : Hid (lo (quietF f (cat h l)) = ql)) (x y : Bool) (n2 : Hid (decide (4 ≤ classF f (cat h' l')) = x)) (s2 : Hid (decide (classF f (cat h' l') = 5) = y))
    (hq : (x = false ∧ y = false ∧ inv = false ∧ ok = true ∧ fg = 1) ∨ (x = true ∧ y = false ∧ inv = false ∧ ok = true ∧ fg = 1) ∨ (x = true ∧ y = true ∧ inv = false ∧ ok = true ∧ fg = 1)) :
    Calls Tryz.prog 36 #[.int .u8 f, .bool inv, .slice (some ⟨b, 0, none⟩) 2 2] w fun en w' => en = .returned (.tuple #[.agg #[.int .u64 qh, .int .u64 ql, .int .u8 fg], .bool ok]) ∧ Below w.heap.size w w' := by
  have q1_ : decide (f > 3) = false := decide_eq_false (by omega)
  have sb : b < w.heap.size := World.block_lt_of_cell? w _ c0
  go_enter Tryz.func36, Tryz.ntmps36
  skip
  (go_wp2_with fail; refine (ref_Default f _ hf).mono ?_; rintro en v0 ⟨rfl, hB_v0⟩; have lay_v0 := laid_after hB_v0; have cc1 := cl hB_v0 (show World.cell? _ ⟨b, 0, none⟩ = some (.int .u64 h) by go_simp); have cc2 := cl hB_v0 (show World.cell? _ ⟨b, 1, none⟩ = some (.int .u64 l) by go_simp); have cc3 := cl hB_v0 (show World.cell? _ ⟨b, 2, none⟩ = some (.int .u64 h') by go_simp); have cc4 := cl hB_v0 (show World.cell? _ ⟨b, 3, none⟩ = some (.int .u64 l') by go_simp); obtain ⟨cc5, fcc5⟩ := pf hB_v0 (show World.cell? _ ⟨w.heap.size, 0, none⟩ = some (.int .u64 0) by go_simp) (by go_simp); obtain ⟨cc6, fcc6⟩ := pf hB_v0 (show World.cell? _ ⟨w.heap.size, 1, none⟩ = some (.int .u64 0) by go_simp) (by go_simp); obtain ⟨cc7, fcc7⟩ := pf hB_v0 (show World.cell? _ ⟨w.heap.size, 2, none⟩ = some (.int .u8 0) by go_simp) (by go_simp); have hs_v0 := hB_v0.size; (try simp only [World.size_alloc, World.size_setCell, World.size_drew] at hs_v0); have hBW : Below w.heap.size w v0 := below_after (w := w) (by go_grown) hB_v0; have hn_v0 := an (nl cc1) (nl cc5); clear hB_v0)
  go_wp2_with fail
  refine wp_loop_rounds 3 ?_
  rw [rounds_succ]
  (go_wp2_with fail; refine (ref_NaN f h l _).mono ?_; rw [n1.out]; rintro en v1 ⟨rfl, hB_v1⟩; have lay_v1 := laid_after hB_v1; have hG := cell_grown cc1 (by go_grown) hB_v1; replace cc1 := cl hG cc1; replace cc2 := cl hG cc2; replace cc3 := cl hG cc3; replace cc4 := cl hG cc4; replace fcc5 := fl hG fcc5 cc5; replace cc5 := cl hG cc5; replace fcc6 := fl hG fcc6 cc6; replace cc6 := cl hG cc6; replace fcc7 := fl hG fcc7 cc7; replace cc7 := cl hG cc7; obtain ⟨cc8, fcc8⟩ := pf hB_v1 (show World.cell? _ ⟨v0.heap.size, 0, none⟩ = some (.int .u64 (hi (defF f))) by go_simp) (by go_simp); obtain ⟨cc9, fcc9⟩ := pf hB_v1 (show World.cell? _ ⟨v0.heap.size, 1, none⟩ = some (.int .u64 (lo (defF f))) by go_simp) (by go_simp); obtain ⟨cc10, fcc10⟩ := pf hB_v1 (show World.cell? _ ⟨v0.heap.size, 2, none⟩ = some (.int .u8 0) by go_simp) (by go_simp); replace hBW := below_after hBW hG; have hs_v1 := hG.size; clear hG; have hn_v1 := an (nl cc1) (an (nl cc5) (nl cc8)); clear hB_v1)
  (go_wp2_with fail; refine (ref_Quiet f h l _ hf).mono ?_; rw [q0.out, q1.out]; rintro en v2 ⟨rfl, hB_v2⟩; have lay_v2 := laid_after hB_v2; have hG := cell_grown cc1 (by go_grown) hB_v2; replace cc1 := cl hG cc1; replace cc2 := cl hG cc2; replace cc3 := cl hG cc3; replace cc4 := cl hG cc4; replace fcc5 := fl hG fcc5 cc5; replace cc5 := cl hG cc5; replace fcc6 := fl hG fcc6 cc6; replace cc6 := cl hG cc6; replace fcc7 := fl hG fcc7 cc7; replace cc7 := cl hG cc7; replace fcc8 := fl hG fcc8 cc8; replace cc8 := cl hG cc8; replace fcc9 := fl hG fcc9 cc9; replace cc9 := cl hG cc9; replace fcc10 := fl hG fcc10 cc10; replace cc10 := cl hG cc10; replace hBW := below_after hBW hG; have hs_v2 := hG.size; clear hG; have hn_v2 := an (nl cc1) (an (nl cc5) (nl cc8)); clear hB_v2)
  skip
  skip
  go_upto_region 11 with fail
  ((first | refine wp_rename ?_ | refine goal_rename ?_); intro W3 hw_W3; replace cc1 := rn hw_W3 cc1 (by go_simp); replace cc2 := rn hw_W3 cc2 (by go_simp); replace cc3 := rn hw_W3 cc3 (by go_simp); replace cc4 := rn hw_W3 cc4 (by go_simp); replace cc5 := rn hw_W3 cc5 (by go_simp); replace fcc5 := rf hw_W3 fcc5 (by go_simp); replace cc6 := rn hw_W3 cc6 (by go_simp); replace fcc6 := rf hw_W3 fcc6 (by go_simp); replace cc7 := rn hw_W3 cc7 (by go_simp); replace fcc7 := rf hw_W3 fcc7 (by go_simp); replace cc8 : W3.cell? ⟨v0.heap.size, 0, none⟩ = some (.int .u64 qh) := (by rw [hw_W3]; go_simp); replace fcc8 := rf hw_W3 fcc8 (by go_simp); replace cc9 : W3.cell? ⟨v0.heap.size, 1, none⟩ = some (.int .u64 ql) := (by rw [hw_W3]; go_simp); replace fcc9 := rf hw_W3 fcc9 (by go_simp); replace cc10 := rn hw_W3 cc10 (by go_simp); replace fcc10 := rf hw_W3 fcc10 (by go_simp); replace hBW : Below w.heap.size w W3 := (by rw [hw_W3]; (first | with_reducible exact drewN_below (by assumption) _ | go_grown)); have hn_W3 := an (nl cc1) (an (nl cc5) (nl cc8)); have lay_W3 : Laid W3 := Laid.below (w := w) (by assumption) hBW; clear hw_W3)
  (go_wp2_with fail; refine (ref_Signaling f h l _).mono ?_; rw [s1.out]; rintro en v4 ⟨rfl, hB_v4⟩; have lay_v4 := laid_after hB_v4; have hG := cell_grown cc1 (by go_grown) hB_v4; replace cc1 := cl hG cc1; replace cc2 := cl hG cc2; replace cc3 := cl hG cc3; replace cc4 := cl hG cc4; replace fcc5 := fl hG fcc5 cc5; replace cc5 := cl hG cc5; replace fcc6 := fl hG fcc6 cc6; replace cc6 := cl hG cc6; replace fcc7 := fl hG fcc7 cc7; replace cc7 := cl hG cc7; replace fcc8 := fl hG fcc8 cc8; replace cc8 := cl hG cc8; replace fcc9 := fl hG fcc9 cc9; replace cc9 := cl hG cc9; replace fcc10 := fl hG fcc10 cc10; replace cc10 := cl hG cc10; replace hBW := below_after hBW hG; have hs_v4 := hG.size; clear hG; have hn_v4 := an (nl cc1) (an (nl cc5) (nl cc8)); clear hB_v4)
  skip
  go_upto_region 7 with fail
  ((first | refine wp_rename ?_ | refine goal_rename ?_); intro W5 hw_W5; replace cc1 := rn hw_W5 cc1 (by go_simp); replace cc2 := rn hw_W5 cc2 (by go_simp); replace cc3 := rn hw_W5 cc3 (by go_simp); replace cc4 := rn hw_W5 cc4 (by go_simp); replace cc5 := rn hw_W5 cc5 (by go_simp); replace fcc5 := rf hw_W5 fcc5 (by go_simp); replace cc6 := rn hw_W5 cc6 (by go_simp); replace fcc6 := rf hw_W5 fcc6 (by go_simp); replace cc7 := rn hw_W5 cc7 (by go_simp); replace fcc7 := rf hw_W5 fcc7 (by go_simp); replace cc8 := rn hw_W5 cc8 (by go_simp); replace fcc8 := rf hw_W5 fcc8 (by go_simp); replace cc9 := rn hw_W5 cc9 (by go_simp); replace fcc9 := rf hw_W5 fcc9 (by go_simp); replace cc10 : W5.cell? ⟨v0.heap.size, 2, none⟩ = some (.int .u8 1) := (by rw [hw_W5]; go_simp); replace fcc10 := rf hw_W5 fcc10 (by go_simp); replace hBW : Below w.heap.size w W5 := (by rw [hw_W5]; (first | with_reducible exact drewN_below (by assumption) _ | go_grown)); have hn_W5 := an (nl cc1) (an (nl cc5) (nl cc8)); have lay_W5 : Laid W5 := Laid.below (w := w) (by assumption) hBW; clear hw_W5)
  go_wp2_with fail
  rw [rounds_succ]
  skip
  rcases hq with ⟨rfl, rfl, rfl, rfl, rfl⟩ | ⟨rfl, rfl, rfl, rfl, rfl⟩ | ⟨rfl, rfl, rfl, rfl, rfl⟩
  · skip
    (go_wp2_with fail; refine (ref_NaN f h' l' _).mono ?_; rw [n2.out]; rintro en v6 ⟨rfl, hB_v6⟩; have lay_v6 := laid_after hB_v6; have hG := cell_grown cc1 (by go_grown) hB_v6; replace cc1 := cl hG cc1; replace cc2 := cl hG cc2; replace cc3 := cl hG cc3; replace cc4 := cl hG cc4; replace fcc5 := fl hG fcc5 cc5; replace cc5 := cl hG cc5; replace fcc6 := fl hG fcc6 cc6; replace cc6 := cl hG cc6; replace fcc7 := fl hG fcc7 cc7; replace cc7 := cl hG cc7; replace fcc8 := fl hG fcc8 cc8; replace cc8 := cl hG cc8; replace fcc9 := fl hG fcc9 cc9; replace cc9 := cl hG cc9; replace fcc10 := fl hG fcc10 cc10; replace cc10 := cl hG cc10; replace hBW := below_after hBW hG; have hs_v6 := hG.size; clear hG; have hn_v6 := an (nl cc1) (an (nl cc5) (nl cc8)); clear hB_v6)
    (go_wp2_with fail; refine (ref_Signaling f h' l' _).mono ?_; rw [s2.out]; rintro en v7 ⟨rfl, hB_v7⟩; have lay_v7 := laid_after hB_v7; have hG := cell_grown cc1 (by go_grown) hB_v7; replace cc1 := cl hG cc1; replace cc2 := cl hG cc2; replace cc3 := cl hG cc3; replace cc4 := cl hG cc4; replace fcc5 := fl hG fcc5 cc5; replace cc5 := cl hG cc5; replace fcc6 := fl hG fcc6 cc6; replace cc6 := cl hG cc6; replace fcc7 := fl hG fcc7 cc7; replace cc7 := cl hG cc7; replace fcc8 := fl hG fcc8 cc8; replace cc8 := cl hG cc8; replace fcc9 := fl hG fcc9 cc9; replace cc9 := cl hG cc9; replace fcc10 := fl hG fcc10 cc10; replace cc10 := cl hG cc10; replace hBW := below_after hBW hG; have hs_v7 := hG.size; clear hG; have hn_v7 := an (nl cc1) (an (nl cc5) (nl cc8)); clear hB_v7)
    go_wp2_with fail
    rw [rounds_succ]
    go_wp2_with fail
    refine bodyPost_ret (by simp [results, Tryz.results36, go_sem, cc5, cc6, cc7]; try rfl) rfl ?_
    exact ⟨rfl, by go_grown⟩
  · skip
    (go_wp2_with fail; refine (ref_NaN f h' l' _).mono ?_; rw [n2.out]; rintro en v8 ⟨rfl, hB_v8⟩; have lay_v8 := laid_after hB_v8; have hG := cell_grown cc1 (by go_grown) hB_v8; replace cc1 := cl hG cc1; replace cc2 := cl hG cc2; replace cc3 := cl hG cc3; replace cc4 := cl hG cc4; replace fcc5 := fl hG fcc5 cc5; replace cc5 := cl hG cc5; replace fcc6 := fl hG fcc6 cc6; replace cc6 := cl hG cc6; replace fcc7 := fl hG fcc7 cc7; replace cc7 := cl hG cc7; replace fcc8 := fl hG fcc8 cc8; replace cc8 := cl hG cc8; replace fcc9 := fl hG fcc9 cc9; replace cc9 := cl hG cc9; replace fcc10 := fl hG fcc10 cc10; replace cc10 := cl hG cc10; replace hBW := below_after hBW hG; have hs_v8 := hG.size; clear hG; have hn_v8 := an (nl cc1) (an (nl cc5) (nl cc8)); clear hB_v8)
    (go_wp2_with fail; refine (ref_Signaling f h' l' _).mono ?_; rw [s2.out]; rintro en v9 ⟨rfl, hB_v9⟩; have lay_v9 := laid_after hB_v9; have hG := cell_grown cc1 (by go_grown) hB_v9; replace cc1 := cl hG cc1; replace cc2 := cl hG cc2; replace cc3 := cl hG cc3; replace cc4 := cl hG cc4; replace fcc5 := fl hG fcc5 cc5; replace cc5 := cl hG cc5; replace fcc6 := fl hG fcc6 cc6; replace cc6 := cl hG cc6; replace fcc7 := fl hG fcc7 cc7; replace cc7 := cl hG cc7; replace fcc8 := fl hG fcc8 cc8; replace cc8 := cl hG cc8; replace fcc9 := fl hG fcc9 cc9; replace cc9 := cl hG cc9; replace fcc10 := fl hG fcc10 cc10; replace cc10 := cl hG cc10; replace hBW := below_after hBW hG; have hs_v9 := hG.size; clear hG; have hn_v9 := an (nl cc1) (an (nl cc5) (nl cc8)); clear hB_v9)
    go_wp2_with fail
    rw [rounds_succ]
    go_wp2_with fail
    refine bodyPost_ret (by simp [results, Tryz.results36, go_sem, cc5, cc6, cc7]; try rfl) rfl ?_
    exact ⟨rfl, by go_grown⟩
  · skip
    (go_wp2_with fail; refine (ref_NaN f h' l' _).mono ?_; rw [n2.out]; rintro en v10 ⟨rfl, hB_v10⟩; have lay_v10 := laid_after hB_v10; have hG := cell_grown cc1 (by go_grown) hB_v10; replace cc1 := cl hG cc1; replace cc2 := cl hG cc2; replace cc3 := cl hG cc3; replace cc4 := cl hG cc4; replace fcc5 := fl hG fcc5 cc5; replace cc5 := cl hG cc5; replace fcc6 := fl hG fcc6 cc6; replace cc6 := cl hG cc6; replace fcc7 := fl hG fcc7 cc7; replace cc7 := cl hG cc7; replace fcc8 := fl hG fcc8 cc8; replace cc8 := cl hG cc8; replace fcc9 := fl hG fcc9 cc9; replace cc9 := cl hG cc9; replace fcc10 := fl hG fcc10 cc10; replace cc10 := cl hG cc10; replace hBW := below_after hBW hG; have hs_v10 := hG.size; clear hG; have hn_v10 := an (nl cc1) (an (nl cc5) (nl cc8)); clear hB_v10)
    (go_wp2_with fail; refine (ref_Signaling f h' l' _).mono ?_; rw [s2.out]; rintro en v11 ⟨rfl, hB_v11⟩; have lay_v11 := laid_after hB_v11; have hG := cell_grown cc1 (by go_grown) hB_v11; replace cc1 := cl hG cc1; replace cc2 := cl hG cc2; replace cc3 := cl hG cc3; replace cc4 := cl hG cc4; replace fcc5 := fl hG fcc5 cc5; replace cc5 := cl hG cc5; replace fcc6 := fl hG fcc6 cc6; replace cc6 := cl hG cc6; replace fcc7 := fl hG fcc7 cc7; replace cc7 := cl hG cc7; replace fcc8 := fl hG fcc8 cc8; replace cc8 := cl hG cc8; replace fcc9 := fl hG fcc9 cc9; replace cc9 := cl hG cc9; replace fcc10 := fl hG fcc10 cc10; replace cc10 := cl hG cc10; replace hBW := below_after hBW hG; have hs_v11 := hG.size; clear hG; have hn_v11 := an (nl cc1) (an (nl cc5) (nl cc8)); clear hB_v11)
    skip
    go_upto_region 7 with fail
    ((first | refine wp_rename ?_ | refine goal_rename ?_); intro W12 hw_W12; replace cc1 := rn hw_W12 cc1 (by go_simp); replace cc2 := rn hw_W12 cc2 (by go_simp); replace cc3 := rn hw_W12 cc3 (by go_simp); replace cc4 := rn hw_W12 cc4 (by go_simp); replace cc5 := rn hw_W12 cc5 (by go_simp); replace fcc5 := rf hw_W12 fcc5 (by go_simp); replace cc6 := rn hw_W12 cc6 (by go_simp); replace fcc6 := rf hw_W12 fcc6 (by go_simp); replace cc7 := rn hw_W12 cc7 (by go_simp); replace fcc7 := rf hw_W12 fcc7 (by go_simp); replace cc8 := rn hw_W12 cc8 (by go_simp); replace fcc8 := rf hw_W12 fcc8 (by go_simp); replace cc9 := rn hw_W12 cc9 (by go_simp); replace fcc9 := rf hw_W12 fcc9 (by go_simp); replace cc10 : W12.cell? ⟨v0.heap.size, 2, none⟩ = some (.int .u8 1) := (by rw [hw_W12]; go_simp); replace fcc10 := rf hw_W12 fcc10 (by go_simp); replace hBW : Below w.heap.size w W12 := (by rw [hw_W12]; (first | with_reducible exact drewN_below (by assumption) _ | go_grown)); have hn_W12 := an (nl cc1) (an (nl cc5) (nl cc8)); have lay_W12 : Laid W12 := Laid.below (w := w) (by assumption) hBW; clear hw_W12)
    go_wp2_with fail
    rw [rounds_succ]
    go_wp2_with fail
    refine bodyPost_ret (by simp [results, Tryz.results36, go_sem, cc5, cc6, cc7]; try rfl) rfl ?_
    exact ⟨rfl, by go_grown⟩
def pickV (f : Int) (inv : Bool) (a b : Nat) : Nat := if nanB f a then quietF f a else if nanB f b then quietF f b else if inv then defF f else 0
def pickK (f : Int) (inv : Bool) (a b : Nat) : Bool := nanB f a || nanB f b || inv
def pickFl (f : Int) (inv : Bool) (a b : Nat) : Int := if sigB f a || sigB f b || inv then 1 else 0
theorem sig_nan (f : Int) (v : Nat) : decide (classF f v = 5) = sigB f v ∧ (sigB f v = true → nanB f v = true) := by
  unfold sigB nanB
  by_cases h : classF f v = 5
  · rw [decide_eq_true h, h]; exact ⟨rfl, fun _ => rfl⟩
  · rw [decide_eq_false h]
    have : (classF f v == 5) = false := by rw [beq_eq_false_iff_ne]; exact h
    rw [this]; exact ⟨rfl, fun h => absurd h (by decide)⟩
/-- Pick of two. -/
theorem ref_Pick2 (f h l h' l' : Int) (inv : Bool) (b : Nat) [hU : U8 f] [U64 h] [U64 l] [U64 h'] [U64 l'] (w : World) [hLay : Laid w] (c0 : w.cell? ⟨b, 0, none⟩ = some (.int .u64 h)) (c1 : w.cell? ⟨b, 1, none⟩ = some (.int .u64 l)) (c2 : w.cell? ⟨b, 2, none⟩ = some (.int .u64 h')) (c3 : w.cell? ⟨b, 3, none⟩ = some (.int .u64 l')) (hf : f < 4)
    (hi_ : inv = true → nanB f (cat h l) = false ∧ nanB f (cat h' l') = false) :
    Calls Tryz.prog 36 #[.int .u8 f, .bool inv, .slice (some ⟨b, 0, none⟩) 2 2] w fun en w' => en = .returned (.tuple #[.agg #[.int .u64 (hi (pickV f inv (cat h l) (cat h' l'))), .int .u64 (lo (pickV f inv (cat h l) (cat h' l'))), .int .u8 (pickFl f inv (cat h l) (cat h' l'))], .bool (pickK f inv (cat h l) (cat h' l'))]) ∧ Below w.heap.size w w' := by
  obtain ⟨e1, e2⟩ := sig_nan f (cat h l)
  obtain ⟨e3, e4⟩ := sig_nan f (cat h' l')
  have d1 : decide (4 ≤ classF f (cat h l)) = nanB f (cat h l) := rfl
  have d2 : decide (4 ≤ classF f (cat h' l')) = nanB f (cat h' l') := rfl
  unfold pickV pickK pickFl
  cases hn : nanB f (cat h l)
  · have hs : sigB f (cat h l) = false := by cases h : sigB f (cat h l); rfl; rw [e2 h] at hn; exact hn
    rw [hs]
    simp only [Bool.false_eq_true, if_false, Bool.false_or]
    refine rpick2_n f h l h' l' _ _ _ inv _ b w c0 c1 c2 c3 hf (Lib.hid (by rw [d1, hn])) (Lib.hid (by rw [e1, hs])) _ _ (Lib.hid d2) (Lib.hid e3) ?_
    cases hm : nanB f (cat h' l')
    · have ht : sigB f (cat h' l') = false := by cases h : sigB f (cat h' l'); rfl; rw [e4 h] at hm; exact hm
      rw [ht]
      cases inv
      · simp only [Bool.false_eq_true, if_false, Bool.or_false]
        exact Or.inl ⟨(by first | trivial | rfl | exact Lib.hid rfl), (by first | trivial | rfl | exact Lib.hid rfl), (by first | trivial | rfl | exact Lib.hid rfl), (by first | trivial | rfl | exact Lib.hid rfl), (by first | trivial | rfl | exact Lib.hid rfl), (by first | trivial | rfl | exact Lib.hid rfl), (by first | trivial | rfl | exact Lib.hid rfl)⟩
      · simp only [Bool.false_eq_true, if_false, if_true, Bool.or_true]
        exact Or.inr (Or.inl ⟨(by first | trivial | rfl | exact Lib.hid rfl), (by first | trivial | rfl | exact Lib.hid rfl), (by first | trivial | rfl | exact Lib.hid rfl), (by first | trivial | rfl | exact Lib.hid rfl), (by first | trivial | rfl | exact Lib.hid rfl), (by first | trivial | rfl | exact Lib.hid rfl), (by first | trivial | rfl | exact Lib.hid rfl)⟩)
    · have hv : inv = false := by cases inv; rfl; have := (hi_ rfl).2; rw [hm] at this; exact absurd this (by decide)
      subst hv
      cases ht : sigB f (cat h' l')
      · simp only [Bool.false_eq_true, if_false, if_true, Bool.or_false]
        exact Or.inr (Or.inr (Or.inl ⟨(by first | trivial | rfl | exact Lib.hid rfl), (by first | trivial | rfl | exact Lib.hid rfl), (by first | trivial | rfl | exact Lib.hid rfl), (by first | trivial | rfl | exact Lib.hid rfl), (by first | trivial | rfl | exact Lib.hid rfl), (by first | trivial | rfl | exact Lib.hid rfl), (by first | trivial | rfl | exact Lib.hid rfl)⟩))
      · simp only [if_true, Bool.or_false]
        exact Or.inr (Or.inr (Or.inr ⟨(by first | trivial | rfl | exact Lib.hid rfl), (by first | trivial | rfl | exact Lib.hid rfl), (by first | trivial | rfl | exact Lib.hid rfl), (by first | trivial | rfl | exact Lib.hid rfl), (by first | trivial | rfl | exact Lib.hid rfl), (by first | trivial | rfl | exact Lib.hid rfl), (by first | trivial | rfl | exact Lib.hid rfl)⟩))
  · have hv : inv = false := by cases inv; rfl; have := (hi_ rfl).1; rw [hn] at this; exact absurd this (by decide)
    subst hv
    cases hs : sigB f (cat h l)
    · simp only [Bool.false_eq_true, if_false, if_true, Bool.false_or, Bool.true_or, Bool.or_false, Bool.or_true]
      refine rpick2_q f h l h' l' _ _ _ false _ b w c0 c1 c2 c3 hf (Lib.hid (by rw [d1, hn])) (Lib.hid (by rw [e1, hs])) (Lib.hid rfl) (Lib.hid rfl) _ _ (Lib.hid d2) (Lib.hid e3) ?_
      cases hm : nanB f (cat h' l')
      · have ht : sigB f (cat h' l') = false := by cases h : sigB f (cat h' l'); rfl; rw [e4 h] at hm; exact hm
        rw [ht]
        exact Or.inl ⟨(by first | trivial | rfl | exact Lib.hid rfl), (by first | trivial | rfl | exact Lib.hid rfl), (by first | trivial | rfl | exact Lib.hid rfl), (by first | trivial | rfl | exact Lib.hid rfl), (by first | trivial | rfl | exact Lib.hid rfl)⟩
      · cases ht : sigB f (cat h' l')
        · exact Or.inr (Or.inl ⟨(by first | trivial | rfl | exact Lib.hid rfl), (by first | trivial | rfl | exact Lib.hid rfl), (by first | trivial | rfl | exact Lib.hid rfl), (by first | trivial | rfl | exact Lib.hid rfl), (by first | trivial | rfl | exact Lib.hid rfl)⟩)
        · exact Or.inr (Or.inr ⟨(by first | trivial | rfl | exact Lib.hid rfl), (by first | trivial | rfl | exact Lib.hid rfl), (by first | trivial | rfl | exact Lib.hid rfl), (by first | trivial | rfl | exact Lib.hid rfl), (by first | trivial | rfl | exact Lib.hid rfl)⟩)
    · simp only [Bool.false_eq_true, if_false, if_true, Bool.false_or, Bool.true_or, Bool.or_false, Bool.or_true]
      refine rpick2_s f h l h' l' _ _ _ false _ b w c0 c1 c2 c3 hf (Lib.hid (by rw [d1, hn])) (Lib.hid (by rw [e1, hs])) (Lib.hid rfl) (Lib.hid rfl) _ _ (Lib.hid d2) (Lib.hid e3) ?_
      cases hm : nanB f (cat h' l')
      · have ht : sigB f (cat h' l') = false := by cases h : sigB f (cat h' l'); rfl; rw [e4 h] at hm; exact hm
        rw [ht]
        exact Or.inl ⟨(by first | trivial | rfl | exact Lib.hid rfl), (by first | trivial | rfl | exact Lib.hid rfl), (by first | trivial | rfl | exact Lib.hid rfl), (by first | trivial | rfl | exact Lib.hid rfl), (by first | trivial | rfl | exact Lib.hid rfl)⟩
      · cases ht : sigB f (cat h' l')
        · exact Or.inr (Or.inl ⟨(by first | trivial | rfl | exact Lib.hid rfl), (by first | trivial | rfl | exact Lib.hid rfl), (by first | trivial | rfl | exact Lib.hid rfl), (by first | trivial | rfl | exact Lib.hid rfl), (by first | trivial | rfl | exact Lib.hid rfl)⟩)
        · exact Or.inr (Or.inr ⟨(by first | trivial | rfl | exact Lib.hid rfl), (by first | trivial | rfl | exact Lib.hid rfl), (by first | trivial | rfl | exact Lib.hid rfl), (by first | trivial | rfl | exact Lib.hid rfl), (by first | trivial | rfl | exact Lib.hid rfl)⟩)
end Go.Proofs.YtkpjeceofcfnkaaGreatDoor
