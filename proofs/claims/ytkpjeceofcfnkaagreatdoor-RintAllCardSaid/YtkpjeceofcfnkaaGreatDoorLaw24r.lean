/- RintAll: the contract of the reference's Rint, the plain law, the walk: for every input. Condition: the listed table is laid. -/
import Derived.Test.YtkpjeceofcfnkaaGreatDoorRef10
import Derived.Test.YtkpjeceofcfnkaaGreatDoorRnd
import Derived.Test.YtkpjeceofcfnkaaGreatDoorRintP
import Derived.Test.YtkpjeceofcfnkaaGreatDoorLaw24a
set_option linter.unusedSimpArgs false
set_option linter.unusedVariables false
namespace Go.Proofs.YtkpjeceofcfnkaaGreatDoor
open Go.RowKit Go.Hb
/-- The reference's number made whole, rounded, is the program's. -/
theorem rint_ref (f m : Int) (v : Nat) (h0 : 0 ≤ f) (hf : f < 4) (hm : m ≤ 4) (hfin : classF f v < 3) :
    refR f 0 (sgnF f v) (wholeR f m v) 0 = rintB f m v ∧ refRF f 0 false (sgnF f v) (wholeR f m v) 0 = 0 := by
  obtain ⟨f1, f2, f3, f4, f5, f6⟩ := fmt_bd f h0 hf
  obtain ⟨m0, m1⟩ := emaxS_bd f
  obtain ⟨r1, r2, r3, r4⟩ := rint_rnd f m v h0 hf hm hfin
  obtain ⟨w1, w2⟩ := rnd_whole f m v h0 hf
  have hI := (class_fin f _ h0 hf).1 r1
  have hk : (200000 : Int) ≤ KK := by unfold KK; omega
  rw [w1] at r4
  unfold refR refRF
  rw [if_pos ⟨hf, by decide⟩, if_pos ⟨hf, by decide⟩, r3]
  by_cases hz : wholeR f m v = 0
  · rw [hz, Nat.zero_mul] at r4
    have hc : codeF f (rintB f m v) = 0 := by
      rcases Nat.eq_zero_or_pos (codeF f (rintB f m v)) with h | h
      · exact h
      · have := valC_lt (precS f).toNat (unitB f KK) h
        omega
    unfold refB refFl
    rw [if_pos hz, if_pos hz, makeF_c f 0 _ 0 h0 hf (by omega) (by omega), Nat.zero_mod, hc]
    exact ⟨by simp, rfl⟩
  · rw [ref_code f 0 _ _ 0 (255 + KK) h0 hf hz (by omega) (by omega) (by omega), ref_flag f 0 false _ _ 0 (255 + KK) h0 hf hz (by omega) (by omega) (by omega), Int.zero_add, show 255 + KK - 255 = KK by omega, ← r4]
    unfold flagX
    rw [codeX_self _ _ _ _ _ (by omega), rest_self _ _ _ (by omega), if_neg (by omega)]
    unfold endC
    rw [if_neg (by omega)]
    exact ⟨rfl, rfl⟩
theorem rint_other (f m : Int) (ex : Bool) (v : Nat) (h0 : 0 ≤ f) (hf : f < 4) (hm : m ≤ 4) (hfin : classF f v < 3) : rintFl f m ex v = (if otherR f v = true ∧ ex = true then 16 else 0) := by
  obtain ⟨w1, w2⟩ := rnd_whole f m v h0 hf
  rw [rint_fl f m ex v h0 hf hm hfin, ← w2]
  generalize restN (valC (precS f).toNat (unitB f KK) (codeF f v)) (255 + KK).toNat = R
  have : (R != 0) = true ↔ R ≠ 0 := bne_iff_ne
  simp only [this]
theorem whole_other (f : Int) (v : Nat) (h0 : 0 ≤ f) (hf : f < 4) (hfin : classF f v < 3) : wholeB f v = !(otherR f v) := by
  unfold wholeB
  rw [decide_eq_true hf, decide_eq_true hfin, rint_other f 4 true v h0 hf (by decide) hfin]
  cases otherR f v <;> rfl
theorem rint_inf_c (f m : Int) (ex : Bool) (v : Nat) (h0 : 0 ≤ f) (hf : f < 4) (hm : m ≤ 4) (hc : classF f v = 3) : rintB f m v = makeF f (sgnF f v) (2 * emaxS f + 1) 0 ∧ rintFl f m ex v = 0 := by
  obtain ⟨m0, m1⟩ := emaxS_bd f
  have hn : nanB f v = false := decide_eq_false (by omega)
  have hk : keepB f v = true := by unfold keepB; rw [hc]; rfl
  have hi := (class_code f v h0 hf).2.2.2.1.1 hc
  have e1 : rintB f m v = lowN v (widthS f) := by unfold rintB; rw [if_pos ⟨hf, hm⟩, hn, hk]; rfl
  have e2 : rintFl f m ex v = 0 := by unfold rintFl; rw [if_pos ⟨hf, hm⟩, hn, hk]; rfl
  refine ⟨?_, e2⟩
  rw [e1, makeF_c f _ _ 0 h0 hf (by omega) (by omega), Nat.zero_mod, Nat.add_zero, cut_code f v h0 hf, hi]
  rfl
set_option maxRecDepth 100000 in
theorem ref24_none (f m h l : Int) (ex : Bool) [hU : U8 f] [hM : U8 m] (w : World) (hk : ¬ (f < 4 ∧ m ≤ 4)) :
    Calls Tryz.prog 9 #[.int .u8 f, .int .u8 m, .bool ex, .agg #[.int .u64 (h), .int .u64 (l)]] w fun en w' => en = .returned (.agg #[.int .u64 0, .int .u64 0, .int .u8 0]) ∧ Below w.heap.size w w' := by
  by_cases hf : f < 4
  · have q1 : decide (f > 3) = false := decide_eq_false (by omega)
    have q2 : decide (m > 4) = true := decide_eq_true (by omega)
    clear hk
    go_enter Tryz.func9, Tryz.ntmps9
    go_wp2_with fail
    refine bodyPost_ret (by simp [results, Tryz.results9, go_sem]; try rfl) rfl ?_
    exact ⟨rfl, by go_grown⟩
  · have q1 : decide (f > 3) = true := decide_eq_true (by omega)
    clear hk
    go_enter Tryz.func9, Tryz.ntmps9
    go_wp2_with fail
    refine bodyPost_ret (by simp [results, Tryz.results9, go_sem]; try rfl) rfl ?_
    exact ⟨rfl, by go_grown⟩
set_option maxRecDepth 100000 in
set_option maxHeartbeats 4000000 in
theorem ref24_nan (f m h l qh ql fq : Int) (ex : Bool) [hU : U8 f] [hM : U8 m] [U64 h] [U64 l] (w : World) [hLay : Laid w] (hf : f < 4) (hm : m ≤ 4)
    (HP : ∀ (W : World) (b : Nat), Laid W → W.cell? ⟨b, 0, none⟩ = some (.int .u64 h) → W.cell? ⟨b, 1, none⟩ = some (.int .u64 l) → Calls Tryz.prog 36 #[.int .u8 f, .bool false, .slice (some ⟨b, 0, none⟩) 1 1] W fun en w' => en = .returned (.tuple #[.agg #[.int .u64 qh, .int .u64 ql, .int .u8 fq], .bool true]) ∧ Below W.heap.size W w') :
    Calls Tryz.prog 9 #[.int .u8 f, .int .u8 m, .bool ex, .agg #[.int .u64 (h), .int .u64 (l)]] w fun en w' => en = .returned (.agg #[.int .u64 qh, .int .u64 ql, .int .u8 fq]) ∧ Below w.heap.size w w' := by
  have q1 : decide (f > 3) = false := decide_eq_false (by omega)
  have q2 : decide (m > 4) = false := decide_eq_false (by omega)
  go_enter Tryz.func9, Tryz.ntmps9
  skip
  (go_wp2_with fail; refine (HP _ _ (by first | assumption | infer_instance) (by first | assumption | go_simp) (by first | assumption | go_simp)).mono ?_; rintro en v1 ⟨rfl, hB_v1⟩; have lay_v1 := laid_after hB_v1; have cc1 := cl hB_v1 (show World.cell? _ ⟨w.heap.size, 0, none⟩ = some (.int .u64 h) by go_simp); have cc2 := cl hB_v1 (show World.cell? _ ⟨w.heap.size, 1, none⟩ = some (.int .u64 l) by go_simp); obtain ⟨cc3, fcc3⟩ := pf hB_v1 (show World.cell? _ ⟨w.heap.size + 1, 0, none⟩ = some (.int .u64 0) by go_simp) (by go_simp); obtain ⟨cc4, fcc4⟩ := pf hB_v1 (show World.cell? _ ⟨w.heap.size + 1, 1, none⟩ = some (.int .u64 0) by go_simp) (by go_simp); obtain ⟨cc5, fcc5⟩ := pf hB_v1 (show World.cell? _ ⟨w.heap.size + 1, 2, none⟩ = some (.int .u8 0) by go_simp) (by go_simp); have hs_v1 := hB_v1.size; (try simp only [World.size_alloc, World.size_setCell, World.size_drew] at hs_v1); have hBW : Below w.heap.size w v1 := below_after (w := w) (by go_grown) hB_v1; have hn_v1 := an (nl cc1) (nl cc3); clear hB_v1)
  go_upto_region 4 with fail
  ((first | refine wp_rename ?_ | refine goal_rename ?_); intro W4 hw_W4; have hG := named cc1 W4 (by rw [hw_W4]; first | with_reducible exact drewN_below (Below.refl _ _) _ | go_grown); replace cc1 := cl hG cc1; replace cc2 := cl hG cc2; replace fcc3 := fl hG fcc3 cc3; replace cc3 := cl hG cc3; replace fcc4 := fl hG fcc4 cc4; replace cc4 := cl hG cc4; replace fcc5 := fl hG fcc5 cc5; replace cc5 := cl hG cc5; have cc6 : W4.cell? ⟨v1.heap.size, 0, none⟩ = some (.int .u64 qh) := (by rw [hw_W4]; go_simp); have cc7 : W4.cell? ⟨v1.heap.size, 1, none⟩ = some (.int .u64 ql) := (by rw [hw_W4]; go_simp); have cc8 : W4.cell? ⟨v1.heap.size, 2, none⟩ = some (.int .u8 fq) := (by rw [hw_W4]; go_simp); replace hBW := below_after hBW hG; have hs_W4 := hG.size; clear hG; have hn_W4 := an (nl cc1) (an (nl cc3) (nl cc6)); have lay_W4 : Laid W4 := Laid.below (w := w) (by assumption) hBW; clear hw_W4)
  go_wp2_with fail
  refine bodyPost_ret (by simp [results, Tryz.results9, go_sem, cc3, cc4, cc5]; try rfl) rfl ?_
  exact ⟨rfl, by go_grown⟩
set_option maxRecDepth 100000 in
set_option maxHeartbeats 4000000 in
theorem ref24_inf (f m h l r0 r1 : Int) (ex s : Bool) [hU : U8 f] [hM : U8 m] [U64 h] [U64 l] (w : World) [hLay : Laid w] (hf : f < 4) (hm : m ≤ 4) (n1 : Hid (decide (4 ≤ classF f (cat h l)) = false)) (s1 : Hid (decide (classF f (cat h l) = 5) = false))
    (hc : Hid (classF f (cat h l) = 3)) (hs : Hid (sgnF f (cat h l) = s)) (h2 : Hid (hi (makeF f s (2 * emaxS f + 1) 0) = r0)) (h3 : Hid (lo (makeF f s (2 * emaxS f + 1) 0) = r1)) :
    Calls Tryz.prog 9 #[.int .u8 f, .int .u8 m, .bool ex, .agg #[.int .u64 (h), .int .u64 (l)]] w fun en w' => en = .returned (.agg #[.int .u64 r0, .int .u64 r1, .int .u8 0]) ∧ Below w.heap.size w w' := by
  have q1 : decide (f > 3) = false := decide_eq_false (by omega)
  have q2 : decide (m > 4) = false := decide_eq_false (by omega)
  go_enter Tryz.func9, Tryz.ntmps9
  skip
  (go_wp2_with fail; refine (rpick1_n f h l 0 0 _ _ (by first | assumption | go_simp) (by first | assumption | go_simp) hf n1 s1).mono ?_; rintro en v1 ⟨rfl, hB_v1⟩; have lay_v1 := laid_after hB_v1; have cc1 := cl hB_v1 (show World.cell? _ ⟨w.heap.size, 0, none⟩ = some (.int .u64 h) by go_simp); have cc2 := cl hB_v1 (show World.cell? _ ⟨w.heap.size, 1, none⟩ = some (.int .u64 l) by go_simp); obtain ⟨cc3, fcc3⟩ := pf hB_v1 (show World.cell? _ ⟨w.heap.size + 1, 0, none⟩ = some (.int .u64 0) by go_simp) (by go_simp); obtain ⟨cc4, fcc4⟩ := pf hB_v1 (show World.cell? _ ⟨w.heap.size + 1, 1, none⟩ = some (.int .u64 0) by go_simp) (by go_simp); obtain ⟨cc5, fcc5⟩ := pf hB_v1 (show World.cell? _ ⟨w.heap.size + 1, 2, none⟩ = some (.int .u8 0) by go_simp) (by go_simp); have hs_v1 := hB_v1.size; (try simp only [World.size_alloc, World.size_setCell, World.size_drew] at hs_v1); have hBW : Below w.heap.size w v1 := below_after (w := w) (by go_grown) hB_v1; have hn_v1 := an (nl cc1) (nl cc3); clear hB_v1)
  (go_wp2_with fail; refine (ref_Of f h l _).mono ?_; rw [hc.out, hs.out]; rintro en v2 ⟨rfl, hB_v2⟩; have lay_v2 := laid_after hB_v2; have hG := cell_grown cc1 (by go_grown) hB_v2; replace cc1 := cl hG cc1; replace cc2 := cl hG cc2; replace fcc3 := fl hG fcc3 cc3; replace cc3 := cl hG cc3; replace fcc4 := fl hG fcc4 cc4; replace cc4 := cl hG cc4; replace fcc5 := fl hG fcc5 cc5; replace cc5 := cl hG cc5; have cc6 := cl hB_v2 (show World.cell? _ ⟨v1.heap.size, 0, none⟩ = some (.int .u64 0) by go_simp); have cc7 := cl hB_v2 (show World.cell? _ ⟨v1.heap.size, 1, none⟩ = some (.int .u64 0) by go_simp); have cc8 := cl hB_v2 (show World.cell? _ ⟨v1.heap.size, 2, none⟩ = some (.int .u8 0) by go_simp); have hs_v2 := hG.size; clear hG; replace hBW : Below w.heap.size w v2 := below_after (w := w) (by go_grown) hB_v2; have hn_v2 := an (nl cc1) (an (nl cc3) (nl cc6)); clear hB_v2)
  (go_wp2_with fail; refine (ref_Inf f s _ hf).mono ?_; rw [h2.out, h3.out]; rintro en v3 ⟨rfl, hB_v3⟩; have lay_v3 := laid_after hB_v3; have hG := cell_grown cc1 (by go_grown) hB_v3; replace cc1 := cl hG cc1; replace cc2 := cl hG cc2; replace fcc3 := fl hG fcc3 cc3; replace cc3 := cl hG cc3; replace fcc4 := fl hG fcc4 cc4; replace cc4 := cl hG cc4; replace fcc5 := fl hG fcc5 cc5; replace cc5 := cl hG cc5; replace cc6 := cl hG cc6; replace cc7 := cl hG cc7; replace cc8 := cl hG cc8; have hs_v3 := hG.size; clear hG; replace hBW : Below w.heap.size w v3 := below_after (w := w) (by go_grown) hB_v3; have hn_v3 := an (nl cc1) (an (nl cc3) (nl cc6)); clear hB_v3)
  go_wp2_with fail
  refine bodyPost_ret (by simp [results, Tryz.results9, go_sem, cc3, cc4, cc5]; try rfl) rfl ?_
  exact ⟨rfl, by go_grown⟩
set_option maxRecDepth 100000 in
set_option maxHeartbeats 4000000 in
theorem ref24_fin (f m h l c r0 r1 fg : Int) (ex s o : Bool) (n : Nat) [hU : U8 f] [hM : U8 m] [U64 h] [U64 l] [hZ : U8 0] (w : World) [hLay : Laid w] (hf : f < 4) (hm : m ≤ 4) (n1 : Hid (decide (4 ≤ classF f (cat h l)) = false)) (s1 : Hid (decide (classF f (cat h l) = 5) = false))
    (hc : Hid (classF f (cat h l) = c)) (c3 : (c == 3) = false) (hs : Hid (sgnF f (cat h l) = s)) (hn : Hid (wholeR f m (cat h l) = n)) (ho : Hid (otherR f (cat h l) = o)) (ln : dl n ≤ 30000)
    (h2 : Hid (hi (refR f 0 s n 0) = r0)) (h3 : Hid (lo (refR f 0 s n 0) = r1)) (h4 : Hid (refRF f 0 false s n 0 = 0)) (hq : (o = true ∧ ex = true ∧ fg = 16) ∨ (o = true ∧ ex = false ∧ fg = 0) ∨ (o = false ∧ fg = 0)) :
    Calls Tryz.prog 9 #[.int .u8 f, .int .u8 m, .bool ex, .agg #[.int .u64 (h), .int .u64 (l)]] w fun en w' => en = .returned (.agg #[.int .u64 r0, .int .u64 r1, .int .u8 fg]) ∧ Below w.heap.size w w' := by
  have q1 : decide (f > 3) = false := decide_eq_false (by omega)
  have q2 : decide (m > 4) = false := decide_eq_false (by omega)
  go_enter Tryz.func9, Tryz.ntmps9
  skip
  (go_wp2_with fail; refine (rpick1_n f h l 0 0 _ _ (by first | assumption | go_simp) (by first | assumption | go_simp) hf n1 s1).mono ?_; rintro en v1 ⟨rfl, hB_v1⟩; have lay_v1 := laid_after hB_v1; have cc1 := cl hB_v1 (show World.cell? _ ⟨w.heap.size, 0, none⟩ = some (.int .u64 h) by go_simp); have cc2 := cl hB_v1 (show World.cell? _ ⟨w.heap.size, 1, none⟩ = some (.int .u64 l) by go_simp); obtain ⟨cc3, fcc3⟩ := pf hB_v1 (show World.cell? _ ⟨w.heap.size + 1, 0, none⟩ = some (.int .u64 0) by go_simp) (by go_simp); obtain ⟨cc4, fcc4⟩ := pf hB_v1 (show World.cell? _ ⟨w.heap.size + 1, 1, none⟩ = some (.int .u64 0) by go_simp) (by go_simp); obtain ⟨cc5, fcc5⟩ := pf hB_v1 (show World.cell? _ ⟨w.heap.size + 1, 2, none⟩ = some (.int .u8 0) by go_simp) (by go_simp); have hs_v1 := hB_v1.size; (try simp only [World.size_alloc, World.size_setCell, World.size_drew] at hs_v1); have hBW : Below w.heap.size w v1 := below_after (w := w) (by go_grown) hB_v1; have hn_v1 := an (nl cc1) (nl cc3); clear hB_v1)
  (go_wp2_with fail; refine (ref_Of f h l _).mono ?_; rw [hc.out, hs.out]; rintro en v2 ⟨rfl, hB_v2⟩; have lay_v2 := laid_after hB_v2; have hG := cell_grown cc1 (by go_grown) hB_v2; replace cc1 := cl hG cc1; replace cc2 := cl hG cc2; replace fcc3 := fl hG fcc3 cc3; replace cc3 := cl hG cc3; replace fcc4 := fl hG fcc4 cc4; replace cc4 := cl hG cc4; replace fcc5 := fl hG fcc5 cc5; replace cc5 := cl hG cc5; have cc6 := cl hB_v2 (show World.cell? _ ⟨v1.heap.size, 0, none⟩ = some (.int .u64 0) by go_simp); have cc7 := cl hB_v2 (show World.cell? _ ⟨v1.heap.size, 1, none⟩ = some (.int .u64 0) by go_simp); have cc8 := cl hB_v2 (show World.cell? _ ⟨v1.heap.size, 2, none⟩ = some (.int .u8 0) by go_simp); have hs_v2 := hG.size; clear hG; replace hBW : Below w.heap.size w v2 := below_after (w := w) (by go_grown) hB_v2; have hn_v2 := an (nl cc1) (an (nl cc3) (nl cc6)); clear hB_v2)
  (go_wp2_with fail; refine (ref_Whole f m h l _ hf hm).mono ?_; rw [hn.out, ho.out]; rintro en v3 ⟨⟨u3, rfl, hR_u3⟩, hB_v3⟩; have lay_v3 := laid_after hB_v3; have hG := cell_grown cc1 (by go_grown) hB_v3; replace cc1 := cl hG cc1; replace cc2 := cl hG cc2; replace fcc3 := fl hG fcc3 cc3; replace cc3 := cl hG cc3; replace fcc4 := fl hG fcc4 cc4; replace cc4 := cl hG cc4; replace fcc5 := fl hG fcc5 cc5; replace cc5 := cl hG cc5; replace cc6 := cl hG cc6; replace cc7 := cl hG cc7; replace cc8 := cl hG cc8; have hs_v3 := hG.size; clear hG; replace hBW : Below w.heap.size w v3 := below_after (w := w) (by go_grown) hB_v3; have hn_v3 := an (nl cc1) (an (nl cc3) (nl cc6)); clear hB_v3)
  obtain ⟨qu, cu, rfl, _, _⟩ := id hR_u3
  (go_wp2_with fail; refine (ref_Round f 0 0 false s n _ _ hR_u3 ln (by omega) (by omega)).mono ?_; rw [h2.out, h3.out, h4.out]; rintro en v4 ⟨rfl, hB_v4⟩; have lay_v4 := laid_after hB_v4; replace hR_u3 := RN.later hR_u3 (below_after (by go_grown) hB_v4); have hG := cell_grown cc1 (by go_grown) hB_v4; replace cc1 := cl hG cc1; replace cc2 := cl hG cc2; replace fcc3 := fl hG fcc3 cc3; replace cc3 := cl hG cc3; replace fcc4 := fl hG fcc4 cc4; replace cc4 := cl hG cc4; replace fcc5 := fl hG fcc5 cc5; replace cc5 := cl hG cc5; replace cc6 := cl hG cc6; replace cc7 := cl hG cc7; replace cc8 := cl hG cc8; have hs_v4 := hG.size; clear hG; replace hBW : Below w.heap.size w v4 := below_after (w := w) (by go_grown) hB_v4; have hn_v4 := an (nl cc1) (an (nl cc3) (nl cc6)); clear hB_v4)
  clear hR_u3
  go_upto_region 11 with fail
  ((first | refine wp_rename ?_ | refine goal_rename ?_); intro W11 hw_W11; have hG := named cc1 W11 (by rw [hw_W11]; first | with_reducible exact drewN_below (Below.refl _ _) _ | go_grown); replace cc1 := cl hG cc1; replace cc2 := cl hG cc2; replace fcc3 := fl hG fcc3 cc3; replace cc3 := cl hG cc3; replace fcc4 := fl hG fcc4 cc4; replace cc4 := cl hG cc4; replace fcc5 := fl hG fcc5 cc5; replace cc5 := cl hG cc5; replace cc6 := cl hG cc6; replace cc7 := cl hG cc7; replace cc8 := cl hG cc8; have cc9 : W11.cell? ⟨v4.heap.size, 0, none⟩ = some (.int .u64 r0) := (by rw [hw_W11]; go_simp); have fcc9 : W11.frozen? ⟨v4.heap.size, 0, none⟩ = false := (by rw [hw_W11]; go_simp); have cc10 : W11.cell? ⟨v4.heap.size, 1, none⟩ = some (.int .u64 r1) := (by rw [hw_W11]; go_simp); have fcc10 : W11.frozen? ⟨v4.heap.size, 1, none⟩ = false := (by rw [hw_W11]; go_simp); have cc11 : W11.cell? ⟨v4.heap.size, 2, none⟩ = some (.int .u8 0) := (by rw [hw_W11]; go_simp); have fcc11 : W11.frozen? ⟨v4.heap.size, 2, none⟩ = false := (by rw [hw_W11]; go_simp); replace hBW := below_after hBW hG; have hs_W11 := hG.size; clear hG; have hn_W11 := an (nl cc1) (an (nl cc3) (an (nl cc6) (nl cc9))); have lay_W11 : Laid W11 := Laid.below (w := w) (by assumption) hBW; clear hw_W11)
  skip
  rcases hq with ⟨rfl, rfl, rfl⟩ | ⟨rfl, rfl, rfl⟩ | ⟨rfl, rfl⟩
  · skip
    go_wp2_with fail
    refine bodyPost_ret (by simp [results, Tryz.results9, go_sem, cc3, cc4, cc5]; try rfl) rfl ?_
    exact ⟨rfl, by go_grown⟩
  · skip
    go_wp2_with fail
    refine bodyPost_ret (by simp [results, Tryz.results9, go_sem, cc3, cc4, cc5]; try rfl) rfl ?_
    exact ⟨rfl, by go_grown⟩
  · skip
    go_wp2_with fail
    refine bodyPost_ret (by simp [results, Tryz.results9, go_sem, cc3, cc4, cc5]; try rfl) rfl ?_
    exact ⟨rfl, by go_grown⟩
theorem ref24_Rint (f m h l : Int) (ex : Bool) [hU : U8 f] [hM : U8 m] [U64 h] [U64 l] (w : World) [hLay : Laid w] :
    Calls Tryz.prog 9 #[.int .u8 f, .int .u8 m, .bool ex, .agg #[.int .u64 (h), .int .u64 (l)]] w fun en w' => en = .returned (.agg #[.int .u64 (hi (rintB f m (cat h l))), .int .u64 (lo (rintB f m (cat h l))), .int .u8 (rintFl f m ex (cat h l))]) ∧ Below w.heap.size w w' := by
  haveI hZ : U8 0 := ⟨by omega, by omega⟩
  have hbd := classF_bd f (cat h l)
  by_cases hk : f < 4 ∧ m ≤ 4
  · obtain ⟨hf, hm⟩ := hk
    by_cases hn : nanB f (cat h l) = true
    · have e1 : rintB f m (cat h l) = quietF f (cat h l) := by unfold rintB; rw [if_pos ⟨hf, hm⟩, if_pos hn]
      have e2 : rintFl f m ex (cat h l) = (if sigB f (cat h l) then 1 else 0) := by unfold rintFl; rw [if_pos ⟨hf, hm⟩, if_pos hn]
      rw [e1, e2]
      refine ref24_nan f m h l _ _ _ ex w hf hm (fun W b hW c0 c1 => ?_)
      have h1 := ref_Pick1 f h l b W c0 c1 hf
      rw [hn, if_pos rfl] at h1
      exact h1
    · have h4 : ¬ 4 ≤ classF f (cat h l) := fun h => hn (decide_eq_true h)
      have d1 : decide (4 ≤ classF f (cat h l)) = false := decide_eq_false h4
      have d2 : decide (classF f (cat h l) = 5) = false := decide_eq_false (by omega)
      by_cases hc : classF f (cat h l) = 3
      · obtain ⟨e1, e2⟩ := rint_inf_c f m ex (cat h l) hU.ge hf hm hc
        rw [e1, e2]
        exact ref24_inf f m h l _ _ ex _ w hf hm (Lib.hid d1) (Lib.hid d2) (Lib.hid hc) (Lib.hid rfl) (Lib.hid rfl) (Lib.hid rfl)
      · obtain ⟨e1, e2⟩ := rint_ref f m (cat h l) hU.ge hf hm (by omega)
        rw [← e1, rint_other f m ex (cat h l) hU.ge hf hm (by omega)]
        refine ref24_fin f m h l _ _ _ _ ex _ (otherR f (cat h l)) _ w hf hm (Lib.hid d1) (Lib.hid d2) (Lib.hid rfl) (by rw [beq_eq_false_iff_ne]; exact hc) (Lib.hid rfl) (Lib.hid rfl) (Lib.hid rfl) (wholeR_dl3 f m (cat h l) hU.ge hf) (Lib.hid rfl) (Lib.hid rfl) (Lib.hid e2) ?_
        cases otherR f (cat h l)
        · exact Or.inr (Or.inr ⟨rfl, rfl⟩)
        · cases ex
          · exact Or.inr (Or.inl ⟨rfl, rfl, rfl⟩)
          · exact Or.inl ⟨rfl, rfl, rfl⟩
  · have e1 : rintB f m (cat h l) = 0 := by unfold rintB; rw [if_neg hk]
    have e2 : rintFl f m ex (cat h l) = 0 := by unfold rintFl; rw [if_neg hk]
    rw [e1, e2]
    exact ref24_none f m h l ex w hk
set_option maxRecDepth 100000 in
set_option maxHeartbeats 4000000 in
theorem rintall_in (f m h l c r0 r1 rf : Int) (ex s o z : Bool) (n : Nat) [hU : U8 f] [hM : U8 m] [U64 h] [U64 l] [hF : U8 4] (w : World) [hLay : Laid w] (hf : f < 4) (hc : Hid (classF f (cat h l) = c)) (hs : Hid (sgnF f (cat h l) = s)) (c2 : decide (c ≤ 2) = true) (hn : Hid (wholeR f 4 (cat h l) = n)) (ho : Hid (otherR f (cat h l) = o)) (hz : Hid (wholeB f (cat h l) = z)) (hoz : (o = true ∧ z = false) ∨ (o = false ∧ z = true))
    (h0 : Hid (hi (rintB f m (cat h l)) = r0)) (h1 : Hid (lo (rintB f m (cat h l)) = r1)) (h2 : Hid (rintFl f m ex (cat h l) = rf)) :
    Calls Tryz.prog 3 #[.int .u8 f, .int .u8 m, .bool ex, .agg #[.int .u64 (h), .int .u64 (l)]] w fun en w' => en = .returned (.bool true) ∧ Below w.heap.size w w' := by
  have he := fun W => eql_res_same W r0 r1 rf
  have q1 : decide (f < 4) = true := decide_eq_true hf
  go_enter Tryz.func3, Tryz.ntmps3
  skip
  (go_wp2_with fail; refine (ref_Of f h l _).mono ?_; rw [hc.out, hs.out]; rintro en v1 ⟨rfl, hB_v1⟩; have lay_v1 := laid_after hB_v1; have cc1 := cl hB_v1 (show World.cell? _ ⟨w.heap.size, 0, none⟩ = some (.int .u64 h) by go_simp); have cc2 := cl hB_v1 (show World.cell? _ ⟨w.heap.size, 1, none⟩ = some (.int .u64 l) by go_simp); have hs_v1 := hB_v1.size; (try simp only [World.size_alloc, World.size_setCell, World.size_drew] at hs_v1); have hBW : Below w.heap.size w v1 := below_after (w := w) (by go_grown) hB_v1; have hn_v1 := nl cc1; clear hB_v1)
  (go_wp2_with fail; refine (ref_Whole f 4 h l _ hf (by omega)).mono ?_; rw [hn.out, ho.out]; rintro en v2 ⟨⟨u2, rfl, hR_u2⟩, hB_v2⟩; have lay_v2 := laid_after hB_v2; have hG := cell_grown cc1 (by go_grown) hB_v2; replace cc1 := cl hG cc1; replace cc2 := cl hG cc2; have hs_v2 := hG.size; clear hG; replace hBW : Below w.heap.size w v2 := below_after (w := w) (by go_grown) hB_v2; have hn_v2 := nl cc1; clear hB_v2)
  clear hR_u2
  skip
  rcases hoz with ⟨rfl, rfl⟩ | ⟨rfl, rfl⟩
  · go_upto_region 6 with fail
    ((first | refine wp_rename ?_ | refine goal_rename ?_); intro W6 hw_W6; have hG := named cc1 W6 (by rw [hw_W6]; first | with_reducible exact drewN_below (Below.refl _ _) _ | go_grown); replace cc1 := cl hG cc1; replace cc2 := cl hG cc2; replace hBW := below_after hBW hG; have hs_W6 := hG.size; clear hG; have hn_W6 := nl cc1; have lay_W6 : Laid W6 := Laid.below (w := w) (by assumption) hBW; clear hw_W6)
    refine Lin.wp_region_lin (by kernel_rfl) (by intro _ _ d _ _ h; cases d <;> exact h) (by kernel_rfl) (fun w' => Below W6.heap.size W6 w' ∧ w'.cell? ⟨w.heap.size, 0, none⟩ = some (.int .u64 h) ∧ w'.cell? ⟨w.heap.size, 1, none⟩ = some (.int .u64 l)) ⟨(Below.refl _ _).drew, by go_simp, by go_simp⟩ ?_
    simp only [List.length_cons, List.length_nil, Nat.reduceAdd]
    refine Lin.Blk.out ?_
    iterate 4 (refine Lin.bl_val rfl rfl rfl ?_; apply Exists.intro; refine ⟨fun w' hw' => ?_, ?_⟩; (focus (have hBw := hw'.1; have hSw := hw'.2; clear hw'; (try dsimp only at hBw hSw); go_simp; first | with_reducible exact Lin.lin_value | with_reducible exact Lin.lin_skip)); (try simp only [Act.put, List.setIfInBounds_toArray, List.set_cons_zero, List.set_cons_succ]))
    (refine Lin.bl_val rfl rfl rfl ?_; apply Exists.intro; refine ⟨fun w' hw' => ?_, ?_⟩; (focus (have hBw := hw'.1; have hSw := hw'.2; clear hw'; (try dsimp only at hBw hSw); have lay' : Laid w' := Laid.below lay_W6 hBw; go_simp; first | exact Lin.lin_ret (rint_Rint f m h l ex _) (by rw [h0.out, h1.out, h2.out]) | exact Lin.lin_ret (ref24_Rint f m h l ex _) (by rw [h0.out, h1.out, h2.out]) | exact Lin.lin_ret (rint_Whole f h l _) (by rw [hz.out]) | exact Lin.lin_ret (law24_goes _) rfl)); (try simp only [Act.put, List.setIfInBounds_toArray, List.set_cons_zero, List.set_cons_succ]))
    iterate 4 (refine Lin.bl_val rfl rfl rfl ?_; apply Exists.intro; refine ⟨fun w' hw' => ?_, ?_⟩; (focus (have hBw := hw'.1; have hSw := hw'.2; clear hw'; (try dsimp only at hBw hSw); go_simp; first | with_reducible exact Lin.lin_value | with_reducible exact Lin.lin_skip)); (try simp only [Act.put, List.setIfInBounds_toArray, List.set_cons_zero, List.set_cons_succ]))
    (refine Lin.bl_val rfl rfl rfl ?_; apply Exists.intro; refine ⟨fun w' hw' => ?_, ?_⟩; (focus (have hBw := hw'.1; have hSw := hw'.2; clear hw'; (try dsimp only at hBw hSw); have lay' : Laid w' := Laid.below lay_W6 hBw; go_simp; first | exact Lin.lin_ret (rint_Rint f m h l ex _) (by rw [h0.out, h1.out, h2.out]) | exact Lin.lin_ret (ref24_Rint f m h l ex _) (by rw [h0.out, h1.out, h2.out]) | exact Lin.lin_ret (rint_Whole f h l _) (by rw [hz.out]) | exact Lin.lin_ret (law24_goes _) rfl)); (try simp only [Act.put, List.setIfInBounds_toArray, List.set_cons_zero, List.set_cons_succ]))
    iterate 2 (refine Lin.bl_val rfl rfl rfl ?_; apply Exists.intro; refine ⟨fun w' hw' => ?_, ?_⟩; (focus (have hBw := hw'.1; have hSw := hw'.2; clear hw'; (try dsimp only at hBw hSw); go_simp; first | with_reducible exact Lin.lin_value | with_reducible exact Lin.lin_skip)); (try simp only [Act.put, List.setIfInBounds_toArray, List.set_cons_zero, List.set_cons_succ]))
    iterate 2 (refine Lin.bl_val rfl rfl (by kernel_rfl) ?_; apply Exists.intro; refine ⟨fun w' hw' => ?_, ?_⟩; (focus (have hBw := hw'.1; have hSw := hw'.2; clear hw'; (try dsimp only at hBw hSw); go_simp; first | with_reducible exact Lin.lin_value | with_reducible exact Lin.lin_skip)); (try simp only [Act.put, List.setIfInBounds_toArray, List.set_cons_zero, List.set_cons_succ]))
    (refine Lin.bl_val rfl rfl (by kernel_rfl) ?_; apply Exists.intro; refine ⟨fun w' hw' => ?_, ?_⟩; (focus (have hBw := hw'.1; have hSw := hw'.2; clear hw'; (try dsimp only at hBw hSw); have lay' : Laid w' := Laid.below lay_W6 hBw; go_simp; first | exact Lin.lin_ret (rint_Rint f m h l ex _) (by rw [h0.out, h1.out, h2.out]) | exact Lin.lin_ret (ref24_Rint f m h l ex _) (by rw [h0.out, h1.out, h2.out]) | exact Lin.lin_ret (rint_Whole f h l _) (by rw [hz.out]) | exact Lin.lin_ret (law24_goes _) rfl)); (try simp only [Act.put, List.setIfInBounds_toArray, List.set_cons_zero, List.set_cons_succ]))
    iterate 2 (refine Lin.bl_val rfl rfl (by kernel_rfl) ?_; apply Exists.intro; refine ⟨fun w' hw' => ?_, ?_⟩; (focus (have hBw := hw'.1; have hSw := hw'.2; clear hw'; (try dsimp only at hBw hSw); go_simp; first | with_reducible exact Lin.lin_value | with_reducible exact Lin.lin_skip)); (try simp only [Act.put, List.setIfInBounds_toArray, List.set_cons_zero, List.set_cons_succ]))
    iterate 2 (refine Lin.bl_val rfl rfl rfl ?_; apply Exists.intro; refine ⟨fun w' hw' => ?_, ?_⟩; (focus (have hBw := hw'.1; have hSw := hw'.2; clear hw'; (try dsimp only at hBw hSw); go_simp; first | with_reducible exact Lin.lin_value | with_reducible exact Lin.lin_skip)); (try simp only [Act.put, List.setIfInBounds_toArray, List.set_cons_zero, List.set_cons_succ]))
    (refine Lin.bl_val rfl rfl (by kernel_rfl) ?_; apply Exists.intro; refine ⟨fun w' hw' => ?_, ?_⟩; (focus (have hBw := hw'.1; have hSw := hw'.2; clear hw'; (try dsimp only at hBw hSw); have lay' : Laid w' := Laid.below lay_W6 hBw; go_simp; first | exact Lin.lin_ret (rint_Rint f m h l ex _) (by rw [h0.out, h1.out, h2.out]) | exact Lin.lin_ret (ref24_Rint f m h l ex _) (by rw [h0.out, h1.out, h2.out]) | exact Lin.lin_ret (rint_Whole f h l _) (by rw [hz.out]) | exact Lin.lin_ret (law24_goes _) rfl)); (try simp only [Act.put, List.setIfInBounds_toArray, List.set_cons_zero, List.set_cons_succ]))
    (refine Lin.bl_val rfl rfl rfl ?_; apply Exists.intro; refine ⟨fun w' hw' => ?_, ?_⟩; (focus (have hBw := hw'.1; have hSw := hw'.2; clear hw'; (try dsimp only at hBw hSw); go_simp; first | with_reducible exact Lin.lin_value | with_reducible exact Lin.lin_skip)); (try simp only [Act.put, List.setIfInBounds_toArray, List.set_cons_zero, List.set_cons_succ]))
    refine Lin.bl_rest rfl ?_
    refine Lin.bl_end ?_
    refine Lin.fin0 (fun wa wb hc hb => ⟨hc.1.trans (hb.mono hc.1.size), cell_later hb hc.2.1, cell_later hb hc.2.2⟩) (by kernel_rfl) ?_
    intro X hw_X
    have hb_X := hw_X.1; clear hw_X
    have lay_X : Laid X := Laid.below lay_W6 hb_X
    (replace cc1 := cl hb_X cc1; replace cc2 := cl hb_X cc2; replace hBW := below_after hBW hb_X; have hsb_X := hb_X.size; have hn_X := nl cc1)
    (refine wpAny_ready (rs := [21]) (by kernel_rfl) (by simp) ?_; refine AllReady.cons rfl (fun K hK => ?_) AllReady.nil; go_simp; refine hK _ _ ?_; clear hK K)
    refine wpAny_done (by kernel_rfl) ?_ _
    apply_assumption
    (first | refine wp_rename ?_ | refine goal_rename ?_); intro X_ hw_X; subst hw_X
    go_wp2_with fail
    go_returns
    exact ⟨rfl, by go_grown⟩
  · skip
    go_upto_region 6 with fail
    ((first | refine wp_rename ?_ | refine goal_rename ?_); intro W6 hw_W6; have hG := named cc1 W6 (by rw [hw_W6]; first | with_reducible exact drewN_below (Below.refl _ _) _ | go_grown); replace cc1 := cl hG cc1; replace cc2 := cl hG cc2; replace hBW := below_after hBW hG; have hs_W6 := hG.size; clear hG; have hn_W6 := nl cc1; have lay_W6 : Laid W6 := Laid.below (w := w) (by assumption) hBW; clear hw_W6)
    refine Lin.wp_region_lin (by kernel_rfl) (by intro _ _ d _ _ h; cases d <;> exact h) (by kernel_rfl) (fun w' => Below W6.heap.size W6 w' ∧ w'.cell? ⟨w.heap.size, 0, none⟩ = some (.int .u64 h) ∧ w'.cell? ⟨w.heap.size, 1, none⟩ = some (.int .u64 l)) ⟨(Below.refl _ _).drew, by go_simp, by go_simp⟩ ?_
    simp only [List.length_cons, List.length_nil, Nat.reduceAdd]
    refine Lin.Blk.out ?_
    iterate 4 (refine Lin.bl_val rfl rfl rfl ?_; apply Exists.intro; refine ⟨fun w' hw' => ?_, ?_⟩; (focus (have hBw := hw'.1; have hSw := hw'.2; clear hw'; (try dsimp only at hBw hSw); go_simp; first | with_reducible exact Lin.lin_value | with_reducible exact Lin.lin_skip)); (try simp only [Act.put, List.setIfInBounds_toArray, List.set_cons_zero, List.set_cons_succ]))
    (refine Lin.bl_val rfl rfl rfl ?_; apply Exists.intro; refine ⟨fun w' hw' => ?_, ?_⟩; (focus (have hBw := hw'.1; have hSw := hw'.2; clear hw'; (try dsimp only at hBw hSw); have lay' : Laid w' := Laid.below lay_W6 hBw; go_simp; first | exact Lin.lin_ret (rint_Rint f m h l ex _) (by rw [h0.out, h1.out, h2.out]) | exact Lin.lin_ret (ref24_Rint f m h l ex _) (by rw [h0.out, h1.out, h2.out]) | exact Lin.lin_ret (rint_Whole f h l _) (by rw [hz.out]) | exact Lin.lin_ret (law24_goes _) rfl)); (try simp only [Act.put, List.setIfInBounds_toArray, List.set_cons_zero, List.set_cons_succ]))
    iterate 4 (refine Lin.bl_val rfl rfl rfl ?_; apply Exists.intro; refine ⟨fun w' hw' => ?_, ?_⟩; (focus (have hBw := hw'.1; have hSw := hw'.2; clear hw'; (try dsimp only at hBw hSw); go_simp; first | with_reducible exact Lin.lin_value | with_reducible exact Lin.lin_skip)); (try simp only [Act.put, List.setIfInBounds_toArray, List.set_cons_zero, List.set_cons_succ]))
    (refine Lin.bl_val rfl rfl rfl ?_; apply Exists.intro; refine ⟨fun w' hw' => ?_, ?_⟩; (focus (have hBw := hw'.1; have hSw := hw'.2; clear hw'; (try dsimp only at hBw hSw); have lay' : Laid w' := Laid.below lay_W6 hBw; go_simp; first | exact Lin.lin_ret (rint_Rint f m h l ex _) (by rw [h0.out, h1.out, h2.out]) | exact Lin.lin_ret (ref24_Rint f m h l ex _) (by rw [h0.out, h1.out, h2.out]) | exact Lin.lin_ret (rint_Whole f h l _) (by rw [hz.out]) | exact Lin.lin_ret (law24_goes _) rfl)); (try simp only [Act.put, List.setIfInBounds_toArray, List.set_cons_zero, List.set_cons_succ]))
    iterate 2 (refine Lin.bl_val rfl rfl rfl ?_; apply Exists.intro; refine ⟨fun w' hw' => ?_, ?_⟩; (focus (have hBw := hw'.1; have hSw := hw'.2; clear hw'; (try dsimp only at hBw hSw); go_simp; first | with_reducible exact Lin.lin_value | with_reducible exact Lin.lin_skip)); (try simp only [Act.put, List.setIfInBounds_toArray, List.set_cons_zero, List.set_cons_succ]))
    iterate 2 (refine Lin.bl_val rfl rfl (by kernel_rfl) ?_; apply Exists.intro; refine ⟨fun w' hw' => ?_, ?_⟩; (focus (have hBw := hw'.1; have hSw := hw'.2; clear hw'; (try dsimp only at hBw hSw); go_simp; first | with_reducible exact Lin.lin_value | with_reducible exact Lin.lin_skip)); (try simp only [Act.put, List.setIfInBounds_toArray, List.set_cons_zero, List.set_cons_succ]))
    (refine Lin.bl_val rfl rfl (by kernel_rfl) ?_; apply Exists.intro; refine ⟨fun w' hw' => ?_, ?_⟩; (focus (have hBw := hw'.1; have hSw := hw'.2; clear hw'; (try dsimp only at hBw hSw); have lay' : Laid w' := Laid.below lay_W6 hBw; go_simp; first | exact Lin.lin_ret (rint_Rint f m h l ex _) (by rw [h0.out, h1.out, h2.out]) | exact Lin.lin_ret (ref24_Rint f m h l ex _) (by rw [h0.out, h1.out, h2.out]) | exact Lin.lin_ret (rint_Whole f h l _) (by rw [hz.out]) | exact Lin.lin_ret (law24_goes _) rfl)); (try simp only [Act.put, List.setIfInBounds_toArray, List.set_cons_zero, List.set_cons_succ]))
    iterate 2 (refine Lin.bl_val rfl rfl (by kernel_rfl) ?_; apply Exists.intro; refine ⟨fun w' hw' => ?_, ?_⟩; (focus (have hBw := hw'.1; have hSw := hw'.2; clear hw'; (try dsimp only at hBw hSw); go_simp; first | with_reducible exact Lin.lin_value | with_reducible exact Lin.lin_skip)); (try simp only [Act.put, List.setIfInBounds_toArray, List.set_cons_zero, List.set_cons_succ]))
    iterate 2 (refine Lin.bl_val rfl rfl rfl ?_; apply Exists.intro; refine ⟨fun w' hw' => ?_, ?_⟩; (focus (have hBw := hw'.1; have hSw := hw'.2; clear hw'; (try dsimp only at hBw hSw); go_simp; first | with_reducible exact Lin.lin_value | with_reducible exact Lin.lin_skip)); (try simp only [Act.put, List.setIfInBounds_toArray, List.set_cons_zero, List.set_cons_succ]))
    (refine Lin.bl_val rfl rfl (by kernel_rfl) ?_; apply Exists.intro; refine ⟨fun w' hw' => ?_, ?_⟩; (focus (have hBw := hw'.1; have hSw := hw'.2; clear hw'; (try dsimp only at hBw hSw); have lay' : Laid w' := Laid.below lay_W6 hBw; go_simp; first | exact Lin.lin_ret (rint_Rint f m h l ex _) (by rw [h0.out, h1.out, h2.out]) | exact Lin.lin_ret (ref24_Rint f m h l ex _) (by rw [h0.out, h1.out, h2.out]) | exact Lin.lin_ret (rint_Whole f h l _) (by rw [hz.out]) | exact Lin.lin_ret (law24_goes _) rfl)); (try simp only [Act.put, List.setIfInBounds_toArray, List.set_cons_zero, List.set_cons_succ]))
    (refine Lin.bl_val rfl rfl rfl ?_; apply Exists.intro; refine ⟨fun w' hw' => ?_, ?_⟩; (focus (have hBw := hw'.1; have hSw := hw'.2; clear hw'; (try dsimp only at hBw hSw); go_simp; first | with_reducible exact Lin.lin_value | with_reducible exact Lin.lin_skip)); (try simp only [Act.put, List.setIfInBounds_toArray, List.set_cons_zero, List.set_cons_succ]))
    refine Lin.bl_rest rfl ?_
    refine Lin.bl_end ?_
    refine Lin.fin0 (fun wa wb hc hb => ⟨hc.1.trans (hb.mono hc.1.size), cell_later hb hc.2.1, cell_later hb hc.2.2⟩) (by kernel_rfl) ?_
    intro X hw_X
    have hb_X := hw_X.1; clear hw_X
    have lay_X : Laid X := Laid.below lay_W6 hb_X
    (replace cc1 := cl hb_X cc1; replace cc2 := cl hb_X cc2; replace hBW := below_after hBW hb_X; have hsb_X := hb_X.size; have hn_X := nl cc1)
    (refine wpAny_ready (rs := [21]) (by kernel_rfl) (by simp) ?_; refine AllReady.cons rfl (fun K hK => ?_) AllReady.nil; go_simp; refine hK _ _ ?_; clear hK K)
    refine wpAny_done (by kernel_rfl) ?_ _
    apply_assumption
    (first | refine wp_rename ?_ | refine goal_rename ?_); intro X_ hw_X; subst hw_X
    go_wp2_with fail
    go_returns
    exact ⟨rfl, by go_grown⟩
set_option maxRecDepth 100000 in
set_option maxHeartbeats 4000000 in
theorem rintall_out (f m h l c r0 r1 rf : Int) (ex s : Bool) [hU : U8 f] [hM : U8 m] [U64 h] [U64 l] (w : World) [hLay : Laid w] (hc : Hid (classF f (cat h l) = c)) (hs : Hid (sgnF f (cat h l) = s)) (hq : decide (f < 4) = false ∨ (decide (f < 4) = true ∧ decide (c ≤ 2) = false)) (hz : Hid (wholeB f (cat h l) = false))
    (h0 : Hid (hi (rintB f m (cat h l)) = r0)) (h1 : Hid (lo (rintB f m (cat h l)) = r1)) (h2 : Hid (rintFl f m ex (cat h l) = rf)) :
    Calls Tryz.prog 3 #[.int .u8 f, .int .u8 m, .bool ex, .agg #[.int .u64 (h), .int .u64 (l)]] w fun en w' => en = .returned (.bool true) ∧ Below w.heap.size w w' := by
  have he := fun W => eql_res_same W r0 r1 rf
  rcases hq with q1 | ⟨q1, q2⟩
  all_goals (
    go_enter Tryz.func3, Tryz.ntmps3
    skip
    (go_wp2_with fail; refine (ref_Of f h l _).mono ?_; rw [hc.out, hs.out]; rintro en v1 ⟨rfl, hB_v1⟩; have lay_v1 := laid_after hB_v1; have cc1 := cl hB_v1 (show World.cell? _ ⟨w.heap.size, 0, none⟩ = some (.int .u64 h) by go_simp); have cc2 := cl hB_v1 (show World.cell? _ ⟨w.heap.size, 1, none⟩ = some (.int .u64 l) by go_simp); have hs_v1 := hB_v1.size; (try simp only [World.size_alloc, World.size_setCell, World.size_drew] at hs_v1); have hBW : Below w.heap.size w v1 := below_after (w := w) (by go_grown) hB_v1; have hn_v1 := nl cc1; clear hB_v1)
    go_upto_region 6 with fail
    ((first | refine wp_rename ?_ | refine goal_rename ?_); intro W6 hw_W6; have hG := named cc1 W6 (by rw [hw_W6]; first | with_reducible exact drewN_below (Below.refl _ _) _ | go_grown); replace cc1 := cl hG cc1; replace cc2 := cl hG cc2; replace hBW := below_after hBW hG; have hs_W6 := hG.size; clear hG; have hn_W6 := nl cc1; have lay_W6 : Laid W6 := Laid.below (w := w) (by assumption) hBW; clear hw_W6)
    refine Lin.wp_region_lin (by kernel_rfl) (by intro _ _ d _ _ h; cases d <;> exact h) (by kernel_rfl) (fun w' => Below W6.heap.size W6 w' ∧ w'.cell? ⟨w.heap.size, 0, none⟩ = some (.int .u64 h) ∧ w'.cell? ⟨w.heap.size, 1, none⟩ = some (.int .u64 l)) ⟨(Below.refl _ _).drew, by go_simp, by go_simp⟩ ?_
    simp only [List.length_cons, List.length_nil, Nat.reduceAdd]
    refine Lin.Blk.out ?_
    iterate 4 (refine Lin.bl_val rfl rfl rfl ?_; apply Exists.intro; refine ⟨fun w' hw' => ?_, ?_⟩; (focus (have hBw := hw'.1; have hSw := hw'.2; clear hw'; (try dsimp only at hBw hSw); go_simp; first | with_reducible exact Lin.lin_value | with_reducible exact Lin.lin_skip)); (try simp only [Act.put, List.setIfInBounds_toArray, List.set_cons_zero, List.set_cons_succ]))
    (refine Lin.bl_val rfl rfl rfl ?_; apply Exists.intro; refine ⟨fun w' hw' => ?_, ?_⟩; (focus (have hBw := hw'.1; have hSw := hw'.2; clear hw'; (try dsimp only at hBw hSw); have lay' : Laid w' := Laid.below lay_W6 hBw; go_simp; first | exact Lin.lin_ret (rint_Rint f m h l ex _) (by rw [h0.out, h1.out, h2.out]) | exact Lin.lin_ret (ref24_Rint f m h l ex _) (by rw [h0.out, h1.out, h2.out]) | exact Lin.lin_ret (rint_Whole f h l _) (by rw [hz.out]) | exact Lin.lin_ret (law24_goes _) rfl)); (try simp only [Act.put, List.setIfInBounds_toArray, List.set_cons_zero, List.set_cons_succ]))
    iterate 4 (refine Lin.bl_val rfl rfl rfl ?_; apply Exists.intro; refine ⟨fun w' hw' => ?_, ?_⟩; (focus (have hBw := hw'.1; have hSw := hw'.2; clear hw'; (try dsimp only at hBw hSw); go_simp; first | with_reducible exact Lin.lin_value | with_reducible exact Lin.lin_skip)); (try simp only [Act.put, List.setIfInBounds_toArray, List.set_cons_zero, List.set_cons_succ]))
    (refine Lin.bl_val rfl rfl rfl ?_; apply Exists.intro; refine ⟨fun w' hw' => ?_, ?_⟩; (focus (have hBw := hw'.1; have hSw := hw'.2; clear hw'; (try dsimp only at hBw hSw); have lay' : Laid w' := Laid.below lay_W6 hBw; go_simp; first | exact Lin.lin_ret (rint_Rint f m h l ex _) (by rw [h0.out, h1.out, h2.out]) | exact Lin.lin_ret (ref24_Rint f m h l ex _) (by rw [h0.out, h1.out, h2.out]) | exact Lin.lin_ret (rint_Whole f h l _) (by rw [hz.out]) | exact Lin.lin_ret (law24_goes _) rfl)); (try simp only [Act.put, List.setIfInBounds_toArray, List.set_cons_zero, List.set_cons_succ]))
    iterate 2 (refine Lin.bl_val rfl rfl rfl ?_; apply Exists.intro; refine ⟨fun w' hw' => ?_, ?_⟩; (focus (have hBw := hw'.1; have hSw := hw'.2; clear hw'; (try dsimp only at hBw hSw); go_simp; first | with_reducible exact Lin.lin_value | with_reducible exact Lin.lin_skip)); (try simp only [Act.put, List.setIfInBounds_toArray, List.set_cons_zero, List.set_cons_succ]))
    iterate 2 (refine Lin.bl_val rfl rfl (by kernel_rfl) ?_; apply Exists.intro; refine ⟨fun w' hw' => ?_, ?_⟩; (focus (have hBw := hw'.1; have hSw := hw'.2; clear hw'; (try dsimp only at hBw hSw); go_simp; first | with_reducible exact Lin.lin_value | with_reducible exact Lin.lin_skip)); (try simp only [Act.put, List.setIfInBounds_toArray, List.set_cons_zero, List.set_cons_succ]))
    (refine Lin.bl_val rfl rfl (by kernel_rfl) ?_; apply Exists.intro; refine ⟨fun w' hw' => ?_, ?_⟩; (focus (have hBw := hw'.1; have hSw := hw'.2; clear hw'; (try dsimp only at hBw hSw); have lay' : Laid w' := Laid.below lay_W6 hBw; go_simp; first | exact Lin.lin_ret (rint_Rint f m h l ex _) (by rw [h0.out, h1.out, h2.out]) | exact Lin.lin_ret (ref24_Rint f m h l ex _) (by rw [h0.out, h1.out, h2.out]) | exact Lin.lin_ret (rint_Whole f h l _) (by rw [hz.out]) | exact Lin.lin_ret (law24_goes _) rfl)); (try simp only [Act.put, List.setIfInBounds_toArray, List.set_cons_zero, List.set_cons_succ]))
    iterate 2 (refine Lin.bl_val rfl rfl (by kernel_rfl) ?_; apply Exists.intro; refine ⟨fun w' hw' => ?_, ?_⟩; (focus (have hBw := hw'.1; have hSw := hw'.2; clear hw'; (try dsimp only at hBw hSw); go_simp; first | with_reducible exact Lin.lin_value | with_reducible exact Lin.lin_skip)); (try simp only [Act.put, List.setIfInBounds_toArray, List.set_cons_zero, List.set_cons_succ]))
    iterate 2 (refine Lin.bl_val rfl rfl rfl ?_; apply Exists.intro; refine ⟨fun w' hw' => ?_, ?_⟩; (focus (have hBw := hw'.1; have hSw := hw'.2; clear hw'; (try dsimp only at hBw hSw); go_simp; first | with_reducible exact Lin.lin_value | with_reducible exact Lin.lin_skip)); (try simp only [Act.put, List.setIfInBounds_toArray, List.set_cons_zero, List.set_cons_succ]))
    (refine Lin.bl_val rfl rfl (by kernel_rfl) ?_; apply Exists.intro; refine ⟨fun w' hw' => ?_, ?_⟩; (focus (have hBw := hw'.1; have hSw := hw'.2; clear hw'; (try dsimp only at hBw hSw); have lay' : Laid w' := Laid.below lay_W6 hBw; go_simp; first | exact Lin.lin_ret (rint_Rint f m h l ex _) (by rw [h0.out, h1.out, h2.out]) | exact Lin.lin_ret (ref24_Rint f m h l ex _) (by rw [h0.out, h1.out, h2.out]) | exact Lin.lin_ret (rint_Whole f h l _) (by rw [hz.out]) | exact Lin.lin_ret (law24_goes _) rfl)); (try simp only [Act.put, List.setIfInBounds_toArray, List.set_cons_zero, List.set_cons_succ]))
    (refine Lin.bl_val rfl rfl rfl ?_; apply Exists.intro; refine ⟨fun w' hw' => ?_, ?_⟩; (focus (have hBw := hw'.1; have hSw := hw'.2; clear hw'; (try dsimp only at hBw hSw); go_simp; first | with_reducible exact Lin.lin_value | with_reducible exact Lin.lin_skip)); (try simp only [Act.put, List.setIfInBounds_toArray, List.set_cons_zero, List.set_cons_succ]))
    refine Lin.bl_rest rfl ?_
    refine Lin.bl_end ?_
    refine Lin.fin0 (fun wa wb hc hb => ⟨hc.1.trans (hb.mono hc.1.size), cell_later hb hc.2.1, cell_later hb hc.2.2⟩) (by kernel_rfl) ?_
    intro X hw_X
    have hb_X := hw_X.1; clear hw_X
    have lay_X : Laid X := Laid.below lay_W6 hb_X
    (replace cc1 := cl hb_X cc1; replace cc2 := cl hb_X cc2; replace hBW := below_after hBW hb_X; have hsb_X := hb_X.size; have hn_X := nl cc1)
    (refine wpAny_ready (rs := [21]) (by kernel_rfl) (by simp) ?_; refine AllReady.cons rfl (fun K hK => ?_) AllReady.nil; go_simp; refine hK _ _ ?_; clear hK K)
    refine wpAny_done (by kernel_rfl) ?_ _
    apply_assumption
    (first | refine wp_rename ?_ | refine goal_rename ?_); intro X_ hw_X; subst hw_X
    go_wp2_with fail
    go_returns
    exact ⟨rfl, by go_grown⟩)
theorem walk_RintAll (f m : Int) (ex : Bool) (h l : Int) [hU : U8 f] [hM : U8 m] [U64 h] [U64 l] (w : World) [hLay : Laid w] :
    Calls Tryz.prog 3 #[.int .u8 f, .int .u8 m, .bool ex, .agg #[.int .u64 (h), .int .u64 (l)]] w fun en w' => en = .returned (.bool true) ∧ Below w.heap.size w w' := by
  haveI hF : U8 4 := ⟨by omega, by omega⟩
  by_cases hk : f < 4 ∧ classF f (cat h l) < 3
  · exact rintall_in f m h l _ _ _ _ ex _ _ _ _ w hk.1 (Lib.hid rfl) (Lib.hid rfl) (decide_eq_true (by omega)) (Lib.hid rfl) (Lib.hid rfl) (Lib.hid rfl) (by rw [whole_other f (cat h l) hU.ge hk.1 hk.2]; cases otherR f (cat h l); exact Or.inr ⟨rfl, rfl⟩; exact Or.inl ⟨rfl, rfl⟩) (Lib.hid rfl) (Lib.hid rfl) (Lib.hid rfl)
  · refine rintall_out f m h l _ _ _ _ ex _ w (Lib.hid rfl) (Lib.hid rfl) ?_ (Lib.hid ?_) (Lib.hid rfl) (Lib.hid rfl) (Lib.hid rfl)
    · by_cases hf : f < 4
      · exact Or.inr ⟨decide_eq_true hf, decide_eq_false (by omega)⟩
      · exact Or.inl (decide_eq_false hf)
    · unfold wholeB
      by_cases hf : f < 4
      · rw [decide_eq_false (show ¬ classF f (cat h l) < 3 from fun h => hk ⟨hf, h⟩), Bool.false_and, Bool.and_false]
      · rw [decide_eq_false hf, Bool.false_and]
end Go.Proofs.YtkpjeceofcfnkaaGreatDoor
