/- The contracts of the reference's Sum and Signed (chapter 18). Condition: the listed table is laid. -/
import Derived.Test.YtkpjeceofcfnkaaGreatDoorSumX
import Derived.Test.YtkpjeceofcfnkaaGreatDoorRef8
import Derived.Test.YtkpjeceofcfnkaaGreatDoorRnd
import Derived.Test.YtkpjeceofcfnkaaGreatDoorRNL
set_option maxRecDepth 100000
set_option maxHeartbeats 8000000
set_option linter.unusedSimpArgs false
set_option linter.unusedVariables false
namespace Go.Proofs.YtkpjeceofcfnkaaGreatDoor
open Go.RowKit Go.Hb
def minE (f : Int) (a b : Nat) : Int := min (eR f a) (eR f b)
def sumN (f : Int) (a b : Nat) : Nat := exactX (sgnF f a) (sgnF f b) (mR f a * 2 ^ (eR f a - minE f a b).toNat) (mR f b * 2 ^ (eR f b - minE f a b).toNat)
theorem exact_mul (s t : Bool) (X Y u : Nat) : exactX s t X Y * u = exactX s t (X * u) (Y * u) := by
  unfold exactX
  split
  · exact Nat.add_mul _ _ _
  · rw [Nat.add_mul, Nat.sub_mul, Nat.sub_mul]
theorem minE_bd (f : Int) (a b : Nat) (h0 : 0 ≤ f) (hf : f < 4) : -100000 ≤ minE f a b ∧ minE f a b ≤ 100000 ∧ minE f a b ≤ eR f a ∧ minE f a b ≤ eR f b := by
  obtain ⟨e0, e1⟩ := eR_bd f a h0 hf
  obtain ⟨e2, e3⟩ := eR_bd f b h0 hf
  unfold minE
  omega
theorem sum_exact (f : Int) (a b : Nat) (h0 : 0 ≤ f) (hf : f < 4) : sumN f a b * 2 ^ (minE f a b + (255 + KK)).toNat = sumX f a b := by
  obtain ⟨b0, b1, b2, b3⟩ := minE_bd f a b h0 hf
  have va := val_exact f a h0 hf
  have vb := val_exact f b h0 hf
  have hK : ∃ K : Int, K = 255 + KK ∧ 200000 ≤ K := ⟨_, rfl, by unfold KK; omega⟩
  obtain ⟨K, hK, k1⟩ := hK
  unfold sumN sumX
  rw [← hK] at va vb ⊢
  rw [exact_mul, Nat.mul_assoc, Nat.mul_assoc, ← Nat.pow_add, ← Nat.pow_add, show (eR f a - minE f a b).toNat + (minE f a b + K).toNat = (eR f a + K).toNat by omega, show (eR f b - minE f a b).toNat + (minE f a b + K).toNat = (eR f b + K).toNat by omega, va, vb]
theorem codeX_nil (p B : Nat) (m : Int) (g : Bool) (hp : 1 ≤ p) : codeX p B m g 0 = 0 := by
  have h := codeX_self p B 0 m g hp
  rwa [valC_zero] at h
/-- The exact sum, rounded by the reference, is the program's. -/
theorem refs_add (f m : Int) (aft : Bool) (a b : Nat) (h0 : 0 ≤ f) (hf : f < 4) (hm : m ≤ 4) (ha : classF f a < 3) (hb : classF f b < 3) :
    refR f m (sumG f m a b) (sumN f a b) (minE f a b) = addB f m a b ∧ refRF f m aft (sumG f m a b) (sumN f a b) (minE f a b) = addFl f m aft a b := by
  obtain ⟨r1, r2⟩ := add_code f m aft a b h0 hf hm ha hb
  obtain ⟨b0, b1, b2, b3⟩ := minE_bd f a b h0 hf
  obtain ⟨f1, f2, f3, f4, f5, f6⟩ := fmt_bd f h0 hf
  have hX := sum_exact f a b h0 hf
  have hk : (200000 : Int) ≤ KK := by unfold KK; omega
  have hI : 0 < infC f := by have := infC_big f h0 hf; have := Nat.two_pow_pos (precS f - 1).toNat; omega
  rw [r1, r2]
  unfold refR refRF
  rw [if_pos ⟨hf, hm⟩, if_pos ⟨hf, hm⟩]
  by_cases hz : sumN f a b = 0
  · have hX0 : sumX f a b = 0 := by rw [← hX, hz, Nat.zero_mul]
    have hfl := flag_val f m aft (sumG f m a b) (unitB f KK) 0 (by omega) hI
    rw [valC_zero] at hfl
    unfold refB refFl
    rw [if_pos hz, if_pos hz, hX0, hfl, codeX_nil _ _ _ _ (by omega), makeF_c f 0 _ 0 h0 hf (by omega) (by have := emaxS_bd f; omega), Nat.zero_mod, (endC_zero f m _ 0 h0 hf).2 rfl]
    exact ⟨by simp, rfl⟩
  · rw [ref_code f m _ _ _ (255 + KK) h0 hf hz (by omega) (by omega) (by omega), ref_flag f m aft _ _ _ (255 + KK) h0 hf hz (by omega) (by omega) (by omega), show 255 + KK - 255 = KK by omega, hX]
    exact ⟨rfl, rfl⟩
/-- The sign of the reference's sum. -/
theorem refs_sign (f m : Int) (a b : Nat) (h0 : 0 ≤ f) (hf : f < 4) :
    sumG f m a b = (if sumN f a b = 0 then nouB m (sgnF f a) (sgnF f b) else if sgnF f a = sgnF f b then sgnF f a else if mR f a * 2 ^ (eR f a - minE f a b).toNat < mR f b * 2 ^ (eR f b - minE f a b).toNat then sgnF f b else sgnF f a) := by
  obtain ⟨b0, b1, b2, b3⟩ := minE_bd f a b h0 hf
  have hX := sum_exact f a b h0 hf
  have hu := Nat.two_pow_pos (minE f a b + (255 + KK)).toNat
  have hz : sumX f a b = 0 ↔ sumN f a b = 0 := by
    rw [← hX, Nat.mul_eq_zero]
    omega
  have va := val_exact f a h0 hf
  have vb := val_exact f b h0 hf
  have hlt : mR f a * 2 ^ (eR f a - minE f a b).toNat < mR f b * 2 ^ (eR f b - minE f a b).toNat ↔ codeF f a < codeF f b := by
    have hK : ∃ K : Int, K = 255 + KK ∧ 200000 ≤ K := ⟨_, rfl, by unfold KK; omega⟩
    obtain ⟨K, hK, k1⟩ := hK
    rw [← hK] at va vb hu
    rw [← Nat.mul_lt_mul_right hu, Nat.mul_assoc, Nat.mul_assoc, ← Nat.pow_add, ← Nat.pow_add, show (eR f a - minE f a b).toNat + (minE f a b + K).toNat = (eR f a + K).toNat by omega, show (eR f b - minE f a b).toNat + (minE f a b + K).toNat = (eR f b + K).toNat by omega, va, vb]
    constructor
    · intro h
      rcases Nat.lt_or_ge (codeF f a) (codeF f b) with h2 | h2
      · exact h2
      · have := valC_le (precS f).toNat (unitB f KK) h2
        omega
    · exact fun h => valC_lt _ _ h
  unfold sumG
  by_cases h1 : sumN f a b = 0
  · rw [if_pos (hz.2 h1), if_pos h1]
  · rw [if_neg (fun h => h1 (hz.1 h)), if_neg h1]
    by_cases h2 : sgnF f a = sgnF f b
    · rw [if_pos h2, if_pos h2]
    · rw [if_neg h2, if_neg h2]
      by_cases h3 : codeF f a < codeF f b
      · rw [if_pos (hlt.2 h3), decide_eq_true h3]
        revert h2
        cases sgnF f a <;> cases sgnF f b <;> simp
      · rw [if_neg (fun h => h3 (hlt.1 h)), decide_eq_false h3]
        cases sgnF f a <;> rfl
theorem turn_exact (f : Int) (b : Nat) (h0 : 0 ≤ f) (hf : f < 4) : mR f (turnF f b) = mR f b ∧ eR f (turnF f b) = eR f b ∧ sgnF f (turnF f b) = !(sgnF f b) := by
  obtain ⟨t1, t2, t3⟩ := turn_parts f b h0 hf
  unfold mR eR
  rw [t1, t2]
  exact ⟨rfl, rfl, t3⟩
end Go.Proofs.YtkpjeceofcfnkaaGreatDoor
namespace Go.Proofs.YtkpjeceofcfnkaaGreatDoor
open Go.RowKit Go.Hb
def GivesP (L n : Nat) (e : Ending) (w : World) : Prop := ∃ u : Option Addr × Nat, e = .returned (.slice u.1 L u.2) ∧ RN w (.slice u.1 L u.2) n
theorem GivesN.long {n : Nat} {e : Ending} {w : World} (h : GivesN n e w) : GivesP (dl n) n e w := by
  obtain ⟨u, h1, h2⟩ := h
  obtain ⟨q, c, hv, _, _⟩ := id h2
  subst hv
  exact ⟨(q, c), h1, h2⟩
theorem num_Add_p (a b n : Nat) (va vb : Value) (w : World) (ha : RN w va a) (hb : RN w vb b) (la : dl a ≤ 100000) (lb : dl b ≤ 100000) (hn : a + b = n) : Calls Tryz.prog 51 #[va, vb] w fun en w' => GivesP (dl n) n en w' ∧ Below w.heap.size w w' := by
  subst hn; exact (num_Add a b va vb w ha hb la lb).mono fun _ _ ⟨h1, h2⟩ => ⟨h1.long, h2⟩
theorem num_Sub_p (a b n : Nat) (va vb : Value) (w : World) (ha : RN w va a) (hb : RN w vb b) (la : dl a ≤ 100000) (hba : b ≤ a) (hn : a - b = n) : Calls Tryz.prog 94 #[va, vb] w fun en w' => GivesP (dl n) n en w' ∧ Below w.heap.size w w' := by
  subst hn; exact (num_Sub a b va vb w ha hb la hba).mono fun _ _ ⟨h1, h2⟩ => ⟨h1.long, h2⟩
theorem sum18_walk (s t g : Bool) (E F e c : Int) (M N x y n Lu Lv : Nat) (u v : Option Addr × Nat) (w : World) [hLay : Laid w] (hR_u : RN w (.slice u.1 Lu u.2) M) (hR_v : RN w (.slice v.1 Lv v.2) N) (he : min E F = e) (e0 : -100000 ≤ E) (e1 : E ≤ 100000) (f0 : -100000 ≤ F) (f1 : F ≤ 100000) (lM : dl M ≤ 100000) (lN : dl N ≤ 100000)
    (hx : Hid (M * 2 ^ (E - e).toNat = x)) (hy : Hid (N * 2 ^ (F - e).toNat = y)) (lx : dl x ≤ 100000) (ly : dl y ≤ 100000) (hc : Hid (cmpR x y = c))
    (hq : ((s == t) = true ∧ x + y = n ∧ s = g) ∨ ((s == t) = false ∧ c < 0 ∧ x ≤ y ∧ y - x = n ∧ t = g) ∨ ((s == t) = false ∧ ¬ c < 0 ∧ y ≤ x ∧ x - y = n ∧ s = g)) :
    Calls Tryz.prog 92 #[.agg #[.bool s, .slice u.1 Lu u.2, .int .i64 E], .agg #[.bool t, .slice v.1 Lv v.2, .int .i64 F]] w fun en w' => GivesW g n e en w' ∧ Below w.heap.size w w' := by
  have w1_ : IntKind.i64.wrap (E - e) = E - e := IntWalk.i64_in _ (by omega)
  have w2_ : IntKind.i64.wrap (F - e) = F - e := IntWalk.i64_in _ (by omega)
  go_enter Tryz.func92, Tryz.ntmps92
  skip
  skip
  (go_wp2_with fail; refine (num_Shl_at M (E - e).toNat _ _ _ (by omega) (hR_u.later (by go_grown)) lM (by omega)).mono ?_; rw [hx.out]; rintro en v1 ⟨⟨a, rfl, hR_a⟩, hB_v1⟩; have lay_v1 := laid_after hB_v1; replace hR_v := RN.later hR_v (below_after (by go_grown) hB_v1); have cc1 := cl hB_v1 (show World.cell? _ ⟨w.heap.size, 0, none⟩ = some (.bool s) by go_simp); have cc2 := cl hB_v1 (show World.cell? _ ⟨w.heap.size, 1, none⟩ = some (.slice u.1 Lu u.2) by go_simp); have cc3 := cl hB_v1 (show World.cell? _ ⟨w.heap.size, 2, none⟩ = some (.int .i64 E) by go_simp); have cc4 := cl hB_v1 (show World.cell? _ ⟨w.heap.size + 1, 0, none⟩ = some (.bool t) by go_simp); have cc5 := cl hB_v1 (show World.cell? _ ⟨w.heap.size + 1, 1, none⟩ = some (.slice v.1 Lv v.2) by go_simp); have cc6 := cl hB_v1 (show World.cell? _ ⟨w.heap.size + 1, 2, none⟩ = some (.int .i64 F) by go_simp); obtain ⟨cc7, fcc7⟩ := pf hB_v1 (show World.cell? _ ⟨w.heap.size + 1 + 1, 0, none⟩ = some (.bool false) by go_simp) (by go_simp); obtain ⟨cc8, fcc8⟩ := pf hB_v1 (show World.cell? _ ⟨w.heap.size + 1 + 1, 1, none⟩ = some (.slice none 0 0) by go_simp) (by go_simp); obtain ⟨cc9, fcc9⟩ := pf hB_v1 (show World.cell? _ ⟨w.heap.size + 1 + 1, 2, none⟩ = some (.int .i64 0) by go_simp) (by go_simp); have hs_v1 := hB_v1.size; (try simp only [World.size_alloc, World.size_setCell, World.size_drew] at hs_v1); have hBW : Below w.heap.size w v1 := below_after (w := w) (by go_grown) hB_v1; have hn_v1 := an (nl cc1) (an (nl cc4) (nl cc7)); clear hB_v1)
  (go_wp2_with fail; refine (num_Shl_at N (F - e).toNat _ _ _ (by omega) hR_v lN (by omega)).mono ?_; rw [hy.out]; rintro en v2 ⟨⟨b, rfl, hR_b⟩, hB_v2⟩; have lay_v2 := laid_after hB_v2; replace hR_v := RN.later hR_v (below_after (by go_grown) hB_v2); replace hR_a := RN.later hR_a (below_after (by go_grown) hB_v2); have hG := cell_grown cc1 (by go_grown) hB_v2; replace cc1 := cl hG cc1; replace cc2 := cl hG cc2; replace cc3 := cl hG cc3; replace cc4 := cl hG cc4; replace cc5 := cl hG cc5; replace cc6 := cl hG cc6; replace fcc7 := fl hG fcc7 cc7; replace cc7 := cl hG cc7; replace fcc8 := fl hG fcc8 cc8; replace cc8 := cl hG cc8; replace fcc9 := fl hG fcc9 cc9; replace cc9 := cl hG cc9; replace hBW := below_after hBW hG; have hs_v2 := hG.size; clear hG; have hn_v2 := an (nl cc1) (an (nl cc4) (nl cc7)); clear hB_v2)
  skip
  rcases hq with ⟨q1, hn, rfl⟩ | ⟨q1, q2, hle, hn, rfl⟩ | ⟨q1, q2, hle, hn, rfl⟩
  · go_upto_region 5 with fail
    ((first | refine wp_rename ?_ | refine goal_rename ?_); intro W5 hw_W5; have hG := named cc1 W5 (by rw [hw_W5]; first | with_reducible exact drewN_below (Below.refl _ _) _ | go_grown); replace cc1 := cl hG cc1; replace cc2 := cl hG cc2; replace cc3 := cl hG cc3; replace cc4 := cl hG cc4; replace cc5 := cl hG cc5; replace cc6 := cl hG cc6; replace fcc7 := fl hG fcc7 cc7; replace cc7 := cl hG cc7; replace fcc8 := fl hG fcc8 cc8; replace cc8 := cl hG cc8; replace fcc9 := fl hG fcc9 cc9; replace cc9 := cl hG cc9; replace hR_v := RN.later hR_v (w' := W5) (by rw [hw_W5]; first | with_reducible exact drewN_below (Below.refl _ _) _ | go_grown); replace hR_a := RN.later hR_a (w' := W5) (by rw [hw_W5]; first | with_reducible exact drewN_below (Below.refl _ _) _ | go_grown); replace hR_b := RN.later hR_b (w' := W5) (by rw [hw_W5]; first | with_reducible exact drewN_below (Below.refl _ _) _ | go_grown); replace hBW := below_after hBW hG; have hs_W5 := hG.size; clear hG; have hn_W5 := an (nl cc1) (an (nl cc4) (nl cc7)); have lay_W5 : Laid W5 := Laid.below (w := w) (by assumption) hBW; clear hw_W5)
    go_region_held3 (fun w' => w'.cell? ⟨w.heap.size, 0, none⟩ = some (.bool s) ∧ w'.cell? ⟨w.heap.size, 1, none⟩ = some (.slice u.1 Lu u.2) ∧ w'.cell? ⟨w.heap.size, 2, none⟩ = some (.int .i64 E)) ((refine ⟨?_, ?_, ?_⟩ <;> go_simp)) ((go_at_call 51; refine (num_Add_p x y n _ _ _ (hR_a.later (by go_grown)) (hR_b.later (by go_grown)) lx ly hn).mono ?_; rintro en p1 ⟨⟨r, rfl, hR_r⟩, hB_p1⟩; have hb_p1 : Below W5.heap.size W5 p1 := below_after (by go_grown) hB_p1; have hs_p1 := hb_p1.size; have lay_p1 := laid_after hB_p1; have kcc7_p1 := cell_later hb_p1 cc7; have kfcc7_p1 := frozen_later hb_p1 fcc7 (by first | omega | (simp; done) | (simp; omega)); have kcc8_p1 := cell_later hb_p1 cc8; have kfcc8_p1 := frozen_later hb_p1 fcc8 (by first | omega | (simp; done) | (simp; omega)); have kcc9_p1 := cell_later hb_p1 cc9; have kfcc9_p1 := frozen_later hb_p1 fcc9 (by first | omega | (simp; done) | (simp; omega)); have scc1_p1 := cell_later hb_p1 cc1; have scc2_p1 := cell_later hb_p1 cc2; have scc3_p1 := cell_later hb_p1 cc3))
    go_wp2_with fail
    refine bodyPost_ret (by simp [results, Tryz.results92, go_sem, kcc7_p1, kcc8_p1, kcc9_p1]; try rfl) rfl ?_
    have hB_f : Below w.heap.size w p1 := below_after hBW hb_p1
    refine ⟨⟨_, rfl, ?_⟩, by go_grown⟩
    (repeat (refine RN.put ?_ (by intro k; go_simp)))
    exact hR_r
  · skip
    have q2' : decide (c < 0) = true := decide_eq_true q2
    (go_wp2_with fail; refine (num_Cmp x y _ _ _ hR_a hR_b lx ly).mono ?_; rw [hc.out]; rintro en v3 ⟨rfl, hB_v3⟩; have lay_v3 := laid_after hB_v3; replace hR_v := RN.later hR_v (below_after (by go_grown) hB_v3); replace hR_a := RN.later hR_a (below_after (by go_grown) hB_v3); replace hR_b := RN.later hR_b (below_after (by go_grown) hB_v3); have hG := cell_grown cc1 (by go_grown) hB_v3; replace cc1 := cl hG cc1; replace cc2 := cl hG cc2; replace cc3 := cl hG cc3; replace cc4 := cl hG cc4; replace cc5 := cl hG cc5; replace cc6 := cl hG cc6; replace fcc7 := fl hG fcc7 cc7; replace cc7 := cl hG cc7; replace fcc8 := fl hG fcc8 cc8; replace cc8 := cl hG cc8; replace fcc9 := fl hG fcc9 cc9; replace cc9 := cl hG cc9; replace hBW := below_after hBW hG; have hs_v3 := hG.size; clear hG; have hn_v3 := an (nl cc1) (an (nl cc4) (nl cc7)); clear hB_v3)
    go_upto_region 7 with fail
    ((first | refine wp_rename ?_ | refine goal_rename ?_); intro W7 hw_W7; have hG := named cc1 W7 (by rw [hw_W7]; first | with_reducible exact drewN_below (Below.refl _ _) _ | go_grown); replace cc1 := cl hG cc1; replace cc2 := cl hG cc2; replace cc3 := cl hG cc3; replace cc4 := cl hG cc4; replace cc5 := cl hG cc5; replace cc6 := cl hG cc6; replace fcc7 := fl hG fcc7 cc7; replace cc7 := cl hG cc7; replace fcc8 := fl hG fcc8 cc8; replace cc8 := cl hG cc8; replace fcc9 := fl hG fcc9 cc9; replace cc9 := cl hG cc9; replace hR_v := RN.later hR_v (w' := W7) (by rw [hw_W7]; first | with_reducible exact drewN_below (Below.refl _ _) _ | go_grown); replace hR_a := RN.later hR_a (w' := W7) (by rw [hw_W7]; first | with_reducible exact drewN_below (Below.refl _ _) _ | go_grown); replace hR_b := RN.later hR_b (w' := W7) (by rw [hw_W7]; first | with_reducible exact drewN_below (Below.refl _ _) _ | go_grown); replace hBW := below_after hBW hG; have hs_W7 := hG.size; clear hG; have hn_W7 := an (nl cc1) (an (nl cc4) (nl cc7)); have lay_W7 : Laid W7 := Laid.below (w := w) (by assumption) hBW; clear hw_W7)
    go_region_held3 (fun w' => w'.cell? ⟨w.heap.size + 1, 0, none⟩ = some (.bool t) ∧ w'.cell? ⟨w.heap.size + 1, 1, none⟩ = some (.slice v.1 Lv v.2) ∧ w'.cell? ⟨w.heap.size + 1, 2, none⟩ = some (.int .i64 F)) ((refine ⟨?_, ?_, ?_⟩ <;> go_simp)) ((go_at_call 94; refine (num_Sub_p y x n _ _ _ (hR_b.later (by go_grown)) (hR_a.later (by go_grown)) ly hle hn).mono ?_; rintro en p1 ⟨⟨r, rfl, hR_r⟩, hB_p1⟩; have hb_p1 : Below W7.heap.size W7 p1 := below_after (by go_grown) hB_p1; have hs_p1 := hb_p1.size; have lay_p1 := laid_after hB_p1; have kcc7_p1 := cell_later hb_p1 cc7; have kfcc7_p1 := frozen_later hb_p1 fcc7 (by first | omega | (simp; done) | (simp; omega)); have kcc8_p1 := cell_later hb_p1 cc8; have kfcc8_p1 := frozen_later hb_p1 fcc8 (by first | omega | (simp; done) | (simp; omega)); have kcc9_p1 := cell_later hb_p1 cc9; have kfcc9_p1 := frozen_later hb_p1 fcc9 (by first | omega | (simp; done) | (simp; omega)); have scc4_p1 := cell_later hb_p1 cc4; have scc5_p1 := cell_later hb_p1 cc5; have scc6_p1 := cell_later hb_p1 cc6))
    go_wp2_with fail
    refine bodyPost_ret (by simp [results, Tryz.results92, go_sem, kcc7_p1, kcc8_p1, kcc9_p1]; try rfl) rfl ?_
    have hB_f : Below w.heap.size w p1 := below_after hBW hb_p1
    refine ⟨⟨_, rfl, ?_⟩, by go_grown⟩
    (repeat (refine RN.put ?_ (by intro k; go_simp)))
    exact hR_r
  · skip
    have q2' : decide (c < 0) = false := decide_eq_false (by omega)
    (go_wp2_with fail; refine (num_Cmp x y _ _ _ hR_a hR_b lx ly).mono ?_; rw [hc.out]; rintro en v3 ⟨rfl, hB_v3⟩; have lay_v3 := laid_after hB_v3; replace hR_v := RN.later hR_v (below_after (by go_grown) hB_v3); replace hR_a := RN.later hR_a (below_after (by go_grown) hB_v3); replace hR_b := RN.later hR_b (below_after (by go_grown) hB_v3); have hG := cell_grown cc1 (by go_grown) hB_v3; replace cc1 := cl hG cc1; replace cc2 := cl hG cc2; replace cc3 := cl hG cc3; replace cc4 := cl hG cc4; replace cc5 := cl hG cc5; replace cc6 := cl hG cc6; replace fcc7 := fl hG fcc7 cc7; replace cc7 := cl hG cc7; replace fcc8 := fl hG fcc8 cc8; replace cc8 := cl hG cc8; replace fcc9 := fl hG fcc9 cc9; replace cc9 := cl hG cc9; replace hBW := below_after hBW hG; have hs_v3 := hG.size; clear hG; have hn_v3 := an (nl cc1) (an (nl cc4) (nl cc7)); clear hB_v3)
    go_upto_region 8 with fail
    ((first | refine wp_rename ?_ | refine goal_rename ?_); intro W8 hw_W8; have hG := named cc1 W8 (by rw [hw_W8]; first | with_reducible exact drewN_below (Below.refl _ _) _ | go_grown); replace cc1 := cl hG cc1; replace cc2 := cl hG cc2; replace cc3 := cl hG cc3; replace cc4 := cl hG cc4; replace cc5 := cl hG cc5; replace cc6 := cl hG cc6; replace fcc7 := fl hG fcc7 cc7; replace cc7 := cl hG cc7; replace fcc8 := fl hG fcc8 cc8; replace cc8 := cl hG cc8; replace fcc9 := fl hG fcc9 cc9; replace cc9 := cl hG cc9; replace hR_v := RN.later hR_v (w' := W8) (by rw [hw_W8]; first | with_reducible exact drewN_below (Below.refl _ _) _ | go_grown); replace hR_a := RN.later hR_a (w' := W8) (by rw [hw_W8]; first | with_reducible exact drewN_below (Below.refl _ _) _ | go_grown); replace hR_b := RN.later hR_b (w' := W8) (by rw [hw_W8]; first | with_reducible exact drewN_below (Below.refl _ _) _ | go_grown); replace hBW := below_after hBW hG; have hs_W8 := hG.size; clear hG; have hn_W8 := an (nl cc1) (an (nl cc4) (nl cc7)); have lay_W8 : Laid W8 := Laid.below (w := w) (by assumption) hBW; clear hw_W8)
    go_region_held3 (fun w' => w'.cell? ⟨w.heap.size, 0, none⟩ = some (.bool s) ∧ w'.cell? ⟨w.heap.size, 1, none⟩ = some (.slice u.1 Lu u.2) ∧ w'.cell? ⟨w.heap.size, 2, none⟩ = some (.int .i64 E)) ((refine ⟨?_, ?_, ?_⟩ <;> go_simp)) ((go_at_call 94; refine (num_Sub_p x y n _ _ _ (hR_a.later (by go_grown)) (hR_b.later (by go_grown)) lx hle hn).mono ?_; rintro en p1 ⟨⟨r, rfl, hR_r⟩, hB_p1⟩; have hb_p1 : Below W8.heap.size W8 p1 := below_after (by go_grown) hB_p1; have hs_p1 := hb_p1.size; have lay_p1 := laid_after hB_p1; have kcc7_p1 := cell_later hb_p1 cc7; have kfcc7_p1 := frozen_later hb_p1 fcc7 (by first | omega | (simp; done) | (simp; omega)); have kcc8_p1 := cell_later hb_p1 cc8; have kfcc8_p1 := frozen_later hb_p1 fcc8 (by first | omega | (simp; done) | (simp; omega)); have kcc9_p1 := cell_later hb_p1 cc9; have kfcc9_p1 := frozen_later hb_p1 fcc9 (by first | omega | (simp; done) | (simp; omega)); have scc1_p1 := cell_later hb_p1 cc1; have scc2_p1 := cell_later hb_p1 cc2; have scc3_p1 := cell_later hb_p1 cc3))
    go_wp2_with fail
    refine bodyPost_ret (by simp [results, Tryz.results92, go_sem, kcc7_p1, kcc8_p1, kcc9_p1]; try rfl) rfl ?_
    have hB_f : Below w.heap.size w p1 := below_after hBW hb_p1
    refine ⟨⟨_, rfl, ?_⟩, by go_grown⟩
    (repeat (refine RN.put ?_ (by intro k; go_simp)))
    exact hR_r
def sgnW (s t : Bool) (x y : Nat) : Bool := if s = t then s else if x < y then t else s
theorem ref_Sum (s t : Bool) (E F : Int) (M N Lu Lv L : Nat) (u v : Option Addr × Nat) (w : World) [hLay : Laid w] (hR_u : RN w (.slice u.1 Lu u.2) M) (hR_v : RN w (.slice v.1 Lv v.2) N) (e0 : -100000 ≤ E) (e1 : E ≤ 100000) (f0 : -100000 ≤ F) (f1 : F ≤ 100000) (lM : dl M ≤ 100000) (lN : dl N ≤ 100000)
    (lx : dl (M * 2 ^ (E - min E F).toNat) ≤ 100000) (ly : dl (N * 2 ^ (F - min E F).toNat) ≤ 100000) (hL : dl (exactX s t (M * 2 ^ (E - min E F).toNat) (N * 2 ^ (F - min E F).toNat)) = L) :
    Calls Tryz.prog 92 #[.agg #[.bool s, .slice u.1 Lu u.2, .int .i64 E], .agg #[.bool t, .slice v.1 Lv v.2, .int .i64 F]] w fun en w' => GivesL (sgnW s t (M * 2 ^ (E - min E F).toNat) (N * 2 ^ (F - min E F).toNat)) L (exactX s t (M * 2 ^ (E - min E F).toNat) (N * 2 ^ (F - min E F).toNat)) (min E F) en w' ∧ Below w.heap.size w w' := by
  refine (sum18_walk s t (sgnW s t (M * 2 ^ (E - min E F).toNat) (N * 2 ^ (F - min E F).toNat)) E F (min E F) _ M N _ _ (exactX s t (M * 2 ^ (E - min E F).toNat) (N * 2 ^ (F - min E F).toNat)) Lu Lv u v w hR_u hR_v rfl e0 e1 f0 f1 lM lN (Lib.hid rfl) (Lib.hid rfl) lx ly (Lib.hid rfl) ?_).mono fun _ _ ⟨h1, h2⟩ => ⟨h1.long hL, h2⟩
  generalize M * 2 ^ (E - min E F).toNat = x
  generalize N * 2 ^ (F - min E F).toNat = y
  unfold exactX sgnW cmpR
  by_cases hst : s = t
  · left
    rw [if_pos hst, if_pos hst]
    exact ⟨beq_iff_eq.2 hst, rfl, rfl⟩
  · right
    rw [if_neg hst, if_neg hst]
    by_cases hlt : x < y
    · left
      rw [if_pos hlt, if_pos hlt]
      exact ⟨beq_eq_false_iff_ne.2 hst, by decide, by omega, by omega, rfl⟩
    · right
      rw [if_neg hlt, if_neg hlt]
      refine ⟨beq_eq_false_iff_ne.2 hst, ?_, by omega, by omega, rfl⟩
      split <;> decide
theorem signed_walk (f m e E F r0 r1 ry : Int) (aft s t g g0 z : Bool) (M N n L Lu Lv : Nat) (u v : Option Addr × Nat) [hU : U8 f] [hM : U8 m] (w : World) [hLay : Laid w] (hR_u : RN w (.slice u.1 Lu u.2) M) (hR_v : RN w (.slice v.1 Lv v.2) N)
    (HS : ∀ W : World, Laid W → RN W (.slice u.1 Lu u.2) M → RN W (.slice v.1 Lv v.2) N → Calls Tryz.prog 92 #[.agg #[.bool s, .slice u.1 Lu u.2, .int .i64 E], .agg #[.bool t, .slice v.1 Lv v.2, .int .i64 F]] W fun en w' => GivesL g0 L n e en w' ∧ Below W.heap.size W w')
    (e0 : -4000000000000 ≤ e) (e1 : e ≤ 4000000000000) (ln : dl n ≤ 30000) (hz : (m == 3) = z) (h0 : Hid (hi (refR f m g n e) = r0)) (h1 : Hid (lo (refR f m g n e) = r1)) (h2 : Hid (refRF f m aft g n e = ry))
    (hq : ((((L : Nat) : Int) == 0) = false ∧ g0 = g) ∨ (L = 0 ∧ s = true ∧ t = true ∧ g = true) ∨ (L = 0 ∧ s = false ∧ t = false ∧ g = false) ∨ (L = 0 ∧ s = true ∧ t = false ∧ z = g) ∨ (L = 0 ∧ s = false ∧ t = true ∧ z = g)) :
    Calls Tryz.prog 42 #[.int .u8 f, .agg #[.int .u8 m, .bool aft], .agg #[.bool s, .slice u.1 Lu u.2, .int .i64 E], .agg #[.bool t, .slice v.1 Lv v.2, .int .i64 F]] w fun en w' => en = .returned (.agg #[.int .u64 r0, .int .u64 r1, .int .u8 ry]) ∧ Below w.heap.size w w' := by
  go_enter Tryz.func42, Tryz.ntmps42
  skip
  (go_wp2_with fail; refine (HS _ (by first | assumption | infer_instance) (hR_u.later (by go_grown)) (hR_v.later (by go_grown))).mono ?_; rintro en v1 ⟨⟨r, rfl, hR_r⟩, hB_v1⟩; have lay_v1 := laid_after hB_v1; have cc1 := cl hB_v1 (show World.cell? _ ⟨w.heap.size, 0, none⟩ = some (.int .u8 m) by go_simp); have cc2 := cl hB_v1 (show World.cell? _ ⟨w.heap.size, 1, none⟩ = some (.bool aft) by go_simp); have cc3 := cl hB_v1 (show World.cell? _ ⟨w.heap.size + 1, 0, none⟩ = some (.bool s) by go_simp); have cc4 := cl hB_v1 (show World.cell? _ ⟨w.heap.size + 1, 1, none⟩ = some (.slice u.1 Lu u.2) by go_simp); have cc5 := cl hB_v1 (show World.cell? _ ⟨w.heap.size + 1, 2, none⟩ = some (.int .i64 E) by go_simp); have cc6 := cl hB_v1 (show World.cell? _ ⟨w.heap.size + 1 + 1, 0, none⟩ = some (.bool t) by go_simp); have cc7 := cl hB_v1 (show World.cell? _ ⟨w.heap.size + 1 + 1, 1, none⟩ = some (.slice v.1 Lv v.2) by go_simp); have cc8 := cl hB_v1 (show World.cell? _ ⟨w.heap.size + 1 + 1, 2, none⟩ = some (.int .i64 F) by go_simp); obtain ⟨cc9, fcc9⟩ := pf hB_v1 (show World.cell? _ ⟨w.heap.size + 1 + 1 + 1, 0, none⟩ = some (.int .u64 0) by go_simp) (by go_simp); obtain ⟨cc10, fcc10⟩ := pf hB_v1 (show World.cell? _ ⟨w.heap.size + 1 + 1 + 1, 1, none⟩ = some (.int .u64 0) by go_simp) (by go_simp); obtain ⟨cc11, fcc11⟩ := pf hB_v1 (show World.cell? _ ⟨w.heap.size + 1 + 1 + 1, 2, none⟩ = some (.int .u8 0) by go_simp) (by go_simp); have hs_v1 := hB_v1.size; (try simp only [World.size_alloc, World.size_setCell, World.size_drew] at hs_v1); have hBW : Below w.heap.size w v1 := below_after (w := w) (by go_grown) hB_v1; have hn_v1 := an (nl cc1) (an (nl cc3) (an (nl cc6) (nl cc9))); clear hB_v1)
  go_upto_region 2 with fail
  ((first | refine wp_rename ?_ | refine goal_rename ?_); intro W2 hw_W2; have hG := named cc1 W2 (by rw [hw_W2]; first | with_reducible exact drewN_below (Below.refl _ _) _ | go_grown); replace cc1 := cl hG cc1; replace cc2 := cl hG cc2; replace cc3 := cl hG cc3; replace cc4 := cl hG cc4; replace cc5 := cl hG cc5; replace cc6 := cl hG cc6; replace cc7 := cl hG cc7; replace cc8 := cl hG cc8; replace fcc9 := fl hG fcc9 cc9; replace cc9 := cl hG cc9; replace fcc10 := fl hG fcc10 cc10; replace cc10 := cl hG cc10; replace fcc11 := fl hG fcc11 cc11; replace cc11 := cl hG cc11; replace hR_r := RN.later hR_r (w' := W2) (by rw [hw_W2]; first | with_reducible exact drewN_below (Below.refl _ _) _ | go_grown); have cc12 : W2.cell? ⟨v1.heap.size, 0, none⟩ = some (.bool g0) := (by rw [hw_W2]; go_simp); have fcc12 : W2.frozen? ⟨v1.heap.size, 0, none⟩ = false := (by rw [hw_W2]; go_simp); have cc13 : W2.cell? ⟨v1.heap.size, 1, none⟩ = some (.slice r.1 L r.2) := (by rw [hw_W2]; go_simp); have fcc13 : W2.frozen? ⟨v1.heap.size, 1, none⟩ = false := (by rw [hw_W2]; go_simp); have cc14 : W2.cell? ⟨v1.heap.size, 2, none⟩ = some (.int .i64 e) := (by rw [hw_W2]; go_simp); have fcc14 : W2.frozen? ⟨v1.heap.size, 2, none⟩ = false := (by rw [hw_W2]; go_simp); replace hBW := below_after hBW hG; have hs_W2 := hG.size; clear hG; have hn_W2 := an (nl cc1) (an (nl cc3) (an (nl cc6) (an (nl cc9) (nl cc12)))); have lay_W2 : Laid W2 := Laid.below (w := w) (by assumption) hBW; clear hw_W2)
  skip
  rcases hq with ⟨q1, rfl⟩ | ⟨rfl, rfl, rfl, rfl⟩ | ⟨rfl, rfl, rfl, rfl⟩ | ⟨rfl, rfl, rfl, rfl⟩ | ⟨rfl, rfl, rfl, rfl⟩
  · (go_wp2_with fail; refine (ref_Round f m e aft g0 n _ _ hR_r ln e0 e1).mono ?_; rw [h0.out, h1.out, h2.out]; rintro en v4 ⟨rfl, hB_v4⟩; have lay_v4 := laid_after hB_v4; replace hR_r := RN.later hR_r (below_after (by go_grown) hB_v4); have hG := cell_grown cc1 (by go_grown) hB_v4; replace cc1 := cl hG cc1; replace cc2 := cl hG cc2; replace cc3 := cl hG cc3; replace cc4 := cl hG cc4; replace cc5 := cl hG cc5; replace cc6 := cl hG cc6; replace cc7 := cl hG cc7; replace cc8 := cl hG cc8; replace fcc9 := fl hG fcc9 cc9; replace cc9 := cl hG cc9; replace fcc10 := fl hG fcc10 cc10; replace cc10 := cl hG cc10; replace fcc11 := fl hG fcc11 cc11; replace cc11 := cl hG cc11; replace fcc12 := fl hG fcc12 cc12; replace cc12 := cl hG cc12; replace fcc13 := fl hG fcc13 cc13; replace cc13 := cl hG cc13; replace fcc14 := fl hG fcc14 cc14; replace cc14 := cl hG cc14; replace hBW := below_after hBW hG; have hs_v4 := hG.size; clear hG; have hn_v4 := an (nl cc1) (an (nl cc3) (an (nl cc6) (an (nl cc9) (nl cc12)))); clear hB_v4)
    go_wp2_with fail
    refine bodyPost_ret (by simp [results, Tryz.results42, go_sem, cc9, cc10, cc11]; try rfl) rfl ?_
    exact ⟨rfl, by go_grown⟩
  · skip
    skip
    go_upto_region 3 with fail
    ((first | refine wp_rename ?_ | refine goal_rename ?_); intro W3 hw_W3; have hG := named cc1 W3 (by rw [hw_W3]; first | with_reducible exact drewN_below (Below.refl _ _) _ | go_grown); replace cc1 := cl hG cc1; replace cc2 := cl hG cc2; replace cc3 := cl hG cc3; replace cc4 := cl hG cc4; replace cc5 := cl hG cc5; replace cc6 := cl hG cc6; replace cc7 := cl hG cc7; replace cc8 := cl hG cc8; replace fcc9 := fl hG fcc9 cc9; replace cc9 := cl hG cc9; replace fcc10 := fl hG fcc10 cc10; replace cc10 := cl hG cc10; replace fcc11 := fl hG fcc11 cc11; replace cc11 := cl hG cc11; replace fcc12 := fl hG fcc12 cc12; replace cc12 := cl hG cc12; replace fcc13 := fl hG fcc13 cc13; replace cc13 := cl hG cc13; replace fcc14 := fl hG fcc14 cc14; replace cc14 := cl hG cc14; replace hR_r := RN.later hR_r (w' := W3) (by rw [hw_W3]; first | with_reducible exact drewN_below (Below.refl _ _) _ | go_grown); replace hBW := below_after hBW hG; have hs_W3 := hG.size; clear hG; have hn_W3 := an (nl cc1) (an (nl cc3) (an (nl cc6) (an (nl cc9) (nl cc12)))); have lay_W3 : Laid W3 := Laid.below (w := w) (by assumption) hBW; clear hw_W3)
    skip
    go_upto_region 4 with fail
    ((first | refine wp_rename ?_ | refine goal_rename ?_); intro W4 hw_W4; replace hR_r := RN.put1 hR_r hw_W4 (by assumption) (fun k hk => by cases hk); replace cc1 := rn hw_W4 cc1 (by go_simp); replace cc2 := rn hw_W4 cc2 (by go_simp); replace cc3 := rn hw_W4 cc3 (by go_simp); replace cc4 := rn hw_W4 cc4 (by go_simp); replace cc5 := rn hw_W4 cc5 (by go_simp); replace cc6 := rn hw_W4 cc6 (by go_simp); replace cc7 := rn hw_W4 cc7 (by go_simp); replace cc8 := rn hw_W4 cc8 (by go_simp); replace cc9 := rn hw_W4 cc9 (by go_simp); replace fcc9 := rf hw_W4 fcc9 (by go_simp); replace cc10 := rn hw_W4 cc10 (by go_simp); replace fcc10 := rf hw_W4 fcc10 (by go_simp); replace cc11 := rn hw_W4 cc11 (by go_simp); replace fcc11 := rf hw_W4 fcc11 (by go_simp); replace cc12 : W4.cell? ⟨v1.heap.size, 0, none⟩ = some (.bool true) := (by rw [hw_W4]; go_simp); replace fcc12 := rf hw_W4 fcc12 (by go_simp); replace cc13 := rn hw_W4 cc13 (by go_simp); replace fcc13 := rf hw_W4 fcc13 (by go_simp); replace cc14 := rn hw_W4 cc14 (by go_simp); replace fcc14 := rf hw_W4 fcc14 (by go_simp); replace hBW : Below w.heap.size w W4 := (by rw [hw_W4]; (first | with_reducible exact drewN_below (by assumption) _ | go_grown)); have hn_W4 := an (nl cc1) (an (nl cc3) (an (nl cc6) (an (nl cc9) (nl cc12)))); have lay_W4 : Laid W4 := Laid.below (w := w) (by assumption) hBW; clear hw_W4)
    (go_wp2_with fail; refine (ref_Round f m e aft true n _ _ hR_r ln e0 e1).mono ?_; rw [h0.out, h1.out, h2.out]; rintro en v4 ⟨rfl, hB_v4⟩; have lay_v4 := laid_after hB_v4; replace hR_r := RN.later hR_r (below_after (by go_grown) hB_v4); have hG := cell_grown cc1 (by go_grown) hB_v4; replace cc1 := cl hG cc1; replace cc2 := cl hG cc2; replace cc3 := cl hG cc3; replace cc4 := cl hG cc4; replace cc5 := cl hG cc5; replace cc6 := cl hG cc6; replace cc7 := cl hG cc7; replace cc8 := cl hG cc8; replace fcc9 := fl hG fcc9 cc9; replace cc9 := cl hG cc9; replace fcc10 := fl hG fcc10 cc10; replace cc10 := cl hG cc10; replace fcc11 := fl hG fcc11 cc11; replace cc11 := cl hG cc11; replace fcc12 := fl hG fcc12 cc12; replace cc12 := cl hG cc12; replace fcc13 := fl hG fcc13 cc13; replace cc13 := cl hG cc13; replace fcc14 := fl hG fcc14 cc14; replace cc14 := cl hG cc14; replace hBW := below_after hBW hG; have hs_v4 := hG.size; clear hG; have hn_v4 := an (nl cc1) (an (nl cc3) (an (nl cc6) (an (nl cc9) (nl cc12)))); clear hB_v4)
    go_wp2_with fail
    refine bodyPost_ret (by simp [results, Tryz.results42, go_sem, cc9, cc10, cc11]; try rfl) rfl ?_
    exact ⟨rfl, by go_grown⟩
  · skip
    skip
    go_upto_region 3 with fail
    ((first | refine wp_rename ?_ | refine goal_rename ?_); intro W3 hw_W3; have hG := named cc1 W3 (by rw [hw_W3]; first | with_reducible exact drewN_below (Below.refl _ _) _ | go_grown); replace cc1 := cl hG cc1; replace cc2 := cl hG cc2; replace cc3 := cl hG cc3; replace cc4 := cl hG cc4; replace cc5 := cl hG cc5; replace cc6 := cl hG cc6; replace cc7 := cl hG cc7; replace cc8 := cl hG cc8; replace fcc9 := fl hG fcc9 cc9; replace cc9 := cl hG cc9; replace fcc10 := fl hG fcc10 cc10; replace cc10 := cl hG cc10; replace fcc11 := fl hG fcc11 cc11; replace cc11 := cl hG cc11; replace fcc12 := fl hG fcc12 cc12; replace cc12 := cl hG cc12; replace fcc13 := fl hG fcc13 cc13; replace cc13 := cl hG cc13; replace fcc14 := fl hG fcc14 cc14; replace cc14 := cl hG cc14; replace hR_r := RN.later hR_r (w' := W3) (by rw [hw_W3]; first | with_reducible exact drewN_below (Below.refl _ _) _ | go_grown); replace hBW := below_after hBW hG; have hs_W3 := hG.size; clear hG; have hn_W3 := an (nl cc1) (an (nl cc3) (an (nl cc6) (an (nl cc9) (nl cc12)))); have lay_W3 : Laid W3 := Laid.below (w := w) (by assumption) hBW; clear hw_W3)
    skip
    go_upto_region 4 with fail
    ((first | refine wp_rename ?_ | refine goal_rename ?_); intro W4 hw_W4; replace hR_r := RN.put1 hR_r hw_W4 (by assumption) (fun k hk => by cases hk); replace cc1 := rn hw_W4 cc1 (by go_simp); replace cc2 := rn hw_W4 cc2 (by go_simp); replace cc3 := rn hw_W4 cc3 (by go_simp); replace cc4 := rn hw_W4 cc4 (by go_simp); replace cc5 := rn hw_W4 cc5 (by go_simp); replace cc6 := rn hw_W4 cc6 (by go_simp); replace cc7 := rn hw_W4 cc7 (by go_simp); replace cc8 := rn hw_W4 cc8 (by go_simp); replace cc9 := rn hw_W4 cc9 (by go_simp); replace fcc9 := rf hw_W4 fcc9 (by go_simp); replace cc10 := rn hw_W4 cc10 (by go_simp); replace fcc10 := rf hw_W4 fcc10 (by go_simp); replace cc11 := rn hw_W4 cc11 (by go_simp); replace fcc11 := rf hw_W4 fcc11 (by go_simp); replace cc12 : W4.cell? ⟨v1.heap.size, 0, none⟩ = some (.bool false) := (by rw [hw_W4]; go_simp); replace fcc12 := rf hw_W4 fcc12 (by go_simp); replace cc13 := rn hw_W4 cc13 (by go_simp); replace fcc13 := rf hw_W4 fcc13 (by go_simp); replace cc14 := rn hw_W4 cc14 (by go_simp); replace fcc14 := rf hw_W4 fcc14 (by go_simp); replace hBW : Below w.heap.size w W4 := (by rw [hw_W4]; (first | with_reducible exact drewN_below (by assumption) _ | go_grown)); have hn_W4 := an (nl cc1) (an (nl cc3) (an (nl cc6) (an (nl cc9) (nl cc12)))); have lay_W4 : Laid W4 := Laid.below (w := w) (by assumption) hBW; clear hw_W4)
    (go_wp2_with fail; refine (ref_Round f m e aft false n _ _ hR_r ln e0 e1).mono ?_; rw [h0.out, h1.out, h2.out]; rintro en v4 ⟨rfl, hB_v4⟩; have lay_v4 := laid_after hB_v4; replace hR_r := RN.later hR_r (below_after (by go_grown) hB_v4); have hG := cell_grown cc1 (by go_grown) hB_v4; replace cc1 := cl hG cc1; replace cc2 := cl hG cc2; replace cc3 := cl hG cc3; replace cc4 := cl hG cc4; replace cc5 := cl hG cc5; replace cc6 := cl hG cc6; replace cc7 := cl hG cc7; replace cc8 := cl hG cc8; replace fcc9 := fl hG fcc9 cc9; replace cc9 := cl hG cc9; replace fcc10 := fl hG fcc10 cc10; replace cc10 := cl hG cc10; replace fcc11 := fl hG fcc11 cc11; replace cc11 := cl hG cc11; replace fcc12 := fl hG fcc12 cc12; replace cc12 := cl hG cc12; replace fcc13 := fl hG fcc13 cc13; replace cc13 := cl hG cc13; replace fcc14 := fl hG fcc14 cc14; replace cc14 := cl hG cc14; replace hBW := below_after hBW hG; have hs_v4 := hG.size; clear hG; have hn_v4 := an (nl cc1) (an (nl cc3) (an (nl cc6) (an (nl cc9) (nl cc12)))); clear hB_v4)
    go_wp2_with fail
    refine bodyPost_ret (by simp [results, Tryz.results42, go_sem, cc9, cc10, cc11]; try rfl) rfl ?_
    exact ⟨rfl, by go_grown⟩
  · skip
    skip
    go_upto_region 3 with fail
    ((first | refine wp_rename ?_ | refine goal_rename ?_); intro W3 hw_W3; have hG := named cc1 W3 (by rw [hw_W3]; first | with_reducible exact drewN_below (Below.refl _ _) _ | go_grown); replace cc1 := cl hG cc1; replace cc2 := cl hG cc2; replace cc3 := cl hG cc3; replace cc4 := cl hG cc4; replace cc5 := cl hG cc5; replace cc6 := cl hG cc6; replace cc7 := cl hG cc7; replace cc8 := cl hG cc8; replace fcc9 := fl hG fcc9 cc9; replace cc9 := cl hG cc9; replace fcc10 := fl hG fcc10 cc10; replace cc10 := cl hG cc10; replace fcc11 := fl hG fcc11 cc11; replace cc11 := cl hG cc11; replace fcc12 := fl hG fcc12 cc12; replace cc12 := cl hG cc12; replace fcc13 := fl hG fcc13 cc13; replace cc13 := cl hG cc13; replace fcc14 := fl hG fcc14 cc14; replace cc14 := cl hG cc14; replace hR_r := RN.later hR_r (w' := W3) (by rw [hw_W3]; first | with_reducible exact drewN_below (Below.refl _ _) _ | go_grown); replace hBW := below_after hBW hG; have hs_W3 := hG.size; clear hG; have hn_W3 := an (nl cc1) (an (nl cc3) (an (nl cc6) (an (nl cc9) (nl cc12)))); have lay_W3 : Laid W3 := Laid.below (w := w) (by assumption) hBW; clear hw_W3)
    skip
    go_upto_region 4 with fail
    ((first | refine wp_rename ?_ | refine goal_rename ?_); intro W4 hw_W4; replace hR_r := RN.put1 hR_r hw_W4 (by assumption) (fun k hk => by cases hk); replace cc1 := rn hw_W4 cc1 (by go_simp); replace cc2 := rn hw_W4 cc2 (by go_simp); replace cc3 := rn hw_W4 cc3 (by go_simp); replace cc4 := rn hw_W4 cc4 (by go_simp); replace cc5 := rn hw_W4 cc5 (by go_simp); replace cc6 := rn hw_W4 cc6 (by go_simp); replace cc7 := rn hw_W4 cc7 (by go_simp); replace cc8 := rn hw_W4 cc8 (by go_simp); replace cc9 := rn hw_W4 cc9 (by go_simp); replace fcc9 := rf hw_W4 fcc9 (by go_simp); replace cc10 := rn hw_W4 cc10 (by go_simp); replace fcc10 := rf hw_W4 fcc10 (by go_simp); replace cc11 := rn hw_W4 cc11 (by go_simp); replace fcc11 := rf hw_W4 fcc11 (by go_simp); replace cc12 : W4.cell? ⟨v1.heap.size, 0, none⟩ = some (.bool z) := (by rw [hw_W4]; go_simp); replace fcc12 := rf hw_W4 fcc12 (by go_simp); replace cc13 := rn hw_W4 cc13 (by go_simp); replace fcc13 := rf hw_W4 fcc13 (by go_simp); replace cc14 := rn hw_W4 cc14 (by go_simp); replace fcc14 := rf hw_W4 fcc14 (by go_simp); replace hBW : Below w.heap.size w W4 := (by rw [hw_W4]; (first | with_reducible exact drewN_below (by assumption) _ | go_grown)); have hn_W4 := an (nl cc1) (an (nl cc3) (an (nl cc6) (an (nl cc9) (nl cc12)))); have lay_W4 : Laid W4 := Laid.below (w := w) (by assumption) hBW; clear hw_W4)
    (go_wp2_with fail; refine (ref_Round f m e aft z n _ _ hR_r ln e0 e1).mono ?_; rw [h0.out, h1.out, h2.out]; rintro en v4 ⟨rfl, hB_v4⟩; have lay_v4 := laid_after hB_v4; replace hR_r := RN.later hR_r (below_after (by go_grown) hB_v4); have hG := cell_grown cc1 (by go_grown) hB_v4; replace cc1 := cl hG cc1; replace cc2 := cl hG cc2; replace cc3 := cl hG cc3; replace cc4 := cl hG cc4; replace cc5 := cl hG cc5; replace cc6 := cl hG cc6; replace cc7 := cl hG cc7; replace cc8 := cl hG cc8; replace fcc9 := fl hG fcc9 cc9; replace cc9 := cl hG cc9; replace fcc10 := fl hG fcc10 cc10; replace cc10 := cl hG cc10; replace fcc11 := fl hG fcc11 cc11; replace cc11 := cl hG cc11; replace fcc12 := fl hG fcc12 cc12; replace cc12 := cl hG cc12; replace fcc13 := fl hG fcc13 cc13; replace cc13 := cl hG cc13; replace fcc14 := fl hG fcc14 cc14; replace cc14 := cl hG cc14; replace hBW := below_after hBW hG; have hs_v4 := hG.size; clear hG; have hn_v4 := an (nl cc1) (an (nl cc3) (an (nl cc6) (an (nl cc9) (nl cc12)))); clear hB_v4)
    go_wp2_with fail
    refine bodyPost_ret (by simp [results, Tryz.results42, go_sem, cc9, cc10, cc11]; try rfl) rfl ?_
    exact ⟨rfl, by go_grown⟩
  · skip
    skip
    go_upto_region 3 with fail
    ((first | refine wp_rename ?_ | refine goal_rename ?_); intro W3 hw_W3; have hG := named cc1 W3 (by rw [hw_W3]; first | with_reducible exact drewN_below (Below.refl _ _) _ | go_grown); replace cc1 := cl hG cc1; replace cc2 := cl hG cc2; replace cc3 := cl hG cc3; replace cc4 := cl hG cc4; replace cc5 := cl hG cc5; replace cc6 := cl hG cc6; replace cc7 := cl hG cc7; replace cc8 := cl hG cc8; replace fcc9 := fl hG fcc9 cc9; replace cc9 := cl hG cc9; replace fcc10 := fl hG fcc10 cc10; replace cc10 := cl hG cc10; replace fcc11 := fl hG fcc11 cc11; replace cc11 := cl hG cc11; replace fcc12 := fl hG fcc12 cc12; replace cc12 := cl hG cc12; replace fcc13 := fl hG fcc13 cc13; replace cc13 := cl hG cc13; replace fcc14 := fl hG fcc14 cc14; replace cc14 := cl hG cc14; replace hR_r := RN.later hR_r (w' := W3) (by rw [hw_W3]; first | with_reducible exact drewN_below (Below.refl _ _) _ | go_grown); replace hBW := below_after hBW hG; have hs_W3 := hG.size; clear hG; have hn_W3 := an (nl cc1) (an (nl cc3) (an (nl cc6) (an (nl cc9) (nl cc12)))); have lay_W3 : Laid W3 := Laid.below (w := w) (by assumption) hBW; clear hw_W3)
    skip
    go_upto_region 4 with fail
    ((first | refine wp_rename ?_ | refine goal_rename ?_); intro W4 hw_W4; replace hR_r := RN.put1 hR_r hw_W4 (by assumption) (fun k hk => by cases hk); replace cc1 := rn hw_W4 cc1 (by go_simp); replace cc2 := rn hw_W4 cc2 (by go_simp); replace cc3 := rn hw_W4 cc3 (by go_simp); replace cc4 := rn hw_W4 cc4 (by go_simp); replace cc5 := rn hw_W4 cc5 (by go_simp); replace cc6 := rn hw_W4 cc6 (by go_simp); replace cc7 := rn hw_W4 cc7 (by go_simp); replace cc8 := rn hw_W4 cc8 (by go_simp); replace cc9 := rn hw_W4 cc9 (by go_simp); replace fcc9 := rf hw_W4 fcc9 (by go_simp); replace cc10 := rn hw_W4 cc10 (by go_simp); replace fcc10 := rf hw_W4 fcc10 (by go_simp); replace cc11 := rn hw_W4 cc11 (by go_simp); replace fcc11 := rf hw_W4 fcc11 (by go_simp); replace cc12 : W4.cell? ⟨v1.heap.size, 0, none⟩ = some (.bool z) := (by rw [hw_W4]; go_simp); replace fcc12 := rf hw_W4 fcc12 (by go_simp); replace cc13 := rn hw_W4 cc13 (by go_simp); replace fcc13 := rf hw_W4 fcc13 (by go_simp); replace cc14 := rn hw_W4 cc14 (by go_simp); replace fcc14 := rf hw_W4 fcc14 (by go_simp); replace hBW : Below w.heap.size w W4 := (by rw [hw_W4]; (first | with_reducible exact drewN_below (by assumption) _ | go_grown)); have hn_W4 := an (nl cc1) (an (nl cc3) (an (nl cc6) (an (nl cc9) (nl cc12)))); have lay_W4 : Laid W4 := Laid.below (w := w) (by assumption) hBW; clear hw_W4)
    (go_wp2_with fail; refine (ref_Round f m e aft z n _ _ hR_r ln e0 e1).mono ?_; rw [h0.out, h1.out, h2.out]; rintro en v4 ⟨rfl, hB_v4⟩; have lay_v4 := laid_after hB_v4; replace hR_r := RN.later hR_r (below_after (by go_grown) hB_v4); have hG := cell_grown cc1 (by go_grown) hB_v4; replace cc1 := cl hG cc1; replace cc2 := cl hG cc2; replace cc3 := cl hG cc3; replace cc4 := cl hG cc4; replace cc5 := cl hG cc5; replace cc6 := cl hG cc6; replace cc7 := cl hG cc7; replace cc8 := cl hG cc8; replace fcc9 := fl hG fcc9 cc9; replace cc9 := cl hG cc9; replace fcc10 := fl hG fcc10 cc10; replace cc10 := cl hG cc10; replace fcc11 := fl hG fcc11 cc11; replace cc11 := cl hG cc11; replace fcc12 := fl hG fcc12 cc12; replace cc12 := cl hG cc12; replace fcc13 := fl hG fcc13 cc13; replace cc13 := cl hG cc13; replace fcc14 := fl hG fcc14 cc14; replace cc14 := cl hG cc14; replace hBW := below_after hBW hG; have hs_v4 := hG.size; clear hG; have hn_v4 := an (nl cc1) (an (nl cc3) (an (nl cc6) (an (nl cc9) (nl cc12)))); clear hB_v4)
    go_wp2_with fail
    refine bodyPost_ret (by simp [results, Tryz.results42, go_sem, cc9, cc10, cc11]; try rfl) rfl ?_
    exact ⟨rfl, by go_grown⟩
end Go.Proofs.YtkpjeceofcfnkaaGreatDoor
