/- The contracts of the reference's comparison (chapter 28): end, less, sign, Order. Condition: the listed table is laid. -/
import Derived.Test.YthbpbbbngablpaaDoorRef8
import Derived.Test.YthbpbbbngablpaaDoorRelK
set_option linter.unusedSimpArgs false
set_option linter.unusedVariables false
namespace Go.Proofs.YthbpbbbngablpaaDoor
open Go.RowKit Go.Hb
def endI (c : Int) (s : Bool) : Int := if c = 3 then (if s then -1 else 1) else 0
def lessI (a b : Int) : Int := if a < b then -1 else if b < a then 1 else 0
def signI (n : Nat) (s : Bool) : Int := if n = 0 then 0 else if s then -1 else 1
set_option maxRecDepth 100000 in
theorem ref_end (c : Int) (s : Bool) (w : World) : Calls Tryd.prog 47 #[.int .u8 c, .bool s] w fun en w' => en = .returned (.int .i64 (endI c s)) ∧ w = w' := by
  unfold endI
  by_cases h : c = 3
  · subst h
    cases s
    all_goals (go_enter Tryd.func47, Tryd.ntmps47; go_wp2_with fail; go_returns; exact ⟨rfl, by first | rfl | trivial⟩)
  · have hb : (c != 3) = true := by rw [bne_iff_ne]; exact h
    rw [if_neg h]
    go_enter Tryd.func47, Tryd.ntmps47
    go_wp2_with fail
    go_returns
    exact ⟨rfl, by first | rfl | trivial⟩
set_option maxRecDepth 100000 in
theorem ref_less (a b : Int) (w : World) : Calls Tryd.prog 48 #[.int .i64 a, .int .i64 b] w fun en w' => en = .returned (.int .i64 (lessI a b)) ∧ w = w' := by
  unfold lessI
  by_cases h : a < b
  · have q1 := decide_eq_true h
    rw [if_pos h]
    go_enter Tryd.func48, Tryd.ntmps48
    go_wp2_with fail
    go_returns
    exact ⟨rfl, by first | rfl | trivial⟩
  · have q1 := decide_eq_false h
    rw [if_neg h]
    by_cases h2 : b < a
    · have q2 : decide (a > b) = true := decide_eq_true h2
      rw [if_pos h2]
      go_enter Tryd.func48, Tryd.ntmps48
      go_wp2_with fail
      go_returns
      exact ⟨rfl, by first | rfl | trivial⟩
    · have q2 : decide (a > b) = false := decide_eq_false h2
      rw [if_neg h2]
      go_enter Tryd.func48, Tryd.ntmps48
      go_wp2_with fail
      go_returns
      exact ⟨rfl, by first | rfl | trivial⟩
set_option maxRecDepth 100000 in
theorem ref_sign (n : Nat) (s : Bool) (E : Int) (v : Value) (w : World) (h : RN w v n) : Calls Tryd.prog 50 #[.agg #[.bool s, v, .int .i64 E]] w fun en w' => en = .returned (.int .i64 (signI n s)) ∧ Below w.heap.size w w' := by
  obtain ⟨q, cap, rfl, _, _⟩ := h
  unfold signI
  by_cases hz : n = 0
  · have hd : dl n = 0 := by rw [hz, dl_zero]
    rw [if_pos hz, hd]
    clear hz hd
    go_enter Tryd.func50, Tryd.ntmps50
    go_wp2_with fail
    go_returns
    exact ⟨rfl, by go_grown⟩
  · have hd := dl_ne n hz
    rw [if_neg hz]
    clear hz
    generalize dl n = L at *
    cases s
    all_goals (go_enter Tryd.func50, Tryd.ntmps50; go_wp2_with fail; go_returns; exact ⟨rfl, by go_grown⟩)
set_option maxRecDepth 100000 in
set_option maxHeartbeats 2000000 in
theorem order_walk (f h l h' l' r : Int) (s t : Bool) (a b : Nat) [hU : U8 f] [U64 h] [U64 l] [U64 h'] [U64 l'] (w : World) [hLay : Laid w] (hf : f < 4) (ha : Hid (cat h l % 2 ^ (widthS f).toNat = a)) (hb : Hid (cat h' l' % 2 ^ (widthS f).toNat = b)) (hs : Hid (a.testBit (widthS f - 1).toNat = s)) (ht : Hid (b.testBit (widthS f - 1).toNat = t)) (la : dl a ≤ 100000) (lb : dl b ≤ 100000)
    (hq : (s = true ∧ t = false ∧ r = -1) ∨ (s = false ∧ t = true ∧ r = 1) ∨ (s = true ∧ t = true ∧ Hid (cmpR b a = r)) ∨ (s = false ∧ t = false ∧ Hid (cmpR a b = r))) :
    Calls Tryd.prog 9 #[.int .u8 f, .agg #[.int .u64 (h), .int .u64 (l)], .agg #[.int .u64 (h'), .int .u64 (l')]] w fun en w' => en = .returned (.int .i64 r) ∧ Below w.heap.size w w' := by
  obtain ⟨b1, b2, b3, b4, b5, b6⟩ := fmt_bd f U8.ge hf
  have q1 : decide (f > 3) = false := decide_eq_false (by omega)
  have hp2 : IntKind.i64.wrap (widthS f - 1) = widthS f - 1 := IntWalk.i64_in _ (by omega)
  go_enter Tryd.func9, Tryd.ntmps9
  skip
  (go_wp2_with fail; refine (ref_Width f _).mono ?_; rintro en _ ⟨rfl, rfl⟩)
  go_upto_region 4 with fail
  ((first | refine wp_rename ?_ | refine goal_rename ?_); intro W4 hw_W4; have cc1 : W4.cell? ⟨w.heap.size, 0, none⟩ = some (.int .u64 h) := (by rw [hw_W4]; go_simp); have cc2 : W4.cell? ⟨w.heap.size, 1, none⟩ = some (.int .u64 l) := (by rw [hw_W4]; go_simp); have cc3 : W4.cell? ⟨w.heap.size + 1, 0, none⟩ = some (.int .u64 h') := (by rw [hw_W4]; go_simp); have cc4 : W4.cell? ⟨w.heap.size + 1, 1, none⟩ = some (.int .u64 l') := (by rw [hw_W4]; go_simp); have hBW : Below w.heap.size w W4 := (by rw [hw_W4]; (first | with_reducible exact drewN_below (by assumption) _ | go_grown)); have hn_W4 := an (nl cc1) (nl cc3); have lay_W4 : Laid W4 := Laid.below (w := w) (by assumption) hBW; clear hw_W4)
  go_region_held3 (fun w' => w'.cell? ⟨w.heap.size, 0, none⟩ = some (.int .u64 h) ∧ w'.cell? ⟨w.heap.size, 1, none⟩ = some (.int .u64 l) ∧ w'.cell? ⟨w.heap.size + 1, 0, none⟩ = some (.int .u64 h') ∧ w'.cell? ⟨w.heap.size + 1, 1, none⟩ = some (.int .u64 l')) ((refine ⟨?_, ?_, ?_, ?_⟩ <;> (refine cell_later (w := W4) ?_ (by assumption); go_grown))) (first | (go_at_call 26; refine ((fun _ => ref_FCut f h' l' _) hR_u1).mono ?_; rw [hb.out]; rintro en p2 ⟨⟨u2, rfl, hR_u2⟩, hB_p2⟩; have hb_p2 : Below W4.heap.size W4 p2 := below_after (by go_grown) hB_p2; have hs_p2 := hb_p2.size; have lay_p2 := laid_after hB_p2) | (go_at_call 26; refine (ref_FCut f h l _).mono ?_; rw [ha.out]; rintro en p1 ⟨⟨u1, rfl, hR_u1⟩, hB_p1⟩; have hb_p1 : Below W4.heap.size W4 p1 := below_after (by go_grown) hB_p1; have hs_p1 := hb_p1.size; have lay_p1 := laid_after hB_p1))
  (replace cc1 := cl hb_p2 cc1; replace cc2 := cl hb_p2 cc2; replace cc3 := cl hb_p2 cc3; replace cc4 := cl hb_p2 cc4; replace hBW := below_after hBW hb_p2; have hsb_p2 := hb_p2.size; have hn_p2 := an (nl cc1) (nl cc3))
  replace hR_u1 := hR_u1.later hB_p2
  skip
  (go_wp2_with fail; refine (num_Bit_at a (widthS f - 1).toNat _ u1 _ (by omega) hR_u1 (by omega)).mono ?_; rw [hs.out]; rintro en _ ⟨rfl, rfl⟩)
  (go_wp2_with fail; refine (num_Bit_at b (widthS f - 1).toNat _ u2 _ (by omega) hR_u2 (by omega)).mono ?_; rw [ht.out]; rintro en _ ⟨rfl, rfl⟩)
  skip
  rcases hq with ⟨rfl, rfl, rfl⟩ | ⟨rfl, rfl, rfl⟩ | ⟨rfl, rfl, hr⟩ | ⟨rfl, rfl, hr⟩
  · go_wp2_with fail
    go_returns
    exact ⟨rfl, by go_grown⟩
  · go_wp2_with fail
    go_returns
    exact ⟨rfl, by go_grown⟩
  · skip
    (go_wp2_with fail; refine (num_Cmp b a u2 u1 _ hR_u2 hR_u1 lb la).mono ?_; rw [hr.out]; rintro en v3 ⟨rfl, hB_v3⟩; have lay_v3 := laid_after hB_v3; replace hR_u1 := RN.later hR_u1 (below_after (by go_grown) hB_v3); replace hR_u2 := RN.later hR_u2 (below_after (by go_grown) hB_v3); have hG := cell_grown cc1 (by go_grown) hB_v3; replace cc1 := cl hG cc1; replace cc2 := cl hG cc2; replace cc3 := cl hG cc3; replace cc4 := cl hG cc4; have hs_v3 := hG.size; clear hG; replace hBW : Below w.heap.size w v3 := below_after (w := w) (by go_grown) hB_v3; have hn_v3 := an (nl cc1) (nl cc3); clear hB_v3)
    go_wp2_with fail
    go_returns
    exact ⟨rfl, by go_grown⟩
  · skip
    (go_wp2_with fail; refine (num_Cmp a b u1 u2 _ hR_u1 hR_u2 la lb).mono ?_; rw [hr.out]; rintro en v3 ⟨rfl, hB_v3⟩; have lay_v3 := laid_after hB_v3; replace hR_u1 := RN.later hR_u1 (below_after (by go_grown) hB_v3); replace hR_u2 := RN.later hR_u2 (below_after (by go_grown) hB_v3); have hG := cell_grown cc1 (by go_grown) hB_v3; replace cc1 := cl hG cc1; replace cc2 := cl hG cc2; replace cc3 := cl hG cc3; replace cc4 := cl hG cc4; have hs_v3 := hG.size; clear hG; replace hBW : Below w.heap.size w v3 := below_after (w := w) (by go_grown) hB_v3; have hn_v3 := an (nl cc1) (nl cc3); clear hB_v3)
    go_wp2_with fail
    go_returns
    exact ⟨rfl, by go_grown⟩
theorem cmpR_add (x y z : Nat) : cmpR (x + z) (y + z) = cmpR x y := by
  unfold cmpR
  by_cases h : x < y
  · rw [if_pos h, if_pos (by omega)]
  · rw [if_neg h, if_neg (by omega)]
    by_cases h2 : y < x
    · rw [if_pos h2, if_pos (by omega)]
    · rw [if_neg h2, if_neg (by omega)]
theorem cmp_same (a b : Nat) : cmpR a b = cmpN a b := rfl
theorem cmp_swap (a b : Nat) : cmpR b a = -(cmpN a b) := by unfold cmpR cmpN; repeat' split <;> omega
theorem ref_Order (f h l h' l' : Int) [hU : U8 f] [U64 h] [U64 l] [U64 h'] [U64 l'] (w : World) [hLay : Laid w] :
    Calls Tryd.prog 9 #[.int .u8 f, .agg #[.int .u64 (h), .int .u64 (l)], .agg #[.int .u64 (h'), .int .u64 (l')]] w fun en w' => en = .returned (.int .i64 (ordF f (cat h l) (cat h' l'))) ∧ Below w.heap.size w w' := by
  by_cases hf : f < 4
  · obtain ⟨p1, _, _⟩ := split_parts f (cat h l) hU.ge hf
    obtain ⟨p2, _, _⟩ := split_parts f (cat h' l') hU.ge hf
    have c1 : cat h l % 2 ^ (widthS f).toNat = codeF f (cat h l) + signN f (sgnF f (cat h l)) := cut_code f (cat h l) hU.ge hf
    have c2 : cat h' l' % 2 ^ (widthS f).toNat = codeF f (cat h' l') + signN f (sgnF f (cat h' l')) := cut_code f (cat h' l') hU.ge hf
    refine order_walk f h l h' l' _ _ _ _ _ w hf rfl rfl p1 p2 (Nat.le_trans (dl_mono (Nat.mod_le _ _)) (dl_cat h l)) (Nat.le_trans (dl_mono (Nat.mod_le _ _)) (dl_cat h' l')) ?_
    unfold ordF
    rw [if_pos hf, c1, c2]
    clear c1 c2 p1 p2
    generalize codeF f (cat h l) = x
    generalize codeF f (cat h' l') = y
    generalize sgnF f (cat h l) = s
    generalize sgnF f (cat h' l') = t
    have k1 : s = t → cmpR (x + signN f s) (y + signN f t) = cmpN x y := fun e => by rw [e, cmpR_add]; exact cmp_same x y
    have k2 : s = t → cmpR (y + signN f t) (x + signN f s) = -(cmpN x y) := fun e => by rw [e, cmpR_add]; exact cmp_swap x y
    generalize signN f s = z at *
    generalize signN f t = u at *
    generalize cmpR (x + z) (y + u) = A at *
    generalize cmpR (y + u) (x + z) = B at *
    generalize cmpN x y = C at *
    cases s <;> cases t <;> simp only [Bool.not_true, Bool.not_false, Bool.and_true, Bool.and_false, Bool.false_eq_true, if_true, if_false]
    · exact Or.inr (Or.inr (Or.inr ⟨trivial, trivial, k1 rfl⟩))
    · exact Or.inr (Or.inl ⟨trivial, trivial, trivial⟩)
    · exact Or.inl ⟨trivial, trivial, trivial⟩
    · exact Or.inr (Or.inr (Or.inl ⟨trivial, trivial, k2 rfl⟩))
  · have q1 : decide (f > 3) = true := decide_eq_true (by omega)
    have e : ordF f (cat h l) (cat h' l') = 0 := by unfold ordF; rw [if_neg hf]
    rw [e]
    clear e
    go_enter Tryd.func9, Tryd.ntmps9
    go_wp2_with fail
    go_returns
    exact ⟨rfl, by go_grown⟩
end Go.Proofs.YthbpbbbngablpaaDoor
namespace Go.Proofs.YthbpbbbngablpaaDoor
open Go.RowKit Go.Hb
/-- The reference's answer, of two that are no NaNs. -/
def refC (f : Int) (a b : Nat) : Int :=
  if endI (classF f a) (sgnF f a) ≠ 0 ∨ endI (classF f b) (sgnF f b) ≠ 0 then lessI (endI (classF f a) (sgnF f a)) (endI (classF f b) (sgnF f b)) else
  if signI (mR f a) (sgnF f a) ≠ signI (mR f b) (sgnF f b) ∨ signI (mR f a) (sgnF f a) = 0 then lessI (signI (mR f a) (sgnF f a)) (signI (mR f b) (sgnF f b)) else
  cmpR (mR f a * 2 ^ (eR f a - min (eR f a) (eR f b)).toNat) (mR f b * 2 ^ (eR f b - min (eR f a) (eR f b)).toNat) * signI (mR f a) (sgnF f a)
theorem cmpR_mul (x y u : Nat) (hu : 0 < u) : cmpR (x * u) (y * u) = cmpR x y := by
  unfold cmpR
  have h1 : x * u < y * u ↔ x < y := Nat.mul_lt_mul_right hu
  have h2 : y * u < x * u ↔ y < x := Nat.mul_lt_mul_right hu
  simp only [h1, h2]
theorem cmp_codes (f : Int) (a b : Nat) (h0 : 0 ≤ f) (hf : f < 4) :
    cmpR (mR f a * 2 ^ (eR f a - min (eR f a) (eR f b)).toNat) (mR f b * 2 ^ (eR f b - min (eR f a) (eR f b)).toNat) = cmpR (codeF f a) (codeF f b) ∧ (mR f a = 0 ↔ codeF f a = 0) := by
  obtain ⟨e0, e1⟩ := eR_bd f a h0 hf
  obtain ⟨e2, e3⟩ := eR_bd f b h0 hf
  have va := val_exact f a h0 hf
  have vb := val_exact f b h0 hf
  have hK : ∃ K : Int, K = 255 + KK ∧ 200000 ≤ K := ⟨_, rfl, by unfold KK; omega⟩
  obtain ⟨K, hK, k1⟩ := hK
  rw [← hK] at va vb
  clear hK
  constructor
  · have hu := Nat.two_pow_pos (min (eR f a) (eR f b) + K).toNat
    rw [← cmpR_mul _ _ _ hu, Nat.mul_assoc, Nat.mul_assoc, ← Nat.pow_add, ← Nat.pow_add, show (eR f a - min (eR f a) (eR f b)).toNat + (min (eR f a) (eR f b) + K).toNat = (eR f a + K).toNat by omega, show (eR f b - min (eR f a) (eR f b)).toNat + (min (eR f a) (eR f b) + K).toNat = (eR f b + K).toNat by omega, va, vb]
    rcases Nat.lt_trichotomy (codeF f a) (codeF f b) with h | h | h
    · rw [cmpR_lt (valC_lt _ _ h), cmpR_lt h]
    · rw [h, cmpR_eq, cmpR_eq]
    · rw [cmpR_gt (valC_lt _ _ h), cmpR_gt h]
  · constructor
    · intro h
      rw [h, Nat.zero_mul] at va
      rcases Nat.eq_zero_or_pos (codeF f a) with h2 | h2
      · exact h2
      · have := valC_lt (precS f).toNat (unitB f KK) h2
        omega
    · intro h
      rw [h, valC_zero] at va
      rcases Nat.mul_eq_zero.1 va with h2 | h2
      · exact h2
      · exact absurd h2 (Nat.ne_of_gt (Nat.two_pow_pos _))
theorem refC_key (f : Int) (a b : Nat) (h0 : 0 ≤ f) (hf : f < 4) (ha : ¬ 4 ≤ classF f a) (hb : ¬ 4 ≤ classF f b) : refC f a b = sgnI (vkey f a - vkey f b) := by
  obtain ⟨c1, c2⟩ := cmp_codes f a b h0 hf
  obtain ⟨_, c3⟩ := cmp_codes f b a h0 hf
  have ka := (class_code f a h0 hf).2.2.2.1
  have kb := (class_code f b h0 hf).2.2.2.1
  have fa := class_fin f a h0 hf
  have fb := class_fin f b h0 hf
  have hip := infC_pos f
  unfold refC
  rw [c1]
  unfold vkey
  clear c1
  generalize classF f a = c at *
  generalize classF f b = d at *
  generalize codeF f a = x at *
  generalize codeF f b = y at *
  generalize mR f a = m at *
  generalize mR f b = n at *
  generalize infC f = I at *
  unfold endI signI lessI sgnI cmpR
  by_cases hc : c = 3
  · have hx := ka.1 hc
    by_cases hd : d = 3
    · have hy := kb.1 hd
      rw [hx, hy]
      cases sgnF f a <;> cases sgnF f b <;> simp [hc, hd] <;> omega
    · have hy := fb.1 (by omega)
      rw [hx]
      cases sgnF f a <;> cases sgnF f b <;> simp [hc, hd] <;> (repeat' split) <;> omega
  · have hx := fa.1 (by omega)
    by_cases hd : d = 3
    · have hy := kb.1 hd
      rw [hy]
      cases sgnF f a <;> cases sgnF f b <;> simp [hc, hd] <;> (repeat' split) <;> omega
    · have hy := fb.1 (by omega)
      cases sgnF f a <;> cases sgnF f b <;> simp [hc, hd] <;> (repeat' split) <;> (try simp_all) <;> omega
end Go.Proofs.YthbpbbbngablpaaDoor
