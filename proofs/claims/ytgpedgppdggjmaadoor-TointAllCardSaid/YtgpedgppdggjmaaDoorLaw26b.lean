/- The contracts of the reference's integers (chapter 26); the walk of TointAll: for every input. Condition: the listed tables are laid. -/
import Derived.Test.YtgpedgppdggjmaaDoorRef8
import Derived.Test.YtgpedgppdggjmaaDoorLaw26v
import Derived.Test.YtgpedgppdggjmaaDoorLaw26a
set_option linter.unusedSimpArgs false
set_option linter.unusedVariables false
namespace Go.Proofs.YtgpedgppdggjmaaDoor
open Go.RowKit Go.Hb
def GivesNN (a b : Nat) (e : Ending) (w : World) : Prop := ∃ u v, e = .returned (.tuple #[u, v]) ∧ RN w u a ∧ RN w v b
set_option maxRecDepth 100000 in
set_option maxHeartbeats 2000000 in
theorem ref_Ends (k : Int) [hK : U8 k] (w : World) [hLay : Laid w] :
    Calls Tryd.prog 31 #[.int .u8 k] w fun en w' => GivesNN (leastK k).toNat (mostK k).toNat en w' ∧ Below w.heap.size w w' := by
  rcases fmt_cases k hK.ge with rfl | rfl | rfl | rfl | ⟨h0, h1, h2, h3, h4⟩
  · go_enter Tryd.func31, Tryd.ntmps31
    skip
    (go_wp2_with fail; refine (num_Of 1 _).mono ?_; rintro en v1 ⟨⟨u1, rfl, hR_u1⟩, hB_v1⟩; have lay_v1 := laid_after hB_v1; (try have layE_v1 := laidE_after hB_v1); have hs_v1 := hB_v1.size; (try simp only [World.size_alloc, World.size_setCell, World.size_drew] at hs_v1); have hBW : Below w.heap.size w v1 := below_after (w := w) (by go_grown) hB_v1; clear hB_v1)
    (go_wp2_with fail; refine (num_Full_at 31 _ _ rfl (by omega)).mono ?_; rintro en v2 ⟨⟨u2, rfl, hR_u2⟩, hB_v2⟩; have lay_v2 := laid_after hB_v2; (try have layE_v2 := laidE_after hB_v2); replace hR_u1 := RN.later hR_u1 (below_after (by go_grown) hB_v2); have hs_v2 := hB_v2.size; (try simp only [World.size_alloc, World.size_setCell, World.size_drew] at hs_v2); replace hBW : Below w.heap.size w v2 := below_after (w := w) (by go_grown) hB_v2; clear hB_v2)
    (go_wp2_with fail; refine (num_Full_at 31 _ _ rfl (by omega)).mono ?_; rintro en v3 ⟨⟨u3, rfl, hR_u3⟩, hB_v3⟩; have lay_v3 := laid_after hB_v3; (try have layE_v3 := laidE_after hB_v3); replace hR_u1 := RN.later hR_u1 (below_after (by go_grown) hB_v3); replace hR_u2 := RN.later hR_u2 (below_after (by go_grown) hB_v3); have hs_v3 := hB_v3.size; (try simp only [World.size_alloc, World.size_setCell, World.size_drew] at hs_v3); replace hBW : Below w.heap.size w v3 := below_after (w := w) (by go_grown) hB_v3; clear hB_v3)
    (go_wp2_with fail; refine (num_Sub _ _ u3 u1 _ hR_u3 hR_u1 (dl_of _ 32 (by decide) (by omega)) (by decide)).mono ?_; rintro en v4 ⟨⟨u4, rfl, hR_u4⟩, hB_v4⟩; have lay_v4 := laid_after hB_v4; (try have layE_v4 := laidE_after hB_v4); replace hR_u1 := RN.later hR_u1 (below_after (by go_grown) hB_v4); replace hR_u2 := RN.later hR_u2 (below_after (by go_grown) hB_v4); replace hR_u3 := RN.later hR_u3 (below_after (by go_grown) hB_v4); have hs_v4 := hB_v4.size; (try simp only [World.size_alloc, World.size_setCell, World.size_drew] at hs_v4); replace hBW : Below w.heap.size w v4 := below_after (w := w) (by go_grown) hB_v4; clear hB_v4)
    go_wp2_with fail
    go_returns
    exact ⟨⟨_, _, rfl, hR_u2, hR_u4⟩, by go_grown⟩
  · go_enter Tryd.func31, Tryd.ntmps31
    skip
    (go_wp2_with fail; refine (num_Of 1 _).mono ?_; rintro en v1 ⟨⟨u1, rfl, hR_u1⟩, hB_v1⟩; have lay_v1 := laid_after hB_v1; (try have layE_v1 := laidE_after hB_v1); have hs_v1 := hB_v1.size; (try simp only [World.size_alloc, World.size_setCell, World.size_drew] at hs_v1); have hBW : Below w.heap.size w v1 := below_after (w := w) (by go_grown) hB_v1; clear hB_v1)
    (go_wp2_with fail; refine (num_Full_at 32 _ _ rfl (by omega)).mono ?_; rintro en v3 ⟨⟨u3, rfl, hR_u3⟩, hB_v3⟩; have lay_v3 := laid_after hB_v3; (try have layE_v3 := laidE_after hB_v3); replace hR_u1 := RN.later hR_u1 (below_after (by go_grown) hB_v3); have hs_v3 := hB_v3.size; (try simp only [World.size_alloc, World.size_setCell, World.size_drew] at hs_v3); replace hBW : Below w.heap.size w v3 := below_after (w := w) (by go_grown) hB_v3; clear hB_v3)
    (go_wp2_with fail; refine (num_Sub _ _ u3 u1 _ hR_u3 hR_u1 (dl_of _ 33 (by decide) (by omega)) (by decide)).mono ?_; rintro en v4 ⟨⟨u4, rfl, hR_u4⟩, hB_v4⟩; have lay_v4 := laid_after hB_v4; (try have layE_v4 := laidE_after hB_v4); replace hR_u1 := RN.later hR_u1 (below_after (by go_grown) hB_v4); replace hR_u3 := RN.later hR_u3 (below_after (by go_grown) hB_v4); have hs_v4 := hB_v4.size; (try simp only [World.size_alloc, World.size_setCell, World.size_drew] at hs_v4); replace hBW : Below w.heap.size w v4 := below_after (w := w) (by go_grown) hB_v4; clear hB_v4)
    go_wp2_with fail
    go_returns
    exact ⟨⟨_, _, rfl, RN.nil _, hR_u4⟩, by go_grown⟩
  · go_enter Tryd.func31, Tryd.ntmps31
    skip
    (go_wp2_with fail; refine (num_Of 1 _).mono ?_; rintro en v1 ⟨⟨u1, rfl, hR_u1⟩, hB_v1⟩; have lay_v1 := laid_after hB_v1; (try have layE_v1 := laidE_after hB_v1); have hs_v1 := hB_v1.size; (try simp only [World.size_alloc, World.size_setCell, World.size_drew] at hs_v1); have hBW : Below w.heap.size w v1 := below_after (w := w) (by go_grown) hB_v1; clear hB_v1)
    (go_wp2_with fail; refine (num_Full_at 63 _ _ rfl (by omega)).mono ?_; rintro en v2 ⟨⟨u2, rfl, hR_u2⟩, hB_v2⟩; have lay_v2 := laid_after hB_v2; (try have layE_v2 := laidE_after hB_v2); replace hR_u1 := RN.later hR_u1 (below_after (by go_grown) hB_v2); have hs_v2 := hB_v2.size; (try simp only [World.size_alloc, World.size_setCell, World.size_drew] at hs_v2); replace hBW : Below w.heap.size w v2 := below_after (w := w) (by go_grown) hB_v2; clear hB_v2)
    (go_wp2_with fail; refine (num_Full_at 63 _ _ rfl (by omega)).mono ?_; rintro en v3 ⟨⟨u3, rfl, hR_u3⟩, hB_v3⟩; have lay_v3 := laid_after hB_v3; (try have layE_v3 := laidE_after hB_v3); replace hR_u1 := RN.later hR_u1 (below_after (by go_grown) hB_v3); replace hR_u2 := RN.later hR_u2 (below_after (by go_grown) hB_v3); have hs_v3 := hB_v3.size; (try simp only [World.size_alloc, World.size_setCell, World.size_drew] at hs_v3); replace hBW : Below w.heap.size w v3 := below_after (w := w) (by go_grown) hB_v3; clear hB_v3)
    (go_wp2_with fail; refine (num_Sub _ _ u3 u1 _ hR_u3 hR_u1 (dl_of _ 64 (by decide) (by omega)) (by decide)).mono ?_; rintro en v4 ⟨⟨u4, rfl, hR_u4⟩, hB_v4⟩; have lay_v4 := laid_after hB_v4; (try have layE_v4 := laidE_after hB_v4); replace hR_u1 := RN.later hR_u1 (below_after (by go_grown) hB_v4); replace hR_u2 := RN.later hR_u2 (below_after (by go_grown) hB_v4); replace hR_u3 := RN.later hR_u3 (below_after (by go_grown) hB_v4); have hs_v4 := hB_v4.size; (try simp only [World.size_alloc, World.size_setCell, World.size_drew] at hs_v4); replace hBW : Below w.heap.size w v4 := below_after (w := w) (by go_grown) hB_v4; clear hB_v4)
    go_wp2_with fail
    go_returns
    exact ⟨⟨_, _, rfl, hR_u2, hR_u4⟩, by go_grown⟩
  · go_enter Tryd.func31, Tryd.ntmps31
    skip
    (go_wp2_with fail; refine (num_Of 1 _).mono ?_; rintro en v1 ⟨⟨u1, rfl, hR_u1⟩, hB_v1⟩; have lay_v1 := laid_after hB_v1; (try have layE_v1 := laidE_after hB_v1); have hs_v1 := hB_v1.size; (try simp only [World.size_alloc, World.size_setCell, World.size_drew] at hs_v1); have hBW : Below w.heap.size w v1 := below_after (w := w) (by go_grown) hB_v1; clear hB_v1)
    (go_wp2_with fail; refine (num_Full_at 64 _ _ rfl (by omega)).mono ?_; rintro en v3 ⟨⟨u3, rfl, hR_u3⟩, hB_v3⟩; have lay_v3 := laid_after hB_v3; (try have layE_v3 := laidE_after hB_v3); replace hR_u1 := RN.later hR_u1 (below_after (by go_grown) hB_v3); have hs_v3 := hB_v3.size; (try simp only [World.size_alloc, World.size_setCell, World.size_drew] at hs_v3); replace hBW : Below w.heap.size w v3 := below_after (w := w) (by go_grown) hB_v3; clear hB_v3)
    (go_wp2_with fail; refine (num_Sub _ _ u3 u1 _ hR_u3 hR_u1 (dl_of _ 65 (by decide) (by omega)) (by decide)).mono ?_; rintro en v4 ⟨⟨u4, rfl, hR_u4⟩, hB_v4⟩; have lay_v4 := laid_after hB_v4; (try have layE_v4 := laidE_after hB_v4); replace hR_u1 := RN.later hR_u1 (below_after (by go_grown) hB_v4); replace hR_u3 := RN.later hR_u3 (below_after (by go_grown) hB_v4); have hs_v4 := hB_v4.size; (try simp only [World.size_alloc, World.size_setCell, World.size_drew] at hs_v4); replace hBW : Below w.heap.size w v4 := below_after (w := w) (by go_grown) hB_v4; clear hB_v4)
    go_wp2_with fail
    go_returns
    exact ⟨⟨_, _, rfl, RN.nil _, hR_u4⟩, by go_grown⟩
  · have e1 : (leastK k).toNat = 0 := by unfold leastK; rw [if_neg (by omega), if_neg (by omega)]; rfl
    have e2 : (mostK k).toNat = 0 := by unfold mostK; rw [if_neg (by omega), if_neg (by omega), if_neg (by omega), if_neg (by omega)]; rfl
    rw [e1, e2]
    go_enter Tryd.func31, Tryd.ntmps31
    skip
    (go_wp2_with fail; refine (num_Of 1 _).mono ?_; rintro en v1 ⟨⟨u1, rfl, hR_u1⟩, hB_v1⟩; have lay_v1 := laid_after hB_v1; (try have layE_v1 := laidE_after hB_v1); have hs_v1 := hB_v1.size; (try simp only [World.size_alloc, World.size_setCell, World.size_drew] at hs_v1); have hBW : Below w.heap.size w v1 := below_after (w := w) (by go_grown) hB_v1; clear hB_v1)
    go_wp2_with fail
    go_returns
    exact ⟨⟨_, _, rfl, RN.nil _, RN.nil _⟩, by go_grown⟩
theorem wholeR_dl (f m : Int) (v : Nat) (h0 : 0 ≤ f) (hf : f < 4) : dl (wholeR f m v) ≤ 100000 := by
  obtain ⟨e0, e1⟩ := eR_bd f v h0 hf
  obtain ⟨_, l1⟩ := mR_dl f v h0 hf
  have hM := lt_of_blen _ _ l1
  have hK : ∃ K : Nat, K = 300000 := ⟨_, rfl⟩
  obtain ⟨K, hK⟩ := hK
  have key : wholeR f m v ≤ 2 ^ K := by
    have hfl : floorR (mR f v) (-(eR f v)) + 1 ≤ 2 ^ K := by
      unfold floorR
      split
      · have h1 : mR f v * 2 ^ (- -(eR f v)).toNat < 2 ^ 200 * 2 ^ (- -(eR f v)).toNat := Nat.mul_lt_mul_of_pos_right hM (Nat.two_pow_pos _)
        rw [← Nat.pow_add] at h1
        exact Nat.le_trans h1 (Nat.pow_le_pow_right (by decide) (by omega))
      · exact Nat.le_trans (Nat.lt_of_le_of_lt (Nat.div_le_self _ _) hM) (Nat.pow_le_pow_right (by decide) (by omega))
    unfold wholeR cutR
    split <;> omega
  exact dl_of _ (K + 1) (Nat.lt_of_le_of_lt key (Nat.pow_lt_pow_right (by decide) (by omega))) (by omega)
theorem rnd_whole (f m : Int) (v : Nat) (h0 : 0 ≤ f) (hf : f < 4) : rndN (255 + KK).toNat m (sgnF f v) (valC (precS f).toNat (unitB f KK) (codeF f v)) = wholeR f m v ∧ (restN (valC (precS f).toNat (unitB f KK) (codeF f v)) (255 + KK).toNat != 0) = otherR f v := by
  obtain ⟨e0, e1⟩ := eR_bd f v h0 hf
  have hk : 0 ≤ KK - 200000 := by unfold KK; omega
  obtain ⟨c1, c2⟩ := cut_unit (mR f v) (255 + KK).toNat (eR f v) (255 + KK) 0 (by omega) (by omega)
  rw [Int.zero_sub] at c1 c2
  rw [← val_exact f v h0 hf]
  unfold rndN wholeR otherR cutR
  rw [c1, c2]
  exact ⟨rfl, rfl⟩
theorem whole_great (f m : Int) (v : Nat) (h0 : 0 ≤ f) (hf : f < 4) (hc : classF f v < 3) (he : 64 < unE f v) : 2 ^ 65 ≤ wholeR f m v := by
  obtain ⟨b1, b2, b3, b4, b5, b6⟩ := fmt_bd f h0 hf
  obtain ⟨m0, m1⟩ := emaxS_bd f
  have hlo := emax_lo f h0 hf
  have hc2 : classF f v = 2 := by
    have hb := classF_bd f v
    have : classF f v = 0 ∨ classF f v = 1 ∨ classF f v = 2 := by omega
    rcases this with h | h | h
    · unfold unE at he; rw [if_neg (by omega), if_neg (by omega)] at he; omega
    · have hp := class_parts f v h0
      unfold unE at he
      rw [if_neg (by omega), if_pos h] at he
      have hz : fracF f v ≠ 0 := by
        intro hz
        unfold classF at h
        rw [if_neg (by omega), hz] at h
        repeat' split at h
        all_goals omega
      have := sub_by f v h0 hf hz
      omega
    · exact h
  have hx : expF f v ≠ 0 := by
    intro hx
    unfold classF at hc2
    rw [if_neg (by omega), if_pos hx] at hc2
    split at hc2 <;> omega
  have hu : unE f v = expF f v - emaxS f := by unfold unE; rw [if_pos hc2]
  have hE : eR f v = unE f v - (precS f - 1) := by unfold eR; rw [if_neg hx, hu]
  have hM : 2 ^ (precS f - 1).toNat ≤ mR f v := by unfold mR; rw [if_neg hx]; omega
  have hfl : 2 ^ 65 ≤ floorR (mR f v) (-(eR f v)) := by
    unfold floorR
    split
    · have h1 : 2 ^ (precS f - 1).toNat * 2 ^ (- -(eR f v)).toNat ≤ mR f v * 2 ^ (- -(eR f v)).toNat := Nat.mul_le_mul_right _ hM
      rw [← Nat.pow_add] at h1
      exact Nat.le_trans (Nat.pow_le_pow_right (by decide) (by omega)) h1
    · rw [Nat.le_div_iff_mul_le (Nat.two_pow_pos _), ← Nat.pow_add]
      exact Nat.le_trans (Nat.pow_le_pow_right (by decide) (by omega)) hM
  unfold wholeR cutR
  exact Nat.le_trans hfl (Nat.le_add_right _ _)
theorem ends_bd (k : Int) (s : Bool) : 0 ≤ mostX k s ∧ mostX k s < 18446744073709551616 ∧ (mostX k s).toNat = (if s then (leastK k).toNat else (mostK k).toNat) := by
  have h1 := U64.ge (x := leastK k)
  have h2 := U64.lt (x := leastK k)
  have h3 := U64.ge (x := mostK k)
  have h4 := U64.lt (x := mostK k)
  unfold mostX
  cases s
  · exact ⟨h3, h4, rfl⟩
  · exact ⟨h1, h2, rfl⟩
/-- The integer, by whole numbers. -/
theorem int_plain (f k m : Int) (v : Nat) (h0 : 0 ≤ f) (hf : f < 4) (hk : k < 4) (hm : m ≤ 4) (hc : classF f v < 4) :
    ((classF f v = 3 ∨ (mostX k (sgnF f v)).toNat < wholeR f m v) ∧ intV f k m v = lo (if sgnF f v then 2 ^ 64 - (mostX k (sgnF f v)).toNat else (mostX k (sgnF f v)).toNat) ∧ intF f k m v = 1) ∨
    (¬ classF f v = 3 ∧ ¬ (mostX k (sgnF f v)).toNat < wholeR f m v ∧ intV f k m v = lo (if sgnF f v then 2 ^ 64 - wholeR f m v else wholeR f m v) ∧ intF f k m v = (if otherR f v then 16 else 0)) := by
  obtain ⟨x0, x1, x2⟩ := ends_bd k (sgnF f v)
  obtain ⟨r1, r2⟩ := rnd_whole f m v h0 hf
  have hlo := unE_low f v h0
  have hV : intV f k m v = (if sgnF f v then (if sizI f k m v = 0 then 0 else 18446744073709551616 - sizI f k m v) else sizI f k m v) := by unfold intV; rw [if_pos ⟨hf, hk, hm, hc⟩]
  have hF : intF f k m v = (if bigI f k m v then 1 else if whO (classF f v) (unE f v) (unS f v) then 16 else 0) := by unfold intF; rw [if_pos ⟨hf, hk, hm⟩, if_neg (by omega)]
  have hlow : ∀ n : Nat, (n : Int) ≤ 18446744073709551615 → (if sgnF f v then (if (n : Int) = 0 then 0 else 18446744073709551616 - (n : Int)) else (n : Int)) = lo (if sgnF f v then 2 ^ 64 - n else n) := fun n hn => by
    unfold lo
    cases sgnF f v
    · simp; omega
    · simp only [if_true]; split <;> omega
  have hbig : bigI f k m v = true ↔ classF f v = 3 ∨ (mostX k (sgnF f v)).toNat < wholeR f m v := by
    unfold bigI
    by_cases h3 : classF f v = 3
    · have : okW (classF f v) (unE f v) = false := by
        cases h : okW (classF f v) (unE f v)
        · rfl
        · exact absurd ((okW_iff _ _).1 h) (by omega)
      rw [this]; simp [h3]
    · by_cases he : 64 < unE f v
      · have hok : okW (classF f v) (unE f v) = false := by
          cases h : okW (classF f v) (unE f v)
          · rfl
          · exact absurd ((okW_iff _ _).1 h) (by omega)
        have hg := whole_great f m v h0 hf (by omega) he
        rw [hok]
        simp only [Bool.not_false, Bool.true_or, true_iff]
        exact Or.inr (by omega)
      · have hok : okW (classF f v) (unE f v) = true := (okW_iff _ _).2 (by omega)
        rw [hok, num_rnd f m v h0 hf (by omega) (by omega) hlo, r1]
        simp only [Bool.not_true, Bool.false_or, decide_eq_true_eq]
        omega
  by_cases hb : bigI f k m v = true
  · left
    refine ⟨hbig.1 hb, ?_, by rw [hF, if_pos hb]⟩
    have hs : sizI f k m v = ((mostX k (sgnF f v)).toNat : Int) := by unfold sizI; rw [if_pos hb]; omega
    rw [hV, hs]
    exact hlow _ (by omega)
  · right
    have hn := fun h => hb (hbig.2 h)
    have h3 : ¬ classF f v = 3 := fun h => hn (Or.inl h)
    have hle : ¬ (mostX k (sgnF f v)).toNat < wholeR f m v := fun h => hn (Or.inr h)
    have he : ¬ 64 < unE f v := fun h => hle (by have := whole_great f m v h0 hf (by omega) h; omega)
    have hok : okW (classF f v) (unE f v) = true := (okW_iff _ _).2 (by omega)
    have hs : sizI f k m v = (wholeR f m v : Int) := by unfold sizI; rw [if_neg hb, num_rnd f m v h0 hf (by omega) (by omega) hlo, r1]
    refine ⟨h3, hle, ?_, ?_⟩
    · rw [hV, hs]
      exact hlow _ (by omega)
    · rw [hF, if_neg hb]
      unfold whO
      rw [hok, Bool.true_and, whI_rnd _ _ (unS_lt f v h0) hlo (by omega), un_val f v h0 hf (by omega), r2]
set_option maxRecDepth 100000 in
set_option maxHeartbeats 1000000 in
theorem int26_none (f k m : Int) (v : Value) [hU : U8 f] [hK : U8 k] [hM : U8 m] (w : World) (h : decide (f > 3) = true ∨ (decide (f > 3) = false ∧ decide (k > 3) = true) ∨ (decide (f > 3) = false ∧ decide (k > 3) = false ∧ decide (m > 4) = true)) (a b : Int) :
    Calls Tryd.prog 33 #[.int .u8 f, .int .u8 k, .int .u8 m, .agg #[.int .u64 (a), .int .u64 (b)]] w fun en w' => en = .returned (.agg #[.int .u64 0, .int .u8 0]) ∧ Below w.heap.size w w' := by
  rcases h with q1 | ⟨q1, q2⟩ | ⟨q1, q2, q3⟩
  all_goals (
    go_enter Tryd.func33, Tryd.ntmps33
    go_wp2_with fail
    refine bodyPost_ret (by simp [results, Tryd.results33, go_sem]; try rfl) rfl ?_
    exact ⟨rfl, by go_grown⟩)
set_option maxRecDepth 100000 in
set_option maxHeartbeats 2000000 in
theorem int26_walk (f k m h l c x fg y : Int) (s o : Bool) (L M n : Nat) [hU : U8 f] [hK : U8 k] [hM : U8 m] [U64 h] [U64 l] (w : World) [hLay : Laid w] (hf : f < 4) (hk : k < 4) (hm : m ≤ 4)
    (hc : Hid (classF f (cat h l) = c)) (hs : Hid (sgnF f (cat h l) = s)) (hn : Hid (wholeR f m (cat h l) = n)) (ho : Hid (otherR f (cat h l) = o)) (hL : Hid ((leastK k).toNat = L)) (hMo : Hid ((mostK k).toNat = M)) (ln : dl n ≤ 100000) (lL : L ≤ 2 ^ 64) (lM : M ≤ 2 ^ 64)
    (hy : Hid (cmpR n (if s then L else M) = y))
    (hq : (4 ≤ c ∧ x = 0 ∧ fg = 1) ∨ (¬ 4 ≤ c ∧ (c == 3) = true ∧ Hid (lo (if s then 2 ^ 64 - (if s then L else M) else (if s then L else M)) = x) ∧ fg = 1) ∨
      (¬ 4 ≤ c ∧ (c == 3) = false ∧ 0 < y ∧ Hid (lo (if s then 2 ^ 64 - (if s then L else M) else (if s then L else M)) = x) ∧ fg = 1) ∨
      (¬ 4 ≤ c ∧ (c == 3) = false ∧ ¬ 0 < y ∧ n ≤ 2 ^ 64 ∧ Hid (lo (if s then 2 ^ 64 - n else n) = x) ∧ fg = (if o then 16 else 0))) :
    Calls Tryd.prog 33 #[.int .u8 f, .int .u8 k, .int .u8 m, .agg #[.int .u64 (h), .int .u64 (l)]] w fun en w' => en = .returned (.agg #[.int .u64 x, .int .u8 fg]) ∧ Below w.heap.size w w' := by
  have q1 : decide (f > 3) = false := decide_eq_false (by omega)
  have q2 : decide (k > 3) = false := decide_eq_false (by omega)
  have q3 : decide (m > 4) = false := decide_eq_false (by omega)
  have l1 : dl L ≤ 100000 := dl_of _ 65 (Nat.lt_of_le_of_lt lL (by decide)) (by omega)
  have l2 : dl M ≤ 100000 := dl_of _ 65 (Nat.lt_of_le_of_lt lM (by decide)) (by omega)
  rcases hq with ⟨hc4, rfl, rfl⟩ | ⟨hc4, hc3, hx, rfl⟩ | ⟨hc4, hc3, hgt, hx, rfl⟩ | ⟨hc4, hc3, hgt, hn64, hx, rfl⟩
  · go_enter Tryd.func33, Tryd.ntmps33
    skip
    (go_wp2_with fail; refine (ref_Of f h l _).mono ?_; rw [hc.out, hs.out]; rintro en v1 ⟨rfl, hB_v1⟩; have lay_v1 := laid_after hB_v1; (try have layE_v1 := laidE_after hB_v1); have cc1 := cl hB_v1 (show World.cell? _ ⟨w.heap.size, 0, none⟩ = some (.int .u64 h) by go_simp); have cc2 := cl hB_v1 (show World.cell? _ ⟨w.heap.size, 1, none⟩ = some (.int .u64 l) by go_simp); obtain ⟨cc3, fcc3⟩ := pf hB_v1 (show World.cell? _ ⟨w.heap.size + 1, 0, none⟩ = some (.int .u64 0) by go_simp) (by go_simp); obtain ⟨cc4, fcc4⟩ := pf hB_v1 (show World.cell? _ ⟨w.heap.size + 1, 1, none⟩ = some (.int .u8 0) by go_simp) (by go_simp); have hs_v1 := hB_v1.size; (try simp only [World.size_alloc, World.size_setCell, World.size_drew] at hs_v1); have hBW : Below w.heap.size w v1 := below_after (w := w) (by go_grown) hB_v1; have hn_v1 := an (nl cc1) (nl cc3); clear hB_v1)
    go_wp2_with fail
    refine bodyPost_ret (by simp [results, Tryd.results33, go_sem, cc3, cc4]; try rfl) rfl ?_
    exact ⟨rfl, by go_grown⟩
  · cases s
    · simp only [Bool.false_eq_true, if_true, if_false] at hx hy
      go_enter Tryd.func33, Tryd.ntmps33
      skip
      (go_wp2_with fail; refine (ref_Of f h l _).mono ?_; rw [hc.out, hs.out]; rintro en v1 ⟨rfl, hB_v1⟩; have lay_v1 := laid_after hB_v1; (try have layE_v1 := laidE_after hB_v1); have cc1 := cl hB_v1 (show World.cell? _ ⟨w.heap.size, 0, none⟩ = some (.int .u64 h) by go_simp); have cc2 := cl hB_v1 (show World.cell? _ ⟨w.heap.size, 1, none⟩ = some (.int .u64 l) by go_simp); obtain ⟨cc3, fcc3⟩ := pf hB_v1 (show World.cell? _ ⟨w.heap.size + 1, 0, none⟩ = some (.int .u64 0) by go_simp) (by go_simp); obtain ⟨cc4, fcc4⟩ := pf hB_v1 (show World.cell? _ ⟨w.heap.size + 1, 1, none⟩ = some (.int .u8 0) by go_simp) (by go_simp); have hs_v1 := hB_v1.size; (try simp only [World.size_alloc, World.size_setCell, World.size_drew] at hs_v1); have hBW : Below w.heap.size w v1 := below_after (w := w) (by go_grown) hB_v1; have hn_v1 := an (nl cc1) (nl cc3); clear hB_v1)
      (go_wp2_with fail; refine (ref_Ends k _).mono ?_; rw [hL.out, hMo.out]; rintro en v2 ⟨⟨uL, uM, rfl, hR_uL, hR_uM⟩, hB_v2⟩; have lay_v2 := laid_after hB_v2; (try have layE_v2 := laidE_after hB_v2); have hG := cell_grown cc1 (by go_grown) hB_v2; replace cc1 := cl hG cc1; replace cc2 := cl hG cc2; replace fcc3 := fl hG fcc3 cc3; replace cc3 := cl hG cc3; replace fcc4 := fl hG fcc4 cc4; replace cc4 := cl hG cc4; have hs_v2 := hG.size; clear hG; replace hBW : Below w.heap.size w v2 := below_after (w := w) (by go_grown) hB_v2; have hn_v2 := an (nl cc1) (nl cc3); clear hB_v2)
      (go_wp2_with fail; refine (ref_Whole f m h l _ hf hm).mono ?_; rw [hn.out, ho.out]; rintro en v3 ⟨⟨u3, rfl, hR_u3⟩, hB_v3⟩; have lay_v3 := laid_after hB_v3; (try have layE_v3 := laidE_after hB_v3); replace hR_uL := RN.later hR_uL (below_after (by go_grown) hB_v3); replace hR_uM := RN.later hR_uM (below_after (by go_grown) hB_v3); have hG := cell_grown cc1 (by go_grown) hB_v3; replace cc1 := cl hG cc1; replace cc2 := cl hG cc2; replace fcc3 := fl hG fcc3 cc3; replace cc3 := cl hG cc3; replace fcc4 := fl hG fcc4 cc4; replace cc4 := cl hG cc4; have hs_v3 := hG.size; clear hG; replace hBW : Below w.heap.size w v3 := below_after (w := w) (by go_grown) hB_v3; have hn_v3 := an (nl cc1) (nl cc3); clear hB_v3)
      (go_wp2_with fail; refine (ref26_Signed M false x uM _ hR_uM lM hx).mono ?_; rintro en v4 ⟨rfl, hB_v4⟩; have lay_v4 := laid_after hB_v4; (try have layE_v4 := laidE_after hB_v4); replace hR_uL := RN.later hR_uL (below_after (by go_grown) hB_v4); replace hR_uM := RN.later hR_uM (below_after (by go_grown) hB_v4); replace hR_u3 := RN.later hR_u3 (below_after (by go_grown) hB_v4); have hG := cell_grown cc1 (by go_grown) hB_v4; replace cc1 := cl hG cc1; replace cc2 := cl hG cc2; replace fcc3 := fl hG fcc3 cc3; replace cc3 := cl hG cc3; replace fcc4 := fl hG fcc4 cc4; replace cc4 := cl hG cc4; have hs_v4 := hG.size; clear hG; replace hBW : Below w.heap.size w v4 := below_after (w := w) (by go_grown) hB_v4; have hn_v4 := an (nl cc1) (nl cc3); clear hB_v4)
      go_wp2_with fail
      refine bodyPost_ret (by simp [results, Tryd.results33, go_sem, cc3, cc4]; try rfl) rfl ?_
      exact ⟨rfl, by go_grown⟩
    · simp only [Bool.false_eq_true, if_true, if_false] at hx hy
      go_enter Tryd.func33, Tryd.ntmps33
      skip
      (go_wp2_with fail; refine (ref_Of f h l _).mono ?_; rw [hc.out, hs.out]; rintro en v1 ⟨rfl, hB_v1⟩; have lay_v1 := laid_after hB_v1; (try have layE_v1 := laidE_after hB_v1); have cc1 := cl hB_v1 (show World.cell? _ ⟨w.heap.size, 0, none⟩ = some (.int .u64 h) by go_simp); have cc2 := cl hB_v1 (show World.cell? _ ⟨w.heap.size, 1, none⟩ = some (.int .u64 l) by go_simp); obtain ⟨cc3, fcc3⟩ := pf hB_v1 (show World.cell? _ ⟨w.heap.size + 1, 0, none⟩ = some (.int .u64 0) by go_simp) (by go_simp); obtain ⟨cc4, fcc4⟩ := pf hB_v1 (show World.cell? _ ⟨w.heap.size + 1, 1, none⟩ = some (.int .u8 0) by go_simp) (by go_simp); have hs_v1 := hB_v1.size; (try simp only [World.size_alloc, World.size_setCell, World.size_drew] at hs_v1); have hBW : Below w.heap.size w v1 := below_after (w := w) (by go_grown) hB_v1; have hn_v1 := an (nl cc1) (nl cc3); clear hB_v1)
      (go_wp2_with fail; refine (ref_Ends k _).mono ?_; rw [hL.out, hMo.out]; rintro en v2 ⟨⟨uL, uM, rfl, hR_uL, hR_uM⟩, hB_v2⟩; have lay_v2 := laid_after hB_v2; (try have layE_v2 := laidE_after hB_v2); have hG := cell_grown cc1 (by go_grown) hB_v2; replace cc1 := cl hG cc1; replace cc2 := cl hG cc2; replace fcc3 := fl hG fcc3 cc3; replace cc3 := cl hG cc3; replace fcc4 := fl hG fcc4 cc4; replace cc4 := cl hG cc4; have hs_v2 := hG.size; clear hG; replace hBW : Below w.heap.size w v2 := below_after (w := w) (by go_grown) hB_v2; have hn_v2 := an (nl cc1) (nl cc3); clear hB_v2)
      (go_wp2_with fail; refine (ref_Whole f m h l _ hf hm).mono ?_; rw [hn.out, ho.out]; rintro en v3 ⟨⟨u3, rfl, hR_u3⟩, hB_v3⟩; have lay_v3 := laid_after hB_v3; (try have layE_v3 := laidE_after hB_v3); replace hR_uL := RN.later hR_uL (below_after (by go_grown) hB_v3); replace hR_uM := RN.later hR_uM (below_after (by go_grown) hB_v3); have hG := cell_grown cc1 (by go_grown) hB_v3; replace cc1 := cl hG cc1; replace cc2 := cl hG cc2; replace fcc3 := fl hG fcc3 cc3; replace cc3 := cl hG cc3; replace fcc4 := fl hG fcc4 cc4; replace cc4 := cl hG cc4; have hs_v3 := hG.size; clear hG; replace hBW : Below w.heap.size w v3 := below_after (w := w) (by go_grown) hB_v3; have hn_v3 := an (nl cc1) (nl cc3); clear hB_v3)
      (go_wp2_with fail; refine (ref26_Signed L true x uL _ hR_uL lL hx).mono ?_; rintro en v4 ⟨rfl, hB_v4⟩; have lay_v4 := laid_after hB_v4; (try have layE_v4 := laidE_after hB_v4); replace hR_uL := RN.later hR_uL (below_after (by go_grown) hB_v4); replace hR_uM := RN.later hR_uM (below_after (by go_grown) hB_v4); replace hR_u3 := RN.later hR_u3 (below_after (by go_grown) hB_v4); have hG := cell_grown cc1 (by go_grown) hB_v4; replace cc1 := cl hG cc1; replace cc2 := cl hG cc2; replace fcc3 := fl hG fcc3 cc3; replace cc3 := cl hG cc3; replace fcc4 := fl hG fcc4 cc4; replace cc4 := cl hG cc4; have hs_v4 := hG.size; clear hG; replace hBW : Below w.heap.size w v4 := below_after (w := w) (by go_grown) hB_v4; have hn_v4 := an (nl cc1) (nl cc3); clear hB_v4)
      go_wp2_with fail
      refine bodyPost_ret (by simp [results, Tryd.results33, go_sem, cc3, cc4]; try rfl) rfl ?_
      exact ⟨rfl, by go_grown⟩
  · cases s
    · simp only [Bool.false_eq_true, if_true, if_false] at hx hy
      go_enter Tryd.func33, Tryd.ntmps33
      skip
      (go_wp2_with fail; refine (ref_Of f h l _).mono ?_; rw [hc.out, hs.out]; rintro en v1 ⟨rfl, hB_v1⟩; have lay_v1 := laid_after hB_v1; (try have layE_v1 := laidE_after hB_v1); have cc1 := cl hB_v1 (show World.cell? _ ⟨w.heap.size, 0, none⟩ = some (.int .u64 h) by go_simp); have cc2 := cl hB_v1 (show World.cell? _ ⟨w.heap.size, 1, none⟩ = some (.int .u64 l) by go_simp); obtain ⟨cc3, fcc3⟩ := pf hB_v1 (show World.cell? _ ⟨w.heap.size + 1, 0, none⟩ = some (.int .u64 0) by go_simp) (by go_simp); obtain ⟨cc4, fcc4⟩ := pf hB_v1 (show World.cell? _ ⟨w.heap.size + 1, 1, none⟩ = some (.int .u8 0) by go_simp) (by go_simp); have hs_v1 := hB_v1.size; (try simp only [World.size_alloc, World.size_setCell, World.size_drew] at hs_v1); have hBW : Below w.heap.size w v1 := below_after (w := w) (by go_grown) hB_v1; have hn_v1 := an (nl cc1) (nl cc3); clear hB_v1)
      (go_wp2_with fail; refine (ref_Ends k _).mono ?_; rw [hL.out, hMo.out]; rintro en v2 ⟨⟨uL, uM, rfl, hR_uL, hR_uM⟩, hB_v2⟩; have lay_v2 := laid_after hB_v2; (try have layE_v2 := laidE_after hB_v2); have hG := cell_grown cc1 (by go_grown) hB_v2; replace cc1 := cl hG cc1; replace cc2 := cl hG cc2; replace fcc3 := fl hG fcc3 cc3; replace cc3 := cl hG cc3; replace fcc4 := fl hG fcc4 cc4; replace cc4 := cl hG cc4; have hs_v2 := hG.size; clear hG; replace hBW : Below w.heap.size w v2 := below_after (w := w) (by go_grown) hB_v2; have hn_v2 := an (nl cc1) (nl cc3); clear hB_v2)
      (go_wp2_with fail; refine (ref_Whole f m h l _ hf hm).mono ?_; rw [hn.out, ho.out]; rintro en v3 ⟨⟨u3, rfl, hR_u3⟩, hB_v3⟩; have lay_v3 := laid_after hB_v3; (try have layE_v3 := laidE_after hB_v3); replace hR_uL := RN.later hR_uL (below_after (by go_grown) hB_v3); replace hR_uM := RN.later hR_uM (below_after (by go_grown) hB_v3); have hG := cell_grown cc1 (by go_grown) hB_v3; replace cc1 := cl hG cc1; replace cc2 := cl hG cc2; replace fcc3 := fl hG fcc3 cc3; replace cc3 := cl hG cc3; replace fcc4 := fl hG fcc4 cc4; replace cc4 := cl hG cc4; have hs_v3 := hG.size; clear hG; replace hBW : Below w.heap.size w v3 := below_after (w := w) (by go_grown) hB_v3; have hn_v3 := an (nl cc1) (nl cc3); clear hB_v3)
      (go_wp2_with fail; refine (num_Cmp n M u3 uM _ hR_u3 hR_uM ln l2).mono ?_; rw [hy.out]; rintro en v4 ⟨rfl, hB_v4⟩; have lay_v4 := laid_after hB_v4; (try have layE_v4 := laidE_after hB_v4); replace hR_uL := RN.later hR_uL (below_after (by go_grown) hB_v4); replace hR_uM := RN.later hR_uM (below_after (by go_grown) hB_v4); replace hR_u3 := RN.later hR_u3 (below_after (by go_grown) hB_v4); have hG := cell_grown cc1 (by go_grown) hB_v4; replace cc1 := cl hG cc1; replace cc2 := cl hG cc2; replace fcc3 := fl hG fcc3 cc3; replace cc3 := cl hG cc3; replace fcc4 := fl hG fcc4 cc4; replace cc4 := cl hG cc4; have hs_v4 := hG.size; clear hG; replace hBW : Below w.heap.size w v4 := below_after (w := w) (by go_grown) hB_v4; have hn_v4 := an (nl cc1) (nl cc3); clear hB_v4)
      (go_wp2_with fail; refine (ref26_Signed M false x uM _ hR_uM lM hx).mono ?_; rintro en v5 ⟨rfl, hB_v5⟩; have lay_v5 := laid_after hB_v5; (try have layE_v5 := laidE_after hB_v5); replace hR_uL := RN.later hR_uL (below_after (by go_grown) hB_v5); replace hR_uM := RN.later hR_uM (below_after (by go_grown) hB_v5); replace hR_u3 := RN.later hR_u3 (below_after (by go_grown) hB_v5); have hG := cell_grown cc1 (by go_grown) hB_v5; replace cc1 := cl hG cc1; replace cc2 := cl hG cc2; replace fcc3 := fl hG fcc3 cc3; replace cc3 := cl hG cc3; replace fcc4 := fl hG fcc4 cc4; replace cc4 := cl hG cc4; have hs_v5 := hG.size; clear hG; replace hBW : Below w.heap.size w v5 := below_after (w := w) (by go_grown) hB_v5; have hn_v5 := an (nl cc1) (nl cc3); clear hB_v5)
      go_wp2_with fail
      refine bodyPost_ret (by simp [results, Tryd.results33, go_sem, cc3, cc4]; try rfl) rfl ?_
      exact ⟨rfl, by go_grown⟩
    · simp only [Bool.false_eq_true, if_true, if_false] at hx hy
      go_enter Tryd.func33, Tryd.ntmps33
      skip
      (go_wp2_with fail; refine (ref_Of f h l _).mono ?_; rw [hc.out, hs.out]; rintro en v1 ⟨rfl, hB_v1⟩; have lay_v1 := laid_after hB_v1; (try have layE_v1 := laidE_after hB_v1); have cc1 := cl hB_v1 (show World.cell? _ ⟨w.heap.size, 0, none⟩ = some (.int .u64 h) by go_simp); have cc2 := cl hB_v1 (show World.cell? _ ⟨w.heap.size, 1, none⟩ = some (.int .u64 l) by go_simp); obtain ⟨cc3, fcc3⟩ := pf hB_v1 (show World.cell? _ ⟨w.heap.size + 1, 0, none⟩ = some (.int .u64 0) by go_simp) (by go_simp); obtain ⟨cc4, fcc4⟩ := pf hB_v1 (show World.cell? _ ⟨w.heap.size + 1, 1, none⟩ = some (.int .u8 0) by go_simp) (by go_simp); have hs_v1 := hB_v1.size; (try simp only [World.size_alloc, World.size_setCell, World.size_drew] at hs_v1); have hBW : Below w.heap.size w v1 := below_after (w := w) (by go_grown) hB_v1; have hn_v1 := an (nl cc1) (nl cc3); clear hB_v1)
      (go_wp2_with fail; refine (ref_Ends k _).mono ?_; rw [hL.out, hMo.out]; rintro en v2 ⟨⟨uL, uM, rfl, hR_uL, hR_uM⟩, hB_v2⟩; have lay_v2 := laid_after hB_v2; (try have layE_v2 := laidE_after hB_v2); have hG := cell_grown cc1 (by go_grown) hB_v2; replace cc1 := cl hG cc1; replace cc2 := cl hG cc2; replace fcc3 := fl hG fcc3 cc3; replace cc3 := cl hG cc3; replace fcc4 := fl hG fcc4 cc4; replace cc4 := cl hG cc4; have hs_v2 := hG.size; clear hG; replace hBW : Below w.heap.size w v2 := below_after (w := w) (by go_grown) hB_v2; have hn_v2 := an (nl cc1) (nl cc3); clear hB_v2)
      (go_wp2_with fail; refine (ref_Whole f m h l _ hf hm).mono ?_; rw [hn.out, ho.out]; rintro en v3 ⟨⟨u3, rfl, hR_u3⟩, hB_v3⟩; have lay_v3 := laid_after hB_v3; (try have layE_v3 := laidE_after hB_v3); replace hR_uL := RN.later hR_uL (below_after (by go_grown) hB_v3); replace hR_uM := RN.later hR_uM (below_after (by go_grown) hB_v3); have hG := cell_grown cc1 (by go_grown) hB_v3; replace cc1 := cl hG cc1; replace cc2 := cl hG cc2; replace fcc3 := fl hG fcc3 cc3; replace cc3 := cl hG cc3; replace fcc4 := fl hG fcc4 cc4; replace cc4 := cl hG cc4; have hs_v3 := hG.size; clear hG; replace hBW : Below w.heap.size w v3 := below_after (w := w) (by go_grown) hB_v3; have hn_v3 := an (nl cc1) (nl cc3); clear hB_v3)
      (go_wp2_with fail; refine (num_Cmp n L u3 uL _ hR_u3 hR_uL ln l1).mono ?_; rw [hy.out]; rintro en v4 ⟨rfl, hB_v4⟩; have lay_v4 := laid_after hB_v4; (try have layE_v4 := laidE_after hB_v4); replace hR_uL := RN.later hR_uL (below_after (by go_grown) hB_v4); replace hR_uM := RN.later hR_uM (below_after (by go_grown) hB_v4); replace hR_u3 := RN.later hR_u3 (below_after (by go_grown) hB_v4); have hG := cell_grown cc1 (by go_grown) hB_v4; replace cc1 := cl hG cc1; replace cc2 := cl hG cc2; replace fcc3 := fl hG fcc3 cc3; replace cc3 := cl hG cc3; replace fcc4 := fl hG fcc4 cc4; replace cc4 := cl hG cc4; have hs_v4 := hG.size; clear hG; replace hBW : Below w.heap.size w v4 := below_after (w := w) (by go_grown) hB_v4; have hn_v4 := an (nl cc1) (nl cc3); clear hB_v4)
      (go_wp2_with fail; refine (ref26_Signed L true x uL _ hR_uL lL hx).mono ?_; rintro en v5 ⟨rfl, hB_v5⟩; have lay_v5 := laid_after hB_v5; (try have layE_v5 := laidE_after hB_v5); replace hR_uL := RN.later hR_uL (below_after (by go_grown) hB_v5); replace hR_uM := RN.later hR_uM (below_after (by go_grown) hB_v5); replace hR_u3 := RN.later hR_u3 (below_after (by go_grown) hB_v5); have hG := cell_grown cc1 (by go_grown) hB_v5; replace cc1 := cl hG cc1; replace cc2 := cl hG cc2; replace fcc3 := fl hG fcc3 cc3; replace cc3 := cl hG cc3; replace fcc4 := fl hG fcc4 cc4; replace cc4 := cl hG cc4; have hs_v5 := hG.size; clear hG; replace hBW : Below w.heap.size w v5 := below_after (w := w) (by go_grown) hB_v5; have hn_v5 := an (nl cc1) (nl cc3); clear hB_v5)
      go_wp2_with fail
      refine bodyPost_ret (by simp [results, Tryd.results33, go_sem, cc3, cc4]; try rfl) rfl ?_
      exact ⟨rfl, by go_grown⟩
  · cases s
    · simp only [Bool.false_eq_true, if_true, if_false] at hx hy
      go_enter Tryd.func33, Tryd.ntmps33
      skip
      (go_wp2_with fail; refine (ref_Of f h l _).mono ?_; rw [hc.out, hs.out]; rintro en v1 ⟨rfl, hB_v1⟩; have lay_v1 := laid_after hB_v1; (try have layE_v1 := laidE_after hB_v1); have cc1 := cl hB_v1 (show World.cell? _ ⟨w.heap.size, 0, none⟩ = some (.int .u64 h) by go_simp); have cc2 := cl hB_v1 (show World.cell? _ ⟨w.heap.size, 1, none⟩ = some (.int .u64 l) by go_simp); obtain ⟨cc3, fcc3⟩ := pf hB_v1 (show World.cell? _ ⟨w.heap.size + 1, 0, none⟩ = some (.int .u64 0) by go_simp) (by go_simp); obtain ⟨cc4, fcc4⟩ := pf hB_v1 (show World.cell? _ ⟨w.heap.size + 1, 1, none⟩ = some (.int .u8 0) by go_simp) (by go_simp); have hs_v1 := hB_v1.size; (try simp only [World.size_alloc, World.size_setCell, World.size_drew] at hs_v1); have hBW : Below w.heap.size w v1 := below_after (w := w) (by go_grown) hB_v1; have hn_v1 := an (nl cc1) (nl cc3); clear hB_v1)
      (go_wp2_with fail; refine (ref_Ends k _).mono ?_; rw [hL.out, hMo.out]; rintro en v2 ⟨⟨uL, uM, rfl, hR_uL, hR_uM⟩, hB_v2⟩; have lay_v2 := laid_after hB_v2; (try have layE_v2 := laidE_after hB_v2); have hG := cell_grown cc1 (by go_grown) hB_v2; replace cc1 := cl hG cc1; replace cc2 := cl hG cc2; replace fcc3 := fl hG fcc3 cc3; replace cc3 := cl hG cc3; replace fcc4 := fl hG fcc4 cc4; replace cc4 := cl hG cc4; have hs_v2 := hG.size; clear hG; replace hBW : Below w.heap.size w v2 := below_after (w := w) (by go_grown) hB_v2; have hn_v2 := an (nl cc1) (nl cc3); clear hB_v2)
      (go_wp2_with fail; refine (ref_Whole f m h l _ hf hm).mono ?_; rw [hn.out, ho.out]; rintro en v3 ⟨⟨u3, rfl, hR_u3⟩, hB_v3⟩; have lay_v3 := laid_after hB_v3; (try have layE_v3 := laidE_after hB_v3); replace hR_uL := RN.later hR_uL (below_after (by go_grown) hB_v3); replace hR_uM := RN.later hR_uM (below_after (by go_grown) hB_v3); have hG := cell_grown cc1 (by go_grown) hB_v3; replace cc1 := cl hG cc1; replace cc2 := cl hG cc2; replace fcc3 := fl hG fcc3 cc3; replace cc3 := cl hG cc3; replace fcc4 := fl hG fcc4 cc4; replace cc4 := cl hG cc4; have hs_v3 := hG.size; clear hG; replace hBW : Below w.heap.size w v3 := below_after (w := w) (by go_grown) hB_v3; have hn_v3 := an (nl cc1) (nl cc3); clear hB_v3)
      (go_wp2_with fail; refine (num_Cmp n M u3 uM _ hR_u3 hR_uM ln l2).mono ?_; rw [hy.out]; rintro en v4 ⟨rfl, hB_v4⟩; have lay_v4 := laid_after hB_v4; (try have layE_v4 := laidE_after hB_v4); replace hR_uL := RN.later hR_uL (below_after (by go_grown) hB_v4); replace hR_uM := RN.later hR_uM (below_after (by go_grown) hB_v4); replace hR_u3 := RN.later hR_u3 (below_after (by go_grown) hB_v4); have hG := cell_grown cc1 (by go_grown) hB_v4; replace cc1 := cl hG cc1; replace cc2 := cl hG cc2; replace fcc3 := fl hG fcc3 cc3; replace cc3 := cl hG cc3; replace fcc4 := fl hG fcc4 cc4; replace cc4 := cl hG cc4; have hs_v4 := hG.size; clear hG; replace hBW : Below w.heap.size w v4 := below_after (w := w) (by go_grown) hB_v4; have hn_v4 := an (nl cc1) (nl cc3); clear hB_v4)
      (go_wp2_with fail; refine (ref26_Signed n false x u3 _ hR_u3 hn64 hx).mono ?_; rintro en v5 ⟨rfl, hB_v5⟩; have lay_v5 := laid_after hB_v5; (try have layE_v5 := laidE_after hB_v5); replace hR_uL := RN.later hR_uL (below_after (by go_grown) hB_v5); replace hR_uM := RN.later hR_uM (below_after (by go_grown) hB_v5); replace hR_u3 := RN.later hR_u3 (below_after (by go_grown) hB_v5); have hG := cell_grown cc1 (by go_grown) hB_v5; replace cc1 := cl hG cc1; replace cc2 := cl hG cc2; replace fcc3 := fl hG fcc3 cc3; replace cc3 := cl hG cc3; replace fcc4 := fl hG fcc4 cc4; replace cc4 := cl hG cc4; have hs_v5 := hG.size; clear hG; replace hBW : Below w.heap.size w v5 := below_after (w := w) (by go_grown) hB_v5; have hn_v5 := an (nl cc1) (nl cc3); clear hB_v5)
      clear hR_uL hR_uM hR_u3
      go_upto_region 13 with fail
      ((first | refine wp_rename ?_ | refine goal_rename ?_); intro W13 hw_W13; have hG := named cc1 W13 (by rw [hw_W13]; first | with_reducible exact drewN_below (Below.refl _ _) _ | go_grown); replace cc1 := cl hG cc1; replace cc2 := cl hG cc2; replace fcc3 := fl hG fcc3 cc3; replace cc3 := cl hG cc3; replace fcc4 := fl hG fcc4 cc4; replace cc4 := cl hG cc4; have cc5 : W13.cell? ⟨v5.heap.size, 0, none⟩ = some (.int .u64 x) := (by rw [hw_W13]; go_simp); have fcc5 : W13.frozen? ⟨v5.heap.size, 0, none⟩ = false := (by rw [hw_W13]; go_simp); have cc6 : W13.cell? ⟨v5.heap.size, 1, none⟩ = some (.int .u8 0) := (by rw [hw_W13]; go_simp); have fcc6 : W13.frozen? ⟨v5.heap.size, 1, none⟩ = false := (by rw [hw_W13]; go_simp); replace hBW := below_after hBW hG; have hs_W13 := hG.size; clear hG; have hn_W13 := an (nl cc1) (an (nl cc3) (nl cc5)); have lay_W13 : Laid W13 := Laid.below (w := w) (by assumption) hBW; (try have layE_W13 : LaidE W13 := LaidE.below (w := w) (by assumption) hBW); clear hw_W13)
      cases o
      all_goals (
        go_wp2_with fail
        refine bodyPost_ret (by simp [results, Tryd.results33, go_sem, cc3, cc4, cc5, cc6]; try rfl) rfl ?_
        exact ⟨rfl, by go_grown⟩)
    · simp only [Bool.false_eq_true, if_true, if_false] at hx hy
      go_enter Tryd.func33, Tryd.ntmps33
      skip
      (go_wp2_with fail; refine (ref_Of f h l _).mono ?_; rw [hc.out, hs.out]; rintro en v1 ⟨rfl, hB_v1⟩; have lay_v1 := laid_after hB_v1; (try have layE_v1 := laidE_after hB_v1); have cc1 := cl hB_v1 (show World.cell? _ ⟨w.heap.size, 0, none⟩ = some (.int .u64 h) by go_simp); have cc2 := cl hB_v1 (show World.cell? _ ⟨w.heap.size, 1, none⟩ = some (.int .u64 l) by go_simp); obtain ⟨cc3, fcc3⟩ := pf hB_v1 (show World.cell? _ ⟨w.heap.size + 1, 0, none⟩ = some (.int .u64 0) by go_simp) (by go_simp); obtain ⟨cc4, fcc4⟩ := pf hB_v1 (show World.cell? _ ⟨w.heap.size + 1, 1, none⟩ = some (.int .u8 0) by go_simp) (by go_simp); have hs_v1 := hB_v1.size; (try simp only [World.size_alloc, World.size_setCell, World.size_drew] at hs_v1); have hBW : Below w.heap.size w v1 := below_after (w := w) (by go_grown) hB_v1; have hn_v1 := an (nl cc1) (nl cc3); clear hB_v1)
      (go_wp2_with fail; refine (ref_Ends k _).mono ?_; rw [hL.out, hMo.out]; rintro en v2 ⟨⟨uL, uM, rfl, hR_uL, hR_uM⟩, hB_v2⟩; have lay_v2 := laid_after hB_v2; (try have layE_v2 := laidE_after hB_v2); have hG := cell_grown cc1 (by go_grown) hB_v2; replace cc1 := cl hG cc1; replace cc2 := cl hG cc2; replace fcc3 := fl hG fcc3 cc3; replace cc3 := cl hG cc3; replace fcc4 := fl hG fcc4 cc4; replace cc4 := cl hG cc4; have hs_v2 := hG.size; clear hG; replace hBW : Below w.heap.size w v2 := below_after (w := w) (by go_grown) hB_v2; have hn_v2 := an (nl cc1) (nl cc3); clear hB_v2)
      (go_wp2_with fail; refine (ref_Whole f m h l _ hf hm).mono ?_; rw [hn.out, ho.out]; rintro en v3 ⟨⟨u3, rfl, hR_u3⟩, hB_v3⟩; have lay_v3 := laid_after hB_v3; (try have layE_v3 := laidE_after hB_v3); replace hR_uL := RN.later hR_uL (below_after (by go_grown) hB_v3); replace hR_uM := RN.later hR_uM (below_after (by go_grown) hB_v3); have hG := cell_grown cc1 (by go_grown) hB_v3; replace cc1 := cl hG cc1; replace cc2 := cl hG cc2; replace fcc3 := fl hG fcc3 cc3; replace cc3 := cl hG cc3; replace fcc4 := fl hG fcc4 cc4; replace cc4 := cl hG cc4; have hs_v3 := hG.size; clear hG; replace hBW : Below w.heap.size w v3 := below_after (w := w) (by go_grown) hB_v3; have hn_v3 := an (nl cc1) (nl cc3); clear hB_v3)
      (go_wp2_with fail; refine (num_Cmp n L u3 uL _ hR_u3 hR_uL ln l1).mono ?_; rw [hy.out]; rintro en v4 ⟨rfl, hB_v4⟩; have lay_v4 := laid_after hB_v4; (try have layE_v4 := laidE_after hB_v4); replace hR_uL := RN.later hR_uL (below_after (by go_grown) hB_v4); replace hR_uM := RN.later hR_uM (below_after (by go_grown) hB_v4); replace hR_u3 := RN.later hR_u3 (below_after (by go_grown) hB_v4); have hG := cell_grown cc1 (by go_grown) hB_v4; replace cc1 := cl hG cc1; replace cc2 := cl hG cc2; replace fcc3 := fl hG fcc3 cc3; replace cc3 := cl hG cc3; replace fcc4 := fl hG fcc4 cc4; replace cc4 := cl hG cc4; have hs_v4 := hG.size; clear hG; replace hBW : Below w.heap.size w v4 := below_after (w := w) (by go_grown) hB_v4; have hn_v4 := an (nl cc1) (nl cc3); clear hB_v4)
      (go_wp2_with fail; refine (ref26_Signed n true x u3 _ hR_u3 hn64 hx).mono ?_; rintro en v5 ⟨rfl, hB_v5⟩; have lay_v5 := laid_after hB_v5; (try have layE_v5 := laidE_after hB_v5); replace hR_uL := RN.later hR_uL (below_after (by go_grown) hB_v5); replace hR_uM := RN.later hR_uM (below_after (by go_grown) hB_v5); replace hR_u3 := RN.later hR_u3 (below_after (by go_grown) hB_v5); have hG := cell_grown cc1 (by go_grown) hB_v5; replace cc1 := cl hG cc1; replace cc2 := cl hG cc2; replace fcc3 := fl hG fcc3 cc3; replace cc3 := cl hG cc3; replace fcc4 := fl hG fcc4 cc4; replace cc4 := cl hG cc4; have hs_v5 := hG.size; clear hG; replace hBW : Below w.heap.size w v5 := below_after (w := w) (by go_grown) hB_v5; have hn_v5 := an (nl cc1) (nl cc3); clear hB_v5)
      clear hR_uL hR_uM hR_u3
      go_upto_region 13 with fail
      ((first | refine wp_rename ?_ | refine goal_rename ?_); intro W13 hw_W13; have hG := named cc1 W13 (by rw [hw_W13]; first | with_reducible exact drewN_below (Below.refl _ _) _ | go_grown); replace cc1 := cl hG cc1; replace cc2 := cl hG cc2; replace fcc3 := fl hG fcc3 cc3; replace cc3 := cl hG cc3; replace fcc4 := fl hG fcc4 cc4; replace cc4 := cl hG cc4; have cc5 : W13.cell? ⟨v5.heap.size, 0, none⟩ = some (.int .u64 x) := (by rw [hw_W13]; go_simp); have fcc5 : W13.frozen? ⟨v5.heap.size, 0, none⟩ = false := (by rw [hw_W13]; go_simp); have cc6 : W13.cell? ⟨v5.heap.size, 1, none⟩ = some (.int .u8 0) := (by rw [hw_W13]; go_simp); have fcc6 : W13.frozen? ⟨v5.heap.size, 1, none⟩ = false := (by rw [hw_W13]; go_simp); replace hBW := below_after hBW hG; have hs_W13 := hG.size; clear hG; have hn_W13 := an (nl cc1) (an (nl cc3) (nl cc5)); have lay_W13 : Laid W13 := Laid.below (w := w) (by assumption) hBW; (try have layE_W13 : LaidE W13 := LaidE.below (w := w) (by assumption) hBW); clear hw_W13)
      cases o
      all_goals (
        go_wp2_with fail
        refine bodyPost_ret (by simp [results, Tryd.results33, go_sem, cc3, cc4, cc5, cc6]; try rfl) rfl ?_
        exact ⟨rfl, by go_grown⟩)
theorem cmpR_le {a b : Nat} (h : ¬ b < a) : ¬ 0 < cmpR a b := by
  unfold cmpR; rw [if_neg h]; split <;> omega
theorem ref26_Int (f k m h l : Int) [hU : U8 f] [hK : U8 k] [hM : U8 m] [U64 h] [U64 l] (w : World) [hLay : Laid w] :
    Calls Tryd.prog 33 #[.int .u8 f, .int .u8 k, .int .u8 m, .agg #[.int .u64 (h), .int .u64 (l)]] w fun en w' => en = .returned (.agg #[.int .u64 (intV f k m (cat h l)), .int .u8 (intF f k m (cat h l))]) ∧ Below w.heap.size w w' := by
  have hkk := hK.ge
  by_cases hk : f < 4 ∧ k < 4 ∧ m ≤ 4
  · obtain ⟨hf, hk, hm⟩ := hk
    have b1 := U64.ge (x := leastK k)
    have b2 := U64.lt (x := leastK k)
    have b3 := U64.ge (x := mostK k)
    have b4 := U64.lt (x := mostK k)
    obtain ⟨x0, x1, x2⟩ := ends_bd k (sgnF f (cat h l))
    refine int26_walk f k m h l (classF f (cat h l)) _ _ (cmpR (wholeR f m (cat h l)) (if sgnF f (cat h l) then (leastK k).toNat else (mostK k).toNat)) (sgnF f (cat h l)) (otherR f (cat h l)) _ _ _ w hf hk hm rfl rfl rfl rfl rfl rfl (wholeR_dl f m (cat h l) hU.ge hf) (by omega) (by omega) rfl ?_
    by_cases hc : 4 ≤ classF f (cat h l)
    · left
      refine ⟨hc, ?_, ?_⟩
      · unfold intV; rw [if_neg (by omega)]
      · unfold intF; rw [if_pos ⟨hf, hk, hm⟩, if_pos hc]
    · right
      have hp := int_plain f k m (cat h l) hU.ge hf hk hm (by omega)
      rw [x2] at hp
      rcases hp with ⟨h1, h2, h3⟩ | ⟨h1, h2, h3, h4⟩
      · by_cases hc3 : classF f (cat h l) = 3
        · exact Or.inl ⟨hc, by rw [beq_iff_eq]; exact hc3, h2.symm, h3⟩
        · right; left
          refine ⟨hc, by rw [beq_eq_false_iff_ne]; exact hc3, ?_, h2.symm, h3⟩
          rcases h1 with h1 | h1
          · exact absurd h1 hc3
          · rw [cmpR_gt h1]; decide
      · right; right
        refine ⟨hc, by rw [beq_eq_false_iff_ne]; exact h1, ?_, by omega, h3.symm, h4⟩
        exact cmpR_le h2
  · have e1 : intV f k m (cat h l) = 0 := by unfold intV; rw [if_neg (fun h => hk ⟨h.1, h.2.1, h.2.2.1⟩)]
    have e2 : intF f k m (cat h l) = 0 := by unfold intF; rw [if_neg hk]
    rw [e1, e2]
    refine int26_none f k m .nilFunc w ?_ h l
    by_cases hf : f < 4
    · right
      by_cases hk2 : k < 4
      · exact Or.inr ⟨decide_eq_false (by omega), decide_eq_false (by omega), decide_eq_true (by omega)⟩
      · exact Or.inl ⟨decide_eq_false (by omega), decide_eq_true (by omega)⟩
    · exact Or.inl (decide_eq_true (by omega))
end Go.Proofs.YtgpedgppdggjmaaDoor
namespace Go.Proofs.YtgpedgppdggjmaaDoor
open Go.RowKit Go.Hb
set_option maxRecDepth 100000 in
set_option maxHeartbeats 4000000 in
theorem all26_walk (f k m h l x fg yl ym : Int) (bl : Bool) (L M dL : Nat) [hU : U8 f] [hK : U8 k] [hM : U8 m] [U64 h] [U64 l] (w : World) [hLay : Laid w] [hLE : LaidE w]
    (a0 : Hid (intV f k m (cat h l) = x)) (a1 : Hid (intF f k m (cat h l) = fg)) (a2 : Hid (IntKind.u64.wrap (-(leastK k)) = yl)) (a3 : Hid (mostK k = ym)) (hL : Hid ((leastK k).toNat = L)) (hMo : Hid ((mostK k).toNat = M)) (lL : L ≤ 2 ^ 64) (lM : M ≤ 2 ^ 64)
    (hdL : Hid (dl L = dL)) (hbl : (bl = true ∧ 0 < dL) ∨ (bl = false ∧ dL = 0)) (b2 : Hid (lo (if bl then 2 ^ 64 - L else L) = yl)) (b3 : Hid (lo (if false then 2 ^ 64 - M else M) = ym)) :
    Calls Tryd.prog 7 #[.int .u8 f, .int .u8 k, .int .u8 m, .agg #[.int .u64 (h), .int .u64 (l)]] w fun en w' => en = .returned (.bool true) ∧ Below w.heap.size w w' := by
  have he := fun W => eql_whole_same W x fg
  rcases hbl with ⟨rfl, hpos⟩ | ⟨rfl, hpos⟩
  · go_enter Tryd.func7, Tryd.ntmps7
    skip
    (go_wp2_with fail; refine (ref_Ends k _).mono ?_; rw [hL.out, hMo.out]; rintro en v1 ⟨⟨uL, uM, rfl, hR_uL, hR_uM⟩, hB_v1⟩; have lay_v1 := laid_after hB_v1; (try have layE_v1 := laidE_after hB_v1); have cc1 := cl hB_v1 (show World.cell? _ ⟨w.heap.size, 0, none⟩ = some (.int .u64 h) by go_simp); have cc2 := cl hB_v1 (show World.cell? _ ⟨w.heap.size, 1, none⟩ = some (.int .u64 l) by go_simp); have hs_v1 := hB_v1.size; (try simp only [World.size_alloc, World.size_setCell, World.size_drew] at hs_v1); have hBW : Below w.heap.size w v1 := below_after (w := w) (by go_grown) hB_v1; have hn_v1 := nl cc1; clear hB_v1)
    obtain ⟨qL, cL, hv, _, _⟩ := id hR_uL
    rw [hdL.out] at hv
    subst hv
    have hSL : ∀ W' : World, Laid W' → RN W' (.slice qL dL cL) L → Calls Tryd.prog 26 #[.slice qL dL cL, .bool true] W' fun e w'' => e = .returned (.int .u64 yl) ∧ Below W'.heap.size W' w'' := fun W' hl hr => ref26_Signed L true yl _ W' hr lL b2
    have hSM : ∀ W' : World, Laid W' → RN W' uM M → Calls Tryd.prog 26 #[uM, .bool false] W' fun e w'' => e = .returned (.int .u64 ym) ∧ Below W'.heap.size W' w'' := fun W' hl hr => ref26_Signed M false ym _ W' hr lM b3
    go_upto_region 2 with fail
    ((first | refine wp_rename ?_ | refine goal_rename ?_); intro W2 hw_W2; have hG := named cc1 W2 (by rw [hw_W2]; first | with_reducible exact drewN_below (Below.refl _ _) _ | go_grown); replace cc1 := cl hG cc1; replace cc2 := cl hG cc2; replace hR_uL := RN.later hR_uL (w' := W2) (by rw [hw_W2]; first | with_reducible exact drewN_below (Below.refl _ _) _ | go_grown); replace hR_uM := RN.later hR_uM (w' := W2) (by rw [hw_W2]; first | with_reducible exact drewN_below (Below.refl _ _) _ | go_grown); replace hBW := below_after hBW hG; have hs_W2 := hG.size; clear hG; have hn_W2 := nl cc1; have lay_W2 : Laid W2 := Laid.below (w := w) (by assumption) hBW; (try have layE_W2 : LaidE W2 := LaidE.below (w := w) (by assumption) hBW); clear hw_W2)
    refine Lin.wp_region_lin (by kernel_rfl) (by intro _ _ d _ _ h; cases d <;> exact h) (by kernel_rfl) (fun w' => Below W2.heap.size W2 w' ∧ w'.cell? ⟨w.heap.size, 0, none⟩ = some (.int .u64 h) ∧ w'.cell? ⟨w.heap.size, 1, none⟩ = some (.int .u64 l)) ⟨(Below.refl _ _).drew, by go_simp, by go_simp⟩ ?_
    simp only [List.length_cons, List.length_nil, Nat.reduceAdd]
    refine Lin.Blk.out ?_
    iterate 4 (refine Lin.bl_val rfl rfl rfl ?_; apply Exists.intro; refine ⟨fun w' hw' => ?_, ?_⟩; (focus (have hBw := hw'.1; have hSw := hw'.2; clear hw'; (try dsimp only at hBw hSw); go_simp; first | with_reducible exact Lin.lin_value | with_reducible exact Lin.lin_skip)); (try simp only [Act.put, List.setIfInBounds_toArray, List.set_cons_zero, List.set_cons_succ]))
    (refine Lin.bl_val rfl rfl rfl ?_; apply Exists.intro; refine ⟨fun w' hw' => ?_, ?_⟩; (focus (have hBw := hw'.1; have hSw := hw'.2; clear hw'; (try dsimp only at hBw hSw); have lay' : Laid w' := Laid.below lay_W2 hBw; (try have layE' : LaidE w' := LaidE.below layE_W2 hBw); go_simp; first | exact Lin.lin_ret (toint_Int f k m h l _) (by rw [a0.out, a1.out]) | exact Lin.lin_ret (ref26_Int f k m h l _) (by rw [a0.out, a1.out]) | exact Lin.lin_ret (toint_Least k _) (by rw [a2.out]) | exact Lin.lin_ret (toint_Most k _) (by rw [a3.out]) | with_reducible exact Lin.lin_ret (hSL _ lay' (RN.later hR_uL hBw)) rfl | with_reducible exact Lin.lin_ret (hSM _ lay' (RN.later hR_uM hBw)) rfl | exact Lin.lin_ret (toint_KnownE k _) rfl | exact Lin.lin_ret (law26_goes _) rfl)); (try simp only [Act.put, List.setIfInBounds_toArray, List.set_cons_zero, List.set_cons_succ]))
    iterate 4 (refine Lin.bl_val rfl rfl rfl ?_; apply Exists.intro; refine ⟨fun w' hw' => ?_, ?_⟩; (focus (have hBw := hw'.1; have hSw := hw'.2; clear hw'; (try dsimp only at hBw hSw); go_simp; first | with_reducible exact Lin.lin_value | with_reducible exact Lin.lin_skip)); (try simp only [Act.put, List.setIfInBounds_toArray, List.set_cons_zero, List.set_cons_succ]))
    (refine Lin.bl_val rfl rfl rfl ?_; apply Exists.intro; refine ⟨fun w' hw' => ?_, ?_⟩; (focus (have hBw := hw'.1; have hSw := hw'.2; clear hw'; (try dsimp only at hBw hSw); have lay' : Laid w' := Laid.below lay_W2 hBw; (try have layE' : LaidE w' := LaidE.below layE_W2 hBw); go_simp; first | exact Lin.lin_ret (toint_Int f k m h l _) (by rw [a0.out, a1.out]) | exact Lin.lin_ret (ref26_Int f k m h l _) (by rw [a0.out, a1.out]) | exact Lin.lin_ret (toint_Least k _) (by rw [a2.out]) | exact Lin.lin_ret (toint_Most k _) (by rw [a3.out]) | with_reducible exact Lin.lin_ret (hSL _ lay' (RN.later hR_uL hBw)) rfl | with_reducible exact Lin.lin_ret (hSM _ lay' (RN.later hR_uM hBw)) rfl | exact Lin.lin_ret (toint_KnownE k _) rfl | exact Lin.lin_ret (law26_goes _) rfl)); (try simp only [Act.put, List.setIfInBounds_toArray, List.set_cons_zero, List.set_cons_succ]))
    iterate 2 (refine Lin.bl_val rfl rfl rfl ?_; apply Exists.intro; refine ⟨fun w' hw' => ?_, ?_⟩; (focus (have hBw := hw'.1; have hSw := hw'.2; clear hw'; (try dsimp only at hBw hSw); go_simp; first | with_reducible exact Lin.lin_value | with_reducible exact Lin.lin_skip)); (try simp only [Act.put, List.setIfInBounds_toArray, List.set_cons_zero, List.set_cons_succ]))
    (refine Lin.bl_val rfl rfl (by kernel_rfl) ?_; apply Exists.intro; refine ⟨fun w' hw' => ?_, ?_⟩; (focus (have hBw := hw'.1; have hSw := hw'.2; clear hw'; (try dsimp only at hBw hSw); go_simp; first | with_reducible exact Lin.lin_value | with_reducible exact Lin.lin_skip)); (try simp only [Act.put, List.setIfInBounds_toArray, List.set_cons_zero, List.set_cons_succ]))
    (refine Lin.bl_val rfl rfl (by kernel_rfl) ?_; apply Exists.intro; refine ⟨fun w' hw' => ?_, ?_⟩; (focus (have hBw := hw'.1; have hSw := hw'.2; clear hw'; (try dsimp only at hBw hSw); have lay' : Laid w' := Laid.below lay_W2 hBw; (try have layE' : LaidE w' := LaidE.below layE_W2 hBw); go_simp; first | exact Lin.lin_ret (toint_Int f k m h l _) (by rw [a0.out, a1.out]) | exact Lin.lin_ret (ref26_Int f k m h l _) (by rw [a0.out, a1.out]) | exact Lin.lin_ret (toint_Least k _) (by rw [a2.out]) | exact Lin.lin_ret (toint_Most k _) (by rw [a3.out]) | with_reducible exact Lin.lin_ret (hSL _ lay' (RN.later hR_uL hBw)) rfl | with_reducible exact Lin.lin_ret (hSM _ lay' (RN.later hR_uM hBw)) rfl | exact Lin.lin_ret (toint_KnownE k _) rfl | exact Lin.lin_ret (law26_goes _) rfl)); (try simp only [Act.put, List.setIfInBounds_toArray, List.set_cons_zero, List.set_cons_succ]))
    iterate 4 (refine Lin.bl_val rfl rfl (by kernel_rfl) ?_; apply Exists.intro; refine ⟨fun w' hw' => ?_, ?_⟩; (focus (have hBw := hw'.1; have hSw := hw'.2; clear hw'; (try dsimp only at hBw hSw); go_simp; first | with_reducible exact Lin.lin_value | with_reducible exact Lin.lin_skip)); (try simp only [Act.put, List.setIfInBounds_toArray, List.set_cons_zero, List.set_cons_succ]))
    (refine Lin.bl_val rfl rfl (by kernel_rfl) ?_; apply Exists.intro; refine ⟨fun w' hw' => ?_, ?_⟩; (focus (have hBw := hw'.1; have hSw := hw'.2; clear hw'; (try dsimp only at hBw hSw); have lay' : Laid w' := Laid.below lay_W2 hBw; (try have layE' : LaidE w' := LaidE.below layE_W2 hBw); go_simp; first | exact Lin.lin_ret (toint_Int f k m h l _) (by rw [a0.out, a1.out]) | exact Lin.lin_ret (ref26_Int f k m h l _) (by rw [a0.out, a1.out]) | exact Lin.lin_ret (toint_Least k _) (by rw [a2.out]) | exact Lin.lin_ret (toint_Most k _) (by rw [a3.out]) | with_reducible exact Lin.lin_ret (hSL _ lay' (RN.later hR_uL hBw)) rfl | with_reducible exact Lin.lin_ret (hSM _ lay' (RN.later hR_uM hBw)) rfl | exact Lin.lin_ret (toint_KnownE k _) rfl | exact Lin.lin_ret (law26_goes _) rfl)); (try simp only [Act.put, List.setIfInBounds_toArray, List.set_cons_zero, List.set_cons_succ]))
    (refine Lin.bl_val rfl rfl (by kernel_rfl) ?_; apply Exists.intro; refine ⟨fun w' hw' => ?_, ?_⟩; (focus (have hBw := hw'.1; have hSw := hw'.2; clear hw'; (try dsimp only at hBw hSw); go_simp; first | with_reducible exact Lin.lin_value | with_reducible exact Lin.lin_skip)); (try simp only [Act.put, List.setIfInBounds_toArray, List.set_cons_zero, List.set_cons_succ]))
    iterate 2 (refine Lin.bl_val rfl rfl rfl ?_; apply Exists.intro; refine ⟨fun w' hw' => ?_, ?_⟩; (focus (have hBw := hw'.1; have hSw := hw'.2; clear hw'; (try dsimp only at hBw hSw); go_simp; first | with_reducible exact Lin.lin_value | with_reducible exact Lin.lin_skip)); (try simp only [Act.put, List.setIfInBounds_toArray, List.set_cons_zero, List.set_cons_succ]))
    (refine Lin.bl_val rfl rfl (by kernel_rfl) ?_; apply Exists.intro; refine ⟨fun w' hw' => ?_, ?_⟩; (focus (have hBw := hw'.1; have hSw := hw'.2; clear hw'; (try dsimp only at hBw hSw); go_simp; first | with_reducible exact Lin.lin_value | with_reducible exact Lin.lin_skip)); (try simp only [Act.put, List.setIfInBounds_toArray, List.set_cons_zero, List.set_cons_succ]))
    (refine Lin.bl_val rfl rfl (by kernel_rfl) ?_; apply Exists.intro; refine ⟨fun w' hw' => ?_, ?_⟩; (focus (have hBw := hw'.1; have hSw := hw'.2; clear hw'; (try dsimp only at hBw hSw); have lay' : Laid w' := Laid.below lay_W2 hBw; (try have layE' : LaidE w' := LaidE.below layE_W2 hBw); go_simp; first | exact Lin.lin_ret (toint_Int f k m h l _) (by rw [a0.out, a1.out]) | exact Lin.lin_ret (ref26_Int f k m h l _) (by rw [a0.out, a1.out]) | exact Lin.lin_ret (toint_Least k _) (by rw [a2.out]) | exact Lin.lin_ret (toint_Most k _) (by rw [a3.out]) | with_reducible exact Lin.lin_ret (hSL _ lay' (RN.later hR_uL hBw)) rfl | with_reducible exact Lin.lin_ret (hSM _ lay' (RN.later hR_uM hBw)) rfl | exact Lin.lin_ret (toint_KnownE k _) rfl | exact Lin.lin_ret (law26_goes _) rfl)); (try simp only [Act.put, List.setIfInBounds_toArray, List.set_cons_zero, List.set_cons_succ]))
    (refine Lin.bl_val rfl rfl (by kernel_rfl) ?_; apply Exists.intro; refine ⟨fun w' hw' => ?_, ?_⟩; (focus (have hBw := hw'.1; have hSw := hw'.2; clear hw'; (try dsimp only at hBw hSw); go_simp; first | with_reducible exact Lin.lin_value | with_reducible exact Lin.lin_skip)); (try simp only [Act.put, List.setIfInBounds_toArray, List.set_cons_zero, List.set_cons_succ]))
    (refine Lin.bl_val rfl rfl (by kernel_rfl) ?_; apply Exists.intro; refine ⟨fun w' hw' => ?_, ?_⟩; (focus (have hBw := hw'.1; have hSw := hw'.2; clear hw'; (try dsimp only at hBw hSw); have lay' : Laid w' := Laid.below lay_W2 hBw; (try have layE' : LaidE w' := LaidE.below layE_W2 hBw); go_simp; first | exact Lin.lin_ret (toint_Int f k m h l _) (by rw [a0.out, a1.out]) | exact Lin.lin_ret (ref26_Int f k m h l _) (by rw [a0.out, a1.out]) | exact Lin.lin_ret (toint_Least k _) (by rw [a2.out]) | exact Lin.lin_ret (toint_Most k _) (by rw [a3.out]) | with_reducible exact Lin.lin_ret (hSL _ lay' (RN.later hR_uL hBw)) rfl | with_reducible exact Lin.lin_ret (hSM _ lay' (RN.later hR_uM hBw)) rfl | exact Lin.lin_ret (toint_KnownE k _) rfl | exact Lin.lin_ret (law26_goes _) rfl)); (try simp only [Act.put, List.setIfInBounds_toArray, List.set_cons_zero, List.set_cons_succ]))
    (refine Lin.bl_val rfl rfl (by kernel_rfl) ?_; apply Exists.intro; refine ⟨fun w' hw' => ?_, ?_⟩; (focus (have hBw := hw'.1; have hSw := hw'.2; clear hw'; (try dsimp only at hBw hSw); go_simp; first | with_reducible exact Lin.lin_value | with_reducible exact Lin.lin_skip)); (try simp only [Act.put, List.setIfInBounds_toArray, List.set_cons_zero, List.set_cons_succ]))
    iterate 2 (refine Lin.bl_val rfl rfl rfl ?_; apply Exists.intro; refine ⟨fun w' hw' => ?_, ?_⟩; (focus (have hBw := hw'.1; have hSw := hw'.2; clear hw'; (try dsimp only at hBw hSw); go_simp; first | with_reducible exact Lin.lin_value | with_reducible exact Lin.lin_skip)); (try simp only [Act.put, List.setIfInBounds_toArray, List.set_cons_zero, List.set_cons_succ]))
    (refine Lin.bl_val rfl rfl (by kernel_rfl) ?_; apply Exists.intro; refine ⟨fun w' hw' => ?_, ?_⟩; (focus (have hBw := hw'.1; have hSw := hw'.2; clear hw'; (try dsimp only at hBw hSw); go_simp; first | with_reducible exact Lin.lin_value | with_reducible exact Lin.lin_skip)); (try simp only [Act.put, List.setIfInBounds_toArray, List.set_cons_zero, List.set_cons_succ]))
    (refine Lin.bl_val rfl rfl (by kernel_rfl) ?_; apply Exists.intro; refine ⟨fun w' hw' => ?_, ?_⟩; (focus (have hBw := hw'.1; have hSw := hw'.2; clear hw'; (try dsimp only at hBw hSw); have lay' : Laid w' := Laid.below lay_W2 hBw; (try have layE' : LaidE w' := LaidE.below layE_W2 hBw); go_simp; first | exact Lin.lin_ret (toint_Int f k m h l _) (by rw [a0.out, a1.out]) | exact Lin.lin_ret (ref26_Int f k m h l _) (by rw [a0.out, a1.out]) | exact Lin.lin_ret (toint_Least k _) (by rw [a2.out]) | exact Lin.lin_ret (toint_Most k _) (by rw [a3.out]) | with_reducible exact Lin.lin_ret (hSL _ lay' (RN.later hR_uL hBw)) rfl | with_reducible exact Lin.lin_ret (hSM _ lay' (RN.later hR_uM hBw)) rfl | exact Lin.lin_ret (toint_KnownE k _) rfl | exact Lin.lin_ret (law26_goes _) rfl)); (try simp only [Act.put, List.setIfInBounds_toArray, List.set_cons_zero, List.set_cons_succ]))
    iterate 3 (refine Lin.bl_val rfl rfl (by kernel_rfl) ?_; apply Exists.intro; refine ⟨fun w' hw' => ?_, ?_⟩; (focus (have hBw := hw'.1; have hSw := hw'.2; clear hw'; (try dsimp only at hBw hSw); go_simp; first | with_reducible exact Lin.lin_value | with_reducible exact Lin.lin_skip)); (try simp only [Act.put, List.setIfInBounds_toArray, List.set_cons_zero, List.set_cons_succ]))
    iterate 2 (refine Lin.bl_val rfl rfl rfl ?_; apply Exists.intro; refine ⟨fun w' hw' => ?_, ?_⟩; (focus (have hBw := hw'.1; have hSw := hw'.2; clear hw'; (try dsimp only at hBw hSw); go_simp; first | with_reducible exact Lin.lin_value | with_reducible exact Lin.lin_skip)); (try simp only [Act.put, List.setIfInBounds_toArray, List.set_cons_zero, List.set_cons_succ]))
    (refine Lin.bl_val rfl rfl (by kernel_rfl) ?_; apply Exists.intro; refine ⟨fun w' hw' => ?_, ?_⟩; (focus (have hBw := hw'.1; have hSw := hw'.2; clear hw'; (try dsimp only at hBw hSw); have lay' : Laid w' := Laid.below lay_W2 hBw; (try have layE' : LaidE w' := LaidE.below layE_W2 hBw); go_simp; first | exact Lin.lin_ret (toint_Int f k m h l _) (by rw [a0.out, a1.out]) | exact Lin.lin_ret (ref26_Int f k m h l _) (by rw [a0.out, a1.out]) | exact Lin.lin_ret (toint_Least k _) (by rw [a2.out]) | exact Lin.lin_ret (toint_Most k _) (by rw [a3.out]) | with_reducible exact Lin.lin_ret (hSL _ lay' (RN.later hR_uL hBw)) rfl | with_reducible exact Lin.lin_ret (hSM _ lay' (RN.later hR_uM hBw)) rfl | exact Lin.lin_ret (toint_KnownE k _) rfl | exact Lin.lin_ret (law26_goes _) rfl)); (try simp only [Act.put, List.setIfInBounds_toArray, List.set_cons_zero, List.set_cons_succ]))
    (refine Lin.bl_val rfl rfl rfl ?_; apply Exists.intro; refine ⟨fun w' hw' => ?_, ?_⟩; (focus (have hBw := hw'.1; have hSw := hw'.2; clear hw'; (try dsimp only at hBw hSw); go_simp; first | with_reducible exact Lin.lin_value | with_reducible exact Lin.lin_skip)); (try simp only [Act.put, List.setIfInBounds_toArray, List.set_cons_zero, List.set_cons_succ]))
    refine Lin.bl_rest rfl ?_
    refine Lin.bl_end ?_
    refine Lin.fin0 (fun wa wb hc hb => ⟨hc.1.trans (hb.mono hc.1.size), cell_later hb hc.2.1, cell_later hb hc.2.2⟩) (by kernel_rfl) ?_
    intro X hw_X
    have hb_X := hw_X.1; clear hw_X
    have lay_X : Laid X := Laid.below lay_W2 hb_X; (try have layE_X : LaidE X := LaidE.below layE_W2 hb_X)
    (replace cc1 := cl hb_X cc1; replace cc2 := cl hb_X cc2; replace hR_uL := RN.later hR_uL hb_X; replace hR_uM := RN.later hR_uM hb_X; replace hBW := below_after hBW hb_X; have hsb_X := hb_X.size; have hn_X := nl cc1)
    (refine wpAny_ready (rs := [38]) (by kernel_rfl) (by simp) ?_; refine AllReady.cons rfl (fun K hK => ?_) AllReady.nil; go_simp; refine hK _ _ ?_; clear hK K)
    refine wpAny_done (by kernel_rfl) ?_ _
    apply_assumption
    (first | refine wp_rename ?_ | refine goal_rename ?_); intro X_ hw_X; subst hw_X
    go_wp2_with fail
    go_returns
    exact ⟨rfl, by go_grown⟩
  · subst hpos
    go_enter Tryd.func7, Tryd.ntmps7
    skip
    (go_wp2_with fail; refine (ref_Ends k _).mono ?_; rw [hL.out, hMo.out]; rintro en v1 ⟨⟨uL, uM, rfl, hR_uL, hR_uM⟩, hB_v1⟩; have lay_v1 := laid_after hB_v1; (try have layE_v1 := laidE_after hB_v1); have cc1 := cl hB_v1 (show World.cell? _ ⟨w.heap.size, 0, none⟩ = some (.int .u64 h) by go_simp); have cc2 := cl hB_v1 (show World.cell? _ ⟨w.heap.size, 1, none⟩ = some (.int .u64 l) by go_simp); have hs_v1 := hB_v1.size; (try simp only [World.size_alloc, World.size_setCell, World.size_drew] at hs_v1); have hBW : Below w.heap.size w v1 := below_after (w := w) (by go_grown) hB_v1; have hn_v1 := nl cc1; clear hB_v1)
    obtain ⟨qL, cL, hv, _, _⟩ := id hR_uL
    rw [hdL.out] at hv
    subst hv
    have hSL : ∀ W' : World, Laid W' → RN W' (.slice qL 0 cL) L → Calls Tryd.prog 26 #[.slice qL 0 cL, .bool false] W' fun e w'' => e = .returned (.int .u64 yl) ∧ Below W'.heap.size W' w'' := fun W' hl hr => ref26_Signed L false yl _ W' hr lL b2
    have hSM : ∀ W' : World, Laid W' → RN W' uM M → Calls Tryd.prog 26 #[uM, .bool false] W' fun e w'' => e = .returned (.int .u64 ym) ∧ Below W'.heap.size W' w'' := fun W' hl hr => ref26_Signed M false ym _ W' hr lM b3
    go_upto_region 2 with fail
    ((first | refine wp_rename ?_ | refine goal_rename ?_); intro W2 hw_W2; have hG := named cc1 W2 (by rw [hw_W2]; first | with_reducible exact drewN_below (Below.refl _ _) _ | go_grown); replace cc1 := cl hG cc1; replace cc2 := cl hG cc2; replace hR_uL := RN.later hR_uL (w' := W2) (by rw [hw_W2]; first | with_reducible exact drewN_below (Below.refl _ _) _ | go_grown); replace hR_uM := RN.later hR_uM (w' := W2) (by rw [hw_W2]; first | with_reducible exact drewN_below (Below.refl _ _) _ | go_grown); replace hBW := below_after hBW hG; have hs_W2 := hG.size; clear hG; have hn_W2 := nl cc1; have lay_W2 : Laid W2 := Laid.below (w := w) (by assumption) hBW; (try have layE_W2 : LaidE W2 := LaidE.below (w := w) (by assumption) hBW); clear hw_W2)
    refine Lin.wp_region_lin (by kernel_rfl) (by intro _ _ d _ _ h; cases d <;> exact h) (by kernel_rfl) (fun w' => Below W2.heap.size W2 w' ∧ w'.cell? ⟨w.heap.size, 0, none⟩ = some (.int .u64 h) ∧ w'.cell? ⟨w.heap.size, 1, none⟩ = some (.int .u64 l)) ⟨(Below.refl _ _).drew, by go_simp, by go_simp⟩ ?_
    simp only [List.length_cons, List.length_nil, Nat.reduceAdd]
    refine Lin.Blk.out ?_
    iterate 4 (refine Lin.bl_val rfl rfl rfl ?_; apply Exists.intro; refine ⟨fun w' hw' => ?_, ?_⟩; (focus (have hBw := hw'.1; have hSw := hw'.2; clear hw'; (try dsimp only at hBw hSw); go_simp; first | with_reducible exact Lin.lin_value | with_reducible exact Lin.lin_skip)); (try simp only [Act.put, List.setIfInBounds_toArray, List.set_cons_zero, List.set_cons_succ]))
    (refine Lin.bl_val rfl rfl rfl ?_; apply Exists.intro; refine ⟨fun w' hw' => ?_, ?_⟩; (focus (have hBw := hw'.1; have hSw := hw'.2; clear hw'; (try dsimp only at hBw hSw); have lay' : Laid w' := Laid.below lay_W2 hBw; (try have layE' : LaidE w' := LaidE.below layE_W2 hBw); go_simp; first | exact Lin.lin_ret (toint_Int f k m h l _) (by rw [a0.out, a1.out]) | exact Lin.lin_ret (ref26_Int f k m h l _) (by rw [a0.out, a1.out]) | exact Lin.lin_ret (toint_Least k _) (by rw [a2.out]) | exact Lin.lin_ret (toint_Most k _) (by rw [a3.out]) | with_reducible exact Lin.lin_ret (hSL _ lay' (RN.later hR_uL hBw)) rfl | with_reducible exact Lin.lin_ret (hSM _ lay' (RN.later hR_uM hBw)) rfl | exact Lin.lin_ret (toint_KnownE k _) rfl | exact Lin.lin_ret (law26_goes _) rfl)); (try simp only [Act.put, List.setIfInBounds_toArray, List.set_cons_zero, List.set_cons_succ]))
    iterate 4 (refine Lin.bl_val rfl rfl rfl ?_; apply Exists.intro; refine ⟨fun w' hw' => ?_, ?_⟩; (focus (have hBw := hw'.1; have hSw := hw'.2; clear hw'; (try dsimp only at hBw hSw); go_simp; first | with_reducible exact Lin.lin_value | with_reducible exact Lin.lin_skip)); (try simp only [Act.put, List.setIfInBounds_toArray, List.set_cons_zero, List.set_cons_succ]))
    (refine Lin.bl_val rfl rfl rfl ?_; apply Exists.intro; refine ⟨fun w' hw' => ?_, ?_⟩; (focus (have hBw := hw'.1; have hSw := hw'.2; clear hw'; (try dsimp only at hBw hSw); have lay' : Laid w' := Laid.below lay_W2 hBw; (try have layE' : LaidE w' := LaidE.below layE_W2 hBw); go_simp; first | exact Lin.lin_ret (toint_Int f k m h l _) (by rw [a0.out, a1.out]) | exact Lin.lin_ret (ref26_Int f k m h l _) (by rw [a0.out, a1.out]) | exact Lin.lin_ret (toint_Least k _) (by rw [a2.out]) | exact Lin.lin_ret (toint_Most k _) (by rw [a3.out]) | with_reducible exact Lin.lin_ret (hSL _ lay' (RN.later hR_uL hBw)) rfl | with_reducible exact Lin.lin_ret (hSM _ lay' (RN.later hR_uM hBw)) rfl | exact Lin.lin_ret (toint_KnownE k _) rfl | exact Lin.lin_ret (law26_goes _) rfl)); (try simp only [Act.put, List.setIfInBounds_toArray, List.set_cons_zero, List.set_cons_succ]))
    iterate 2 (refine Lin.bl_val rfl rfl rfl ?_; apply Exists.intro; refine ⟨fun w' hw' => ?_, ?_⟩; (focus (have hBw := hw'.1; have hSw := hw'.2; clear hw'; (try dsimp only at hBw hSw); go_simp; first | with_reducible exact Lin.lin_value | with_reducible exact Lin.lin_skip)); (try simp only [Act.put, List.setIfInBounds_toArray, List.set_cons_zero, List.set_cons_succ]))
    (refine Lin.bl_val rfl rfl (by kernel_rfl) ?_; apply Exists.intro; refine ⟨fun w' hw' => ?_, ?_⟩; (focus (have hBw := hw'.1; have hSw := hw'.2; clear hw'; (try dsimp only at hBw hSw); go_simp; first | with_reducible exact Lin.lin_value | with_reducible exact Lin.lin_skip)); (try simp only [Act.put, List.setIfInBounds_toArray, List.set_cons_zero, List.set_cons_succ]))
    (refine Lin.bl_val rfl rfl (by kernel_rfl) ?_; apply Exists.intro; refine ⟨fun w' hw' => ?_, ?_⟩; (focus (have hBw := hw'.1; have hSw := hw'.2; clear hw'; (try dsimp only at hBw hSw); have lay' : Laid w' := Laid.below lay_W2 hBw; (try have layE' : LaidE w' := LaidE.below layE_W2 hBw); go_simp; first | exact Lin.lin_ret (toint_Int f k m h l _) (by rw [a0.out, a1.out]) | exact Lin.lin_ret (ref26_Int f k m h l _) (by rw [a0.out, a1.out]) | exact Lin.lin_ret (toint_Least k _) (by rw [a2.out]) | exact Lin.lin_ret (toint_Most k _) (by rw [a3.out]) | with_reducible exact Lin.lin_ret (hSL _ lay' (RN.later hR_uL hBw)) rfl | with_reducible exact Lin.lin_ret (hSM _ lay' (RN.later hR_uM hBw)) rfl | exact Lin.lin_ret (toint_KnownE k _) rfl | exact Lin.lin_ret (law26_goes _) rfl)); (try simp only [Act.put, List.setIfInBounds_toArray, List.set_cons_zero, List.set_cons_succ]))
    iterate 4 (refine Lin.bl_val rfl rfl (by kernel_rfl) ?_; apply Exists.intro; refine ⟨fun w' hw' => ?_, ?_⟩; (focus (have hBw := hw'.1; have hSw := hw'.2; clear hw'; (try dsimp only at hBw hSw); go_simp; first | with_reducible exact Lin.lin_value | with_reducible exact Lin.lin_skip)); (try simp only [Act.put, List.setIfInBounds_toArray, List.set_cons_zero, List.set_cons_succ]))
    (refine Lin.bl_val rfl rfl (by kernel_rfl) ?_; apply Exists.intro; refine ⟨fun w' hw' => ?_, ?_⟩; (focus (have hBw := hw'.1; have hSw := hw'.2; clear hw'; (try dsimp only at hBw hSw); have lay' : Laid w' := Laid.below lay_W2 hBw; (try have layE' : LaidE w' := LaidE.below layE_W2 hBw); go_simp; first | exact Lin.lin_ret (toint_Int f k m h l _) (by rw [a0.out, a1.out]) | exact Lin.lin_ret (ref26_Int f k m h l _) (by rw [a0.out, a1.out]) | exact Lin.lin_ret (toint_Least k _) (by rw [a2.out]) | exact Lin.lin_ret (toint_Most k _) (by rw [a3.out]) | with_reducible exact Lin.lin_ret (hSL _ lay' (RN.later hR_uL hBw)) rfl | with_reducible exact Lin.lin_ret (hSM _ lay' (RN.later hR_uM hBw)) rfl | exact Lin.lin_ret (toint_KnownE k _) rfl | exact Lin.lin_ret (law26_goes _) rfl)); (try simp only [Act.put, List.setIfInBounds_toArray, List.set_cons_zero, List.set_cons_succ]))
    (refine Lin.bl_val rfl rfl (by kernel_rfl) ?_; apply Exists.intro; refine ⟨fun w' hw' => ?_, ?_⟩; (focus (have hBw := hw'.1; have hSw := hw'.2; clear hw'; (try dsimp only at hBw hSw); go_simp; first | with_reducible exact Lin.lin_value | with_reducible exact Lin.lin_skip)); (try simp only [Act.put, List.setIfInBounds_toArray, List.set_cons_zero, List.set_cons_succ]))
    iterate 2 (refine Lin.bl_val rfl rfl rfl ?_; apply Exists.intro; refine ⟨fun w' hw' => ?_, ?_⟩; (focus (have hBw := hw'.1; have hSw := hw'.2; clear hw'; (try dsimp only at hBw hSw); go_simp; first | with_reducible exact Lin.lin_value | with_reducible exact Lin.lin_skip)); (try simp only [Act.put, List.setIfInBounds_toArray, List.set_cons_zero, List.set_cons_succ]))
    (refine Lin.bl_val rfl rfl (by kernel_rfl) ?_; apply Exists.intro; refine ⟨fun w' hw' => ?_, ?_⟩; (focus (have hBw := hw'.1; have hSw := hw'.2; clear hw'; (try dsimp only at hBw hSw); go_simp; first | with_reducible exact Lin.lin_value | with_reducible exact Lin.lin_skip)); (try simp only [Act.put, List.setIfInBounds_toArray, List.set_cons_zero, List.set_cons_succ]))
    (refine Lin.bl_val rfl rfl (by kernel_rfl) ?_; apply Exists.intro; refine ⟨fun w' hw' => ?_, ?_⟩; (focus (have hBw := hw'.1; have hSw := hw'.2; clear hw'; (try dsimp only at hBw hSw); have lay' : Laid w' := Laid.below lay_W2 hBw; (try have layE' : LaidE w' := LaidE.below layE_W2 hBw); go_simp; first | exact Lin.lin_ret (toint_Int f k m h l _) (by rw [a0.out, a1.out]) | exact Lin.lin_ret (ref26_Int f k m h l _) (by rw [a0.out, a1.out]) | exact Lin.lin_ret (toint_Least k _) (by rw [a2.out]) | exact Lin.lin_ret (toint_Most k _) (by rw [a3.out]) | with_reducible exact Lin.lin_ret (hSL _ lay' (RN.later hR_uL hBw)) rfl | with_reducible exact Lin.lin_ret (hSM _ lay' (RN.later hR_uM hBw)) rfl | exact Lin.lin_ret (toint_KnownE k _) rfl | exact Lin.lin_ret (law26_goes _) rfl)); (try simp only [Act.put, List.setIfInBounds_toArray, List.set_cons_zero, List.set_cons_succ]))
    (refine Lin.bl_val rfl rfl (by kernel_rfl) ?_; apply Exists.intro; refine ⟨fun w' hw' => ?_, ?_⟩; (focus (have hBw := hw'.1; have hSw := hw'.2; clear hw'; (try dsimp only at hBw hSw); go_simp; first | with_reducible exact Lin.lin_value | with_reducible exact Lin.lin_skip)); (try simp only [Act.put, List.setIfInBounds_toArray, List.set_cons_zero, List.set_cons_succ]))
    (refine Lin.bl_val rfl rfl (by kernel_rfl) ?_; apply Exists.intro; refine ⟨fun w' hw' => ?_, ?_⟩; (focus (have hBw := hw'.1; have hSw := hw'.2; clear hw'; (try dsimp only at hBw hSw); have lay' : Laid w' := Laid.below lay_W2 hBw; (try have layE' : LaidE w' := LaidE.below layE_W2 hBw); go_simp; first | exact Lin.lin_ret (toint_Int f k m h l _) (by rw [a0.out, a1.out]) | exact Lin.lin_ret (ref26_Int f k m h l _) (by rw [a0.out, a1.out]) | exact Lin.lin_ret (toint_Least k _) (by rw [a2.out]) | exact Lin.lin_ret (toint_Most k _) (by rw [a3.out]) | with_reducible exact Lin.lin_ret (hSL _ lay' (RN.later hR_uL hBw)) rfl | with_reducible exact Lin.lin_ret (hSM _ lay' (RN.later hR_uM hBw)) rfl | exact Lin.lin_ret (toint_KnownE k _) rfl | exact Lin.lin_ret (law26_goes _) rfl)); (try simp only [Act.put, List.setIfInBounds_toArray, List.set_cons_zero, List.set_cons_succ]))
    (refine Lin.bl_val rfl rfl (by kernel_rfl) ?_; apply Exists.intro; refine ⟨fun w' hw' => ?_, ?_⟩; (focus (have hBw := hw'.1; have hSw := hw'.2; clear hw'; (try dsimp only at hBw hSw); go_simp; first | with_reducible exact Lin.lin_value | with_reducible exact Lin.lin_skip)); (try simp only [Act.put, List.setIfInBounds_toArray, List.set_cons_zero, List.set_cons_succ]))
    iterate 2 (refine Lin.bl_val rfl rfl rfl ?_; apply Exists.intro; refine ⟨fun w' hw' => ?_, ?_⟩; (focus (have hBw := hw'.1; have hSw := hw'.2; clear hw'; (try dsimp only at hBw hSw); go_simp; first | with_reducible exact Lin.lin_value | with_reducible exact Lin.lin_skip)); (try simp only [Act.put, List.setIfInBounds_toArray, List.set_cons_zero, List.set_cons_succ]))
    (refine Lin.bl_val rfl rfl (by kernel_rfl) ?_; apply Exists.intro; refine ⟨fun w' hw' => ?_, ?_⟩; (focus (have hBw := hw'.1; have hSw := hw'.2; clear hw'; (try dsimp only at hBw hSw); go_simp; first | with_reducible exact Lin.lin_value | with_reducible exact Lin.lin_skip)); (try simp only [Act.put, List.setIfInBounds_toArray, List.set_cons_zero, List.set_cons_succ]))
    (refine Lin.bl_val rfl rfl (by kernel_rfl) ?_; apply Exists.intro; refine ⟨fun w' hw' => ?_, ?_⟩; (focus (have hBw := hw'.1; have hSw := hw'.2; clear hw'; (try dsimp only at hBw hSw); have lay' : Laid w' := Laid.below lay_W2 hBw; (try have layE' : LaidE w' := LaidE.below layE_W2 hBw); go_simp; first | exact Lin.lin_ret (toint_Int f k m h l _) (by rw [a0.out, a1.out]) | exact Lin.lin_ret (ref26_Int f k m h l _) (by rw [a0.out, a1.out]) | exact Lin.lin_ret (toint_Least k _) (by rw [a2.out]) | exact Lin.lin_ret (toint_Most k _) (by rw [a3.out]) | with_reducible exact Lin.lin_ret (hSL _ lay' (RN.later hR_uL hBw)) rfl | with_reducible exact Lin.lin_ret (hSM _ lay' (RN.later hR_uM hBw)) rfl | exact Lin.lin_ret (toint_KnownE k _) rfl | exact Lin.lin_ret (law26_goes _) rfl)); (try simp only [Act.put, List.setIfInBounds_toArray, List.set_cons_zero, List.set_cons_succ]))
    iterate 3 (refine Lin.bl_val rfl rfl (by kernel_rfl) ?_; apply Exists.intro; refine ⟨fun w' hw' => ?_, ?_⟩; (focus (have hBw := hw'.1; have hSw := hw'.2; clear hw'; (try dsimp only at hBw hSw); go_simp; first | with_reducible exact Lin.lin_value | with_reducible exact Lin.lin_skip)); (try simp only [Act.put, List.setIfInBounds_toArray, List.set_cons_zero, List.set_cons_succ]))
    iterate 2 (refine Lin.bl_val rfl rfl rfl ?_; apply Exists.intro; refine ⟨fun w' hw' => ?_, ?_⟩; (focus (have hBw := hw'.1; have hSw := hw'.2; clear hw'; (try dsimp only at hBw hSw); go_simp; first | with_reducible exact Lin.lin_value | with_reducible exact Lin.lin_skip)); (try simp only [Act.put, List.setIfInBounds_toArray, List.set_cons_zero, List.set_cons_succ]))
    (refine Lin.bl_val rfl rfl (by kernel_rfl) ?_; apply Exists.intro; refine ⟨fun w' hw' => ?_, ?_⟩; (focus (have hBw := hw'.1; have hSw := hw'.2; clear hw'; (try dsimp only at hBw hSw); have lay' : Laid w' := Laid.below lay_W2 hBw; (try have layE' : LaidE w' := LaidE.below layE_W2 hBw); go_simp; first | exact Lin.lin_ret (toint_Int f k m h l _) (by rw [a0.out, a1.out]) | exact Lin.lin_ret (ref26_Int f k m h l _) (by rw [a0.out, a1.out]) | exact Lin.lin_ret (toint_Least k _) (by rw [a2.out]) | exact Lin.lin_ret (toint_Most k _) (by rw [a3.out]) | with_reducible exact Lin.lin_ret (hSL _ lay' (RN.later hR_uL hBw)) rfl | with_reducible exact Lin.lin_ret (hSM _ lay' (RN.later hR_uM hBw)) rfl | exact Lin.lin_ret (toint_KnownE k _) rfl | exact Lin.lin_ret (law26_goes _) rfl)); (try simp only [Act.put, List.setIfInBounds_toArray, List.set_cons_zero, List.set_cons_succ]))
    (refine Lin.bl_val rfl rfl rfl ?_; apply Exists.intro; refine ⟨fun w' hw' => ?_, ?_⟩; (focus (have hBw := hw'.1; have hSw := hw'.2; clear hw'; (try dsimp only at hBw hSw); go_simp; first | with_reducible exact Lin.lin_value | with_reducible exact Lin.lin_skip)); (try simp only [Act.put, List.setIfInBounds_toArray, List.set_cons_zero, List.set_cons_succ]))
    refine Lin.bl_rest rfl ?_
    refine Lin.bl_end ?_
    refine Lin.fin0 (fun wa wb hc hb => ⟨hc.1.trans (hb.mono hc.1.size), cell_later hb hc.2.1, cell_later hb hc.2.2⟩) (by kernel_rfl) ?_
    intro X hw_X
    have hb_X := hw_X.1; clear hw_X
    have lay_X : Laid X := Laid.below lay_W2 hb_X; (try have layE_X : LaidE X := LaidE.below layE_W2 hb_X)
    (replace cc1 := cl hb_X cc1; replace cc2 := cl hb_X cc2; replace hR_uL := RN.later hR_uL hb_X; replace hR_uM := RN.later hR_uM hb_X; replace hBW := below_after hBW hb_X; have hsb_X := hb_X.size; have hn_X := nl cc1)
    (refine wpAny_ready (rs := [38]) (by kernel_rfl) (by simp) ?_; refine AllReady.cons rfl (fun K hK => ?_) AllReady.nil; go_simp; refine hK _ _ ?_; clear hK K)
    refine wpAny_done (by kernel_rfl) ?_ _
    apply_assumption
    (first | refine wp_rename ?_ | refine goal_rename ?_); intro X_ hw_X; subst hw_X
    go_wp2_with fail
    go_returns
    exact ⟨rfl, by go_grown⟩
theorem walk_TointAll (f k m h l : Int) [hU : U8 f] [hK : U8 k] [hM : U8 m] [U64 h] [U64 l] (w : World) [hLay : Laid w] [hLE : LaidE w] :
    Calls Tryd.prog 7 #[.int .u8 f, .int .u8 k, .int .u8 m, .agg #[.int .u64 (h), .int .u64 (l)]] w fun en w' => en = .returned (.bool true) ∧ Below w.heap.size w w' := by
  have b1 := U64.ge (x := leastK k)
  have b2 := U64.lt (x := leastK k)
  have b3 := U64.ge (x := mostK k)
  have b4 := U64.lt (x := mostK k)
  have hd : dl (leastK k).toNat > 0 ↔ (leastK k).toNat ≠ 0 := by
    constructor
    · intro h hz; rw [hz, dl_zero] at h; omega
    · intro h; have := dl_pos _ h; omega
  refine all26_walk f k m h l _ _ _ _ (decide ((leastK k).toNat ≠ 0)) _ _ _ w rfl rfl rfl rfl rfl rfl (by omega) (by omega) rfl ?_ ?_ ?_
  · by_cases hz : (leastK k).toNat = 0
    · exact Or.inr ⟨decide_eq_false (fun h => h hz), by rw [hz, dl_zero]⟩
    · exact Or.inl ⟨decide_eq_true hz, hd.2 hz⟩
  · show lo _ = _
    rw [IntKind.wrap_u64]
    unfold lo
    by_cases hz : (leastK k).toNat = 0
    · rw [decide_eq_false (fun h => h hz)]
      simp only [Bool.false_eq_true, if_false]
      omega
    · rw [decide_eq_true hz]
      simp only [if_true]
      omega
  · show lo _ = _
    simp only [Bool.false_eq_true, if_false]
    unfold lo
    omega
end Go.Proofs.YtgpedgppdggjmaaDoor
