/- addsub.finite in codes: the rounding of the exact sum. -/
import Derived.Test.YtkldkchkhblndaaGreatDoorSumX
import Derived.Test.YtkldkchkhblndaaGreatDoorRintN
set_option linter.unusedSimpArgs false
set_option linter.unusedVariables false
namespace Go.Proofs.YtkldkchkhblndaaGreatDoor
open Go.RowKit Go.Hb
theorem lev_comm (e : Int) (a : Nat) (e' : Int) (b : Nat) : levS e' b e a = levS e a e' b := by
  unfold levS
  by_cases ha : a = 0 <;> by_cases hb : b = 0 <;> simp [ha, hb, Int.max_comm]
theorem floor_zero_X (p B X : Nat) (hp : 1 ≤ p) (h1 : floorC p B X = 0) (h2 : restC p B X = 0) : X = 0 := by
  rcases rest_zero p B X h2 with h | h
  · rw [h1, valC_zero] at h; exact h
  · rw [h1, valC_zero] at h; omega
theorem numX_pos (K e : Int) (v : Nat) (h : numX K e v = 0) : v = 0 := by
  unfold numX at h
  rcases Nat.mul_eq_zero.1 h with h | h
  · exact h
  · have := Nat.two_pow_pos (farS e + K).toNat; omega
theorem fin_zero (K e e' : Int) (s t : Bool) (S S' : Nat) (hS : S = 0 ∨ 2 ^ 127 ≤ S) (hS' : S' = 0 ∨ 2 ^ 127 ≤ S') (hl : S < 2 ^ 128) (hl' : S' < 2 ^ 128) (h0 : -1000000 ≤ e) (h1 : e ≤ 1000000) (h0' : -1000000 ≤ e') (h1' : e' ≤ 1000000) (hK : 3000000 ≤ K) :
    finV s t e (up128 S) e' (up128 S') = 0 ↔ exactX s t (numX K e (up128 S)) (numX K e' (up128 S')) = 0 := by
  constructor
  · intro h
    obtain ⟨r1, r2⟩ := fin_round 1 0 K e e' s t S S' (by decide) (by decide) hS hS' hl hl' h0 h1 h0' h1' hK
    rw [h, numX_zero, floorC_zero] at r1
    rw [h, numX_zero, restC_zero] at r2
    exact floor_zero_X 1 0 _ (by decide) r1.symm r2.symm
  · intro h
    unfold exactX at h
    unfold finV
    by_cases hst : s = t
    · rw [if_pos hst] at h ⊢
      have z1 := numX_pos K e _ (show numX K e (up128 S) = 0 by omega)
      have z2 := numX_pos K e' _ (show numX K e' (up128 S') = 0 by omega)
      unfold sumV
      rw [z1, z2, jam_zero, jam_zero]
    · rw [if_neg hst] at h ⊢
      have hm := mag_cmp K e e' (up128 S) (up128 S') h0 h1 h0' h1' hK
      rw [cmpN_same (by omega)] at hm
      have hm' : ¬ magC e' (up128 S') e (up128 S) < 0 := by rw [mag_anti e e', hm]; decide
      have g1 := dif_le e (up128 S) e' (up128 S') (by rw [hm]; decide)
      have g2 := dif_le e' (up128 S') e (up128 S) hm'
      rw [lev_comm] at g2
      have hL : difL e (up128 S) e' (up128 S') = false := by unfold difL; rw [hm]; rfl
      unfold difV difE
      rw [hL, if_neg (by decide), if_neg (by decide)]
      omega
theorem codeX_eq {p B X Y : Nat} (m : Int) (g : Bool) (h1 : floorC p B X = floorC p B Y) (h2 : restC p B X = restC p B Y) : codeX p B m g X = codeX p B m g Y := by
  unfold codeX; rw [h1, h2]
theorem flagX_eq (f m : Int) (aft g : Bool) (B X Y : Nat) (h1 : floorC (precS f).toNat B X = floorC (precS f).toNat B Y) (h2 : restC (precS f).toNat B X = restC (precS f).toNat B Y) (h3 : floorC (precS f).toNat 0 X = floorC (precS f).toNat 0 Y) (h4 : restC (precS f).toNat 0 X = restC (precS f).toNat 0 Y) : flagX f m aft g B X = flagX f m aft g B Y := by
  unfold flagX tinyX
  rw [codeX_eq m g h1 h2, codeX_eq m g h3 h4, h1, h2]
theorem unS_cases (f : Int) (v : Nat) (h0 : 0 ≤ f) (hfin : classF f v < 3) : unS f v = 0 ∨ 2 ^ 127 ≤ unS f v := by
  have hbd := classF_bd f v
  by_cases hz : classF f v = 0
  · left; unfold unS; rw [if_neg (by omega), if_neg (by omega)]
  · right
    have h3 : classF f v = 1 ∨ classF f v = 2 := by omega
    unfold unS
    rcases h3 with h | h
    · rw [if_neg (by omega), if_pos h]
      have hf := (class_parts f v h0).1 h
      have hv : fracF f v < 2 ^ 128 := Nat.lt_trans (fracF_lt f v h0) (by decide)
      have h1 : by128 (fracF f v) = 128 - (blen (fracF f v) : Int) := by unfold by128; rw [if_neg hf.2.2]
      have hb := by128_bd (fracF f v) hv
      have h2 := blen_le (fracF f v) hf.2.2
      have hpos : 1 ≤ blen (fracF f v) := by
        have h3 := blen_lt (fracF f v)
        rcases Nat.eq_zero_or_pos (blen (fracF f v)) with h | h
        · rw [h] at h3; have := hf.2.2; omega
        · exact h
      unfold raise128
      have := Nat.mul_le_mul_right (2 ^ (by128 (fracF f v)).toNat) h2
      rw [← Nat.pow_add, show blen (fracF f v) - 1 + (by128 (fracF f v)).toNat = 127 by omega] at this
      exact this
    · rw [if_pos h]
      unfold nrm
      have : cat 9223372036854775808 0 = 2 ^ 127 := by decide
      rw [this]; exact Nat.le_add_left _ _
def sumX (f : Int) (x y : Nat) : Nat := exactX (sgnF f x) (sgnF f y) (valC (precS f).toNat (unitB f KK) (codeF f x)) (valC (precS f).toNat (unitB f KK) (codeF f y))
/-- The sign of a sum. -/
def sumG (f m : Int) (x y : Nat) : Bool := if sumX f x y = 0 then nouB m (sgnF f x) (sgnF f y) else if sgnF f x = sgnF f y then sgnF f x else (sgnF f x != decide (codeF f x < codeF f y))
theorem fin_lt (s t : Bool) (e : Int) (a : Nat) (e' : Int) (b : Nat) (ha : a < 2 ^ 256) (hb : b < 2 ^ 256) : finV s t e a e' b < 2 ^ 256 := by
  unfold finV
  split
  · exact sum_bd e a e' b ha hb
  · exact dif_bd e a e' b ha hb
/-- A sum of finite numbers is the exact sum, rounded. -/
theorem add_code (f m : Int) (aft : Bool) (x y : Nat) (h0 : 0 ≤ f) (hf : f < 4) (hm : m ≤ 4) (hx : classF f x < 3) (hy : classF f y < 3) :
    addB f m x y = endC f m (sumG f m x y) (codeX (precS f).toNat (unitB f KK) m (sumG f m x y) (sumX f x y)) + signN f (sumG f m x y) ∧ addFl f m aft x y = flagX f m aft (sumG f m x y) (unitB f KK) (sumX f x y) := by
  obtain ⟨p0, p1, p2⟩ := prec_emax f h0 hf
  have hK : (3000000 : Int) ≤ KK := by decide
  obtain ⟨b1, b2⟩ := un_bd f x h0
  obtain ⟨b3, b4⟩ := un_bd f y h0
  have c1 := unS_cases f x h0 hx
  have c2 := unS_cases f y h0 hy
  have l1 := unS_lt f x h0
  have l2 := unS_lt f y h0
  have v1 := un_val f x h0 hf hx
  have v2 := un_val f y h0 hf hy
  have n1 : nanB f x = false := decide_eq_false (by omega)
  have n2 : nanB f y = false := decide_eq_false (by omega)
  have ff : ¬ (false = true) := by decide
  have e1 : addB f m x y = finB f m (sgnF f x) (sgnF f y) (unE f x) (up128 (unS f x)) (unE f y) (up128 (unS f y)) := by
    unfold addB; rw [if_pos ⟨hf, hm⟩, n1, if_neg ff, n2, if_neg ff, if_neg (by omega), if_neg (by omega)]
  have e2 : addFl f m aft x y = finFl f m aft (sgnF f x) (sgnF f y) (unE f x) (up128 (unS f x)) (unE f y) (up128 (unS f y)) := by
    unfold addFl; rw [if_pos ⟨hf, hm⟩, n1, n2, Bool.or_false, if_neg ff, if_neg (by omega), if_neg (by omega)]
  have hz := fin_zero KK (unE f x) (unE f y) (sgnF f x) (sgnF f y) (unS f x) (unS f y) c1 c2 l1 l2 b1 b2 b3 b4 hK
  rw [v1, v2] at hz
  have hG : finS m (sgnF f x) (sgnF f y) (unE f x) (up128 (unS f x)) (unE f y) (up128 (unS f y)) = sumG f m x y := by
    unfold finS sumG
    by_cases hv : finV (sgnF f x) (sgnF f y) (unE f x) (up128 (unS f x)) (unE f y) (up128 (unS f y)) = 0
    · rw [if_pos hv, if_pos (show sumX f x y = 0 from hz.1 hv)]
    · rw [if_neg hv, if_neg (show ¬ sumX f x y = 0 from fun h => hv (hz.2 h))]
      have hd : difL (unE f x) (up128 (unS f x)) (unE f y) (up128 (unS f y)) = decide (codeF f x < codeF f y) := by
        unfold difL
        rw [mag_cmp KK _ _ _ _ b1 b2 b3 b4 hK, v1, v2, decide_eq_decide]
        rcases Nat.lt_trichotomy (codeF f x) (codeF f y) with h | h | h
        · rw [cmpN_lt (valC_lt _ _ h)]; exact ⟨fun _ => h, fun _ => by decide⟩
        · rw [h, cmpN_same rfl]; exact ⟨fun h => absurd h (by decide), fun h => absurd h (Nat.lt_irrefl _)⟩
        · rw [cmpN_gt (valC_lt _ _ h)]; exact ⟨fun h => absurd h (by decide), fun h2 => by omega⟩
      rw [hd]
  have hv := fin_lt (sgnF f x) (sgnF f y) (unE f x) (up128 (unS f x)) (unE f y) (up128 (unS f y)) (up128_lt _ l1) (up128_lt _ l2)
  obtain ⟨r1, r2⟩ := fin_round (precS f).toNat (unitB f KK) KK (unE f x) (unE f y) (sgnF f x) (sgnF f y) (unS f x) (unS f y) (by omega) (by omega) c1 c2 l1 l2 b1 b2 b3 b4 hK
  obtain ⟨r3, r4⟩ := fin_round (precS f).toNat 0 KK (unE f x) (unE f y) (sgnF f x) (sgnF f y) (unS f x) (unS f y) (by omega) (by omega) c1 c2 l1 l2 b1 b2 b3 b4 hK
  rw [v1, v2] at r1 r2 r3 r4
  rw [e1, e2]
  unfold finB finFl
  rw [hG, res_code f m _ _ _ h0 hf hm hv, res_flag f m aft _ _ _ h0 hf hm hv]
  constructor
  · unfold codeR
    rw [codeX_eq m (sumG f m x y) r1 r2]
    rfl
  · exact flagX_eq f m aft (sumG f m x y) _ _ _ r1 r2 r3 r4
end Go.Proofs.YtkldkchkhblndaaGreatDoor
