/- The plain law of sums: what mag.Sum and mag.Diff jam is rounded as the exact sum, the exact difference. addsub.finite in codes: the rounding of the exact sum. The plain laws of sums: noughts, order, signs turned, what is exact, near numbers. No program in sight. The plain laws of sums: a nought added, sums hang on no order, both signs turned, near numbers. No program in sight. The contract of class.Finite; sizes; what a comparison says. Condition: the listed table is laid. -/
import Derived.Test.YtkpjeceofcfnkaaGreatDoorAdd2
import Derived.Test.YtkpjeceofcfnkaaGreatDoorRintN
import Derived.Test.YtkpjeceofcfnkaaGreatDoorComp2
import Derived.Test.YtkpjeceofcfnkaaGreatDoorMagK
set_option linter.unusedSimpArgs false
set_option linter.unusedVariables false
namespace Go.Proofs.YtkpjeceofcfnkaaGreatDoor
open Go.RowKit Go.Hb
theorem blen_ge (v m : Nat) (h : 2 ^ m ≤ v) : m + 1 ≤ blen v := by
  have h1 := blen_lt v
  rcases Nat.lt_or_ge m (blen v) with h2 | h2
  · exact h2
  · have := Nat.pow_le_pow_right (show 0 < 2 by decide) h2; omega
theorem or_one (q : Nat) : q ||| 1 = if q % 2 = 1 then q else q + 1 := by
  have := or_bit q 0
  simp only [Nat.pow_zero] at this
  rw [this, Nat.testBit_zero]
  by_cases h : q % 2 = 1
  · rw [if_pos (decide_eq_true h), if_pos h]
  · rw [if_neg (by simpa using h), if_neg h]
theorem jam_add (A b n : Nat) (hA : A % 2 = 0) : A + jamN b n = jamN (A * 2 ^ n + b) n := by
  have hp := Nat.two_pow_pos n
  have h1 : (A * 2 ^ n + b) / 2 ^ n = A + b / 2 ^ n := by rw [Nat.add_comm, Nat.add_mul_div_right _ _ hp, Nat.add_comm]
  have h2 : (A * 2 ^ n + b) % 2 ^ n = b % 2 ^ n := by rw [Nat.add_comm, Nat.add_mul_mod_self_right]
  unfold jamN
  rw [h1, h2]
  split
  · rfl
  · rw [or_one, or_one]
    split <;> split <;> omega
theorem jam_sub (A b n : Nat) (hA : A % 2 = 0) (hb : b ≤ A * 2 ^ n) : A - jamN b n = jamN (A * 2 ^ n - b) n := by
  have hp := Nat.two_pow_pos n
  have hd := Nat.div_add_mod b (2 ^ n)
  have hm := Nat.mod_lt b hp
  generalize hq : b / 2 ^ n = q at *
  generalize hr : b % 2 ^ n = r at *
  rw [Nat.mul_comm] at hd
  by_cases hz : r = 0
  · have hle : q ≤ A := by
      rcases Nat.lt_or_ge A q with h | h
      · have := Nat.mul_le_mul_right (2 ^ n) (show A + 1 ≤ q from h)
        rw [Nat.succ_mul] at this
        omega
      · exact h
    have e : A * 2 ^ n - b = (A - q) * 2 ^ n := by rw [Nat.sub_mul]; omega
    have h1 : (A * 2 ^ n - b) / 2 ^ n = A - q := by rw [e, Nat.mul_div_cancel _ hp]
    have h2 : (A * 2 ^ n - b) % 2 ^ n = 0 := by rw [e, Nat.mul_mod_left]
    unfold jamN
    rw [hq, hr, if_pos hz, if_pos h2, h1]
  · have hlt : q + 1 ≤ A := by
      rcases Nat.lt_or_ge q A with h | h
      · exact h
      · have := Nat.mul_le_mul_right (2 ^ n) h
        omega
    have e : A * 2 ^ n - b = (A - q - 1) * 2 ^ n + (2 ^ n - r) := by
      have h3 : A * 2 ^ n = (A - q - 1) * 2 ^ n + q * 2 ^ n + 2 ^ n := by
        rw [← Nat.add_mul, ← Nat.succ_mul]; congr 1; omega
      omega
    have h1 : (A * 2 ^ n - b) / 2 ^ n = A - q - 1 := by
      rw [e, Nat.add_comm, Nat.add_mul_div_right _ _ hp, Nat.div_eq_of_lt (by omega), Nat.zero_add]
    have h2 : (A * 2 ^ n - b) % 2 ^ n = 2 ^ n - r := by
      rw [e, Nat.add_comm, Nat.add_mul_mod_self_right, Nat.mod_eq_of_lt (by omega)]
    unfold jamN
    rw [hq, hr, if_neg hz, h2, if_neg (by omega), h1, or_one, or_one]
    split <;> split <;> omega
/-- What is jammed is rounded as what it is made of. -/
theorem jam_any (p B V n k : Nat) (hp : 1 ≤ p) (h : V % 2 ^ n = 0 ∨ p + 2 + n ≤ blen V) : floorC p B (jamN V n * 2 ^ (k + n)) = floorC p B (V * 2 ^ k) ∧ restC p B (jamN V n * 2 ^ (k + n)) = restC p B (V * 2 ^ k) := by
  rcases h with h | h
  · have e : jamN V n * 2 ^ (k + n) = V * 2 ^ k := by
      unfold jamN
      rw [if_pos h, Nat.pow_add, Nat.mul_comm (2 ^ k), ← Nat.mul_assoc]
      congr 1
      have := Nat.div_add_mod V (2 ^ n)
      rw [h, Nat.mul_comm] at this
      omega
    rw [e]
    exact ⟨rfl, rfl⟩
  · exact jam_same p B V n k hp h
theorem mul_dvd (x m n : Nat) (h : n ≤ m) : x * 2 ^ m % 2 ^ n = 0 := by
  rw [show m = (m - n) + n by omega, Nat.pow_add, ← Nat.mul_assoc, Nat.mul_mod_left]
theorem sum_same (p B a b n k : Nat) (hp : 1 ≤ p) (hp2 : p ≤ 128) (ha : 2 ^ 127 ≤ a) : floorC p B ((a * 2 ^ 127 + jamN (b * 2 ^ 128) n) * 2 ^ (k + n)) = floorC p B ((a * 2 ^ 127 * 2 ^ n + b * 2 ^ 128) * 2 ^ k) ∧ restC p B ((a * 2 ^ 127 + jamN (b * 2 ^ 128) n) * 2 ^ (k + n)) = restC p B ((a * 2 ^ 127 * 2 ^ n + b * 2 ^ 128) * 2 ^ k) := by
  have hev : a * 2 ^ 127 % 2 = 0 := mul_dvd a 127 1 (by decide)
  rw [jam_add _ _ _ hev]
  refine jam_any p B _ n k hp ?_
  by_cases hn : n ≤ 128
  · left
    rw [Nat.add_comm, Nat.add_mul_mod_self_right]
    exact mul_dvd b 128 n hn
  · right
    have h1 : 2 ^ (254 + n) ≤ a * 2 ^ 127 * 2 ^ n + b * 2 ^ 128 := by
      have h2 := Nat.mul_le_mul_right (2 ^ n) (Nat.mul_le_mul_right (2 ^ 127) ha)
      rw [← Nat.pow_add, ← Nat.pow_add] at h2
      exact Nat.le_trans h2 (Nat.le_add_right _ _)
    have := blen_ge _ _ h1
    omega
theorem dif_same (p B a b n k : Nat) (hp : 1 ≤ p) (hp2 : p ≤ 128) (ha : 2 ^ 127 ≤ a) (hb2 : b < 2 ^ 128) (hb : b * 2 ^ 128 ≤ a * 2 ^ 128 * 2 ^ n) : floorC p B ((a * 2 ^ 128 - jamN (b * 2 ^ 128) n) * 2 ^ (k + n)) = floorC p B ((a * 2 ^ 128 * 2 ^ n - b * 2 ^ 128) * 2 ^ k) ∧ restC p B ((a * 2 ^ 128 - jamN (b * 2 ^ 128) n) * 2 ^ (k + n)) = restC p B ((a * 2 ^ 128 * 2 ^ n - b * 2 ^ 128) * 2 ^ k) := by
  have hev : a * 2 ^ 128 % 2 = 0 := mul_dvd a 128 1 (by decide)
  rw [jam_sub _ _ _ hev hb]
  refine jam_any p B _ n k hp ?_
  by_cases hn : n ≤ 128
  · left
    have e : a * 2 ^ 128 * 2 ^ n - b * 2 ^ 128 = (a * 2 ^ n - b) * 2 ^ 128 := by
      rw [Nat.sub_mul, Nat.mul_right_comm]
    rw [e]
    exact mul_dvd _ 128 n hn
  · right
    have h1 : 2 ^ (254 + n) ≤ a * 2 ^ 128 * 2 ^ n - b * 2 ^ 128 := by
      have h2 := Nat.mul_le_mul_right (2 ^ n) (Nat.mul_le_mul_right (2 ^ 128) ha)
      rw [← Nat.pow_add, ← Nat.pow_add] at h2
      have h3 : b * 2 ^ 128 < 2 ^ 128 * 2 ^ 128 := Nat.mul_lt_mul_of_pos_right hb2 (Nat.two_pow_pos _)
      rw [← Nat.pow_add] at h3
      have h4 : (2 : Nat) ^ (128 + 128) ≤ 2 ^ (254 + n) := Nat.pow_le_pow_right (by decide) (by omega)
      have h5 : (2 : Nat) ^ (127 + 128 + n) = 2 ^ (254 + n) + 2 ^ (254 + n) := by
        rw [show 127 + 128 + n = (254 + n) + 1 by omega, Nat.pow_succ]; omega
      omega
    have := blen_ge _ _ h1
    omega
theorem jam_half1 (S : Nat) : jamS (up128 S) 1 = S * 2 ^ 127 := by
  rw [jamS_N]
  have h1 : up128 S = S * 2 ^ 127 * 2 ^ 1 := by unfold up128; rw [Nat.mul_assoc, ← Nat.pow_add]
  have e : (1 : Int).toNat = 1 := rfl
  rw [e, h1]
  unfold jamN
  rw [Nat.mul_mod_left, if_pos rfl, Nat.mul_div_cancel _ (Nat.two_pow_pos 1)]
theorem half_num (K e : Int) (S : Nat) (h0 : -1000000 ≤ e) (h1 : e ≤ 1000000) (hK : 3000000 ≤ K) : numX K (e + 1) (S * 2 ^ 127) = numX K e (up128 S) := by
  rw [numX_in K _ _ (by omega) (by omega), numX_in K _ _ h0 (by omega)]
  unfold up128
  rw [show (e + 1 + K).toNat = 1 + (e + K).toNat by omega, Nat.pow_add, ← Nat.mul_assoc, Nat.mul_assoc S, ← Nat.pow_add]
theorem up_zero : up128 0 = 0 := by unfold up128; rw [Nat.zero_mul]
theorem up_ne (S : Nat) (h : S ≠ 0) : up128 S ≠ 0 := by
  unfold up128
  have := Nat.mul_pos (Nat.pos_of_ne_zero h) (Nat.two_pow_pos 128)
  omega
theorem sum_ge (p B : Nat) (K e e' : Int) (S S' : Nat) (hp : 1 ≤ p) (hp2 : p ≤ 128) (hS : 2 ^ 127 ≤ S) (h0 : -1000000 ≤ e') (h1 : e ≤ 1000000) (hee : e' ≤ e) (hK : 3000000 ≤ K) :
    floorC p B (numX K (e + 1) (jamS (up128 S) (e + 1 - e) + jamS (up128 S') (e + 1 - e'))) = floorC p B (numX K e (up128 S) + numX K e' (up128 S')) ∧ restC p B (numX K (e + 1) (jamS (up128 S) (e + 1 - e) + jamS (up128 S') (e + 1 - e'))) = restC p B (numX K e (up128 S) + numX K e' (up128 S')) := by
  have a1 : e + 1 - e = 1 := by omega
  have hn : (e + 1 - e').toNat = (e - e').toNat + 1 := by omega
  have hX : numX K e (up128 S) + numX K e' (up128 S') = (S * 2 ^ 127 * 2 ^ (e + 1 - e').toNat + S' * 2 ^ 128) * 2 ^ (e' + K).toNat := by
    rw [← half_num K e S (by omega) h1 hK, numX_in K _ _ (by omega) (by omega), numX_in K _ _ h0 (by omega), Nat.add_mul]
    rw [show (e + 1 + K).toNat = (e + 1 - e').toNat + (e' + K).toNat by omega, Nat.pow_add, ← Nat.mul_assoc]
    rfl
  rw [a1, jam_half1, jamS_N, hX, numX_in K _ _ (by omega) (by omega), show (e + 1 + K).toNat = (e' + K).toNat + (e + 1 - e').toNat by omega]
  exact sum_same p B S S' _ _ hp hp2 hS
theorem sum_round (p B : Nat) (K e e' : Int) (S S' : Nat) (hp : 1 ≤ p) (hp2 : p ≤ 128) (hS : S = 0 ∨ 2 ^ 127 ≤ S) (hS' : S' = 0 ∨ 2 ^ 127 ≤ S') (h0 : -1000000 ≤ e) (h1 : e ≤ 1000000) (h0' : -1000000 ≤ e') (h1' : e' ≤ 1000000) (hK : 3000000 ≤ K) :
    floorC p B (numX K (sumE e (up128 S) e' (up128 S')) (sumV e (up128 S) e' (up128 S'))) = floorC p B (numX K e (up128 S) + numX K e' (up128 S')) ∧ restC p B (numX K (sumE e (up128 S) e' (up128 S')) (sumV e (up128 S) e' (up128 S'))) = restC p B (numX K e (up128 S) + numX K e' (up128 S')) := by
  have h127 : 0 < 2 ^ 127 := Nat.two_pow_pos 127
  unfold sumV
  rcases hS with hS | hS
  · subst hS
    rw [up_zero, jam_zero, numX_zero, Nat.zero_add, Nat.zero_add]
    rcases hS' with hS' | hS'
    · subst hS'
      rw [up_zero, jam_zero, numX_zero, numX_zero]
      exact ⟨rfl, rfl⟩
    · have hE : sumE e 0 e' (up128 S') = e' + 1 := by unfold sumE levS; rw [if_pos ⟨rfl, up_ne _ (by omega)⟩]
      rw [hE, show e' + 1 - e' = 1 by omega, jam_half1, half_num K e' S' h0' h1' hK]
      exact ⟨rfl, rfl⟩
  · have hz : up128 S ≠ 0 := up_ne _ (by omega)
    rcases hS' with hS' | hS'
    · subst hS'
      have hE : sumE e (up128 S) e' (up128 0) = e + 1 := by unfold sumE levS; rw [if_neg (fun h => hz h.1), if_pos ⟨up_zero, hz⟩]
      rw [hE, show e + 1 - e = 1 by omega, jam_half1, up_zero, jam_zero, numX_zero, Nat.add_zero, Nat.add_zero, half_num K e S h0 h1 hK]
      exact ⟨rfl, rfl⟩
    · have hz' : up128 S' ≠ 0 := up_ne _ (by omega)
      have hE : sumE e (up128 S) e' (up128 S') = max e e' + 1 := by unfold sumE levS; rw [if_neg (fun h => hz h.1), if_neg (fun h => hz' h.1)]
      rw [hE]
      by_cases hee : e' ≤ e
      · rw [show max e e' = e by omega]
        exact sum_ge p B K e e' S S' hp hp2 hS h0' h1 hee hK
      · rw [show max e e' = e' by omega, Nat.add_comm (jamS _ _), Nat.add_comm (numX K e _)]
        exact sum_ge p B K e' e S' S hp hp2 hS' h0 h1' (by omega) hK
theorem jam_none (a : Nat) : jamS a 0 = a := by
  rw [jamS_N]
  have e : (0 : Int).toNat = 0 := rfl
  rw [e]
  unfold jamN
  rw [Nat.pow_zero, Nat.mod_one, if_pos rfl, Nat.div_one]
theorem exp_le (K e e' : Int) (S S' : Nat) (hS : S < 2 ^ 128) (hS' : 2 ^ 127 ≤ S') (h0 : -1000000 ≤ e) (h1 : e ≤ 1000000) (h0' : -1000000 ≤ e') (h1' : e' ≤ 1000000) (hK : 3000000 ≤ K) (h : numX K e' (up128 S') ≤ numX K e (up128 S)) : e' ≤ e := by
  rcases Int.lt_or_le e e' with hlt | hle
  · exfalso
    rw [numX_in K e' _ h0' (by omega), numX_in K e _ h0 (by omega)] at h
    unfold up128 at h
    have a1 : S * 2 ^ 128 * 2 ^ (e + K).toNat < 2 ^ 128 * 2 ^ 128 * 2 ^ (e + K).toNat := Nat.mul_lt_mul_of_pos_right (Nat.mul_lt_mul_of_pos_right hS (Nat.two_pow_pos _)) (Nat.two_pow_pos _)
    have a2 := Nat.mul_le_mul_right (2 ^ (e' + K).toNat) (Nat.mul_le_mul_right (2 ^ 128) hS')
    have a3 : (2 : Nat) ^ 128 * 2 ^ 128 * 2 ^ (e + K).toNat ≤ 2 ^ 127 * 2 ^ 128 * 2 ^ (e' + K).toNat := by
      rw [← Nat.pow_add, ← Nat.pow_add, ← Nat.pow_add, ← Nat.pow_add]
      exact Nat.pow_le_pow_right (by decide) (by omega)
    omega
  · exact hle
theorem dif_ge (p B : Nat) (K e e' : Int) (S S' : Nat) (hp : 1 ≤ p) (hp2 : p ≤ 128) (hS : S = 0 ∨ 2 ^ 127 ≤ S) (hS' : S' = 0 ∨ 2 ^ 127 ≤ S') (hl : S < 2 ^ 128) (hl' : S' < 2 ^ 128) (h0 : -1000000 ≤ e) (h1 : e ≤ 1000000) (h0' : -1000000 ≤ e') (h1' : e' ≤ 1000000) (hK : 3000000 ≤ K)
    (hge : numX K e' (up128 S') ≤ numX K e (up128 S)) :
    floorC p B (numX K (levS e (up128 S) e' (up128 S')) (jamS (up128 S) (levS e (up128 S) e' (up128 S') - e) - jamS (up128 S') (levS e (up128 S) e' (up128 S') - e'))) = floorC p B (numX K e (up128 S) - numX K e' (up128 S')) ∧ restC p B (numX K (levS e (up128 S) e' (up128 S')) (jamS (up128 S) (levS e (up128 S) e' (up128 S') - e) - jamS (up128 S') (levS e (up128 S) e' (up128 S') - e'))) = restC p B (numX K e (up128 S) - numX K e' (up128 S')) := by
  have h127 : 0 < 2 ^ 127 := Nat.two_pow_pos 127
  rcases hS' with hS' | hS'
  · subst hS'
    rw [up_zero, jam_zero, numX_zero, Nat.sub_zero, Nat.sub_zero]
    rcases hS with hS | hS
    · subst hS
      rw [up_zero, jam_zero, numX_zero, numX_zero]; exact ⟨rfl, rfl⟩
    · have hz : up128 S ≠ 0 := up_ne _ (by omega)
      have hE : levS e (up128 S) e' 0 = e := by unfold levS; rw [if_neg (fun h => hz h.1), if_pos ⟨rfl, hz⟩]
      rw [hE, show e - e = 0 by omega, jam_none]
      exact ⟨rfl, rfl⟩
  · have hz' : up128 S' ≠ 0 := up_ne _ (by omega)
    rcases hS with hS | hS
    · exfalso
      subst hS
      rw [up_zero, numX_zero, numX_in K e' _ h0' (by omega)] at hge
      have := Nat.mul_pos (Nat.pos_of_ne_zero hz') (Nat.two_pow_pos (e' + K).toNat)
      omega
    · have hz : up128 S ≠ 0 := up_ne _ (by omega)
      have hee := exp_le K e e' S S' hl hS' h0 h1 h0' h1' hK hge
      have hE : levS e (up128 S) e' (up128 S') = e := by unfold levS; rw [if_neg (fun h => hz h.1), if_neg (fun h => hz' h.1)]; omega
      have hX : numX K e (up128 S) = S * 2 ^ 128 * 2 ^ (e - e').toNat * 2 ^ (e' + K).toNat := by
        rw [numX_in K _ _ h0 (by omega), show (e + K).toNat = (e - e').toNat + (e' + K).toNat by omega, Nat.pow_add, ← Nat.mul_assoc]
        rfl
      have hY : numX K e' (up128 S') = S' * 2 ^ 128 * 2 ^ (e' + K).toNat := by rw [numX_in K _ _ h0' (by omega)]; rfl
      have hb : S' * 2 ^ 128 ≤ S * 2 ^ 128 * 2 ^ (e - e').toNat := by
        rw [hX, hY] at hge
        exact Nat.le_of_mul_le_mul_right hge (Nat.two_pow_pos _)
      rw [hE, show e - e = 0 by omega, jam_none, jamS_N, hX, hY, ← Nat.sub_mul, numX_in K _ _ h0 (by omega), show (e + K).toNat = (e' + K).toNat + (e - e').toNat by omega]
      exact dif_same p B S S' _ _ hp hp2 hS hl' hb
/-- The exact sum or difference of two sizes. -/
def exactX (s t : Bool) (X Y : Nat) : Nat := if s = t then X + Y else (X - Y) + (Y - X)
theorem fin_round (p B : Nat) (K e e' : Int) (s t : Bool) (S S' : Nat) (hp : 1 ≤ p) (hp2 : p ≤ 128) (hS : S = 0 ∨ 2 ^ 127 ≤ S) (hS' : S' = 0 ∨ 2 ^ 127 ≤ S') (hl : S < 2 ^ 128) (hl' : S' < 2 ^ 128) (h0 : -1000000 ≤ e) (h1 : e ≤ 1000000) (h0' : -1000000 ≤ e') (h1' : e' ≤ 1000000) (hK : 3000000 ≤ K) :
    floorC p B (numX K (finE s t e (up128 S) e' (up128 S')) (finV s t e (up128 S) e' (up128 S'))) = floorC p B (exactX s t (numX K e (up128 S)) (numX K e' (up128 S'))) ∧ restC p B (numX K (finE s t e (up128 S) e' (up128 S')) (finV s t e (up128 S) e' (up128 S'))) = restC p B (exactX s t (numX K e (up128 S)) (numX K e' (up128 S'))) := by
  unfold finE finV exactX
  by_cases hst : s = t
  · rw [if_pos hst, if_pos hst, if_pos hst]
    exact sum_round p B K e e' S S' hp hp2 hS hS' h0 h1 h0' h1' hK
  · rw [if_neg hst, if_neg hst, if_neg hst]
    have hm := mag_cmp K e e' (up128 S) (up128 S') h0 h1 h0' h1' hK
    by_cases hlt : numX K e (up128 S) < numX K e' (up128 S')
    · have hL : difL e (up128 S) e' (up128 S') = true := by unfold difL; rw [hm, cmpN_lt hlt]; rfl
      unfold difV difE
      rw [hL, if_pos rfl, if_pos rfl, Nat.sub_eq_zero_of_le (Nat.le_of_lt hlt), Nat.zero_add]
      exact dif_ge p B K e' e S' S hp hp2 hS' hS hl' hl h0' h1' h0 h1 hK (Nat.le_of_lt hlt)
    · have hL : difL e (up128 S) e' (up128 S') = false := by
        unfold difL
        rw [hm, decide_eq_false_iff_not]
        rcases Nat.lt_or_ge (numX K e' (up128 S')) (numX K e (up128 S)) with h | h
        · rw [cmpN_gt h]; decide
        · rw [cmpN_same (by omega)]; decide
      unfold difV difE
      rw [hL, if_neg (by decide), if_neg (by decide), Nat.sub_eq_zero_of_le (show numX K e' (up128 S') ≤ numX K e (up128 S) by omega), Nat.add_zero]
      exact dif_ge p B K e e' S S' hp hp2 hS hS' hl hl' h0 h1 h0' h1' hK (by omega)
end Go.Proofs.YtkpjeceofcfnkaaGreatDoor

namespace Go.Proofs.YtkpjeceofcfnkaaGreatDoor
open Go.RowKit Go.Hb
theorem lev_comm (e : Int) (a : Nat) (e' : Int) (b : Nat) : levS e' b e a = levS e a e' b := by
  unfold levS
  by_cases ha : a = 0 <;> by_cases hb : b = 0 <;> simp [ha, hb, Int.max_comm]
theorem floor_zero_X (p B X : Nat) (hp : 1 ≤ p) (h1 : floorC p B X = 0) (h2 : restC p B X = 0) : X = 0 := by
  rcases rest_zero p B X h2 with h | h
  · rw [h1, valC_zero] at h; exact h
  · rw [h1, valC_zero] at h; omega
theorem numX_pos (K e : Int) (v : Nat) (h : numX K e v = 0) : v = 0 := by
  unfold numX at h
  rcases Nat.mul_eq_zero.1 h with h | h
  · exact h
  · have := Nat.two_pow_pos (farS e + K).toNat; omega
theorem fin_zero (K e e' : Int) (s t : Bool) (S S' : Nat) (hS : S = 0 ∨ 2 ^ 127 ≤ S) (hS' : S' = 0 ∨ 2 ^ 127 ≤ S') (hl : S < 2 ^ 128) (hl' : S' < 2 ^ 128) (h0 : -1000000 ≤ e) (h1 : e ≤ 1000000) (h0' : -1000000 ≤ e') (h1' : e' ≤ 1000000) (hK : 3000000 ≤ K) :
    finV s t e (up128 S) e' (up128 S') = 0 ↔ exactX s t (numX K e (up128 S)) (numX K e' (up128 S')) = 0 := by
  constructor
  · intro h
    obtain ⟨r1, r2⟩ := fin_round 1 0 K e e' s t S S' (by decide) (by decide) hS hS' hl hl' h0 h1 h0' h1' hK
    rw [h, numX_zero, floorC_zero] at r1
    rw [h, numX_zero, restC_zero] at r2
    exact floor_zero_X 1 0 _ (by decide) r1.symm r2.symm
  · intro h
    unfold exactX at h
    unfold finV
    by_cases hst : s = t
    · rw [if_pos hst] at h ⊢
      have z1 := numX_pos K e _ (show numX K e (up128 S) = 0 by omega)
      have z2 := numX_pos K e' _ (show numX K e' (up128 S') = 0 by omega)
      unfold sumV
      rw [z1, z2, jam_zero, jam_zero]
    · rw [if_neg hst] at h ⊢
      have hm := mag_cmp K e e' (up128 S) (up128 S') h0 h1 h0' h1' hK
      rw [cmpN_same (by omega)] at hm
      have hm' : ¬ magC e' (up128 S') e (up128 S) < 0 := by rw [mag_anti e e', hm]; decide
      have g1 := dif_le e (up128 S) e' (up128 S') (by rw [hm]; decide)
      have g2 := dif_le e' (up128 S') e (up128 S) hm'
      rw [lev_comm] at g2
      have hL : difL e (up128 S) e' (up128 S') = false := by unfold difL; rw [hm]; rfl
      unfold difV difE
      rw [hL, if_neg (by decide), if_neg (by decide)]
      omega
theorem codeX_eq {p B X Y : Nat} (m : Int) (g : Bool) (h1 : floorC p B X = floorC p B Y) (h2 : restC p B X = restC p B Y) : codeX p B m g X = codeX p B m g Y := by
  unfold codeX; rw [h1, h2]
theorem flagX_eq (f m : Int) (aft g : Bool) (B X Y : Nat) (h1 : floorC (precS f).toNat B X = floorC (precS f).toNat B Y) (h2 : restC (precS f).toNat B X = restC (precS f).toNat B Y) (h3 : floorC (precS f).toNat 0 X = floorC (precS f).toNat 0 Y) (h4 : restC (precS f).toNat 0 X = restC (precS f).toNat 0 Y) : flagX f m aft g B X = flagX f m aft g B Y := by
  unfold flagX tinyX
  rw [codeX_eq m g h1 h2, codeX_eq m g h3 h4, h1, h2]
def sumX (f : Int) (x y : Nat) : Nat := exactX (sgnF f x) (sgnF f y) (valC (precS f).toNat (unitB f KK) (codeF f x)) (valC (precS f).toNat (unitB f KK) (codeF f y))
/-- The sign of a sum. -/
def sumG (f m : Int) (x y : Nat) : Bool := if sumX f x y = 0 then nouB m (sgnF f x) (sgnF f y) else if sgnF f x = sgnF f y then sgnF f x else (sgnF f x != decide (codeF f x < codeF f y))
theorem fin_lt (s t : Bool) (e : Int) (a : Nat) (e' : Int) (b : Nat) (ha : a < 2 ^ 256) (hb : b < 2 ^ 256) : finV s t e a e' b < 2 ^ 256 := by
  unfold finV
  split
  · exact sum_bd e a e' b ha hb
  · exact dif_bd e a e' b ha hb
/-- A sum of finite numbers is the exact sum, rounded. -/
theorem add_code (f m : Int) (aft : Bool) (x y : Nat) (h0 : 0 ≤ f) (hf : f < 4) (hm : m ≤ 4) (hx : classF f x < 3) (hy : classF f y < 3) :
    addB f m x y = endC f m (sumG f m x y) (codeX (precS f).toNat (unitB f KK) m (sumG f m x y) (sumX f x y)) + signN f (sumG f m x y) ∧ addFl f m aft x y = flagX f m aft (sumG f m x y) (unitB f KK) (sumX f x y) := by
  obtain ⟨p0, p1, p2⟩ := prec_emax f h0 hf
  have hK : (3000000 : Int) ≤ KK := by decide
  obtain ⟨b1, b2⟩ := un_bd f x h0
  obtain ⟨b3, b4⟩ := un_bd f y h0
  have c1 := unS_cases f x h0 hx
  have c2 := unS_cases f y h0 hy
  have l1 := unS_lt f x h0
  have l2 := unS_lt f y h0
  have v1 := un_val f x h0 hf hx
  have v2 := un_val f y h0 hf hy
  have n1 : nanB f x = false := decide_eq_false (by omega)
  have n2 : nanB f y = false := decide_eq_false (by omega)
  have ff : ¬ (false = true) := by decide
  have e1 : addB f m x y = finB f m (sgnF f x) (sgnF f y) (unE f x) (up128 (unS f x)) (unE f y) (up128 (unS f y)) := by
    unfold addB; rw [if_pos ⟨hf, hm⟩, n1, if_neg ff, n2, if_neg ff, if_neg (by omega), if_neg (by omega)]
  have e2 : addFl f m aft x y = finFl f m aft (sgnF f x) (sgnF f y) (unE f x) (up128 (unS f x)) (unE f y) (up128 (unS f y)) := by
    unfold addFl; rw [if_pos ⟨hf, hm⟩, n1, n2, Bool.or_false, if_neg ff, if_neg (by omega), if_neg (by omega)]
  have hz := fin_zero KK (unE f x) (unE f y) (sgnF f x) (sgnF f y) (unS f x) (unS f y) c1 c2 l1 l2 b1 b2 b3 b4 hK
  rw [v1, v2] at hz
  have hG : finS m (sgnF f x) (sgnF f y) (unE f x) (up128 (unS f x)) (unE f y) (up128 (unS f y)) = sumG f m x y := by
    unfold finS sumG
    by_cases hv : finV (sgnF f x) (sgnF f y) (unE f x) (up128 (unS f x)) (unE f y) (up128 (unS f y)) = 0
    · rw [if_pos hv, if_pos (show sumX f x y = 0 from hz.1 hv)]
    · rw [if_neg hv, if_neg (show ¬ sumX f x y = 0 from fun h => hv (hz.2 h))]
      have hd : difL (unE f x) (up128 (unS f x)) (unE f y) (up128 (unS f y)) = decide (codeF f x < codeF f y) := by
        unfold difL
        rw [mag_cmp KK _ _ _ _ b1 b2 b3 b4 hK, v1, v2, decide_eq_decide]
        rcases Nat.lt_trichotomy (codeF f x) (codeF f y) with h | h | h
        · rw [cmpN_lt (valC_lt _ _ h)]; exact ⟨fun _ => h, fun _ => by decide⟩
        · rw [h, cmpN_same rfl]; exact ⟨fun h => absurd h (by decide), fun h => absurd h (Nat.lt_irrefl _)⟩
        · rw [cmpN_gt (valC_lt _ _ h)]; exact ⟨fun h => absurd h (by decide), fun h2 => by omega⟩
      rw [hd]
  have hv := fin_lt (sgnF f x) (sgnF f y) (unE f x) (up128 (unS f x)) (unE f y) (up128 (unS f y)) (up128_lt _ l1) (up128_lt _ l2)
  obtain ⟨r1, r2⟩ := fin_round (precS f).toNat (unitB f KK) KK (unE f x) (unE f y) (sgnF f x) (sgnF f y) (unS f x) (unS f y) (by omega) (by omega) c1 c2 l1 l2 b1 b2 b3 b4 hK
  obtain ⟨r3, r4⟩ := fin_round (precS f).toNat 0 KK (unE f x) (unE f y) (sgnF f x) (sgnF f y) (unS f x) (unS f y) (by omega) (by omega) c1 c2 l1 l2 b1 b2 b3 b4 hK
  rw [v1, v2] at r1 r2 r3 r4
  rw [e1, e2]
  unfold finB finFl
  rw [hG, res_code f m _ _ _ h0 hf hm hv, res_flag f m aft _ _ _ h0 hf hm hv]
  constructor
  · unfold codeR
    rw [codeX_eq m (sumG f m x y) r1 r2]
    rfl
  · exact flagX_eq f m aft (sumG f m x y) _ _ _ r1 r2 r3 r4
end Go.Proofs.YtkpjeceofcfnkaaGreatDoor

namespace Go.Proofs.YtkpjeceofcfnkaaGreatDoor
open Go.RowKit Go.Hb
theorem valC_dvd (p B c : Nat) : ∃ k, valC p B c = k * 2 ^ B := by
  unfold valC
  split
  · exact ⟨c, rfl⟩
  · exact ⟨(2 ^ (p - 1) + c % 2 ^ (p - 1)) * 2 ^ (c / 2 ^ (p - 1) - 1), by rw [Nat.pow_add, Nat.mul_assoc]⟩
theorem exact_dvd (s t : Bool) (p B c d : Nat) : ∃ k, exactX s t (valC p B c) (valC p B d) = k * 2 ^ B := by
  obtain ⟨a, ha⟩ := valC_dvd p B c
  obtain ⟨b, hb⟩ := valC_dvd p B d
  rw [ha, hb]
  unfold exactX
  split
  · exact ⟨a + b, by rw [Nat.add_mul]⟩
  · exact ⟨(a - b) + (b - a), by rw [Nat.add_mul, Nat.sub_mul, Nat.sub_mul]⟩
/-- What is tiny is exact. -/
theorem tiny_exact (p B X : Nat) (hp : 1 ≤ p) (hX : ∃ k, X = k * 2 ^ B) (h : floorC p B X < 2 ^ (p - 1)) : restC p B X = 0 ∧ X = valC p B (floorC p B X) := by
  obtain ⟨k, hk⟩ := hX
  obtain ⟨c1, c2, c3⟩ := cut_bd p B X hp
  have hB : cutAt p B X = B := by
    rcases c3 with h1 | h1
    · exact h1
    · have : X / 2 ^ cutAt p B X ≤ floorC p B X := by unfold floorC; exact Nat.le_add_left _ _
      omega
  have hv := floorC_val p B X hp
  rw [hB, hk, Nat.mul_div_cancel _ (Nat.two_pow_pos B), ← hk] at hv
  have hr := rest_self p B (floorC p B X) hp
  rw [hv] at hr
  exact ⟨hr, hv.symm⟩
theorem infC_big (f : Int) (h0 : 0 ≤ f) (hf : f < 4) : 2 * 2 ^ (precS f - 1).toNat ≤ infC f := by
  have := emax_lo f h0 hf
  unfold infC
  exact Nat.mul_le_mul_right _ (by omega)
theorem code_end (f m : Int) (g : Bool) (c : Nat) (h : endC f m g c < infC f - 1) : c < infC f ∧ endC f m g c = c := by
  by_cases hc : infC f ≤ c
  · exfalso
    unfold endC at h
    rw [if_pos hc] at h
    split at h <;> omega
  · exact ⟨by omega, by unfold endC; rw [if_neg hc]⟩
theorem code0 (p B : Nat) (m : Int) (g : Bool) (X : Nat) (hp : 1 ≤ p) (hX : ∃ k, X = k * 2 ^ B) : codeX p B m g X = 0 ↔ X = 0 := by
  constructor
  · intro h
    have h1 := (codeX_le p B m g X).1
    have h2 : floorC p B X = 0 := by omega
    have h3 := (tiny_exact p B X hp hX (by rw [h2]; exact Nat.two_pow_pos _)).2
    rw [h2, valC_zero] at h3
    exact h3
  · intro h; rw [h]; exact codeX_zero p B m g
theorem flag_three (f m : Int) (aft g : Bool) (B X : Nat) (hp : 1 ≤ precS f) (hX : ∃ k, X = k * 2 ^ B) : flagX f m aft g B X = 0 ∨ flagX f m aft g B X = 16 ∨ flagX f m aft g B X = 20 := by
  unfold flagX
  split
  · exact Or.inr (Or.inr rfl)
  · by_cases ht : floorC (precS f).toNat B X < 2 ^ ((precS f).toNat - 1)
    · rw [(tiny_exact (precS f).toNat B X (by omega) hX ht).1]
      exact Or.inl rfl
    · have h1 : tinyX (precS f).toNat B m aft g X = false := by unfold tinyX; rw [decide_eq_false ht]; rfl
      rw [h1]
      cases (restC (precS f).toNat B X != 0)
      · exact Or.inl rfl
      · exact Or.inr (Or.inl rfl)
theorem flag_low (f m : Int) (aft g : Bool) (B X : Nat) (hp : 1 ≤ precS f) (hX : ∃ k, X = k * 2 ^ B) (h0 : 0 ≤ f) (hf : f < 4) (h : endC f m g (codeX (precS f).toNat B m g X) < 2 ^ (precS f - 1).toNat) : flagX f m aft g B X = 0 := by
  have hb := infC_big f h0 hf
  have hu := Nat.two_pow_pos (precS f - 1).toNat
  obtain ⟨h1, h2⟩ := code_end f m g _ (show endC f m g (codeX (precS f).toNat B m g X) < infC f - 1 by omega)
  rw [h2] at h
  have h3 := (codeX_le (precS f).toNat B m g X).1
  have hq : (precS f - 1).toNat = (precS f).toNat - 1 := by omega
  rw [hq] at h
  obtain ⟨r, _⟩ := tiny_exact (precS f).toNat B X (by omega) hX (Nat.lt_of_le_of_lt h3 h)
  unfold flagX
  rw [if_neg (by omega), r]
  rfl
theorem fin_of (f : Int) (v : Nat) : classF f v < 3 → nanB f v = false ∧ ¬ classF f v = 3 := fun h => ⟨decide_eq_false (by omega), by omega⟩
/-- A sum's code, sign and flags. -/
theorem add_parts (f m : Int) (aft : Bool) (x y : Nat) (h0 : 0 ≤ f) (hf : f < 4) (hm : m ≤ 4) (hx : classF f x < 3) (hy : classF f y < 3) :
    codeF f (addB f m x y) = endC f m (sumG f m x y) (codeX (precS f).toNat (unitB f KK) m (sumG f m x y) (sumX f x y)) ∧ sgnF f (addB f m x y) = sumG f m x y ∧ addFl f m aft x y = flagX f m aft (sumG f m x y) (unitB f KK) (sumX f x y) := by
  obtain ⟨r1, r2⟩ := add_code f m aft x y h0 hf hm hx hy
  have hc := endC_lt f m (sumG f m x y) (codeX (precS f).toNat (unitB f KK) m (sumG f m x y) (sumX f x y)) h0 hf
  rw [r1]
  exact ⟨code_of f _ _ h0 hf hc, (of_code f _ _ h0 hf hc).2.2, r2⟩
theorem sumX_dvd (f : Int) (x y : Nat) : ∃ k, sumX f x y = k * 2 ^ unitB f KK := exact_dvd _ _ _ _ _ _
theorem prec_one (f : Int) (h0 : 0 ≤ f) (hf : f < 4) : 1 ≤ precS f := by have := (prec_emax f h0 hf).1; omega
theorem endC_zero (f m : Int) (g : Bool) (c : Nat) (h0 : 0 ≤ f) (hf : f < 4) : endC f m g c = 0 ↔ c = 0 := by
  have hb := infC_big f h0 hf
  have hu := Nat.two_pow_pos (precS f - 1).toNat
  constructor
  · intro h
    have := code_end f m g c (by rw [h]; omega)
    omega
  · intro h
    unfold endC
    rw [if_neg (by omega), h]
/-- A sum is nought just if the exact sum is. -/
theorem add_zero (f m : Int) (x y : Nat) (h0 : 0 ≤ f) (hf : f < 4) (hm : m ≤ 4) (hx : classF f x < 3) (hy : classF f y < 3) : classF f (addB f m x y) = 0 ↔ sumX f x y = 0 := by
  obtain ⟨r1, r2, r3⟩ := add_parts f m false x y h0 hf hm hx hy
  have hp := prec_one f h0 hf
  rw [(class_code f _ h0 hf).1, r1, endC_zero f m _ _ h0 hf, code0 _ _ _ _ _ (by omega) (sumX_dvd f x y)]
theorem add_flags (f m : Int) (aft : Bool) (x y : Nat) (h0 : 0 ≤ f) (hf : f < 4) (hm : m ≤ 4) (hx : classF f x < 3) (hy : classF f y < 3) : addFl f m aft x y = 0 ∨ addFl f m aft x y = 16 ∨ addFl f m aft x y = 20 := by
  rw [(add_parts f m aft x y h0 hf hm hx hy).2.2]
  exact flag_three f m aft _ _ _ (prec_one f h0 hf) (sumX_dvd f x y)
/-- A nought or a subnormal sum is exact. -/
theorem add_low (f m : Int) (aft : Bool) (x y : Nat) (h0 : 0 ≤ f) (hf : f < 4) (hm : m ≤ 4) (hx : classF f x < 3) (hy : classF f y < 3) (h : classF f (addB f m x y) = 0 ∨ classF f (addB f m x y) = 1) : addFl f m aft x y = 0 := by
  obtain ⟨r1, r2, r3⟩ := add_parts f m aft x y h0 hf hm hx hy
  obtain ⟨c0, c1, _⟩ := class_code f (addB f m x y) h0 hf
  have hu := Nat.two_pow_pos (precS f - 1).toNat
  rw [r3]
  refine flag_low f m aft _ _ _ (prec_one f h0 hf) (sumX_dvd f x y) h0 hf ?_
  rw [← r1]
  rcases h with h | h
  · rw [c0.1 h]; exact hu
  · exact (c1.1 h).2
theorem turn_code (f : Int) (v : Nat) (h0 : 0 ≤ f) (hf : f < 4) : codeF f (turnF f v) = codeF f v ∧ sgnF f (turnF f v) = !(sgnF f v) ∧ classF f (turnF f v) = classF f v := by
  obtain ⟨a, b, c⟩ := turn_parts f v h0 hf
  refine ⟨?_, c, (turn_class f v h0 hf).1⟩
  unfold codeF
  rw [a, b]
theorem sub_fin (f : Int) (b : Nat) (h : classF f b < 3) : subN f b = turnF f b := by
  unfold subN
  rw [(fin_of f b h).1]
  rfl
theorem valC_eq (p B a b : Nat) : valC p B a = valC p B b ↔ a = b := ⟨valC_inj p B, fun h => by rw [h]⟩
theorem valC_zero_iff (p B a : Nat) : valC p B a = 0 ↔ a = 0 := by
  have := valC_eq p B a 0
  rw [valC_zero] at this
  exact this
theorem cut_eq (f : Int) (a b : Nat) (h0 : 0 ≤ f) (hf : f < 4) : lowN a (widthS f) = lowN b (widthS f) ↔ codeF f a = codeF f b ∧ sgnF f a = sgnF f b := by
  have ha := code_lt f a h0 hf
  have hb := code_lt f b h0 hf
  rw [cut_code f a h0 hf, cut_code f b h0 hf]
  unfold signN
  generalize 2 ^ (widthS f - 1).toNat = u at *
  cases sgnF f a <;> cases sgnF f b <;> simp <;> omega
/-- A difference is nought just of equal numbers. -/
theorem sub_zero (f m : Int) (a b : Nat) (h0 : 0 ≤ f) (hf : f < 4) (hm : m ≤ 4) (hx : classF f a < 3) (hy : classF f b < 3) :
    classF f (addB f m a (subN f b)) = 0 ↔ (lowN a (widthS f) = lowN b (widthS f) ∨ classF f a = 0 ∧ classF f b = 0) := by
  obtain ⟨t1, t2, t3⟩ := turn_code f b h0 hf
  rw [sub_fin f b hy, add_zero f m a _ h0 hf hm hx (by rw [t3]; exact hy), cut_eq f a b h0 hf, (class_code f a h0 hf).1, (class_code f b h0 hf).1]
  unfold sumX exactX
  rw [t1, t2]
  have e1 := valC_eq (precS f).toNat (unitB f KK) (codeF f a) (codeF f b)
  have e2 := valC_zero_iff (precS f).toNat (unitB f KK) (codeF f a)
  have e3 := valC_zero_iff (precS f).toNat (unitB f KK) (codeF f b)
  generalize valC (precS f).toNat (unitB f KK) (codeF f a) = A at *
  generalize valC (precS f).toNat (unitB f KK) (codeF f b) = D at *
  cases sgnF f a <;> cases sgnF f b <;> simp <;> omega
/-- A number less itself is a nought. -/
theorem sub_self (f m : Int) (aft : Bool) (a : Nat) (h0 : 0 ≤ f) (hf : f < 4) (hm : m ≤ 4) (hx : classF f a < 3) :
    classF f (addB f m a (subN f a)) = 0 ∧ sgnF f (addB f m a (subN f a)) = (m == 3) ∧ addFl f m aft a (subN f a) = 0 := by
  obtain ⟨t1, t2, t3⟩ := turn_code f a h0 hf
  have hz : classF f (addB f m a (subN f a)) = 0 := (sub_zero f m a a h0 hf hm hx hx).2 (Or.inl rfl)
  have hy : classF f (subN f a) < 3 := by rw [sub_fin f a hx, t3]; exact hx
  obtain ⟨r1, r2, r3⟩ := add_parts f m aft a (subN f a) h0 hf hm hx hy
  refine ⟨hz, ?_, add_low f m aft a _ h0 hf hm hx hy (Or.inl hz)⟩
  rw [r2]
  unfold sumG
  rw [if_pos ((add_zero f m a _ h0 hf hm hx hy).1 hz), sub_fin f a hx, t2]
  unfold nouB
  cases sgnF f a <;> rfl
/-- Sums keep the order. -/
theorem pos_parts (f : Int) (x : Nat) (h0 : 0 ≤ f) (hf : f < 4) (hx : x < 2 ^ (widthS f - 1).toNat) : codeF f x = x ∧ sgnF f x = false := by
  have h1 := code_of f x false h0 hf hx
  have h2 := (of_code f x false h0 hf hx).2.2
  have hz : signN f false = 0 := rfl
  rw [hz, Nat.add_zero] at h1 h2
  exact ⟨h1, h2⟩
theorem pos_sum (f m : Int) (x y : Nat) (hx : sgnF f x = false) (hy : sgnF f y = false) : sumG f m x y = false ∧ sumX f x y = valC (precS f).toNat (unitB f KK) (codeF f x) + valC (precS f).toNat (unitB f KK) (codeF f y) := by
  constructor
  · unfold sumG
    rw [hx, hy]
    split
    · unfold nouB; rfl
    · rfl
  · unfold sumX exactX
    rw [hx, hy, if_pos rfl]
theorem add_pos (f m : Int) (aft : Bool) (x y : Nat) (h0 : 0 ≤ f) (hf : f < 4) (hm : m ≤ 4) (hx : x < infC f) (hy : y < infC f) :
    addB f m x y = endC f m false (codeX (precS f).toNat (unitB f KK) m false (valC (precS f).toNat (unitB f KK) x + valC (precS f).toNat (unitB f KK) y)) ∧ addFl f m aft x y = flagX f m aft false (unitB f KK) (valC (precS f).toNat (unitB f KK) x + valC (precS f).toNat (unitB f KK) y) := by
  have hI := infC_lt f h0 hf
  have hu := Nat.two_pow_pos (precS f - 1).toNat
  obtain ⟨a1, a2⟩ := pos_parts f x h0 hf (by omega)
  obtain ⟨b1, b2⟩ := pos_parts f y h0 hf (by omega)
  obtain ⟨g, e⟩ := pos_sum f m x y a2 b2
  obtain ⟨r1, r2⟩ := add_code f m aft x y h0 hf hm ((class_fin f x h0 hf).2 (by rw [a1]; exact hx)) ((class_fin f y h0 hf).2 (by rw [b1]; exact hy))
  rw [r1, r2, g, e, a1, b1]
  exact ⟨rfl, rfl⟩
theorem add_mono (f m : Int) (x y z : Nat) (h0 : 0 ≤ f) (hf : f < 4) (hm : m ≤ 4) (hx : x ≤ y) (hy : y < infC f) (hz : z < infC f) : addB f m x z ≤ addB f m y z := by
  have hp := prec_one f h0 hf
  rw [(add_pos f m false x z h0 hf hm (by omega) hz).1, (add_pos f m false y z h0 hf hm hy hz).1]
  exact endC_mono f m false (codeX_mono _ _ m false (by omega) (Nat.add_le_add_right (valC_le _ _ hx) _))
end Go.Proofs.YtkpjeceofcfnkaaGreatDoor

namespace Go.Proofs.YtkpjeceofcfnkaaGreatDoor
open Go.RowKit Go.Hb
theorem nought_parts (f : Int) (neg : Bool) (h0 : 0 ≤ f) (hf : f < 4) : codeF f (signN f neg) = 0 ∧ sgnF f (signN f neg) = neg ∧ classF f (signN f neg) = 0 := by
  have h1 := code_of f 0 neg h0 hf (Nat.two_pow_pos _)
  have h2 := (of_code f 0 neg h0 hf (Nat.two_pow_pos _)).2.2
  rw [Nat.zero_add] at h1 h2
  exact ⟨h1, h2, (class_code f _ h0 hf).1.2 h1⟩
theorem flag_val (f m : Int) (aft g : Bool) (B e : Nat) (hp : 1 ≤ precS f) (he : e < infC f) : flagX f m aft g B (valC (precS f).toNat B e) = 0 := by
  unfold flagX
  rw [codeX_self _ _ _ _ _ (by omega), rest_self _ _ _ (by omega), if_neg (by omega)]
  rfl
theorem end_val (f m : Int) (g : Bool) (B e : Nat) (hp : 1 ≤ precS f) (he : e < infC f) : endC f m g (codeX (precS f).toNat B m g (valC (precS f).toNat B e)) = e := by
  rw [codeX_self _ _ _ _ _ (by omega)]
  unfold endC
  rw [if_neg (by omega)]
theorem inf_make (f : Int) (s : Bool) (h0 : 0 ≤ f) (hf : f < 4) : makeF f s (2 * emaxS f + 1) 0 = infC f + signN f s := by
  have := emax_lo f h0 hf
  rw [makeF_c f _ s 0 h0 hf (by omega) (Int.le_refl _), Nat.zero_mod, Nat.add_zero]
  rfl
theorem inf_parts (f : Int) (s : Bool) (h0 : 0 ≤ f) (hf : f < 4) : codeF f (infC f + signN f s) = infC f ∧ sgnF f (infC f + signN f s) = s ∧ classF f (infC f + signN f s) = 3 ∧ turnF f (infC f + signN f s) = infC f + signN f (!s) := by
  have hI := infC_lt f h0 hf
  have hu := Nat.two_pow_pos (precS f - 1).toNat
  have h1 := code_of f (infC f) s h0 hf (by omega)
  exact ⟨h1, (of_code f (infC f) s h0 hf (by omega)).2.2, (class_code f _ h0 hf).2.2.2.1.2 h1, turnF_of f (infC f) s h0 hf (by omega)⟩
/-- What is added of numbers that are no NaNs. -/
theorem addB_nn (f m : Int) (aft : Bool) (a b : Nat) (hf : f < 4) (hm : m ≤ 4) (ha : ¬ 4 ≤ classF f a) (hb : ¬ 4 ≤ classF f b) :
    (classF f a = 3 → classF f b = 3 → sgnF f b ≠ sgnF f a → addB f m a b = defF f ∧ addFl f m aft a b = 1) ∧ (classF f a = 3 → ¬ (classF f b = 3 ∧ sgnF f b ≠ sgnF f a) → addB f m a b = makeF f (sgnF f a) (2 * emaxS f + 1) 0 ∧ addFl f m aft a b = 0) ∧ (classF f a ≠ 3 → classF f b = 3 → addB f m a b = makeF f (sgnF f b) (2 * emaxS f + 1) 0 ∧ addFl f m aft a b = 0) := by
  have n1 : nanB f a = false := decide_eq_false ha
  have n2 : nanB f b = false := decide_eq_false hb
  have ff : ¬ (false = true) := by decide
  have e1 : addB f m a b = (if classF f a = 3 then (if classF f b = 3 ∧ sgnF f b ≠ sgnF f a then defF f else makeF f (sgnF f a) (2 * emaxS f + 1) 0) else if classF f b = 3 then makeF f (sgnF f b) (2 * emaxS f + 1) 0 else finB f m (sgnF f a) (sgnF f b) (unE f a) (up128 (unS f a)) (unE f b) (up128 (unS f b))) := by
    unfold addB; rw [if_pos ⟨hf, hm⟩, n1, if_neg ff, n2, if_neg ff]
  have e2 : addFl f m aft a b = (if classF f a = 3 then (if classF f b = 3 ∧ sgnF f b ≠ sgnF f a then 1 else 0) else if classF f b = 3 then 0 else finFl f m aft (sgnF f a) (sgnF f b) (unE f a) (up128 (unS f a)) (unE f b) (up128 (unS f b))) := by
    unfold addFl; rw [if_pos ⟨hf, hm⟩, n1, n2, Bool.or_false, if_neg ff]
  rw [e1, e2]
  refine ⟨fun h3 h4 hs => ?_, fun h3 hs => ?_, fun h3 h4 => ?_⟩
  · rw [if_pos h3, if_pos h3, if_pos ⟨h4, hs⟩, if_pos ⟨h4, hs⟩]; exact ⟨rfl, rfl⟩
  · rw [if_pos h3, if_pos h3, if_neg hs, if_neg hs]; exact ⟨rfl, rfl⟩
  · rw [if_neg h3, if_neg h3, if_pos h4, if_pos h4]; exact ⟨rfl, rfl⟩
theorem addB_small (f m : Int) (a b : Nat) (h0 : 0 ≤ f) : addB f m a b < 2 ^ 128 := by
  unfold addB
  have hq : ∀ v, quietF f v < 2 ^ 128 := by
    intro v
    have hw : (widthS f).toNat ≤ 128 := by unfold widthS; repeat' split <;> omega
    have hp : (precS f - 2).toNat < 128 := by unfold precS; repeat' split <;> omega
    have hl : lowN v (widthS f) < 2 ^ 128 := Nat.lt_of_lt_of_le (Nat.mod_lt _ (Nat.two_pow_pos _)) (Nat.pow_le_pow_right (by decide) hw)
    have hb : lsh (cat 0 1) (precS f - 2) = 2 ^ (precS f - 2).toNat := by unfold lsh; rw [show cat 0 1 = 1 from rfl, Nat.one_mul]
    unfold quietF
    rw [hb]
    split
    · exact Nat.or_lt_two_pow hl (Nat.pow_lt_pow_right (by decide) hp)
    · exact hl
  have hd : defF f < 2 ^ 128 := makeF_lt _ _ _ _ h0
  split
  · split
    · exact hq a
    · split
      · exact hq b
      · split
        · split
          · exact hd
          · exact makeF_lt _ _ _ _ h0
        · split
          · exact makeF_lt _ _ _ _ h0
          · exact resB_lt f _ _ _ _ h0
  · exact Nat.two_pow_pos 128
end Go.Proofs.YtkpjeceofcfnkaaGreatDoor

namespace Go.Proofs.YtkpjeceofcfnkaaGreatDoor
open Go.RowKit Go.Hb
end Go.Proofs.YtkpjeceofcfnkaaGreatDoor
