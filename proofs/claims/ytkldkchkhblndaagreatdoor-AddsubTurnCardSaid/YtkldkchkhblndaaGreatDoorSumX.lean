/- The plain law of sums: what mag.Sum and mag.Diff jam is rounded as the exact sum, the exact difference. -/
import Derived.Test.YtkldkchkhblndaaGreatDoorAdd2
set_option linter.unusedSimpArgs false
set_option linter.unusedVariables false
namespace Go.Proofs.YtkldkchkhblndaaGreatDoor
open Go.RowKit Go.Hb
theorem blen_ge (v m : Nat) (h : 2 ^ m ≤ v) : m + 1 ≤ blen v := by
  have h1 := blen_lt v
  rcases Nat.lt_or_ge m (blen v) with h2 | h2
  · exact h2
  · have := Nat.pow_le_pow_right (show 0 < 2 by decide) h2; omega
theorem or_one (q : Nat) : q ||| 1 = if q % 2 = 1 then q else q + 1 := by
  have := or_bit q 0
  simp only [Nat.pow_zero] at this
  rw [this, Nat.testBit_zero]
  by_cases h : q % 2 = 1
  · rw [if_pos (decide_eq_true h), if_pos h]
  · rw [if_neg (by simpa using h), if_neg h]
theorem jam_add (A b n : Nat) (hA : A % 2 = 0) : A + jamN b n = jamN (A * 2 ^ n + b) n := by
  have hp := Nat.two_pow_pos n
  have h1 : (A * 2 ^ n + b) / 2 ^ n = A + b / 2 ^ n := by rw [Nat.add_comm, Nat.add_mul_div_right _ _ hp, Nat.add_comm]
  have h2 : (A * 2 ^ n + b) % 2 ^ n = b % 2 ^ n := by rw [Nat.add_comm, Nat.add_mul_mod_self_right]
  unfold jamN
  rw [h1, h2]
  split
  · rfl
  · rw [or_one, or_one]
    split <;> split <;> omega
theorem jam_sub (A b n : Nat) (hA : A % 2 = 0) (hb : b ≤ A * 2 ^ n) : A - jamN b n = jamN (A * 2 ^ n - b) n := by
  have hp := Nat.two_pow_pos n
  have hd := Nat.div_add_mod b (2 ^ n)
  have hm := Nat.mod_lt b hp
  generalize hq : b / 2 ^ n = q at *
  generalize hr : b % 2 ^ n = r at *
  rw [Nat.mul_comm] at hd
  by_cases hz : r = 0
  · have hle : q ≤ A := by
      rcases Nat.lt_or_ge A q with h | h
      · have := Nat.mul_le_mul_right (2 ^ n) (show A + 1 ≤ q from h)
        rw [Nat.succ_mul] at this
        omega
      · exact h
    have e : A * 2 ^ n - b = (A - q) * 2 ^ n := by rw [Nat.sub_mul]; omega
    have h1 : (A * 2 ^ n - b) / 2 ^ n = A - q := by rw [e, Nat.mul_div_cancel _ hp]
    have h2 : (A * 2 ^ n - b) % 2 ^ n = 0 := by rw [e, Nat.mul_mod_left]
    unfold jamN
    rw [hq, hr, if_pos hz, if_pos h2, h1]
  · have hlt : q + 1 ≤ A := by
      rcases Nat.lt_or_ge q A with h | h
      · exact h
      · have := Nat.mul_le_mul_right (2 ^ n) h
        omega
    have e : A * 2 ^ n - b = (A - q - 1) * 2 ^ n + (2 ^ n - r) := by
      have h3 : A * 2 ^ n = (A - q - 1) * 2 ^ n + q * 2 ^ n + 2 ^ n := by
        rw [← Nat.add_mul, ← Nat.succ_mul]; congr 1; omega
      omega
    have h1 : (A * 2 ^ n - b) / 2 ^ n = A - q - 1 := by
      rw [e, Nat.add_comm, Nat.add_mul_div_right _ _ hp, Nat.div_eq_of_lt (by omega), Nat.zero_add]
    have h2 : (A * 2 ^ n - b) % 2 ^ n = 2 ^ n - r := by
      rw [e, Nat.add_comm, Nat.add_mul_mod_self_right, Nat.mod_eq_of_lt (by omega)]
    unfold jamN
    rw [hq, hr, if_neg hz, h2, if_neg (by omega), h1, or_one, or_one]
    split <;> split <;> omega
/-- What is jammed is rounded as what it is made of. -/
theorem jam_any (p B V n k : Nat) (hp : 1 ≤ p) (h : V % 2 ^ n = 0 ∨ p + 2 + n ≤ blen V) : floorC p B (jamN V n * 2 ^ (k + n)) = floorC p B (V * 2 ^ k) ∧ restC p B (jamN V n * 2 ^ (k + n)) = restC p B (V * 2 ^ k) := by
  rcases h with h | h
  · have e : jamN V n * 2 ^ (k + n) = V * 2 ^ k := by
      unfold jamN
      rw [if_pos h, Nat.pow_add, Nat.mul_comm (2 ^ k), ← Nat.mul_assoc]
      congr 1
      have := Nat.div_add_mod V (2 ^ n)
      rw [h, Nat.mul_comm] at this
      omega
    rw [e]
    exact ⟨rfl, rfl⟩
  · exact jam_same p B V n k hp h
theorem mul_dvd (x m n : Nat) (h : n ≤ m) : x * 2 ^ m % 2 ^ n = 0 := by
  rw [show m = (m - n) + n by omega, Nat.pow_add, ← Nat.mul_assoc, Nat.mul_mod_left]
theorem sum_same (p B a b n k : Nat) (hp : 1 ≤ p) (hp2 : p ≤ 128) (ha : 2 ^ 127 ≤ a) : floorC p B ((a * 2 ^ 127 + jamN (b * 2 ^ 128) n) * 2 ^ (k + n)) = floorC p B ((a * 2 ^ 127 * 2 ^ n + b * 2 ^ 128) * 2 ^ k) ∧ restC p B ((a * 2 ^ 127 + jamN (b * 2 ^ 128) n) * 2 ^ (k + n)) = restC p B ((a * 2 ^ 127 * 2 ^ n + b * 2 ^ 128) * 2 ^ k) := by
  have hev : a * 2 ^ 127 % 2 = 0 := mul_dvd a 127 1 (by decide)
  rw [jam_add _ _ _ hev]
  refine jam_any p B _ n k hp ?_
  by_cases hn : n ≤ 128
  · left
    rw [Nat.add_comm, Nat.add_mul_mod_self_right]
    exact mul_dvd b 128 n hn
  · right
    have h1 : 2 ^ (254 + n) ≤ a * 2 ^ 127 * 2 ^ n + b * 2 ^ 128 := by
      have h2 := Nat.mul_le_mul_right (2 ^ n) (Nat.mul_le_mul_right (2 ^ 127) ha)
      rw [← Nat.pow_add, ← Nat.pow_add] at h2
      exact Nat.le_trans h2 (Nat.le_add_right _ _)
    have := blen_ge _ _ h1
    omega
theorem dif_same (p B a b n k : Nat) (hp : 1 ≤ p) (hp2 : p ≤ 128) (ha : 2 ^ 127 ≤ a) (hb2 : b < 2 ^ 128) (hb : b * 2 ^ 128 ≤ a * 2 ^ 128 * 2 ^ n) : floorC p B ((a * 2 ^ 128 - jamN (b * 2 ^ 128) n) * 2 ^ (k + n)) = floorC p B ((a * 2 ^ 128 * 2 ^ n - b * 2 ^ 128) * 2 ^ k) ∧ restC p B ((a * 2 ^ 128 - jamN (b * 2 ^ 128) n) * 2 ^ (k + n)) = restC p B ((a * 2 ^ 128 * 2 ^ n - b * 2 ^ 128) * 2 ^ k) := by
  have hev : a * 2 ^ 128 % 2 = 0 := mul_dvd a 128 1 (by decide)
  rw [jam_sub _ _ _ hev hb]
  refine jam_any p B _ n k hp ?_
  by_cases hn : n ≤ 128
  · left
    have e : a * 2 ^ 128 * 2 ^ n - b * 2 ^ 128 = (a * 2 ^ n - b) * 2 ^ 128 := by
      rw [Nat.sub_mul, Nat.mul_right_comm]
    rw [e]
    exact mul_dvd _ 128 n hn
  · right
    have h1 : 2 ^ (254 + n) ≤ a * 2 ^ 128 * 2 ^ n - b * 2 ^ 128 := by
      have h2 := Nat.mul_le_mul_right (2 ^ n) (Nat.mul_le_mul_right (2 ^ 128) ha)
      rw [← Nat.pow_add, ← Nat.pow_add] at h2
      have h3 : b * 2 ^ 128 < 2 ^ 128 * 2 ^ 128 := Nat.mul_lt_mul_of_pos_right hb2 (Nat.two_pow_pos _)
      rw [← Nat.pow_add] at h3
      have h4 : (2 : Nat) ^ (128 + 128) ≤ 2 ^ (254 + n) := Nat.pow_le_pow_right (by decide) (by omega)
      have h5 : (2 : Nat) ^ (127 + 128 + n) = 2 ^ (254 + n) + 2 ^ (254 + n) := by
        rw [show 127 + 128 + n = (254 + n) + 1 by omega, Nat.pow_succ]; omega
      omega
    have := blen_ge _ _ h1
    omega
theorem numX_in (K e : Int) (v : Nat) (h0 : -1000000 ≤ e) (h1 : e ≤ 2000000) : numX K e v = v * 2 ^ (e + K).toNat := by
  have h : farS e = e := by unfold farS; omega
  unfold numX
  rw [h]
theorem jam_half1 (S : Nat) : jamS (up128 S) 1 = S * 2 ^ 127 := by
  rw [jamS_N]
  have h1 : up128 S = S * 2 ^ 127 * 2 ^ 1 := by unfold up128; rw [Nat.mul_assoc, ← Nat.pow_add]
  have e : (1 : Int).toNat = 1 := rfl
  rw [e, h1]
  unfold jamN
  rw [Nat.mul_mod_left, if_pos rfl, Nat.mul_div_cancel _ (Nat.two_pow_pos 1)]
theorem half_num (K e : Int) (S : Nat) (h0 : -1000000 ≤ e) (h1 : e ≤ 1000000) (hK : 3000000 ≤ K) : numX K (e + 1) (S * 2 ^ 127) = numX K e (up128 S) := by
  rw [numX_in K _ _ (by omega) (by omega), numX_in K _ _ h0 (by omega)]
  unfold up128
  rw [show (e + 1 + K).toNat = 1 + (e + K).toNat by omega, Nat.pow_add, ← Nat.mul_assoc, Nat.mul_assoc S, ← Nat.pow_add]
theorem up_zero : up128 0 = 0 := by unfold up128; rw [Nat.zero_mul]
theorem up_ne (S : Nat) (h : S ≠ 0) : up128 S ≠ 0 := by
  unfold up128
  have := Nat.mul_pos (Nat.pos_of_ne_zero h) (Nat.two_pow_pos 128)
  omega
theorem sum_ge (p B : Nat) (K e e' : Int) (S S' : Nat) (hp : 1 ≤ p) (hp2 : p ≤ 128) (hS : 2 ^ 127 ≤ S) (h0 : -1000000 ≤ e') (h1 : e ≤ 1000000) (hee : e' ≤ e) (hK : 3000000 ≤ K) :
    floorC p B (numX K (e + 1) (jamS (up128 S) (e + 1 - e) + jamS (up128 S') (e + 1 - e'))) = floorC p B (numX K e (up128 S) + numX K e' (up128 S')) ∧ restC p B (numX K (e + 1) (jamS (up128 S) (e + 1 - e) + jamS (up128 S') (e + 1 - e'))) = restC p B (numX K e (up128 S) + numX K e' (up128 S')) := by
  have a1 : e + 1 - e = 1 := by omega
  have hn : (e + 1 - e').toNat = (e - e').toNat + 1 := by omega
  have hX : numX K e (up128 S) + numX K e' (up128 S') = (S * 2 ^ 127 * 2 ^ (e + 1 - e').toNat + S' * 2 ^ 128) * 2 ^ (e' + K).toNat := by
    rw [← half_num K e S (by omega) h1 hK, numX_in K _ _ (by omega) (by omega), numX_in K _ _ h0 (by omega), Nat.add_mul]
    rw [show (e + 1 + K).toNat = (e + 1 - e').toNat + (e' + K).toNat by omega, Nat.pow_add, ← Nat.mul_assoc]
    rfl
  rw [a1, jam_half1, jamS_N, hX, numX_in K _ _ (by omega) (by omega), show (e + 1 + K).toNat = (e' + K).toNat + (e + 1 - e').toNat by omega]
  exact sum_same p B S S' _ _ hp hp2 hS
theorem sum_round (p B : Nat) (K e e' : Int) (S S' : Nat) (hp : 1 ≤ p) (hp2 : p ≤ 128) (hS : S = 0 ∨ 2 ^ 127 ≤ S) (hS' : S' = 0 ∨ 2 ^ 127 ≤ S') (h0 : -1000000 ≤ e) (h1 : e ≤ 1000000) (h0' : -1000000 ≤ e') (h1' : e' ≤ 1000000) (hK : 3000000 ≤ K) :
    floorC p B (numX K (sumE e (up128 S) e' (up128 S')) (sumV e (up128 S) e' (up128 S'))) = floorC p B (numX K e (up128 S) + numX K e' (up128 S')) ∧ restC p B (numX K (sumE e (up128 S) e' (up128 S')) (sumV e (up128 S) e' (up128 S'))) = restC p B (numX K e (up128 S) + numX K e' (up128 S')) := by
  have h127 : 0 < 2 ^ 127 := Nat.two_pow_pos 127
  unfold sumV
  rcases hS with hS | hS
  · subst hS
    rw [up_zero, jam_zero, numX_zero, Nat.zero_add, Nat.zero_add]
    rcases hS' with hS' | hS'
    · subst hS'
      rw [up_zero, jam_zero, numX_zero, numX_zero]
      exact ⟨rfl, rfl⟩
    · have hE : sumE e 0 e' (up128 S') = e' + 1 := by unfold sumE levS; rw [if_pos ⟨rfl, up_ne _ (by omega)⟩]
      rw [hE, show e' + 1 - e' = 1 by omega, jam_half1, half_num K e' S' h0' h1' hK]
      exact ⟨rfl, rfl⟩
  · have hz : up128 S ≠ 0 := up_ne _ (by omega)
    rcases hS' with hS' | hS'
    · subst hS'
      have hE : sumE e (up128 S) e' (up128 0) = e + 1 := by unfold sumE levS; rw [if_neg (fun h => hz h.1), if_pos ⟨up_zero, hz⟩]
      rw [hE, show e + 1 - e = 1 by omega, jam_half1, up_zero, jam_zero, numX_zero, Nat.add_zero, Nat.add_zero, half_num K e S h0 h1 hK]
      exact ⟨rfl, rfl⟩
    · have hz' : up128 S' ≠ 0 := up_ne _ (by omega)
      have hE : sumE e (up128 S) e' (up128 S') = max e e' + 1 := by unfold sumE levS; rw [if_neg (fun h => hz h.1), if_neg (fun h => hz' h.1)]
      rw [hE]
      by_cases hee : e' ≤ e
      · rw [show max e e' = e by omega]
        exact sum_ge p B K e e' S S' hp hp2 hS h0' h1 hee hK
      · rw [show max e e' = e' by omega, Nat.add_comm (jamS _ _), Nat.add_comm (numX K e _)]
        exact sum_ge p B K e' e S' S hp hp2 hS' h0 h1' (by omega) hK
theorem cmp_mul (x y k : Nat) : cmpN (x * 2 ^ k) (y * 2 ^ k) = cmpN x y := by
  have hp := Nat.two_pow_pos k
  rcases Nat.lt_trichotomy x y with h | h | h
  · rw [cmpN_lt h, cmpN_lt (Nat.mul_lt_mul_of_pos_right h hp)]
  · rw [h, cmpN_same rfl, cmpN_same rfl]
  · rw [cmpN_gt h, cmpN_gt (Nat.mul_lt_mul_of_pos_right h hp)]
theorem cmp_neg (x y : Nat) : cmpN y x = -(cmpN x y) := by
  rcases Nat.lt_trichotomy x y with h | h | h
  · rw [cmpN_lt h, cmpN_gt h]; rfl
  · rw [cmpN_same h, cmpN_same h.symm]; rfl
  · rw [cmpN_gt h, cmpN_lt h]
theorem mag_ge (e e' : Int) (a b : Nat) (hee : e' ≤ e) : magC e a e' b = cmpN (a * 2 ^ (e - e').toNat) b := by
  have hx : max e e' = e := by omega
  have r1 : rsh a (max e e' - e) = a := by rw [hx]; unfold rsh; rw [show (e - e).toNat = 0 by omega, Nat.pow_zero, Nat.div_one]
  have l1 : lostS a (max e e' - e) = false := by rw [hx]; unfold lostS; rw [show (e - e).toNat = 0 by omega, Nat.pow_zero, Nat.mod_one]; decide
  have r2 : rsh b (max e e' - e') = b / 2 ^ (e - e').toNat := by rw [hx]; rfl
  have hp := Nat.two_pow_pos (e - e').toNat
  have hd := Nat.div_add_mod b (2 ^ (e - e').toNat)
  have hm := Nat.mod_lt b hp
  rcases Nat.lt_trichotomy a (b / 2 ^ (e - e').toNat) with h | h | h
  · rw [mag_lt (by rw [r1, r2]; exact h)]
    have := Nat.mul_le_mul_right (2 ^ (e - e').toNat) (show a + 1 ≤ b / 2 ^ (e - e').toNat from h)
    rw [Nat.succ_mul, Nat.mul_comm (b / 2 ^ (e - e').toNat)] at this
    rw [cmpN_lt (by omega)]
  · rw [mag_same (by rw [r1, r2]; exact h), l1]
    rw [← h, Nat.mul_comm] at hd
    by_cases hz : b % 2 ^ (e - e').toNat = 0
    · have l2 : lostS b (max e e' - e') = false := by rw [hx]; unfold lostS; rw [hz]; decide
      rw [l2, cmpN_same (by omega)]; rfl
    · have l2 : lostS b (max e e' - e') = true := by rw [hx]; unfold lostS; exact decide_eq_true hz
      rw [l2, cmpN_lt (by omega)]; rfl
  · rw [mag_gt (by rw [r1, r2]; exact h)]
    have := Nat.mul_le_mul_right (2 ^ (e - e').toNat) (show b / 2 ^ (e - e').toNat + 1 ≤ a from h)
    rw [Nat.succ_mul, Nat.mul_comm (b / 2 ^ (e - e').toNat)] at this
    rw [cmpN_gt (by omega)]
theorem mag_anti (e e' : Int) (a b : Nat) : magC e' b e a = -(magC e a e' b) := by
  have hx : max e' e = max e e' := Int.max_comm e' e
  rcases Nat.lt_trichotomy (rsh a (max e e' - e)) (rsh b (max e e' - e')) with h1 | h1 | h1
  · rw [mag_gt (by rw [hx]; exact h1), mag_lt h1]; rfl
  · rw [mag_same (by rw [hx]; exact h1.symm), mag_same h1, hx]
    have hno : ¬ (lostS a (max e e' - e) = true ∧ lostS b (max e e' - e') = true) := by
      rintro ⟨h2, h3⟩
      unfold lostS at h2 h3
      rw [decide_eq_true_eq] at h2 h3
      rcases Int.le_total e' e with h | h
      · apply h2; rw [show (max e e' - e).toNat = 0 by omega, Nat.pow_zero, Nat.mod_one]
      · apply h3; rw [show (max e e' - e').toNat = 0 by omega, Nat.pow_zero, Nat.mod_one]
    cases hla : lostS a (max e e' - e) <;> cases hlb : lostS b (max e e' - e')
    · rfl
    · rfl
    · rfl
    · exact absurd ⟨hla, hlb⟩ hno
  · rw [mag_lt (by rw [hx]; exact h1), mag_gt h1]
/-- Sizes compared as numbers. -/
theorem mag_cmp (K e e' : Int) (a b : Nat) (h0 : -1000000 ≤ e) (h1 : e ≤ 1000000) (h0' : -1000000 ≤ e') (h1' : e' ≤ 1000000) (hK : 3000000 ≤ K) : magC e a e' b = cmpN (numX K e a) (numX K e' b) := by
  have key : ∀ (e e' : Int) (a b : Nat), -1000000 ≤ e' → e ≤ 1000000 → e' ≤ e → magC e a e' b = cmpN (numX K e a) (numX K e' b) := fun e e' a b h0 h1 hee => by
    rw [mag_ge e e' a b hee, numX_in K e a (by omega) (by omega), numX_in K e' b h0 (by omega), show (e + K).toNat = (e - e').toNat + (e' + K).toNat by omega, Nat.pow_add, ← Nat.mul_assoc, cmp_mul]
  rcases Int.le_total e' e with h | h
  · exact key e e' a b h0' h1 h
  · rw [mag_anti e' e b a, key e' e b a h0 h1' h, cmp_neg]
    omega
theorem jam_none (a : Nat) : jamS a 0 = a := by
  rw [jamS_N]
  have e : (0 : Int).toNat = 0 := rfl
  rw [e]
  unfold jamN
  rw [Nat.pow_zero, Nat.mod_one, if_pos rfl, Nat.div_one]
theorem exp_le (K e e' : Int) (S S' : Nat) (hS : S < 2 ^ 128) (hS' : 2 ^ 127 ≤ S') (h0 : -1000000 ≤ e) (h1 : e ≤ 1000000) (h0' : -1000000 ≤ e') (h1' : e' ≤ 1000000) (hK : 3000000 ≤ K) (h : numX K e' (up128 S') ≤ numX K e (up128 S)) : e' ≤ e := by
  rcases Int.lt_or_le e e' with hlt | hle
  · exfalso
    rw [numX_in K e' _ h0' (by omega), numX_in K e _ h0 (by omega)] at h
    unfold up128 at h
    have a1 : S * 2 ^ 128 * 2 ^ (e + K).toNat < 2 ^ 128 * 2 ^ 128 * 2 ^ (e + K).toNat := Nat.mul_lt_mul_of_pos_right (Nat.mul_lt_mul_of_pos_right hS (Nat.two_pow_pos _)) (Nat.two_pow_pos _)
    have a2 := Nat.mul_le_mul_right (2 ^ (e' + K).toNat) (Nat.mul_le_mul_right (2 ^ 128) hS')
    have a3 : (2 : Nat) ^ 128 * 2 ^ 128 * 2 ^ (e + K).toNat ≤ 2 ^ 127 * 2 ^ 128 * 2 ^ (e' + K).toNat := by
      rw [← Nat.pow_add, ← Nat.pow_add, ← Nat.pow_add, ← Nat.pow_add]
      exact Nat.pow_le_pow_right (by decide) (by omega)
    omega
  · exact hle
theorem dif_ge (p B : Nat) (K e e' : Int) (S S' : Nat) (hp : 1 ≤ p) (hp2 : p ≤ 128) (hS : S = 0 ∨ 2 ^ 127 ≤ S) (hS' : S' = 0 ∨ 2 ^ 127 ≤ S') (hl : S < 2 ^ 128) (hl' : S' < 2 ^ 128) (h0 : -1000000 ≤ e) (h1 : e ≤ 1000000) (h0' : -1000000 ≤ e') (h1' : e' ≤ 1000000) (hK : 3000000 ≤ K)
    (hge : numX K e' (up128 S') ≤ numX K e (up128 S)) :
    floorC p B (numX K (levS e (up128 S) e' (up128 S')) (jamS (up128 S) (levS e (up128 S) e' (up128 S') - e) - jamS (up128 S') (levS e (up128 S) e' (up128 S') - e'))) = floorC p B (numX K e (up128 S) - numX K e' (up128 S')) ∧ restC p B (numX K (levS e (up128 S) e' (up128 S')) (jamS (up128 S) (levS e (up128 S) e' (up128 S') - e) - jamS (up128 S') (levS e (up128 S) e' (up128 S') - e'))) = restC p B (numX K e (up128 S) - numX K e' (up128 S')) := by
  have h127 : 0 < 2 ^ 127 := Nat.two_pow_pos 127
  rcases hS' with hS' | hS'
  · subst hS'
    rw [up_zero, jam_zero, numX_zero, Nat.sub_zero, Nat.sub_zero]
    rcases hS with hS | hS
    · subst hS
      rw [up_zero, jam_zero, numX_zero, numX_zero]; exact ⟨rfl, rfl⟩
    · have hz : up128 S ≠ 0 := up_ne _ (by omega)
      have hE : levS e (up128 S) e' 0 = e := by unfold levS; rw [if_neg (fun h => hz h.1), if_pos ⟨rfl, hz⟩]
      rw [hE, show e - e = 0 by omega, jam_none]
      exact ⟨rfl, rfl⟩
  · have hz' : up128 S' ≠ 0 := up_ne _ (by omega)
    rcases hS with hS | hS
    · exfalso
      subst hS
      rw [up_zero, numX_zero, numX_in K e' _ h0' (by omega)] at hge
      have := Nat.mul_pos (Nat.pos_of_ne_zero hz') (Nat.two_pow_pos (e' + K).toNat)
      omega
    · have hz : up128 S ≠ 0 := up_ne _ (by omega)
      have hee := exp_le K e e' S S' hl hS' h0 h1 h0' h1' hK hge
      have hE : levS e (up128 S) e' (up128 S') = e := by unfold levS; rw [if_neg (fun h => hz h.1), if_neg (fun h => hz' h.1)]; omega
      have hX : numX K e (up128 S) = S * 2 ^ 128 * 2 ^ (e - e').toNat * 2 ^ (e' + K).toNat := by
        rw [numX_in K _ _ h0 (by omega), show (e + K).toNat = (e - e').toNat + (e' + K).toNat by omega, Nat.pow_add, ← Nat.mul_assoc]
        rfl
      have hY : numX K e' (up128 S') = S' * 2 ^ 128 * 2 ^ (e' + K).toNat := by rw [numX_in K _ _ h0' (by omega)]; rfl
      have hb : S' * 2 ^ 128 ≤ S * 2 ^ 128 * 2 ^ (e - e').toNat := by
        rw [hX, hY] at hge
        exact Nat.le_of_mul_le_mul_right hge (Nat.two_pow_pos _)
      rw [hE, show e - e = 0 by omega, jam_none, jamS_N, hX, hY, ← Nat.sub_mul, numX_in K _ _ h0 (by omega), show (e + K).toNat = (e' + K).toNat + (e - e').toNat by omega]
      exact dif_same p B S S' _ _ hp hp2 hS hl' hb
/-- The exact sum or difference of two sizes. -/
def exactX (s t : Bool) (X Y : Nat) : Nat := if s = t then X + Y else (X - Y) + (Y - X)
theorem fin_round (p B : Nat) (K e e' : Int) (s t : Bool) (S S' : Nat) (hp : 1 ≤ p) (hp2 : p ≤ 128) (hS : S = 0 ∨ 2 ^ 127 ≤ S) (hS' : S' = 0 ∨ 2 ^ 127 ≤ S') (hl : S < 2 ^ 128) (hl' : S' < 2 ^ 128) (h0 : -1000000 ≤ e) (h1 : e ≤ 1000000) (h0' : -1000000 ≤ e') (h1' : e' ≤ 1000000) (hK : 3000000 ≤ K) :
    floorC p B (numX K (finE s t e (up128 S) e' (up128 S')) (finV s t e (up128 S) e' (up128 S'))) = floorC p B (exactX s t (numX K e (up128 S)) (numX K e' (up128 S'))) ∧ restC p B (numX K (finE s t e (up128 S) e' (up128 S')) (finV s t e (up128 S) e' (up128 S'))) = restC p B (exactX s t (numX K e (up128 S)) (numX K e' (up128 S'))) := by
  unfold finE finV exactX
  by_cases hst : s = t
  · rw [if_pos hst, if_pos hst, if_pos hst]
    exact sum_round p B K e e' S S' hp hp2 hS hS' h0 h1 h0' h1' hK
  · rw [if_neg hst, if_neg hst, if_neg hst]
    have hm := mag_cmp K e e' (up128 S) (up128 S') h0 h1 h0' h1' hK
    by_cases hlt : numX K e (up128 S) < numX K e' (up128 S')
    · have hL : difL e (up128 S) e' (up128 S') = true := by unfold difL; rw [hm, cmpN_lt hlt]; rfl
      unfold difV difE
      rw [hL, if_pos rfl, if_pos rfl, Nat.sub_eq_zero_of_le (Nat.le_of_lt hlt), Nat.zero_add]
      exact dif_ge p B K e' e S' S hp hp2 hS' hS hl' hl h0' h1' h0 h1 hK (Nat.le_of_lt hlt)
    · have hL : difL e (up128 S) e' (up128 S') = false := by
        unfold difL
        rw [hm, decide_eq_false_iff_not]
        rcases Nat.lt_or_ge (numX K e' (up128 S')) (numX K e (up128 S)) with h | h
        · rw [cmpN_gt h]; decide
        · rw [cmpN_same (by omega)]; decide
      unfold difV difE
      rw [hL, if_neg (by decide), if_neg (by decide), Nat.sub_eq_zero_of_le (show numX K e' (up128 S') ≤ numX K e (up128 S) by omega), Nat.add_zero]
      exact dif_ge p B K e e' S S' hp hp2 hS hS' hl hl' h0 h1 h0' h1' hK (by omega)
end Go.Proofs.YtkldkchkhblndaaGreatDoor
