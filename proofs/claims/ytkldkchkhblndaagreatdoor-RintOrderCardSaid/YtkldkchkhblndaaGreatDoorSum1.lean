/- mag.Sum and mag.Diff in plain numbers; their contracts. -/
import Derived.Test.YtkldkchkhblndaaGreatDoorMag2
import Derived.Test.YtkldkchkhblndaaGreatDoorComp3
import Derived.Test.YtkldkchkhblndaaGreatDoorNan2
set_option linter.unusedSimpArgs false
set_option linter.unusedVariables false
namespace Go.Proofs.YtkldkchkhblndaaGreatDoor
open Go.RowKit Go.Hb
def sumE (e : Int) (a : Nat) (e' : Int) (b : Nat) : Int := levS e a e' b + 1
def sumV (e : Int) (a : Nat) (e' : Int) (b : Nat) : Nat := jamS a (sumE e a e' b - e) + jamS b (sumE e a e' b - e')
def difL (e : Int) (a : Nat) (e' : Int) (b : Nat) : Bool := decide (magC e a e' b < 0)
def difE (e : Int) (a : Nat) (e' : Int) (b : Nat) : Int := if difL e a e' b then levS e' b e a else levS e a e' b
def difV (e : Int) (a : Nat) (e' : Int) (b : Nat) : Nat := if difL e a e' b then jamS b (difE e a e' b - e') - jamS a (difE e a e' b - e) else jamS a (difE e a e' b - e) - jamS b (difE e a e' b - e')
theorem jam_zero (n : Int) : jamS 0 n = 0 := by
  unfold jamS lostS rsh
  simp
theorem jam_half (a : Nat) (n : Int) (ha : a < 2 ^ 256) (hn : 1 ≤ n) : jamS a n < 2 ^ 255 := by
  have h1 : rsh a n < 2 ^ 255 := by
    unfold rsh
    rw [Nat.div_lt_iff_lt_mul (Nat.two_pow_pos _)]
    have h2 : 2 ^ 1 ≤ 2 ^ n.toNat := Nat.pow_le_pow_right (by decide) (by omega)
    have h3 : (2 : Nat) ^ 256 = 2 ^ 255 * 2 ^ 1 := by rw [← Nat.pow_add]
    have h4 := Nat.mul_le_mul_left (2 ^ 255) h2
    omega
  unfold jamS
  split
  · exact Nat.or_lt_two_pow h1 (by decide)
  · exact h1
theorem jam_rsh (a : Nat) (n : Int) : rsh a n ≤ jamS a n ∧ jamS a n ≤ rsh a n + 1 := by
  unfold jamS
  split
  · constructor
    · exact Nat.left_le_or
    · by_cases h : rsh a n % 2 = 1
      · have : rsh a n ||| 1 = rsh a n := by
          have := or_bit (rsh a n) 0
          simp only [Nat.pow_zero] at this
          rw [this, if_pos (by rw [Nat.testBit_zero]; exact decide_eq_true h)]
        omega
      · have : rsh a n ||| 1 = rsh a n + 1 := by
          have := or_bit (rsh a n) 0
          simp only [Nat.pow_zero] at this
          rw [this, if_neg (by rw [Nat.testBit_zero]; simpa using h)]
        omega
  · omega
theorem sum_bd (e : Int) (a : Nat) (e' : Int) (b : Nat) (ha : a < 2 ^ 256) (hb : b < 2 ^ 256) : sumV e a e' b < 2 ^ 256 := by
  have h3 : (2 : Nat) ^ 256 = 2 ^ 255 + 2 ^ 255 := by rw [← Nat.two_mul, ← Nat.pow_succ']
  have h0 : 0 < 2 ^ 255 := Nat.two_pow_pos _
  unfold sumV
  have k1 : jamS a (sumE e a e' b - e) < 2 ^ 255 := by
    by_cases hz : a = 0
    · rw [hz, jam_zero]; exact h0
    · refine jam_half a _ ha ?_
      unfold sumE levS
      rw [if_neg (fun h => hz h.1)]
      split <;> omega
  have k2 : jamS b (sumE e a e' b - e') < 2 ^ 255 := by
    by_cases hz : b = 0
    · rw [hz, jam_zero]; exact h0
    · refine jam_half b _ hb ?_
      unfold sumE levS
      split
      · omega
      · rw [if_neg (fun h => hz h.1)]; omega
  omega
theorem cmpN_lt {a b : Nat} (h : a < b) : cmpN a b = -1 := by unfold cmpN; rw [if_pos h]
theorem cmpN_gt {a b : Nat} (h : b < a) : cmpN a b = 1 := by unfold cmpN; rw [if_neg (by omega), if_pos h]
theorem cmpN_same {a b : Nat} (h : a = b) : cmpN a b = 0 := by unfold cmpN; rw [if_neg (by omega), if_neg (by omega)]
theorem mag_lt {e : Int} {a : Nat} {e' : Int} {b : Nat} (h : rsh a (max e e' - e) < rsh b (max e e' - e')) : magC e a e' b = -1 := by
  unfold magC; rw [cmpN_lt h, if_neg (by decide)]
theorem mag_gt {e : Int} {a : Nat} {e' : Int} {b : Nat} (h : rsh b (max e e' - e') < rsh a (max e e' - e)) : magC e a e' b = 1 := by
  unfold magC; rw [cmpN_gt h, if_neg (by decide)]
theorem mag_same {e : Int} {a : Nat} {e' : Int} {b : Nat} (h : rsh a (max e e' - e) = rsh b (max e e' - e')) : magC e a e' b = if lostS a (max e e' - e) then 1 else if lostS b (max e e' - e') then -1 else 0 := by
  unfold magC; rw [cmpN_same h, if_pos rfl]
theorem dif_le (e : Int) (a : Nat) (e' : Int) (b : Nat) (h : ¬ magC e a e' b < 0) : jamS b (levS e a e' b - e') ≤ jamS a (levS e a e' b - e) := by
  by_cases hb : b = 0
  · rw [hb, jam_zero]; exact Nat.zero_le _
  by_cases ha : a = 0
  · exfalso
    apply h
    subst ha
    have z : rsh 0 (max e e' - e) = 0 := by unfold rsh; simp
    have zl : lostS 0 (max e e' - e) = false := by unfold lostS; simp
    by_cases hr : rsh b (max e e' - e') = 0
    · have hl : lostS b (max e e' - e') = true := by
        unfold lostS
        rw [decide_eq_true_eq]
        intro hm
        unfold rsh at hr
        have := Nat.div_add_mod b (2 ^ (max e e' - e').toNat)
        rw [hr, hm] at this
        omega
      rw [mag_same (by rw [z, hr]), zl, hl]; decide
    · rw [mag_lt (by rw [z]; omega)]; decide
  have hL : levS e a e' b = max e e' := by unfold levS; rw [if_neg (fun h => ha h.1), if_neg (fun h => hb h.1)]
  rw [hL]
  have ja := jam_rsh a (max e e' - e)
  have jb := jam_rsh b (max e e' - e')
  rcases Nat.lt_trichotomy (rsh a (max e e' - e)) (rsh b (max e e' - e')) with h1 | h1 | h1
  · rw [mag_lt h1] at h
    exact absurd (by decide) h
  · rw [mag_same h1] at h
    unfold jamS
    rw [← h1]
    cases hla : lostS a (max e e' - e)
    · cases hlb : lostS b (max e e' - e')
      · simp
      · rw [hla, hlb] at h; exact absurd (by decide) h
    · cases hlb : lostS b (max e e' - e')
      · simp only [if_true, Bool.false_eq_true, if_false]; exact Nat.left_le_or
      · simp
  · omega
theorem mag_neg (e : Int) (a : Nat) (e' : Int) (b : Nat) (h : magC e a e' b < 0) : ¬ magC e' b e a < 0 := by
  have hx : max e' e = max e e' := Int.max_comm e' e
  rcases Nat.lt_trichotomy (rsh a (max e e' - e)) (rsh b (max e e' - e')) with h1 | h1 | h1
  · rw [mag_gt (by rw [hx]; exact h1)]; decide
  · rw [mag_same h1] at h
    rw [mag_same (by rw [hx]; exact h1.symm), hx]
    cases hla : lostS a (max e e' - e) <;> cases hlb : lostS b (max e e' - e') <;> rw [hla, hlb] at h <;> revert h <;> decide
  · rw [mag_gt h1] at h
    exact absurd h (by decide)
theorem lev_bd (e : Int) (a : Nat) (e' : Int) (b : Nat) (he : -1000000 ≤ e) (he2 : e ≤ 1000000) (hf : -1000000 ≤ e') (hf2 : e' ≤ 1000000) : -1000000 ≤ levS e a e' b ∧ levS e a e' b ≤ 1000000 := by
  unfold levS; repeat' split <;> omega
theorem w4 (n : Nat) (h : n < 2 ^ 256) : cat4 (lo n) (w1 n) (w2 n) (w3 n) = n := cat4_parts n (by rw [← two256]; exact h)
theorem mag_Sum_all (e e' x0 x1 x2 x3 y0 y1 y2 y3 : Int) [U64 x0] [U64 x1] [U64 x2] [U64 x3] [U64 y0] [U64 y1] [U64 y2] [U64 y3] (w : World) [hLay : Laid w] (he : -1000000 ≤ e) (he2 : e ≤ 1000000) (hf : -1000000 ≤ e') (hf2 : e' ≤ 1000000) :
    Calls Tryz.prog 82 #[.agg #[.int .i64 e, .int .u64 x0, .int .u64 x1, .int .u64 x2, .int .u64 x3], .agg #[.int .i64 e', .int .u64 y0, .int .u64 y1, .int .u64 y2, .int .u64 y3]] w fun en w' => en = .returned (.agg #[.int .i64 (sumE e (cat4 x0 x1 x2 x3) e' (cat4 y0 y1 y2 y3)), .int .u64 (lo (sumV e (cat4 x0 x1 x2 x3) e' (cat4 y0 y1 y2 y3))), .int .u64 (w1 (sumV e (cat4 x0 x1 x2 x3) e' (cat4 y0 y1 y2 y3))), .int .u64 (w2 (sumV e (cat4 x0 x1 x2 x3) e' (cat4 y0 y1 y2 y3))), .int .u64 (w3 (sumV e (cat4 x0 x1 x2 x3) e' (cat4 y0 y1 y2 y3)))]) ∧ Below w.heap.size w w' := by
  have ha : cat4 x0 x1 x2 x3 < 2 ^ 256 := by rw [two256]; exact cat4_lt x0 x1 x2 x3
  have hb : cat4 y0 y1 y2 y3 < 2 ^ 256 := by rw [two256]; exact cat4_lt y0 y1 y2 y3
  have hl := lev_bd e (cat4 x0 x1 x2 x3) e' (cat4 y0 y1 y2 y3) he he2 hf hf2
  have hE : sumE e (cat4 x0 x1 x2 x3) e' (cat4 y0 y1 y2 y3) = levS e (cat4 x0 x1 x2 x3) e' (cat4 y0 y1 y2 y3) + 1 := rfl
  have hs := sum_bd e (cat4 x0 x1 x2 x3) e' (cat4 y0 y1 y2 y3) ha hb
  have hV : sumV e (cat4 x0 x1 x2 x3) e' (cat4 y0 y1 y2 y3) = jamS (cat4 x0 x1 x2 x3) (sumE e (cat4 x0 x1 x2 x3) e' (cat4 y0 y1 y2 y3) - e) + jamS (cat4 y0 y1 y2 y3) (sumE e (cat4 x0 x1 x2 x3) e' (cat4 y0 y1 y2 y3) - e') := rfl
  rw [hV] at hs ⊢
  have q1 := w4 _ (jamS_le (cat4 x0 x1 x2 x3) (sumE e (cat4 x0 x1 x2 x3) e' (cat4 y0 y1 y2 y3) - e) ha)
  have q2 := w4 _ (jamS_le (cat4 y0 y1 y2 y3) (sumE e (cat4 x0 x1 x2 x3) e' (cat4 y0 y1 y2 y3) - e') hb)
  exact mag_sum e e' _ x0 x1 x2 x3 y0 y1 y2 y3 _ _ _ _ _ _ _ _ _ _ _ _ w he he2 hf hf2 (Lib.hid hE.symm) (by omega) (by omega) (Lib.hid rfl) (Lib.hid rfl) (Lib.hid rfl) (Lib.hid rfl) (Lib.hid rfl) (Lib.hid rfl) (Lib.hid rfl) (Lib.hid rfl) (Lib.hid (by rw [q1, q2]; exact hs)) (Lib.hid (by rw [q1, q2])) (Lib.hid (by rw [q1, q2])) (Lib.hid (by rw [q1, q2])) (Lib.hid (by rw [q1, q2]))
theorem mag_Diff_all (e e' x0 x1 x2 x3 y0 y1 y2 y3 : Int) [U64 x0] [U64 x1] [U64 x2] [U64 x3] [U64 y0] [U64 y1] [U64 y2] [U64 y3] (w : World) [hLay : Laid w] (he : -1000000 ≤ e) (he2 : e ≤ 1000000) (hf : -1000000 ≤ e') (hf2 : e' ≤ 1000000) :
    Calls Tryz.prog 84 #[.agg #[.int .i64 e, .int .u64 x0, .int .u64 x1, .int .u64 x2, .int .u64 x3], .agg #[.int .i64 e', .int .u64 y0, .int .u64 y1, .int .u64 y2, .int .u64 y3]] w fun en w' => en = .returned (.tuple #[.agg #[.int .i64 (difE e (cat4 x0 x1 x2 x3) e' (cat4 y0 y1 y2 y3)), .int .u64 (lo (difV e (cat4 x0 x1 x2 x3) e' (cat4 y0 y1 y2 y3))), .int .u64 (w1 (difV e (cat4 x0 x1 x2 x3) e' (cat4 y0 y1 y2 y3))), .int .u64 (w2 (difV e (cat4 x0 x1 x2 x3) e' (cat4 y0 y1 y2 y3))), .int .u64 (w3 (difV e (cat4 x0 x1 x2 x3) e' (cat4 y0 y1 y2 y3)))], .bool (difL e (cat4 x0 x1 x2 x3) e' (cat4 y0 y1 y2 y3))]) ∧ Below w.heap.size w w' := by
  have ha : cat4 x0 x1 x2 x3 < 2 ^ 256 := by rw [two256]; exact cat4_lt x0 x1 x2 x3
  have hb : cat4 y0 y1 y2 y3 < 2 ^ 256 := by rw [two256]; exact cat4_lt y0 y1 y2 y3
  by_cases hm : magC e (cat4 x0 x1 x2 x3) e' (cat4 y0 y1 y2 y3) < 0
  · have hl := lev_bd e' (cat4 y0 y1 y2 y3) e (cat4 x0 x1 x2 x3) hf hf2 he he2
    have hL : difL e (cat4 x0 x1 x2 x3) e' (cat4 y0 y1 y2 y3) = true := decide_eq_true hm
    have hE : difE e (cat4 x0 x1 x2 x3) e' (cat4 y0 y1 y2 y3) = levS e' (cat4 y0 y1 y2 y3) e (cat4 x0 x1 x2 x3) := by unfold difE; rw [hL, if_pos rfl]
    have hV : difV e (cat4 x0 x1 x2 x3) e' (cat4 y0 y1 y2 y3) = jamS (cat4 y0 y1 y2 y3) (levS e' (cat4 y0 y1 y2 y3) e (cat4 x0 x1 x2 x3) - e') - jamS (cat4 x0 x1 x2 x3) (levS e' (cat4 y0 y1 y2 y3) e (cat4 x0 x1 x2 x3) - e) := by unfold difV; rw [hL, if_pos rfl, hE]
    have hd := dif_le e' (cat4 y0 y1 y2 y3) e (cat4 x0 x1 x2 x3) (mag_neg _ _ _ _ hm)
    have q1 := w4 _ (jamS_le (cat4 x0 x1 x2 x3) (levS e' (cat4 y0 y1 y2 y3) e (cat4 x0 x1 x2 x3) - e) ha)
    have q2 := w4 _ (jamS_le (cat4 y0 y1 y2 y3) (levS e' (cat4 y0 y1 y2 y3) e (cat4 x0 x1 x2 x3) - e') hb)
    rw [hE, hV, hL]
    exact mag_rev e e' _ x0 x1 x2 x3 y0 y1 y2 y3 _ _ _ _ _ _ _ _ _ _ _ _ _ w he he2 hf hf2 (Lib.hid rfl) (by omega) (by omega) (Lib.hid rfl) (Lib.hid rfl) (Lib.hid rfl) (Lib.hid rfl) (Lib.hid rfl) (Lib.hid rfl) (Lib.hid rfl) (Lib.hid rfl) (Lib.hid (by rw [q1, q2]; exact hd)) (Lib.hid (by rw [q1, q2])) (Lib.hid (by rw [q1, q2])) (Lib.hid (by rw [q1, q2])) (Lib.hid (by rw [q1, q2])) (Lib.hid rfl) (decide_eq_true hm)
  · have hl := lev_bd e (cat4 x0 x1 x2 x3) e' (cat4 y0 y1 y2 y3) he he2 hf hf2
    have hL : difL e (cat4 x0 x1 x2 x3) e' (cat4 y0 y1 y2 y3) = false := decide_eq_false hm
    have hE : difE e (cat4 x0 x1 x2 x3) e' (cat4 y0 y1 y2 y3) = levS e (cat4 x0 x1 x2 x3) e' (cat4 y0 y1 y2 y3) := by unfold difE; rw [hL, if_neg (by decide)]
    have hV : difV e (cat4 x0 x1 x2 x3) e' (cat4 y0 y1 y2 y3) = jamS (cat4 x0 x1 x2 x3) (levS e (cat4 x0 x1 x2 x3) e' (cat4 y0 y1 y2 y3) - e) - jamS (cat4 y0 y1 y2 y3) (levS e (cat4 x0 x1 x2 x3) e' (cat4 y0 y1 y2 y3) - e') := by unfold difV; rw [hL, if_neg (by decide), hE]
    have hd := dif_le e (cat4 x0 x1 x2 x3) e' (cat4 y0 y1 y2 y3) hm
    have q1 := w4 _ (jamS_le (cat4 x0 x1 x2 x3) (levS e (cat4 x0 x1 x2 x3) e' (cat4 y0 y1 y2 y3) - e) ha)
    have q2 := w4 _ (jamS_le (cat4 y0 y1 y2 y3) (levS e (cat4 x0 x1 x2 x3) e' (cat4 y0 y1 y2 y3) - e') hb)
    rw [hE, hV, hL]
    exact mag_dif e e' _ x0 x1 x2 x3 y0 y1 y2 y3 _ _ _ _ _ _ _ _ _ _ _ _ _ w he he2 hf hf2 (Lib.hid rfl) (by omega) (by omega) (Lib.hid rfl) (Lib.hid rfl) (Lib.hid rfl) (Lib.hid rfl) (Lib.hid rfl) (Lib.hid rfl) (Lib.hid rfl) (Lib.hid rfl) (Lib.hid (by rw [q1, q2]; exact hd)) (Lib.hid (by rw [q1, q2])) (Lib.hid (by rw [q1, q2])) (Lib.hid (by rw [q1, q2])) (Lib.hid (by rw [q1, q2])) (Lib.hid rfl) (decide_eq_false hm)
end Go.Proofs.YtkldkchkhblndaaGreatDoor
