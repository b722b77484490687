/- The contracts of addsub.finite, addsub.Add, addsub.Sub, joined: for every input. Condition: the listed table is laid. -/
import Derived.Test.YtkpjeceofcfnkaaGreatDoorMag2
import Derived.Test.YtkpjeceofcfnkaaGreatDoorMagK
import Derived.Test.YtkpjeceofcfnkaaGreatDoorNan2
import Derived.Test.YtkpjeceofcfnkaaGreatDoorAdd1
set_option linter.unusedSimpArgs false
set_option linter.unusedVariables false
namespace Go.Proofs.YtkpjeceofcfnkaaGreatDoor
open Go.RowKit Go.Hb
def sumE (e : Int) (a : Nat) (e' : Int) (b : Nat) : Int := levS e a e' b + 1
def sumV (e : Int) (a : Nat) (e' : Int) (b : Nat) : Nat := jamS a (sumE e a e' b - e) + jamS b (sumE e a e' b - e')
def difL (e : Int) (a : Nat) (e' : Int) (b : Nat) : Bool := decide (magC e a e' b < 0)
def difE (e : Int) (a : Nat) (e' : Int) (b : Nat) : Int := if difL e a e' b then levS e' b e a else levS e a e' b
def difV (e : Int) (a : Nat) (e' : Int) (b : Nat) : Nat := if difL e a e' b then jamS b (difE e a e' b - e') - jamS a (difE e a e' b - e) else jamS a (difE e a e' b - e) - jamS b (difE e a e' b - e')
theorem jam_zero (n : Int) : jamS 0 n = 0 := by
  unfold jamS lostS rsh
  simp
theorem jam_half (a : Nat) (n : Int) (ha : a < 2 ^ 256) (hn : 1 ≤ n) : jamS a n < 2 ^ 255 := by
  have h1 : rsh a n < 2 ^ 255 := by
    unfold rsh
    rw [Nat.div_lt_iff_lt_mul (Nat.two_pow_pos _)]
    have h2 : 2 ^ 1 ≤ 2 ^ n.toNat := Nat.pow_le_pow_right (by decide) (by omega)
    have h3 : (2 : Nat) ^ 256 = 2 ^ 255 * 2 ^ 1 := by rw [← Nat.pow_add]
    have h4 := Nat.mul_le_mul_left (2 ^ 255) h2
    omega
  unfold jamS
  split
  · exact Nat.or_lt_two_pow h1 (by decide)
  · exact h1
theorem jam_rsh (a : Nat) (n : Int) : rsh a n ≤ jamS a n ∧ jamS a n ≤ rsh a n + 1 := by
  unfold jamS
  split
  · constructor
    · exact Nat.left_le_or
    · by_cases h : rsh a n % 2 = 1
      · have : rsh a n ||| 1 = rsh a n := by
          have := or_bit (rsh a n) 0
          simp only [Nat.pow_zero] at this
          rw [this, if_pos (by rw [Nat.testBit_zero]; exact decide_eq_true h)]
        omega
      · have : rsh a n ||| 1 = rsh a n + 1 := by
          have := or_bit (rsh a n) 0
          simp only [Nat.pow_zero] at this
          rw [this, if_neg (by rw [Nat.testBit_zero]; simpa using h)]
        omega
  · omega
theorem sum_bd (e : Int) (a : Nat) (e' : Int) (b : Nat) (ha : a < 2 ^ 256) (hb : b < 2 ^ 256) : sumV e a e' b < 2 ^ 256 := by
  have h3 : (2 : Nat) ^ 256 = 2 ^ 255 + 2 ^ 255 := by rw [← Nat.two_mul, ← Nat.pow_succ']
  have h0 : 0 < 2 ^ 255 := Nat.two_pow_pos _
  unfold sumV
  have k1 : jamS a (sumE e a e' b - e) < 2 ^ 255 := by
    by_cases hz : a = 0
    · rw [hz, jam_zero]; exact h0
    · refine jam_half a _ ha ?_
      unfold sumE levS
      rw [if_neg (fun h => hz h.1)]
      split <;> omega
  have k2 : jamS b (sumE e a e' b - e') < 2 ^ 255 := by
    by_cases hz : b = 0
    · rw [hz, jam_zero]; exact h0
    · refine jam_half b _ hb ?_
      unfold sumE levS
      split
      · omega
      · rw [if_neg (fun h => hz h.1)]; omega
  omega
theorem dif_le (e : Int) (a : Nat) (e' : Int) (b : Nat) (h : ¬ magC e a e' b < 0) : jamS b (levS e a e' b - e') ≤ jamS a (levS e a e' b - e) := by
  by_cases hb : b = 0
  · rw [hb, jam_zero]; exact Nat.zero_le _
  by_cases ha : a = 0
  · exfalso
    apply h
    subst ha
    have z : rsh 0 (max e e' - e) = 0 := by unfold rsh; simp
    have zl : lostS 0 (max e e' - e) = false := by unfold lostS; simp
    by_cases hr : rsh b (max e e' - e') = 0
    · have hl : lostS b (max e e' - e') = true := by
        unfold lostS
        rw [decide_eq_true_eq]
        intro hm
        unfold rsh at hr
        have := Nat.div_add_mod b (2 ^ (max e e' - e').toNat)
        rw [hr, hm] at this
        omega
      rw [mag_same (by rw [z, hr]), zl, hl]; decide
    · rw [mag_lt (by rw [z]; omega)]; decide
  have hL : levS e a e' b = max e e' := by unfold levS; rw [if_neg (fun h => ha h.1), if_neg (fun h => hb h.1)]
  rw [hL]
  have ja := jam_rsh a (max e e' - e)
  have jb := jam_rsh b (max e e' - e')
  rcases Nat.lt_trichotomy (rsh a (max e e' - e)) (rsh b (max e e' - e')) with h1 | h1 | h1
  · rw [mag_lt h1] at h
    exact absurd (by decide) h
  · rw [mag_same h1] at h
    unfold jamS
    rw [← h1]
    cases hla : lostS a (max e e' - e)
    · cases hlb : lostS b (max e e' - e')
      · simp
      · rw [hla, hlb] at h; exact absurd (by decide) h
    · cases hlb : lostS b (max e e' - e')
      · simp only [if_true, Bool.false_eq_true, if_false]; exact Nat.left_le_or
      · simp
  · omega
theorem mag_neg (e : Int) (a : Nat) (e' : Int) (b : Nat) (h : magC e a e' b < 0) : ¬ magC e' b e a < 0 := by
  have hx : max e' e = max e e' := Int.max_comm e' e
  rcases Nat.lt_trichotomy (rsh a (max e e' - e)) (rsh b (max e e' - e')) with h1 | h1 | h1
  · rw [mag_gt (by rw [hx]; exact h1)]; decide
  · rw [mag_same h1] at h
    rw [mag_same (by rw [hx]; exact h1.symm), hx]
    cases hla : lostS a (max e e' - e) <;> cases hlb : lostS b (max e e' - e') <;> rw [hla, hlb] at h <;> revert h <;> decide
  · rw [mag_gt h1] at h
    exact absurd h (by decide)
theorem lev_bd (e : Int) (a : Nat) (e' : Int) (b : Nat) (he : -1000000 ≤ e) (he2 : e ≤ 1000000) (hf : -1000000 ≤ e') (hf2 : e' ≤ 1000000) : -1000000 ≤ levS e a e' b ∧ levS e a e' b ≤ 1000000 := by
  unfold levS; repeat' split <;> omega
theorem w4 (n : Nat) (h : n < 2 ^ 256) : cat4 (lo n) (w1 n) (w2 n) (w3 n) = n := cat4_parts n (by rw [← two256]; exact h)
theorem mag_Sum_all (e e' x0 x1 x2 x3 y0 y1 y2 y3 : Int) [U64 x0] [U64 x1] [U64 x2] [U64 x3] [U64 y0] [U64 y1] [U64 y2] [U64 y3] (w : World) [hLay : Laid w] (he : -1000000 ≤ e) (he2 : e ≤ 1000000) (hf : -1000000 ≤ e') (hf2 : e' ≤ 1000000) :
    Calls Tryz.prog 87 #[.agg #[.int .i64 e, .int .u64 x0, .int .u64 x1, .int .u64 x2, .int .u64 x3], .agg #[.int .i64 e', .int .u64 y0, .int .u64 y1, .int .u64 y2, .int .u64 y3]] w fun en w' => en = .returned (.agg #[.int .i64 (sumE e (cat4 x0 x1 x2 x3) e' (cat4 y0 y1 y2 y3)), .int .u64 (lo (sumV e (cat4 x0 x1 x2 x3) e' (cat4 y0 y1 y2 y3))), .int .u64 (w1 (sumV e (cat4 x0 x1 x2 x3) e' (cat4 y0 y1 y2 y3))), .int .u64 (w2 (sumV e (cat4 x0 x1 x2 x3) e' (cat4 y0 y1 y2 y3))), .int .u64 (w3 (sumV e (cat4 x0 x1 x2 x3) e' (cat4 y0 y1 y2 y3)))]) ∧ Below w.heap.size w w' := by
  have ha : cat4 x0 x1 x2 x3 < 2 ^ 256 := by rw [two256]; exact cat4_lt x0 x1 x2 x3
  have hb : cat4 y0 y1 y2 y3 < 2 ^ 256 := by rw [two256]; exact cat4_lt y0 y1 y2 y3
  have hl := lev_bd e (cat4 x0 x1 x2 x3) e' (cat4 y0 y1 y2 y3) he he2 hf hf2
  have hE : sumE e (cat4 x0 x1 x2 x3) e' (cat4 y0 y1 y2 y3) = levS e (cat4 x0 x1 x2 x3) e' (cat4 y0 y1 y2 y3) + 1 := rfl
  have hs := sum_bd e (cat4 x0 x1 x2 x3) e' (cat4 y0 y1 y2 y3) ha hb
  have hV : sumV e (cat4 x0 x1 x2 x3) e' (cat4 y0 y1 y2 y3) = jamS (cat4 x0 x1 x2 x3) (sumE e (cat4 x0 x1 x2 x3) e' (cat4 y0 y1 y2 y3) - e) + jamS (cat4 y0 y1 y2 y3) (sumE e (cat4 x0 x1 x2 x3) e' (cat4 y0 y1 y2 y3) - e') := rfl
  rw [hV] at hs ⊢
  have q1 := w4 _ (jamS_le (cat4 x0 x1 x2 x3) (sumE e (cat4 x0 x1 x2 x3) e' (cat4 y0 y1 y2 y3) - e) ha)
  have q2 := w4 _ (jamS_le (cat4 y0 y1 y2 y3) (sumE e (cat4 x0 x1 x2 x3) e' (cat4 y0 y1 y2 y3) - e') hb)
  exact mag_sum e e' _ x0 x1 x2 x3 y0 y1 y2 y3 _ _ _ _ _ _ _ _ _ _ _ _ w he he2 hf hf2 (Lib.hid hE.symm) (by omega) (by omega) (Lib.hid rfl) (Lib.hid rfl) (Lib.hid rfl) (Lib.hid rfl) (Lib.hid rfl) (Lib.hid rfl) (Lib.hid rfl) (Lib.hid rfl) (Lib.hid (by rw [q1, q2]; exact hs)) (Lib.hid (by rw [q1, q2])) (Lib.hid (by rw [q1, q2])) (Lib.hid (by rw [q1, q2])) (Lib.hid (by rw [q1, q2]))
theorem mag_Diff_all (e e' x0 x1 x2 x3 y0 y1 y2 y3 : Int) [U64 x0] [U64 x1] [U64 x2] [U64 x3] [U64 y0] [U64 y1] [U64 y2] [U64 y3] (w : World) [hLay : Laid w] (he : -1000000 ≤ e) (he2 : e ≤ 1000000) (hf : -1000000 ≤ e') (hf2 : e' ≤ 1000000) :
    Calls Tryz.prog 89 #[.agg #[.int .i64 e, .int .u64 x0, .int .u64 x1, .int .u64 x2, .int .u64 x3], .agg #[.int .i64 e', .int .u64 y0, .int .u64 y1, .int .u64 y2, .int .u64 y3]] w fun en w' => en = .returned (.tuple #[.agg #[.int .i64 (difE e (cat4 x0 x1 x2 x3) e' (cat4 y0 y1 y2 y3)), .int .u64 (lo (difV e (cat4 x0 x1 x2 x3) e' (cat4 y0 y1 y2 y3))), .int .u64 (w1 (difV e (cat4 x0 x1 x2 x3) e' (cat4 y0 y1 y2 y3))), .int .u64 (w2 (difV e (cat4 x0 x1 x2 x3) e' (cat4 y0 y1 y2 y3))), .int .u64 (w3 (difV e (cat4 x0 x1 x2 x3) e' (cat4 y0 y1 y2 y3)))], .bool (difL e (cat4 x0 x1 x2 x3) e' (cat4 y0 y1 y2 y3))]) ∧ Below w.heap.size w w' := by
  have ha : cat4 x0 x1 x2 x3 < 2 ^ 256 := by rw [two256]; exact cat4_lt x0 x1 x2 x3
  have hb : cat4 y0 y1 y2 y3 < 2 ^ 256 := by rw [two256]; exact cat4_lt y0 y1 y2 y3
  by_cases hm : magC e (cat4 x0 x1 x2 x3) e' (cat4 y0 y1 y2 y3) < 0
  · have hl := lev_bd e' (cat4 y0 y1 y2 y3) e (cat4 x0 x1 x2 x3) hf hf2 he he2
    have hL : difL e (cat4 x0 x1 x2 x3) e' (cat4 y0 y1 y2 y3) = true := decide_eq_true hm
    have hE : difE e (cat4 x0 x1 x2 x3) e' (cat4 y0 y1 y2 y3) = levS e' (cat4 y0 y1 y2 y3) e (cat4 x0 x1 x2 x3) := by unfold difE; rw [hL, if_pos rfl]
    have hV : difV e (cat4 x0 x1 x2 x3) e' (cat4 y0 y1 y2 y3) = jamS (cat4 y0 y1 y2 y3) (levS e' (cat4 y0 y1 y2 y3) e (cat4 x0 x1 x2 x3) - e') - jamS (cat4 x0 x1 x2 x3) (levS e' (cat4 y0 y1 y2 y3) e (cat4 x0 x1 x2 x3) - e) := by unfold difV; rw [hL, if_pos rfl, hE]
    have hd := dif_le e' (cat4 y0 y1 y2 y3) e (cat4 x0 x1 x2 x3) (mag_neg _ _ _ _ hm)
    have q1 := w4 _ (jamS_le (cat4 x0 x1 x2 x3) (levS e' (cat4 y0 y1 y2 y3) e (cat4 x0 x1 x2 x3) - e) ha)
    have q2 := w4 _ (jamS_le (cat4 y0 y1 y2 y3) (levS e' (cat4 y0 y1 y2 y3) e (cat4 x0 x1 x2 x3) - e') hb)
    rw [hE, hV, hL]
    exact mag_rev e e' _ x0 x1 x2 x3 y0 y1 y2 y3 _ _ _ _ _ _ _ _ _ _ _ _ _ w he he2 hf hf2 (Lib.hid rfl) (by omega) (by omega) (Lib.hid rfl) (Lib.hid rfl) (Lib.hid rfl) (Lib.hid rfl) (Lib.hid rfl) (Lib.hid rfl) (Lib.hid rfl) (Lib.hid rfl) (Lib.hid (by rw [q1, q2]; exact hd)) (Lib.hid (by rw [q1, q2])) (Lib.hid (by rw [q1, q2])) (Lib.hid (by rw [q1, q2])) (Lib.hid (by rw [q1, q2])) (Lib.hid rfl) (decide_eq_true hm)
  · have hl := lev_bd e (cat4 x0 x1 x2 x3) e' (cat4 y0 y1 y2 y3) he he2 hf hf2
    have hL : difL e (cat4 x0 x1 x2 x3) e' (cat4 y0 y1 y2 y3) = false := decide_eq_false hm
    have hE : difE e (cat4 x0 x1 x2 x3) e' (cat4 y0 y1 y2 y3) = levS e (cat4 x0 x1 x2 x3) e' (cat4 y0 y1 y2 y3) := by unfold difE; rw [hL, if_neg (by decide)]
    have hV : difV e (cat4 x0 x1 x2 x3) e' (cat4 y0 y1 y2 y3) = jamS (cat4 x0 x1 x2 x3) (levS e (cat4 x0 x1 x2 x3) e' (cat4 y0 y1 y2 y3) - e) - jamS (cat4 y0 y1 y2 y3) (levS e (cat4 x0 x1 x2 x3) e' (cat4 y0 y1 y2 y3) - e') := by unfold difV; rw [hL, if_neg (by decide), hE]
    have hd := dif_le e (cat4 x0 x1 x2 x3) e' (cat4 y0 y1 y2 y3) hm
    have q1 := w4 _ (jamS_le (cat4 x0 x1 x2 x3) (levS e (cat4 x0 x1 x2 x3) e' (cat4 y0 y1 y2 y3) - e) ha)
    have q2 := w4 _ (jamS_le (cat4 y0 y1 y2 y3) (levS e (cat4 x0 x1 x2 x3) e' (cat4 y0 y1 y2 y3) - e') hb)
    rw [hE, hV, hL]
    exact mag_dif e e' _ x0 x1 x2 x3 y0 y1 y2 y3 _ _ _ _ _ _ _ _ _ _ _ _ _ w he he2 hf hf2 (Lib.hid rfl) (by omega) (by omega) (Lib.hid rfl) (Lib.hid rfl) (Lib.hid rfl) (Lib.hid rfl) (Lib.hid rfl) (Lib.hid rfl) (Lib.hid rfl) (Lib.hid rfl) (Lib.hid (by rw [q1, q2]; exact hd)) (Lib.hid (by rw [q1, q2])) (Lib.hid (by rw [q1, q2])) (Lib.hid (by rw [q1, q2])) (Lib.hid (by rw [q1, q2])) (Lib.hid rfl) (decide_eq_false hm)
end Go.Proofs.YtkpjeceofcfnkaaGreatDoor
namespace Go.Proofs.YtkpjeceofcfnkaaGreatDoor
open Go.RowKit Go.Hb
def finE (s t : Bool) (e : Int) (a : Nat) (e' : Int) (b : Nat) : Int := if s = t then sumE e a e' b else difE e a e' b
def finV (s t : Bool) (e : Int) (a : Nat) (e' : Int) (b : Nat) : Nat := if s = t then sumV e a e' b else difV e a e' b
def finS (m : Int) (s t : Bool) (e : Int) (a : Nat) (e' : Int) (b : Nat) : Bool := if finV s t e a e' b = 0 then nouB m s t else if s = t then s else (s != difL e a e' b)
def finB (f m : Int) (s t : Bool) (e : Int) (a : Nat) (e' : Int) (b : Nat) : Nat := resB f m (finS m s t e a e' b) (finE s t e a e' b) (finV s t e a e' b)
def finFl (f m : Int) (aft : Bool) (s t : Bool) (e : Int) (a : Nat) (e' : Int) (b : Nat) : Int := resFl f m aft (finS m s t e a e' b) (finE s t e a e' b) (finV s t e a e' b)
theorem dif_bd (e : Int) (a : Nat) (e' : Int) (b : Nat) (ha : a < 2 ^ 256) (hb : b < 2 ^ 256) : difV e a e' b < 2 ^ 256 := by
  have h1 := jamS_le a (difE e a e' b - e) ha
  have h2 := jamS_le b (difE e a e' b - e') hb
  unfold difV
  split <;> omega
theorem fin_e (f m c e h l c' e' h' l' : Int) (aft s : Bool) [hU : U8 f] [hM : U8 m] [U64 h] [U64 l] [U64 h'] [U64 l'] (w : World) [hLay : Laid w] (he : -1000000 ≤ e) (he2 : e ≤ 1000000) (hf : -1000000 ≤ e') (hf2 : e' ≤ 1000000) :
    Calls Tryz.prog 41 #[.int .u8 f, .agg #[.int .u8 m, .bool aft], .agg #[.bool s, .int .u8 c, .int .i64 e, .int .u64 h, .int .u64 l], .agg #[.bool s, .int .u8 c', .int .i64 e', .int .u64 h', .int .u64 l']] w fun en w' => en = .returned (.agg #[.int .u64 (hi (finB f m s s e (cat4 0 0 l h) e' (cat4 0 0 l' h'))), .int .u64 (lo (finB f m s s e (cat4 0 0 l h) e' (cat4 0 0 l' h'))), .int .u8 (finFl f m aft s s e (cat4 0 0 l h) e' (cat4 0 0 l' h'))]) ∧ Below w.heap.size w w' := by
  have ha : cat4 0 0 l h < 2 ^ 256 := by rw [two256]; exact cat4_lt 0 0 l h
  have hb : cat4 0 0 l' h' < 2 ^ 256 := by rw [two256]; exact cat4_lt 0 0 l' h'
  have hE : finE s s e (cat4 0 0 l h) e' (cat4 0 0 l' h') = sumE e (cat4 0 0 l h) e' (cat4 0 0 l' h') := by unfold finE; rw [if_pos rfl]
  have hV : finV s s e (cat4 0 0 l h) e' (cat4 0 0 l' h') = sumV e (cat4 0 0 l h) e' (cat4 0 0 l' h') := by unfold finV; rw [if_pos rfl]
  have hq := w4 _ (sum_bd e (cat4 0 0 l h) e' (cat4 0 0 l' h') ha hb)
  unfold finB finFl
  rw [hE, hV]
  by_cases hz : sumV e (cat4 0 0 l h) e' (cat4 0 0 l' h') = 0
  · have hS : finS m s s e (cat4 0 0 l h) e' (cat4 0 0 l' h') = nouB m s s := by unfold finS; rw [hV, if_pos hz]
    rw [hS]
    exact fin_e_a f m c e h l c' e' h' l' _ _ _ _ _ _ _ _ aft s _ true w (fun W hW => mag_Sum_all e e' 0 0 l h 0 0 l' h' W he he2 hf hf2) (Lib.hid (by rw [hq]; exact decide_eq_true hz)) (Or.inl ⟨rfl, rfl⟩) (Lib.hid (by rw [hq])) (Lib.hid (by rw [hq])) (Lib.hid (by rw [hq]))
  · have hS : finS m s s e (cat4 0 0 l h) e' (cat4 0 0 l' h') = s := by unfold finS; rw [hV, if_neg hz, if_pos rfl]
    rw [hS]
    exact fin_e_a f m c e h l c' e' h' l' _ _ _ _ _ _ _ _ aft s _ false w (fun W hW => mag_Sum_all e e' 0 0 l h 0 0 l' h' W he he2 hf hf2) (Lib.hid (by rw [hq]; exact decide_eq_false hz)) (Or.inr ⟨rfl, rfl⟩) (Lib.hid (by rw [hq])) (Lib.hid (by rw [hq])) (Lib.hid (by rw [hq]))
theorem fin_n (f m c e h l c' e' h' l' : Int) (aft s : Bool) [hU : U8 f] [hM : U8 m] [U64 h] [U64 l] [U64 h'] [U64 l'] (w : World) [hLay : Laid w] (he : -1000000 ≤ e) (he2 : e ≤ 1000000) (hf : -1000000 ≤ e') (hf2 : e' ≤ 1000000) :
    Calls Tryz.prog 41 #[.int .u8 f, .agg #[.int .u8 m, .bool aft], .agg #[.bool s, .int .u8 c, .int .i64 e, .int .u64 h, .int .u64 l], .agg #[.bool (!s), .int .u8 c', .int .i64 e', .int .u64 h', .int .u64 l']] w fun en w' => en = .returned (.agg #[.int .u64 (hi (finB f m s (!s) e (cat4 0 0 l h) e' (cat4 0 0 l' h'))), .int .u64 (lo (finB f m s (!s) e (cat4 0 0 l h) e' (cat4 0 0 l' h'))), .int .u8 (finFl f m aft s (!s) e (cat4 0 0 l h) e' (cat4 0 0 l' h'))]) ∧ Below w.heap.size w w' := by
  have ha : cat4 0 0 l h < 2 ^ 256 := by rw [two256]; exact cat4_lt 0 0 l h
  have hb : cat4 0 0 l' h' < 2 ^ 256 := by rw [two256]; exact cat4_lt 0 0 l' h'
  have hst : ¬ s = !s := by cases s <;> decide
  have hE : finE s (!s) e (cat4 0 0 l h) e' (cat4 0 0 l' h') = difE e (cat4 0 0 l h) e' (cat4 0 0 l' h') := by unfold finE; rw [if_neg hst]
  have hV : finV s (!s) e (cat4 0 0 l h) e' (cat4 0 0 l' h') = difV e (cat4 0 0 l h) e' (cat4 0 0 l' h') := by unfold finV; rw [if_neg hst]
  have hq := w4 _ (dif_bd e (cat4 0 0 l h) e' (cat4 0 0 l' h') ha hb)
  unfold finB finFl
  rw [hE, hV]
  by_cases hz : difV e (cat4 0 0 l h) e' (cat4 0 0 l' h') = 0
  · have hS : finS m s (!s) e (cat4 0 0 l h) e' (cat4 0 0 l' h') = nouB m s (!s) := by unfold finS; rw [hV, if_pos hz]
    rw [hS]
    exact fin_n_a f m c e h l c' e' h' l' _ _ _ _ _ _ _ _ aft s _ _ _ true w (fun W hW => mag_Diff_all e e' 0 0 l h 0 0 l' h' W he he2 hf hf2) rfl (Lib.hid (by rw [hq]; exact decide_eq_true hz)) (Or.inl ⟨rfl, rfl⟩) (Lib.hid (by rw [hq])) (Lib.hid (by rw [hq])) (Lib.hid (by rw [hq]))
  · have hS : finS m s (!s) e (cat4 0 0 l h) e' (cat4 0 0 l' h') = (s != difL e (cat4 0 0 l h) e' (cat4 0 0 l' h')) := by unfold finS; rw [hV, if_neg hz, if_neg hst]
    rw [hS]
    exact fin_n_a f m c e h l c' e' h' l' _ _ _ _ _ _ _ _ aft s _ _ _ false w (fun W hW => mag_Diff_all e e' 0 0 l h 0 0 l' h' W he he2 hf hf2) rfl (Lib.hid (by rw [hq]; exact decide_eq_false hz)) (Or.inr ⟨rfl, rfl⟩) (Lib.hid (by rw [hq])) (Lib.hid (by rw [hq])) (Lib.hid (by rw [hq]))
theorem addsub_finite (f m c e h l c' e' h' l' : Int) (aft s t : Bool) [hU : U8 f] [hM : U8 m] [U64 h] [U64 l] [U64 h'] [U64 l'] (w : World) [hLay : Laid w] (he : -1000000 ≤ e) (he2 : e ≤ 1000000) (hf : -1000000 ≤ e') (hf2 : e' ≤ 1000000) :
    Calls Tryz.prog 41 #[.int .u8 f, .agg #[.int .u8 m, .bool aft], .agg #[.bool s, .int .u8 c, .int .i64 e, .int .u64 h, .int .u64 l], .agg #[.bool t, .int .u8 c', .int .i64 e', .int .u64 h', .int .u64 l']] w fun en w' => en = .returned (.agg #[.int .u64 (hi (finB f m s t e (cat4 0 0 l h) e' (cat4 0 0 l' h'))), .int .u64 (lo (finB f m s t e (cat4 0 0 l h) e' (cat4 0 0 l' h'))), .int .u8 (finFl f m aft s t e (cat4 0 0 l h) e' (cat4 0 0 l' h'))]) ∧ Below w.heap.size w w' := by
  by_cases hst : t = s
  · subst hst; exact fin_e f m c e h l c' e' h' l' aft t w he he2 hf hf2
  · have : t = !s := by cases s <;> cases t <;> simp_all
    subst this; exact fin_n f m c e h l c' e' h' l' aft s w he he2 hf hf2
/-- What addsub.Add answers. -/
def addB (f m : Int) (a b : Nat) : Nat :=
  if f < 4 ∧ m ≤ 4 then (if nanB f a then quietF f a else if nanB f b then quietF f b else
    if classF f a = 3 then (if classF f b = 3 ∧ sgnF f b ≠ sgnF f a then defF f else makeF f (sgnF f a) (2 * emaxS f + 1) 0)
    else if classF f b = 3 then makeF f (sgnF f b) (2 * emaxS f + 1) 0
    else finB f m (sgnF f a) (sgnF f b) (unE f a) (up128 (unS f a)) (unE f b) (up128 (unS f b))) else 0
def addFl (f m : Int) (aft : Bool) (a b : Nat) : Int :=
  if f < 4 ∧ m ≤ 4 then (if nanB f a || nanB f b then (if sigB f a || sigB f b then 1 else 0) else
    if classF f a = 3 then (if classF f b = 3 ∧ sgnF f b ≠ sgnF f a then 1 else 0)
    else if classF f b = 3 then 0
    else finFl f m aft (sgnF f a) (sgnF f b) (unE f a) (up128 (unS f a)) (unE f b) (up128 (unS f b))) else 0
theorem nan_false {f : Int} {v : Nat} (h : ¬ 4 ≤ classF f v) : nanB f v = false := decide_eq_false h
theorem addsub_Add (f m h l h' l' : Int) (aft : Bool) [hU : U8 f] [hM : U8 m] [U64 h] [U64 l] [U64 h'] [U64 l'] (w : World) [hLay : Laid w] :
    Calls Tryz.prog 12 #[.int .u8 f, .agg #[.int .u8 m, .bool aft], .agg #[.int .u64 (h), .int .u64 (l)], .agg #[.int .u64 (h'), .int .u64 (l')]] w fun en w' => en = .returned (.agg #[.int .u64 (hi (addB f m (cat h l) (cat h' l'))), .int .u64 (lo (addB f m (cat h l) (cat h' l'))), .int .u8 (addFl f m aft (cat h l) (cat h' l'))]) ∧ Below w.heap.size w w' := by
  have z0 : hi 0 = 0 := rfl
  have z1 : lo 0 = 0 := rfl
  by_cases hf : f < 4
  case neg =>
    have e1 : addB f m (cat h l) (cat h' l') = 0 := by unfold addB; rw [if_neg (fun x => hf x.1)]
    have e2 : addFl f m aft (cat h l) (cat h' l') = 0 := by unfold addFl; rw [if_neg (fun x => hf x.1)]
    rw [e1, e2, z0, z1]; exact add_nf f m h l h' l' aft w hf
  by_cases hm : m ≤ 4
  case neg =>
    have e1 : addB f m (cat h l) (cat h' l') = 0 := by unfold addB; rw [if_neg (fun x => hm x.2)]
    have e2 : addFl f m aft (cat h l) (cat h' l') = 0 := by unfold addFl; rw [if_neg (fun x => hm x.2)]
    rw [e1, e2, z0, z1]; exact add_nm f m h l h' l' aft w hf hm
  have hk : f < 4 ∧ m ≤ 4 := ⟨hf, hm⟩
  have f0 := hU.ge
  have kb : ∀ v (x : Int), classF f v ≠ x → (classF f v == x) = false := fun v x hn => beq_eq_false_iff_ne.2 hn
  by_cases hn1 : 4 ≤ classF f (cat h l)
  · have n1 : nanB f (cat h l) = true := decide_eq_true hn1
    have e1 : addB f m (cat h l) (cat h' l') = quietF f (cat h l) := by unfold addB; rw [if_pos hk, n1, if_pos rfl]
    have e2 : addFl f m aft (cat h l) (cat h' l') = (if sigB f (cat h l) || sigB f (cat h' l') then 1 else 0) := by unfold addFl; rw [if_pos hk, n1, Bool.true_or, if_pos rfl]
    rw [e1, e2]
    cases hs : (sigB f (cat h l) || sigB f (cat h' l'))
    · rw [if_neg (by decide)]
      exact add_p f m h l h' l' _ _ _ _ _ _ _ _ _ _ 0 aft _ _ false w hf hm (Lib.hid rfl) (Lib.hid rfl) (Lib.hid rfl) (Lib.hid rfl) (Lib.hid rfl) (Lib.hid rfl) (Lib.hid rfl) (Lib.hid rfl) (Lib.hid rfl) (Lib.hid rfl) (fun W b hW c0 c1 c2 c3 => pick2_a f h l h' l' _ _ 0 _ b W c0 c1 c2 c3 hf (Lib.hid n1) (Lib.hid rfl) (Lib.hid rfl) (Lib.hid hs) (Or.inr ⟨rfl, rfl⟩)) (Or.inl ⟨(kb _ _ (by omega)), rfl⟩)
    · rw [if_pos rfl]
      exact add_p f m h l h' l' _ _ _ _ _ _ _ _ _ _ 1 aft _ _ false w hf hm (Lib.hid rfl) (Lib.hid rfl) (Lib.hid rfl) (Lib.hid rfl) (Lib.hid rfl) (Lib.hid rfl) (Lib.hid rfl) (Lib.hid rfl) (Lib.hid rfl) (Lib.hid rfl) (fun W b hW c0 c1 c2 c3 => pick2_a f h l h' l' _ _ 1 _ b W c0 c1 c2 c3 hf (Lib.hid n1) (Lib.hid rfl) (Lib.hid rfl) (Lib.hid hs) (Or.inl ⟨rfl, rfl⟩)) (Or.inl ⟨(kb _ _ (by omega)), rfl⟩)
  have n1 : nanB f (cat h l) = false := nan_false hn1
  have ff : ¬ (false = true) := by decide
  by_cases hn2 : 4 ≤ classF f (cat h' l')
  · have n2 : nanB f (cat h' l') = true := decide_eq_true hn2
    have e1 : addB f m (cat h l) (cat h' l') = quietF f (cat h' l') := by unfold addB; rw [if_pos hk, n1, if_neg ff, n2, if_pos rfl]
    have e2 : addFl f m aft (cat h l) (cat h' l') = (if sigB f (cat h l) || sigB f (cat h' l') then 1 else 0) := by unfold addFl; rw [if_pos hk, n1, n2, Bool.or_true, if_pos rfl]
    rw [e1, e2]
    cases hs : (sigB f (cat h l) || sigB f (cat h' l'))
    · rw [if_neg (by decide)]
      by_cases h3 : classF f (cat h l) = 3
      · exact add_p f m h l h' l' _ _ _ _ _ _ _ _ _ _ 0 aft _ _ false w hf hm (Lib.hid rfl) (Lib.hid rfl) (Lib.hid rfl) (Lib.hid rfl) (Lib.hid rfl) (Lib.hid rfl) (Lib.hid rfl) (Lib.hid rfl) (Lib.hid rfl) (Lib.hid rfl) (fun W b hW c0 c1 c2 c3 => pick2_b f h l h' l' _ _ 0 _ b W c0 c1 c2 c3 hf (Lib.hid n1) (Lib.hid n2) (Lib.hid rfl) (Lib.hid rfl) (Lib.hid hs) (Or.inr ⟨rfl, rfl⟩)) (Or.inr (Or.inl ⟨(beq_iff_eq.2 h3), (kb _ _ (by omega)), rfl⟩))
      · exact add_p f m h l h' l' _ _ _ _ _ _ _ _ _ _ 0 aft _ _ false w hf hm (Lib.hid rfl) (Lib.hid rfl) (Lib.hid rfl) (Lib.hid rfl) (Lib.hid rfl) (Lib.hid rfl) (Lib.hid rfl) (Lib.hid rfl) (Lib.hid rfl) (Lib.hid rfl) (fun W b hW c0 c1 c2 c3 => pick2_b f h l h' l' _ _ 0 _ b W c0 c1 c2 c3 hf (Lib.hid n1) (Lib.hid n2) (Lib.hid rfl) (Lib.hid rfl) (Lib.hid hs) (Or.inr ⟨rfl, rfl⟩)) (Or.inl ⟨(kb _ _ h3), rfl⟩)
    · rw [if_pos rfl]
      by_cases h3 : classF f (cat h l) = 3
      · exact add_p f m h l h' l' _ _ _ _ _ _ _ _ _ _ 1 aft _ _ false w hf hm (Lib.hid rfl) (Lib.hid rfl) (Lib.hid rfl) (Lib.hid rfl) (Lib.hid rfl) (Lib.hid rfl) (Lib.hid rfl) (Lib.hid rfl) (Lib.hid rfl) (Lib.hid rfl) (fun W b hW c0 c1 c2 c3 => pick2_b f h l h' l' _ _ 1 _ b W c0 c1 c2 c3 hf (Lib.hid n1) (Lib.hid n2) (Lib.hid rfl) (Lib.hid rfl) (Lib.hid hs) (Or.inl ⟨rfl, rfl⟩)) (Or.inr (Or.inl ⟨(beq_iff_eq.2 h3), (kb _ _ (by omega)), rfl⟩))
      · exact add_p f m h l h' l' _ _ _ _ _ _ _ _ _ _ 1 aft _ _ false w hf hm (Lib.hid rfl) (Lib.hid rfl) (Lib.hid rfl) (Lib.hid rfl) (Lib.hid rfl) (Lib.hid rfl) (Lib.hid rfl) (Lib.hid rfl) (Lib.hid rfl) (Lib.hid rfl) (fun W b hW c0 c1 c2 c3 => pick2_b f h l h' l' _ _ 1 _ b W c0 c1 c2 c3 hf (Lib.hid n1) (Lib.hid n2) (Lib.hid rfl) (Lib.hid rfl) (Lib.hid hs) (Or.inl ⟨rfl, rfl⟩)) (Or.inl ⟨(kb _ _ h3), rfl⟩)
  have n2 : nanB f (cat h' l') = false := nan_false hn2
  have HP : HPk f h l h' l' 0 0 0 false false :=
    fun W b hW c0 c1 c2 c3 => pick2_no f h l h' l' b W c0 c1 c2 c3 hf (Lib.hid n1) (Lib.hid n2)
  by_cases h3 : classF f (cat h l) = 3
  · by_cases h4 : classF f (cat h' l') = 3
    · by_cases hst : sgnF f (cat h' l') = sgnF f (cat h l)
      · have e1 : addB f m (cat h l) (cat h' l') = makeF f (sgnF f (cat h l)) (2 * emaxS f + 1) 0 := by unfold addB; rw [if_pos hk, n1, if_neg ff, n2, if_neg ff, if_pos h3, if_neg (fun x => x.2 hst)]
        have e2 : addFl f m aft (cat h l) (cat h' l') = 0 := by unfold addFl; rw [if_pos hk, n1, n2, Bool.or_false, if_neg ff, if_pos h3, if_neg (fun x => x.2 hst)]
        rw [e1, e2]
        exact add_q f m h l h' l' _ _ _ _ _ _ _ _ _ _ 0 aft _ _ _ w hf hm (Lib.hid rfl) (Lib.hid rfl) (Lib.hid rfl) (Lib.hid rfl) (Lib.hid rfl) (Lib.hid rfl) (Lib.hid rfl) (Lib.hid rfl) (Lib.hid rfl) (Lib.hid rfl) HP (Or.inl ⟨Or.inr (Or.inl ⟨beq_iff_eq.2 h3, beq_iff_eq.2 h4, by rw [hst]; cases sgnF f (cat h l) <;> rfl, by rw [hst]; cases sgnF f (cat h l) <;> rfl, rfl⟩), rfl, Lib.hid rfl, Lib.hid rfl⟩)
      · have e1 : addB f m (cat h l) (cat h' l') = defF f := by unfold addB; rw [if_pos hk, n1, if_neg ff, n2, if_neg ff, if_pos h3, if_pos ⟨h4, hst⟩]
        have e2 : addFl f m aft (cat h l) (cat h' l') = 1 := by unfold addFl; rw [if_pos hk, n1, n2, Bool.or_false, if_neg ff, if_pos h3, if_pos ⟨h4, hst⟩]
        have hst2 : sgnF f (cat h' l') = !(sgnF f (cat h l)) := by
          revert hst
          cases sgnF f (cat h' l') <;> cases sgnF f (cat h l) <;> decide
        rw [e1, e2]
        exact add_p f m h l h' l' _ _ _ _ _ _ _ _ _ _ 1 aft _ _ true w hf hm (Lib.hid rfl) (Lib.hid rfl) (Lib.hid rfl) (Lib.hid rfl) (Lib.hid rfl) (Lib.hid rfl) (Lib.hid rfl) (Lib.hid rfl) (Lib.hid rfl) (Lib.hid rfl) (fun W b hW c0 c1 c2 c3 => pick2_inv f h l h' l' _ _ b W c0 c1 c2 c3 hf (Lib.hid n1) (Lib.hid n2) (Lib.hid rfl) (Lib.hid rfl)) (Or.inr (Or.inr ⟨beq_iff_eq.2 h3, beq_iff_eq.2 h4, by rw [hst2]; cases sgnF f (cat h l) <;> rfl, by rw [hst2]; cases sgnF f (cat h l) <;> rfl, rfl⟩))
    · have e1 : addB f m (cat h l) (cat h' l') = makeF f (sgnF f (cat h l)) (2 * emaxS f + 1) 0 := by unfold addB; rw [if_pos hk, n1, if_neg ff, n2, if_neg ff, if_pos h3, if_neg (fun x => h4 x.1)]
      have e2 : addFl f m aft (cat h l) (cat h' l') = 0 := by unfold addFl; rw [if_pos hk, n1, n2, Bool.or_false, if_neg ff, if_pos h3, if_neg (fun x => h4 x.1)]
      rw [e1, e2]
      exact add_q f m h l h' l' _ _ _ _ _ _ _ _ _ _ 0 aft _ _ _ w hf hm (Lib.hid rfl) (Lib.hid rfl) (Lib.hid rfl) (Lib.hid rfl) (Lib.hid rfl) (Lib.hid rfl) (Lib.hid rfl) (Lib.hid rfl) (Lib.hid rfl) (Lib.hid rfl) HP (Or.inl ⟨Or.inl ⟨beq_iff_eq.2 h3, kb _ _ h4, rfl⟩, rfl, Lib.hid rfl, Lib.hid rfl⟩)
  · by_cases h4 : classF f (cat h' l') = 3
    · have e1 : addB f m (cat h l) (cat h' l') = makeF f (sgnF f (cat h' l')) (2 * emaxS f + 1) 0 := by unfold addB; rw [if_pos hk, n1, if_neg ff, n2, if_neg ff, if_neg h3, if_pos h4]
      have e2 : addFl f m aft (cat h l) (cat h' l') = 0 := by unfold addFl; rw [if_pos hk, n1, n2, Bool.or_false, if_neg ff, if_neg h3, if_pos h4]
      rw [e1, e2]
      exact add_q f m h l h' l' _ _ _ _ _ _ _ _ _ _ 0 aft _ _ _ w hf hm (Lib.hid rfl) (Lib.hid rfl) (Lib.hid rfl) (Lib.hid rfl) (Lib.hid rfl) (Lib.hid rfl) (Lib.hid rfl) (Lib.hid rfl) (Lib.hid rfl) (Lib.hid rfl) HP (Or.inl ⟨Or.inr (Or.inr ⟨kb _ _ h3, beq_iff_eq.2 h4, rfl⟩), rfl, Lib.hid rfl, Lib.hid rfl⟩)
    · have e1 : addB f m (cat h l) (cat h' l') = finB f m (sgnF f (cat h l)) (sgnF f (cat h' l')) (unE f (cat h l)) (up128 (unS f (cat h l))) (unE f (cat h' l')) (up128 (unS f (cat h' l'))) := by unfold addB; rw [if_pos hk, n1, if_neg ff, n2, if_neg ff, if_neg h3, if_neg h4]
      have e2 : addFl f m aft (cat h l) (cat h' l') = finFl f m aft (sgnF f (cat h l)) (sgnF f (cat h' l')) (unE f (cat h l)) (up128 (unS f (cat h l))) (unE f (cat h' l')) (up128 (unS f (cat h' l'))) := by unfold addFl; rw [if_pos hk, n1, n2, Bool.or_false, if_neg ff, if_neg h3, if_neg h4]
      have j1 : cat4 0 0 (lo (unS f (cat h l))) (hi (unS f (cat h l))) = up128 (unS f (cat h l)) := by rw [cat4_join, cat_small _ (unS_lt f _ f0)]; rfl
      have j2 : cat4 0 0 (lo (unS f (cat h' l'))) (hi (unS f (cat h' l'))) = up128 (unS f (cat h' l')) := by rw [cat4_join, cat_small _ (unS_lt f _ f0)]; rfl
      obtain ⟨b1, b2⟩ := un_bd f (cat h l) f0
      obtain ⟨b3, b4⟩ := un_bd f (cat h' l') f0
      rw [e1, e2, ← j1, ← j2]
      exact add_q f m h l h' l' _ _ _ _ _ _ _ _ _ _ _ aft _ _ false w hf hm (Lib.hid rfl) (Lib.hid rfl) (Lib.hid rfl) (Lib.hid rfl) (Lib.hid rfl) (Lib.hid rfl) (Lib.hid rfl) (Lib.hid rfl) (Lib.hid rfl) (Lib.hid rfl) HP (Or.inr ⟨kb _ _ h3, kb _ _ h4, fun W hW => addsub_finite f m _ _ _ _ _ _ _ _ aft _ _ W b1 b2 b3 b4⟩)
/-- What addsub.Sub adds. -/
def subN (f : Int) (b : Nat) : Nat := if nanB f b then b else turnF f b
theorem addsub_Sub (f m h l h' l' : Int) (aft : Bool) [hU : U8 f] [hM : U8 m] [U64 h] [U64 l] [U64 h'] [U64 l'] (w : World) [hLay : Laid w] :
    Calls Tryz.prog 17 #[.int .u8 f, .agg #[.int .u8 m, .bool aft], .agg #[.int .u64 (h), .int .u64 (l)], .agg #[.int .u64 (h'), .int .u64 (l')]] w fun en w' => en = .returned (.agg #[.int .u64 (hi (addB f m (cat h l) (subN f (cat h' l')))), .int .u64 (lo (addB f m (cat h l) (subN f (cat h' l')))), .int .u8 (addFl f m aft (cat h l) (subN f (cat h' l')))]) ∧ Below w.heap.size w w' := by
  cases hn : nanB f (cat h' l')
  · have e : subN f (cat h' l') = turnF f (cat h' l') := by unfold subN; rw [hn, if_neg (by decide)]
    have ht := cat_small (turnF f (cat h' l')) (makeF_lt _ _ _ _ hU.ge)
    rw [e, ← ht]
    exact sub_num f m h l h' l' _ _ _ _ _ aft w (Lib.hid hn) (Lib.hid rfl) (Lib.hid rfl) (fun W hW => addsub_Add f m h l _ _ aft W)
  · have e : subN f (cat h' l') = cat h' l' := by unfold subN; rw [hn, if_pos rfl]
    rw [e]
    exact sub_nan f m h l h' l' _ _ _ aft w (Lib.hid hn) (fun W hW => addsub_Add f m h l h' l' aft W)
end Go.Proofs.YtkpjeceofcfnkaaGreatDoor
