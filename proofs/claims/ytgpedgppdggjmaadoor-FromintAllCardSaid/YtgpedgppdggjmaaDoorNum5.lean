/- The contracts of the reference's numbers: Of, Cut, Full, Big, Bits, Bit, Len, Cmp: for every number that is not too long. -/
import Derived.Test.YtgpedgppdggjmaaDoorNum3
import Derived.Test.YtgpedgppdggjmaaDoorNum4
set_option linter.unusedSimpArgs false
set_option linter.unusedVariables false
namespace Go.Proofs.YtgpedgppdggjmaaDoor
open Go.RowKit Go.Hb
theorem d32_0 (n : Nat) : d32 n 0 = n % 4294967296 := by unfold d32; rw [Nat.mul_zero, Nat.pow_zero, Nat.div_one]
theorem d32_1 (n : Nat) : d32 n 1 = n / 4294967296 % 4294967296 := by unfold d32; rfl
theorem d32_2 (n : Nat) : d32 n 2 = n / 18446744073709551616 % 4294967296 := by unfold d32; rfl
theorem d32_3 (n : Nat) : d32 n 3 = n / 79228162514264337593543950336 % 4294967296 := by unfold d32; rfl
theorem RL.two {w : World} {a b : Int} {e : TypeId} (n : Nat) (ha : a = (d32 n 0 : Nat)) (hb : b = (d32 n 1 : Nat)) : RL (w.alloc (.cells #[.int .u32 a, .int .u32 b] e)) (.slice (some ⟨w.heap.size, 0, none⟩) 2 2) 2 n := by
  refine ⟨_, 2, rfl, Nat.le_refl _, Or.inr ⟨w.heap.size, 0, rfl, fun i hi => ?_⟩⟩
  match i, hi with
  | 0, _ => rw [← ha]; go_simp
  | 1, _ => rw [← hb]; go_simp
theorem RL.four {w : World} {a b c d : Int} {e : TypeId} {g : Nat} (n : Nat) (hg : g = w.heap.size) (ha : a = (d32 n 0 : Nat)) (hb : b = (d32 n 1 : Nat)) (hc : c = (d32 n 2 : Nat)) (hd : d = (d32 n 3 : Nat)) : RL (w.alloc (.cells #[.int .u32 a, .int .u32 b, .int .u32 c, .int .u32 d] e)) (.slice (some ⟨g, 0, none⟩) 4 4) 4 n := by
  subst hg
  refine ⟨_, 4, rfl, Nat.le_refl _, Or.inr ⟨w.heap.size, 0, rfl, fun i hi => ?_⟩⟩
  match i, hi with
  | 0, _ => rw [← ha]; go_simp
  | 1, _ => rw [← hb]; go_simp
  | 2, _ => rw [← hc]; go_simp
  | 3, _ => rw [← hd]; go_simp
set_option maxRecDepth 100000 in
/-- A number of 64 bits. -/
theorem num_Of (x : Int) [hx : U64 x] (w : World) : Calls Tryd.prog 57 #[.int .u64 x] w fun en w' => GivesN x.toNat en w' ∧ Below w.heap.size w w' := by
  have h0 := hx.ge
  have h1 := hx.lt
  go_enter Tryd.func57, Tryd.ntmps57
  go_wp2_with fail
  refine (num_Trim x.toNat 2 _ _ (RL.two x.toNat (by rw [d32_0]; omega) (by rw [d32_1]; omega)) (by omega) (by omega)).mono ?_
  rintro en w2 ⟨⟨u, rfl, hu⟩, rfl⟩
  go_wp2_with fail
  go_returns
  exact ⟨⟨_, rfl, hu⟩, by go_grown⟩
theorem dl_one : dl 1 ≤ 2 := dl_le 1 2 (by omega)
set_option maxRecDepth 100000 in
/-- 2 to the power of n. -/
theorem num_Full (n : Nat) (w : World) (hn : n ≤ 1000000) : Calls Tryd.prog 76 #[.int .i64 n] w fun en w' => GivesN (2 ^ n) en w' ∧ Below w.heap.size w w' := by
  go_enter Tryd.func76, Tryd.ntmps76
  go_wp2_with fail
  refine (num_Of 1 _).mono ?_
  rintro en w2 ⟨⟨u, rfl, hu⟩, hb⟩
  go_wp2_with fail
  have h1 := dl_one
  refine (num_Shl 1 n u _ hu (by omega) hn).mono ?_
  rw [Nat.one_mul]
  rintro en w3 ⟨⟨u3, rfl, hu3⟩, hb3⟩
  go_wp2_with fail
  go_returns
  exact ⟨⟨_, rfl, hu3⟩, below_after hb hb3⟩
theorem dl_mono {a b : Nat} (h : a ≤ b) : dl a ≤ dl b := by have := blen_mono h; unfold dl; omega
set_option maxRecDepth 100000 in
/-- The lowest n bits. -/
theorem num_Cut (a n : Nat) (v : Value) (w : World) (h : RN w v a) (la : dl a ≤ 100000) (hn : n ≤ 1000000) : Calls Tryd.prog 73 #[v, .int .i64 n] w fun en w' => GivesN (a % 2 ^ n) en w' ∧ Below w.heap.size w w' := by
  have hl := dl_mono (Nat.div_le_self a (2 ^ n))
  have e : a - a / 2 ^ n * 2 ^ n = a % 2 ^ n := by have := Nat.mod_add_div a (2 ^ n); rw [Nat.mul_comm] at this; omega
  have hle := Nat.div_mul_le_self a (2 ^ n)
  go_enter Tryd.func73, Tryd.ntmps73
  go_wp2_with fail
  refine (num_Shr a n v _ h la hn).mono ?_
  rintro en w2 ⟨⟨u, rfl, hu⟩, hb⟩
  go_wp2_with fail
  refine (num_Shl (a / 2 ^ n) n u _ hu (by omega) hn).mono ?_
  rintro en w3 ⟨⟨u3, rfl, hu3⟩, hb3⟩
  go_wp2_with fail
  refine (num_Sub a (a / 2 ^ n * 2 ^ n) v u3 _ (h.later (below_after hb hb3)) hu3 la hle).mono ?_
  rw [e]
  rintro en w4 ⟨⟨u4, rfl, hu4⟩, hb4⟩
  go_wp2_with fail
  go_returns
  exact ⟨⟨_, rfl, hu4⟩, below_after (below_after hb hb3) hb4⟩
set_option maxRecDepth 100000 in
theorem num_Big_N (N : Nat) (h l : Int) [hh : U64 h] [hl : U64 l] (w : World) (hN : N < 2 ^ (32 * 4)) (e0 : l % 4294967296 = (d32 N 0 : Nat)) (e1 : l / 4294967296 % 4294967296 = (d32 N 1 : Nat)) (e2 : h % 4294967296 = (d32 N 2 : Nat)) (e3 : h / 4294967296 % 4294967296 = (d32 N 3 : Nat)) (e1' : l / 4294967296 = (d32 N 1 : Nat)) (e3' : h / 4294967296 = (d32 N 3 : Nat)) :
    Calls Tryd.prog 140 #[.agg #[.int .u64 (h), .int .u64 (l)]] w fun en w' => GivesN N en w' ∧ Below w.heap.size w w' := by
  go_enter Tryd.func140, Tryd.ntmps140
  go_wp2_with fail
  refine (num_Trim N 4 _ _ (RL.four N (by simp) (by omega) (by omega) (by omega) (by omega)) hN (by omega)).mono ?_
  rintro en w2 ⟨⟨u, rfl, hu⟩, rfl⟩
  go_wp2_with fail
  go_returns
  exact ⟨⟨_, rfl, hu⟩, by go_grown⟩
/-- 128 bits. -/
theorem num_Big (h l : Int) [hh : U64 h] [hl : U64 l] (w : World) : Calls Tryd.prog 140 #[.agg #[.int .u64 (h), .int .u64 (l)]] w fun en w' => GivesN (cat h l) en w' ∧ Below w.heap.size w w' := by
  have h0 := hh.ge
  have h1 := hh.lt
  have l0 := hl.ge
  have l1 := hl.lt
  exact num_Big_N (cat h l) h l w (by unfold cat; omega) (by rw [d32_0]; unfold cat; omega) (by rw [d32_1]; unfold cat; omega) (by rw [d32_2]; unfold cat; omega) (by rw [d32_3]; unfold cat; omega) (by rw [d32_1]; unfold cat; omega) (by rw [d32_3]; unfold cat; omega)
set_option maxRecDepth 100000 in
set_option maxHeartbeats 1000000 in
/-- The lowest 128 bits. -/
theorem num_Bits_L (a L : Nat) (v : Value) (w : World) (h : RL w v L a) (hL : a < 2 ^ (32 * L)) : Calls Tryd.prog 77 #[v] w fun en w' => en = .returned (.agg #[.int .u64 (hi (a)), .int .u64 (lo (a))]) ∧ Below w.heap.size w w' := by
  have t0 := two_dig a
  have t1 := two_dig2 a
  have d0 := d32_lt a 0
  have d1 := d32_lt a 1
  have d2 := d32_lt a 2
  have d3 := d32_lt a 3
  go_enter Tryd.func77, Tryd.ntmps77
  go_wp2_with fail
  refine (num_digit_at a L 0 _ v _ (h.later (by go_grown)) hL (by omega) rfl).mono ?_
  rintro en x ⟨rfl, rfl⟩
  go_wp2_with fail
  refine (num_digit_at a L 1 _ v _ (h.later (by go_grown)) hL (by omega) rfl).mono ?_
  rintro en x ⟨rfl, rfl⟩
  go_wp2_with fail
  refine (num_digit_at a L 2 _ v _ (h.later (by go_grown)) hL (by omega) rfl).mono ?_
  rintro en x ⟨rfl, rfl⟩
  go_wp2_with fail
  refine (num_digit_at a L 3 _ v _ (h.later (by go_grown)) hL (by omega) rfl).mono ?_
  rintro en x ⟨rfl, rfl⟩
  go_wp2_with fail
  go_returns
  exact ⟨ret_bits (by unfold hi lo; omega), by go_grown⟩
theorem num_Bits (a : Nat) (v : Value) (w : World) (h : RN w v a) : Calls Tryd.prog 77 #[v] w fun en w' => en = .returned (.agg #[.int .u64 (hi (a)), .int .u64 (lo (a))]) ∧ Below w.heap.size w w' := num_Bits_L a _ v w h (dl_lt a)
theorem bit_form (a i : Nat) : (bits BinOp.and IntKind.u32 ((d32 a (i / 32) : Nat) / 2 ^ (i % 32)) 1 == 1) = a.testBit i := by
  have e : ((d32 a (i / 32) : Nat) : Int) / 2 ^ (i % 32) = ((d32 a (i / 32) / 2 ^ (i % 32) : Nat) : Int) := by rw [Int.natCast_ediv, Int.natCast_pow]; rfl
  have hb := bit_dig a i
  have hl : d32 a (i / 32) / 2 ^ (i % 32) < 4294967296 := Nat.lt_of_le_of_lt (Nat.div_le_self _ _) (d32_lt a _)
  rw [e]
  generalize d32 a (i / 32) / 2 ^ (i % 32) = x at *
  have h1 : bits BinOp.and IntKind.u32 (x : Int) 1 = ((x % 2 : Nat) : Int) := by
    have h := (bits_nat .u32 32 (by decide) (fun n h1 h2 => by rw [IntKind.wrap_u32]; omega) x 1 hl (by decide)).1
    rw [Nat.and_one_is_mod] at h
    exact h
  rw [h1]
  by_cases ht : a.testBit i = true
  · rw [ht, beq_iff_eq]; have := hb.2 ht; omega
  · have hf : a.testBit i = false := by simpa using ht
    rw [hf, beq_eq_false_iff_ne]
    intro h2
    exact ht (hb.1 (by omega))
set_option maxRecDepth 100000 in
set_option maxHeartbeats 1000000 in
/-- Is a bit 1? -/
theorem num_Bit_L (a L i : Nat) (v : Value) (w : World) (h : RL w v L a) (hL : a < 2 ^ (32 * L)) (hi : i ≤ 1000000) : Calls Tryd.prog 74 #[v, .int .i64 i] w fun en w' => en = .returned (.bool (a.testBit i)) ∧ w = w' := by
  have hq : (i : Int).tdiv 32 = (i / 32 : Nat) := by rw [Int.tdiv_eq_ediv_of_nonneg (by omega)]; omega
  have hm : (i : Int).tmod 32 = (i % 32 : Nat) := by rw [Int.tmod_eq_emod_of_nonneg (by omega)]; omega
  go_enter Tryd.func74, Tryd.ntmps74
  go_wp2_with fail
  refine (num_digit_at a L (i / 32) _ v _ h hL (by omega) (by omega)).mono ?_
  rintro en x ⟨rfl, rfl⟩
  go_wp2_with fail
  go_returns
  exact ⟨ret_bool (bit_form a i), by first | rfl | trivial⟩
theorem num_Bit (a i : Nat) (v : Value) (w : World) (h : RN w v a) (hi : i ≤ 1000000) : Calls Tryd.prog 74 #[v, .int .i64 i] w fun en w' => en = .returned (.bool (a.testBit i)) ∧ w = w' := num_Bit_L a _ i v w h (dl_lt a) hi
theorem blen_raise (v k : Nat) (h : v ≠ 0) : blen (v * 2 ^ k) = blen v + k := by
  have h1 := blen_lt v
  have h2 := blen_le v h
  have h3 := blen_ne v h
  apply blen_unique
  · rw [Nat.pow_add]; exact Nat.mul_lt_mul_of_pos_right h1 (Nat.two_pow_pos _)
  · right
    rw [show blen v + k - 1 = blen v - 1 + k by omega, Nat.pow_add]
    exact Nat.mul_le_mul_right _ h2
theorem top_twice (T j y : Nat) (hy : y = T * 2 ^ j) : y * 2 = T * 2 ^ (j + 1) := by rw [hy, Nat.pow_succ, Nat.mul_assoc]
theorem top_less (T j y : Nat) (hT : T ≠ 0) (hy : y = T * 2 ^ j) : y < 2147483648 ↔ blen T + j ≤ 31 := by
  rw [← blen_raise T j hT, ← hy]
  constructor
  · intro h; exact blen_le_of _ 31 h
  · intro h; exact lt_of_blen _ 31 h
set_option maxRecDepth 100000 in
set_option maxHeartbeats 1000000 in
/-- How many bits. -/
theorem num_Len_L (a L T N : Nat) (v : Value) (w : World) (h : RL w v (L + 1) a) (hT : d32 a L = T) (hT0 : T ≠ 0) (hN : N = 32 * L + blen T) (hL : L ≤ 100000) (hb : blen T ≤ 32) : Calls Tryd.prog 68 #[v] w fun en w' => en = .returned (.int .i64 N) ∧ w = w' := by
  obtain ⟨q, cap, rfl, hcap, h⟩ := h
  rcases h with h | ⟨b, off, rfl, h⟩
  · omega
  have hc := h L (by omega)
  rw [hT] at hc
  clear h hT
  go_enter Tryd.func68, Tryd.ntmps68
  go_wp2_with fail
  go_loopw [3, 4] (fun n t wr => ∃ (j y : Nat) (z : Int), n = .int .i64 z ∧ z + j = 32 * L + 32 ∧ t = .int .u32 (y : Nat) ∧ y = T * 2 ^ j ∧ blen T + j ≤ 32 ∧ w = wr) (fun n _ _ => (intOf n).toNat)
  case atStart => exact ⟨0, T, 32 * (L + 1), by go_num, by omega, rfl, by simp, by omega, rfl⟩
  case round =>
    obtain ⟨j, y, z, rfl, hz, rfl, hy, hj, rfl⟩ := hrel
    have ht := top_less T j y hT0 hy
    have hy2 := top_twice T j y hy
    have hz1 : z ≤ 32 * 100001 := by omega
    have hz0 : 0 ≤ z := by omega
    clear hy hT0
    generalize blen T = B at *
    by_cases hk : B + j ≤ 31
    case pos =>
      have h2 : (y : Int) < 2147483648 := by have := ht.2 hk; omega
      clear hc ht hN hb
      replace hz : Hid (z + j = 32 * L + 32) := hz
      replace hj : Hid (B + j ≤ 32) := hj
      replace hk : Hid (B + j ≤ 31) := hk
      replace hy2 : Hid (y * 2 = T * 2 ^ (j + 1)) := hy2
      go_wp2_with fail
      go_roundw
      case rel => exact ⟨j + 1, y * 2, z - 1, by go_num, by have := hz.out; omega, by go_num, hy2, by have := hk.out; omega, by first | rfl | trivial⟩
      case measure => have := hz.out; have := hk.out; simp [intOf]; omega
    case neg =>
      have h2 : ¬ (y : Int) < 2147483648 := fun x => hk (ht.1 (by omega))
      have e : z = (N : Nat) := by omega
      clear hc ht hy2 hN hb hk hj hz
      go_wp2_with fail
      go_returns
      exact ⟨by first | rfl | rw [e], by first | rfl | trivial⟩
set_option maxRecDepth 100000 in
theorem num_Len (a : Nat) (v : Value) (w : World) (h : RN w v a) (la : dl a ≤ 100000) : Calls Tryd.prog 68 #[v] w fun en w' => en = .returned (.int .i64 (blen a : Nat)) ∧ w = w' := by
  by_cases hz : a = 0
  · subst hz
    obtain ⟨q, cap, rfl, _, _⟩ := h
    rw [dl_zero, blen_zero]
    go_enter Tryd.func68, Tryd.ntmps68
    go_wp2_with fail
    go_returns
    exact ⟨rfl, by first | rfl | trivial⟩
  · obtain ⟨h1, h2⟩ := blen_top a hz
    have hp := dl_pos a hz
    have hb : blen (d32 a (dl a - 1)) ≤ 32 := blen_le_of _ 32 (d32_lt a _)
    unfold RN at h
    rw [show dl a = (dl a - 1) + 1 by omega] at h
    exact num_Len_L a (dl a - 1) _ _ v w h rfl (by omega) h1 (by omega) hb
/-- Numbers compared. -/
def cmpR (a b : Nat) : Int := if a < b then -1 else if b < a then 1 else 0
theorem cmpR_lt {a b : Nat} (h : a < b) : cmpR a b = -1 := if_pos h
theorem cmpR_gt {a b : Nat} (h : b < a) : cmpR a b = 1 := by unfold cmpR; rw [if_neg (by omega), if_pos h]
theorem cmpR_eq (a : Nat) : cmpR a a = 0 := by unfold cmpR; rw [if_neg (by omega), if_neg (by omega)]
set_option maxRecDepth 100000 in
set_option maxHeartbeats 1000000 in
theorem num_Cmp_same (a b L : Nat) (va vb : Value) (w : World) (ha : RL w va L a) (hb : RL w vb L b) (xa : a < 2 ^ (32 * L)) (xb : b < 2 ^ (32 * L)) (hL : L ≤ 100000) : Calls Tryd.prog 85 #[va, vb] w fun en w' => en = .returned (.int .i64 (cmpR a b)) ∧ Below w.heap.size w w' := by
  obtain ⟨qa, ca, rfl, hca, ha⟩ := ha
  obtain ⟨qb, cb, rfl, hcb, hb⟩ := hb
  go_enter Tryd.func85, Tryd.ntmps85
  go_wp2_with fail
  go_loopw [5] (fun i wr => ∃ k : Nat, k ≤ L ∧ i = .int .i64 ((k : Int) - 1) ∧ aboveD a b L k ∧ Below w.heap.size w wr) (fun i _ => (intOf i + 1).toNat)
  case atStart => exact ⟨L, Nat.le_refl _, by go_num, fun i h1 h2 => by omega, Below.refl _ _⟩
  case round =>
    obtain ⟨k, hk, rfl, hab, hnx⟩ := hrel
    cases k with
    | zero =>
      have e := above_eq a b L xa xb hab
      subst e
      go_wp2_with fail
      go_returns
      exact ⟨by rw [cmpR_eq]; rfl, hnx⟩
    | succ k =>
      rcases ha with h | ⟨ba, oa, rfl, ha⟩
      · omega
      rcases hb with h | ⟨bb, ob, rfl, hb⟩
      · omega
      have c1 := cell_later hnx (ha k (by omega))
      have c2 := cell_later hnx (hb k (by omega))
      have e1 : ((k + 1 : Nat) : Int) - 1 = (k : Nat) := by omega
      rw [e1]
      have hlt := above_lt a b L k (by omega) xa xb hab
      have hgt := above_lt b a L k (by omega) xb xa (fun i h1 h2 => (hab i h1 h2).symm)
      have hst : d32 a k = d32 b k → aboveD a b L k := fun h i h1 h2 => by
        by_cases hi : i = k
        · rw [hi]; exact h
        · exact hab i (by omega) h2
      clear ha hb e1
      generalize d32 a k = x at *
      generalize d32 b k = y at *
      rcases Nat.lt_trichotomy x y with h | h | h
      · have hr := hlt h
        clear hlt hgt hst
        go_upto_region 8 with fail
        go_region
        all_goals go_wp2_with fail
        all_goals go_returns
        all_goals exact ⟨by rw [cmpR_lt hr]; rfl, by go_grown⟩
      · have hr := hst h
        subst h
        clear hlt hgt hst
        go_upto_region 8 with fail
        go_region
        all_goals go_upto_region 10 with fail
        all_goals go_region
        all_goals go_wp2_with fail
        all_goals go_roundw
        all_goals (first
          | (case rel => exact ⟨k, by omega, by go_num, hr, by go_grown⟩)
          | (case measure => simp [intOf]))
      · have hr := hgt h
        clear hlt hgt hst
        go_upto_region 8 with fail
        go_region
        all_goals go_upto_region 10 with fail
        all_goals go_region
        all_goals go_wp2_with fail
        all_goals go_returns
        all_goals exact ⟨by rw [cmpR_gt hr]; rfl, by go_grown⟩
set_option maxRecDepth 100000 in
theorem num_Cmp_less (A B : Nat) (w : World) (qa qb : Option Addr) (ca cb : Nat) (h : A < B) (hB : B ≤ 100000) : Calls Tryd.prog 85 #[.slice qa A ca, .slice qb B cb] w fun en w' => en = .returned (.int .i64 (-1)) ∧ w = w' := by
  have hne : ((A : Int) == (B : Int)) = false := by rw [beq_eq_false_iff_ne]; omega
  go_enter Tryd.func85, Tryd.ntmps85
  go_wp2_with fail
  go_returns
  exact ⟨rfl, by first | rfl | trivial⟩
set_option maxRecDepth 100000 in
theorem num_Cmp_more (A B : Nat) (w : World) (qa qb : Option Addr) (ca cb : Nat) (h : B < A) (hA : A ≤ 100000) : Calls Tryd.prog 85 #[.slice qa A ca, .slice qb B cb] w fun en w' => en = .returned (.int .i64 1) ∧ w = w' := by
  have hne : ((A : Int) == (B : Int)) = false := by rw [beq_eq_false_iff_ne]; omega
  have hge : ¬ (A : Int) < (B : Int) := by omega
  go_enter Tryd.func85, Tryd.ntmps85
  go_wp2_with fail
  go_returns
  exact ⟨rfl, by first | rfl | trivial⟩
/-- Two numbers held against each other. -/
theorem num_Cmp (a b : Nat) (va vb : Value) (w : World) (ha : RN w va a) (hb : RN w vb b) (la : dl a ≤ 100000) (lb : dl b ≤ 100000) : Calls Tryd.prog 85 #[va, vb] w fun en w' => en = .returned (.int .i64 (cmpR a b)) ∧ Below w.heap.size w w' := by
  rcases Nat.lt_trichotomy (dl a) (dl b) with h | h | h
  · obtain ⟨qa, ca, rfl, _, _⟩ := ha
    obtain ⟨qb, cb, rfl, _, _⟩ := hb
    rw [cmpR_lt (dl_less a b h)]
    exact (num_Cmp_less _ _ w qa qb ca cb h lb).mono fun _ _ ⟨h1, h2⟩ => ⟨h1, h2 ▸ Below.refl _ _⟩
  · unfold RN at ha
    rw [h] at ha
    exact num_Cmp_same a b (dl b) va vb w ha hb (h ▸ dl_lt a) (dl_lt b) lb
  · obtain ⟨qa, ca, rfl, _, _⟩ := ha
    obtain ⟨qb, cb, rfl, _, _⟩ := hb
    rw [cmpR_gt (dl_less b a h)]
    exact (num_Cmp_more _ _ w qa qb ca cb h la).mono fun _ _ ⟨h1, h2⟩ => ⟨h1, h2 ▸ Below.refl _ _⟩
end Go.Proofs.YtgpedgppdggjmaaDoor
