/- The contract of count.Raise: for every input. -/
import Derived.Test.YtnbmicckhcbnbaaDoorCount2
import Derived.Test.YtnbmicckhcbnbaaDoorWide
set_option linter.unusedSimpArgs false
set_option linter.unusedVariables false
namespace Go.Proofs.YtnbmicckhcbnbaaDoor
open Go.RowKit Go.Hb
theorem raise_long (x0 x1 x2 x3 : Int) [U64 x0] [U64 x1] [U64 x2] [U64 x3] (w : World) :
    Calls Tryd.prog 70 #[.agg #[.int .u64 (x0), .int .u64 (x1), .int .u64 (x2), .int .u64 (x3)]] w fun e w' => e = .returned (.int .i64 (blen (cat4 x0 x1 x2 x3))) ∧ Below w.heap.size w w' := by
  go_enter Tryd.func70, Tryd.ntmps70
  go_wp2_with fail
  refine (count_WideLen x0 x1 x2 x3 _).mono ?_
  rintro en w1 ⟨rfl, hB⟩
  (obtain ⟨hc_w1, hf_w1⟩ := bcell hB; have hz_w1 := hB.size; (try simp only [World.size_alloc, World.size_setCell, World.size_drew] at hz_w1 hc_w1 hf_w1); have k0_w1 := fun o => hc_w1 (w.heap.size) o (by omega); have l0_w1 := fun o => hf_w1 (w.heap.size) o (by omega); have z_w1 : w.heap.size < w1.heap.size ∧ w.heap.size ≤ w1.heap.size ∧ w.heap.size ≤ w1.heap.size + 1 ∧ w.heap.size ≤ w1.heap.size + 1 + 1 := (by omega); clear hc_w1 hf_w1; have hW_w1 : Below w.heap.size w w1 := below_after (by go_grown) hB)
  go_wp2_with fail
  go_returns
  exact ⟨rfl, by go_grown⟩
set_option maxRecDepth 100000 in
set_option maxHeartbeats 2000000 in
theorem count_raised_r (x0 x1 x2 x3 : Int) [U64 x0] [U64 x1] [U64 x2] [U64 x3] (w : World) :
    Calls Tryd.prog 68 #[.agg #[.int .u64 (x0), .int .u64 (x1), .int .u64 (x2), .int .u64 (x3)], .int .i64 256, .func (.func 70) #[] #[], .func (.func 72) #[] #[]] w fun en w' =>
      en = .returned (.tuple #[.agg #[.int .u64 (lo (raiseS (cat4 x0 x1 x2 x3))), .int .u64 (w1 (raiseS (cat4 x0 x1 x2 x3))), .int .u64 (w2 (raiseS (cat4 x0 x1 x2 x3))), .int .u64 (w3 (raiseS (cat4 x0 x1 x2 x3)))], .int .i64 (byS (cat4 x0 x1 x2 x3))]) ∧ Below w.heap.size w w' := by
  have hb := blen_256 _ (cat4_lt x0 x1 x2 x3)
  have hp := Lib.hid (parts_cat4 x0 x1 x2 x3)
  by_cases h0 : cat4 x0 x1 x2 x3 = 0
  · have hl : blen (cat4 x0 x1 x2 x3) = 0 := by rw [h0]; rfl
    have hr : raiseS (cat4 x0 x1 x2 x3) = cat4 x0 x1 x2 x3 := by rw [h0]; rfl
    have hy : byS (cat4 x0 x1 x2 x3) = 0 := by rw [h0]; rfl
    rw [hr, hy]
    have h0' := Lib.hid h0
    have hl' := Lib.hid hl
    clear hr hy hb h0 hl
    go_enter Tryd.func68, Tryd.ntmps68
    go_wp2_with fail
    refine (raise_long x0 x1 x2 x3 _).mono ?_
    rw [hl'.out]
    rintro en w1 ⟨rfl, hB⟩
    (obtain ⟨hc_w1, hf_w1⟩ := bcell hB; have hz_w1 := hB.size; (try simp only [World.size_alloc, World.size_setCell, World.size_drew] at hz_w1 hc_w1 hf_w1); have k0_w1 := fun o => hc_w1 (w.heap.size) o (by omega); have l0_w1 := fun o => hf_w1 (w.heap.size) o (by omega); have k1_w1 := fun o => hc_w1 (w.heap.size + 1) o (by omega); have l1_w1 := fun o => hf_w1 (w.heap.size + 1) o (by omega); have z_w1 : w.heap.size < w1.heap.size ∧ w.heap.size ≤ w1.heap.size ∧ w.heap.size ≤ w1.heap.size + 1 ∧ w.heap.size ≤ w1.heap.size + 1 + 1 ∧ w.heap.size + 1 < w1.heap.size ∧ w.heap.size + 1 ≤ w1.heap.size ∧ w.heap.size + 1 ≤ w1.heap.size + 1 ∧ w.heap.size + 1 ≤ w1.heap.size + 1 + 1 := (by omega); clear hc_w1 hf_w1; have hW_w1 : Below w.heap.size w w1 := below_after (by go_grown) hB)
    go_wp2_with fail
    refine bodyPost_ret (by simp [results, Tryd.results68, go_sem, k1_w1, k0_w1]; try rfl) rfl ?_
    refine ⟨ret_wide_int ?_ rfl, by go_grown⟩
    exact ⟨hp.out.1.symm, hp.out.2.1.symm, hp.out.2.2.1.symm, hp.out.2.2.2.symm⟩
  · have h1 := blen_ne _ h0
    have hy : byS (cat4 x0 x1 x2 x3) = 256 - (blen (cat4 x0 x1 x2 x3) : Int) := by unfold byS; rw [if_neg h0]
    have hy' := Lib.hid hy
    have hne : ((blen (cat4 x0 x1 x2 x3) : Int) == 0) = false := by simp; omega
    clear hy h0
    go_enter Tryd.func68, Tryd.ntmps68
    go_wp2_with fail
    refine (raise_long x0 x1 x2 x3 _).mono ?_
    rintro en w1 ⟨rfl, hB⟩
    (obtain ⟨hc_w1, hf_w1⟩ := bcell hB; have hz_w1 := hB.size; (try simp only [World.size_alloc, World.size_setCell, World.size_drew] at hz_w1 hc_w1 hf_w1); have k0_w1 := fun o => hc_w1 (w.heap.size) o (by omega); have l0_w1 := fun o => hf_w1 (w.heap.size) o (by omega); have k1_w1 := fun o => hc_w1 (w.heap.size + 1) o (by omega); have l1_w1 := fun o => hf_w1 (w.heap.size + 1) o (by omega); have z_w1 : w.heap.size < w1.heap.size ∧ w.heap.size ≤ w1.heap.size ∧ w.heap.size ≤ w1.heap.size + 1 ∧ w.heap.size ≤ w1.heap.size + 1 + 1 ∧ w.heap.size + 1 < w1.heap.size ∧ w.heap.size + 1 ≤ w1.heap.size ∧ w.heap.size + 1 ≤ w1.heap.size + 1 ∧ w.heap.size + 1 ≤ w1.heap.size + 1 + 1 := (by omega); clear hc_w1 hf_w1; have hW_w1 : Below w.heap.size w w1 := below_after (by go_grown) hB)
    go_wp2_with fail
    refine (shift_WideLeft x0 x1 x2 x3 _ _).mono ?_
    rw [← hy'.out]
    rintro en w2 ⟨rfl, hB2⟩
    (obtain ⟨hc_w2, hf_w2⟩ := bcell hB2; have hz_w2 := hB2.size; (try simp only [World.size_alloc, World.size_setCell, World.size_drew] at hz_w2 hc_w2 hf_w2); have k0_w2 := fun o => hc_w2 (w.heap.size) o (by omega); have l0_w2 := fun o => hf_w2 (w.heap.size) o (by omega); have k1_w2 := fun o => hc_w2 (w.heap.size + 1) o (by omega); have l1_w2 := fun o => hf_w2 (w.heap.size + 1) o (by omega); have z_w2 : w.heap.size < w2.heap.size ∧ w.heap.size ≤ w2.heap.size ∧ w.heap.size ≤ w2.heap.size + 1 ∧ w.heap.size ≤ w2.heap.size + 1 + 1 ∧ w.heap.size + 1 < w2.heap.size ∧ w.heap.size + 1 ≤ w2.heap.size ∧ w.heap.size + 1 ≤ w2.heap.size + 1 ∧ w.heap.size + 1 ≤ w2.heap.size + 1 + 1 := (by omega); clear hc_w2 hf_w2; have hW_w2 : Below w.heap.size w w2 := below_after (by go_grown) hB2)
    go_wp2_with fail
    refine bodyPost_ret (by simp [results, Tryd.results68, go_sem, k1_w2, k1_w1]; try rfl) rfl ?_
    refine ⟨ret_wide_int ⟨rfl, rfl, rfl, rfl⟩ hy'.out.symm, by go_grown⟩
/-- How far a number is raised, of 128 bits. -/
def by128 (v : Nat) : Int := if v = 0 then 0 else 128 - (blen v : Int)
def up128 (v : Nat) : Nat := v * 2 ^ 128
def raise128 (v : Nat) : Nat := v * 2 ^ (by128 v).toNat
theorem blen_shl (v k : Nat) (h : v ≠ 0) : blen (v * 2 ^ k) = blen v + k := by
  have h1 := blen_lt v
  have h2 := blen_le v h
  have h3 : 1 ≤ blen v := by rw [blen_pos v h]; omega
  apply blen_unique
  · rw [Nat.pow_add]; exact Nat.mul_lt_mul_of_pos_right h1 (Nat.two_pow_pos k)
  · right
    rw [show blen v + k - 1 = blen v - 1 + k by omega, Nat.pow_add]
    exact Nat.mul_le_mul_right _ h2
theorem cat4_join (h l : Int) : cat4 0 0 l h = cat h l * 2 ^ 128 := by
  unfold cat4 cat; rw [two128]; simp; omega
theorem blen_128 (v : Nat) (h : v < 2 ^ 128) : blen v ≤ 128 := by
  by_cases h0 : v = 0
  · subst h0; simp [blen]
  · rw [blen_pos _ h0]
    have := (Nat.log2_lt h0).2 h
    omega
theorem raise_join (h l : Int) [U64 h] [U64 l] : byS (cat4 0 0 l h) = by128 (cat h l) ∧ raiseS (cat4 0 0 l h) = up128 (raise128 (cat h l)) := by
  rw [cat4_join]
  unfold raiseS byS up128 raise128 by128 lsh
  by_cases h0 : cat h l = 0
  · simp [h0]
  · have h1 : ¬ cat h l * 2 ^ 128 = 0 := by
      have := Nat.mul_pos (Nat.pos_of_ne_zero h0) (Nat.two_pow_pos 128); omega
    rw [if_neg h0, if_neg h1, blen_shl _ _ h0]
    constructor
    · push_cast; omega
    · rw [show (256 - ((blen (cat h l) + 128 : Nat) : Int)) = 128 - (blen (cat h l) : Int) by push_cast; omega]
      rw [Nat.mul_right_comm]
theorem raise128_lt (v : Nat) (hv : v < 2 ^ 128) : raise128 v < 2 ^ 128 := by
  unfold raise128 by128
  by_cases h0 : v = 0
  · rw [h0]; simp
  · rw [if_neg h0]
    have h1 := blen_128 v hv
    have h2 := Nat.mul_lt_mul_of_pos_right (blen_lt v) (Nat.two_pow_pos (128 - (blen v : Int)).toNat)
    rw [← Nat.pow_add, show blen v + (128 - (blen v : Int)).toNat = 128 by omega] at h2
    exact h2
theorem high_128 (v : Nat) (hv : v < 2 ^ 128) : w3 (up128 v) = hi v ∧ w2 (up128 v) = lo v := by
  unfold up128
  rw [two128] at *
  unfold w3 w2 hi lo
  constructor
  · rw [show (6277101735386680763835789423207666416102355444464034512896 : Nat) = 340282366920938463463374607431768211456 * 18446744073709551616 by rfl, ← Nat.div_div_eq_div_mul, Nat.mul_div_cancel _ (by decide)]
  · rw [Nat.mul_div_cancel _ (by decide)]
set_option maxRecDepth 100000 in
set_option maxHeartbeats 2000000 in
theorem count_Raise (h l : Int) [U64 h] [U64 l] (w : World) :
    Calls Tryd.prog 45 #[.agg #[.int .u64 (h), .int .u64 (l)]] w fun en w' => en = .returned (.tuple #[.agg #[.int .u64 (hi (raise128 (cat h l))), .int .u64 (lo (raise128 (cat h l)))], .int .i64 (by128 (cat h l))]) ∧ Below w.heap.size w w' := by
  have hj := raise_join h l
  have hr := Lib.hid (high_128 (raise128 (cat h l)) (raise128_lt _ (by rw [two128]; exact cat_lt h l)))
  have hj1 := Lib.hid hj.1
  have hj2 := Lib.hid hj.2
  clear hj
  go_enter Tryd.func45, Tryd.ntmps45
  (go_wp2_with fail; refine (wide_Join _ _ _ _ _).mono ?_; rintro en w1 ⟨rfl, hB_w1⟩; (obtain ⟨hc_w1, hf_w1⟩ := bcell hB_w1; have hz_w1 := hB_w1.size; (try simp only [World.size_alloc, World.size_setCell, World.size_drew] at hz_w1 hc_w1 hf_w1); have k0_w1 := fun o => hc_w1 (w.heap.size) o (by omega); have l0_w1 := fun o => hf_w1 (w.heap.size) o (by omega); have k1_w1 := fun o => hc_w1 (w.heap.size + 1) o (by omega); have l1_w1 := fun o => hf_w1 (w.heap.size + 1) o (by omega); have z_w1 : w.heap.size < w1.heap.size ∧ w.heap.size ≤ w1.heap.size ∧ w.heap.size ≤ w1.heap.size + 1 ∧ w.heap.size ≤ w1.heap.size + 1 + 1 ∧ w.heap.size + 1 < w1.heap.size ∧ w.heap.size + 1 ≤ w1.heap.size ∧ w.heap.size + 1 ≤ w1.heap.size + 1 ∧ w.heap.size + 1 ≤ w1.heap.size + 1 + 1 := (by omega); clear hc_w1 hf_w1; have hW_w1 : Below w.heap.size w w1 := below_after (by go_grown) hB_w1))
  go_wp2_with fail
  refine (count_raised_r 0 0 l h _).mono ?_
  rw [hj1.out, hj2.out]
  rintro en w2 ⟨rfl, hB2⟩
  (obtain ⟨hc_w2, hf_w2⟩ := bcell hB2; have hz_w2 := hB2.size; (try simp only [World.size_alloc, World.size_setCell, World.size_drew] at hz_w2 hc_w2 hf_w2); have k0_w2 := fun o => hc_w2 (w.heap.size) o (by omega); have l0_w2 := fun o => hf_w2 (w.heap.size) o (by omega); have k1_w2 := fun o => hc_w2 (w.heap.size + 1) o (by omega); have l1_w2 := fun o => hf_w2 (w.heap.size + 1) o (by omega); have z_w2 : w.heap.size < w2.heap.size ∧ w.heap.size ≤ w2.heap.size ∧ w.heap.size ≤ w2.heap.size + 1 ∧ w.heap.size ≤ w2.heap.size + 1 + 1 ∧ w.heap.size + 1 < w2.heap.size ∧ w.heap.size + 1 ≤ w2.heap.size ∧ w.heap.size + 1 ≤ w2.heap.size + 1 ∧ w.heap.size + 1 ≤ w2.heap.size + 1 + 1 := (by omega); clear hc_w2 hf_w2; have n_w2 : w.heap.size ≠ w2.heap.size ∧ w2.heap.size ≠ w.heap.size ∧ w.heap.size ≠ w2.heap.size + 1 ∧ w2.heap.size + 1 ≠ w.heap.size ∧ w.heap.size + 1 ≠ w2.heap.size ∧ w2.heap.size ≠ w.heap.size + 1 ∧ w.heap.size + 1 ≠ w2.heap.size + 1 ∧ w2.heap.size + 1 ≠ w.heap.size + 1 := (by omega); have hW_w2 : Below w.heap.size w w2 := below_after (by go_grown) hB2)
  go_wp2_with fail
  refine (wide_High _ _ _ _ _).mono ?_
  rw [hr.out.1, hr.out.2]
  rintro en w3 ⟨rfl, hB3⟩
  (obtain ⟨hc_w3, hf_w3⟩ := bcell hB3; have hz_w3 := hB3.size; (try simp only [World.size_alloc, World.size_setCell, World.size_drew] at hz_w3 hc_w3 hf_w3); have k0_w3 := fun o => hc_w3 (w.heap.size) o (by omega); have l0_w3 := fun o => hf_w3 (w.heap.size) o (by omega); have k1_w3 := fun o => hc_w3 (w.heap.size + 1) o (by omega); have l1_w3 := fun o => hf_w3 (w.heap.size + 1) o (by omega); have z_w3 : w.heap.size < w3.heap.size ∧ w.heap.size ≤ w3.heap.size ∧ w.heap.size ≤ w3.heap.size + 1 ∧ w.heap.size ≤ w3.heap.size + 1 + 1 ∧ w.heap.size + 1 < w3.heap.size ∧ w.heap.size + 1 ≤ w3.heap.size ∧ w.heap.size + 1 ≤ w3.heap.size + 1 ∧ w.heap.size + 1 ≤ w3.heap.size + 1 + 1 := (by omega); clear hc_w3 hf_w3; have n_w3 : w.heap.size ≠ w3.heap.size ∧ w3.heap.size ≠ w.heap.size ∧ w.heap.size ≠ w3.heap.size + 1 ∧ w3.heap.size + 1 ≠ w.heap.size ∧ w.heap.size + 1 ≠ w3.heap.size ∧ w3.heap.size ≠ w.heap.size + 1 ∧ w.heap.size + 1 ≠ w3.heap.size + 1 ∧ w3.heap.size + 1 ≠ w.heap.size + 1 := (by omega); have hW_w3 : Below w.heap.size w w3 := below_after (by go_grown) hB3)
  go_wp2_with fail
  refine bodyPost_ret (by simp [results, Tryd.results45, go_sem, k1_w3, k1_w2, k1_w1, z_w3, z_w2, n_w3, n_w2]; try rfl) rfl ?_
  exact ⟨rfl, by go_grown⟩
end Go.Proofs.YtnbmicckhcbnbaaDoor
