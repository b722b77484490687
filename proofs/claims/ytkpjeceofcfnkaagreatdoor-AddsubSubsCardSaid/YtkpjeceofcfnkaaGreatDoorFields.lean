/- The contract of count.Raise: for every input. The contracts of package class: for every input. The contracts of package fields: of, scale's parts. -/
import Derived.Test.YtkpjeceofcfnkaaGreatDoorCount
import Derived.Test.YtkpjeceofcfnkaaGreatDoorWide
import Derived.Test.YtkpjeceofcfnkaaGreatDoorFormat2
set_option maxRecDepth 100000
set_option maxHeartbeats 8000000
set_option linter.unusedSimpArgs false
set_option linter.unusedVariables false
namespace Go.Proofs.YtkpjeceofcfnkaaGreatDoor
open Go.RowKit Go.Hb
theorem raise_long (x0 x1 x2 x3 : Int) [U64 x0] [U64 x1] [U64 x2] [U64 x3] (w : World) :
    Calls Tryz.prog 106 #[.agg #[.int .u64 (x0), .int .u64 (x1), .int .u64 (x2), .int .u64 (x3)]] w fun e w' => e = .returned (.int .i64 (blen (cat4 x0 x1 x2 x3))) ∧ Below w.heap.size w w' := by
  go_enter Tryz.func106, Tryz.ntmps106
  go_wp2_with fail
  refine (count_WideLen x0 x1 x2 x3 _).mono ?_
  rintro en w1 ⟨rfl, hB⟩
  (obtain ⟨hc_w1, hf_w1⟩ := bcell hB; have hz_w1 := hB.size; (try simp only [World.size_alloc, World.size_setCell, World.size_drew] at hz_w1 hc_w1 hf_w1); have k0_w1 := fun o => hc_w1 (w.heap.size) o (by omega); have l0_w1 := fun o => hf_w1 (w.heap.size) o (by omega); have z_w1 : w.heap.size < w1.heap.size ∧ w.heap.size ≤ w1.heap.size ∧ w.heap.size ≤ w1.heap.size + 1 ∧ w.heap.size ≤ w1.heap.size + 1 + 1 := (by omega); clear hc_w1 hf_w1; have hW_w1 : Below w.heap.size w w1 := below_after (by go_grown) hB)
  go_wp2_with fail
  go_returns
  exact ⟨rfl, by go_grown⟩
theorem count_raised_r (x0 x1 x2 x3 : Int) [U64 x0] [U64 x1] [U64 x2] [U64 x3] (w : World) :
    Calls Tryz.prog 105 #[.agg #[.int .u64 (x0), .int .u64 (x1), .int .u64 (x2), .int .u64 (x3)], .int .i64 256, .func (.func 106) #[] #[], .func (.func 108) #[] #[]] w fun en w' =>
      en = .returned (.tuple #[.agg #[.int .u64 (lo (raiseS (cat4 x0 x1 x2 x3))), .int .u64 (w1 (raiseS (cat4 x0 x1 x2 x3))), .int .u64 (w2 (raiseS (cat4 x0 x1 x2 x3))), .int .u64 (w3 (raiseS (cat4 x0 x1 x2 x3)))], .int .i64 (byS (cat4 x0 x1 x2 x3))]) ∧ Below w.heap.size w w' := by
  have hb := blen_256 _ (cat4_lt x0 x1 x2 x3)
  have hp := Lib.hid (parts_cat4 x0 x1 x2 x3)
  by_cases h0 : cat4 x0 x1 x2 x3 = 0
  · have hl : blen (cat4 x0 x1 x2 x3) = 0 := by rw [h0]; rfl
    have hr : raiseS (cat4 x0 x1 x2 x3) = cat4 x0 x1 x2 x3 := by rw [h0]; rfl
    have hy : byS (cat4 x0 x1 x2 x3) = 0 := by rw [h0]; rfl
    rw [hr, hy]
    have h0' := Lib.hid h0
    have hl' := Lib.hid hl
    clear hr hy hb h0 hl
    go_enter Tryz.func105, Tryz.ntmps105
    go_wp2_with fail
    refine (raise_long x0 x1 x2 x3 _).mono ?_
    rw [hl'.out]
    rintro en w1 ⟨rfl, hB⟩
    (obtain ⟨hc_w1, hf_w1⟩ := bcell hB; have hz_w1 := hB.size; (try simp only [World.size_alloc, World.size_setCell, World.size_drew] at hz_w1 hc_w1 hf_w1); have k0_w1 := fun o => hc_w1 (w.heap.size) o (by omega); have l0_w1 := fun o => hf_w1 (w.heap.size) o (by omega); have k1_w1 := fun o => hc_w1 (w.heap.size + 1) o (by omega); have l1_w1 := fun o => hf_w1 (w.heap.size + 1) o (by omega); have z_w1 : w.heap.size < w1.heap.size ∧ w.heap.size ≤ w1.heap.size ∧ w.heap.size ≤ w1.heap.size + 1 ∧ w.heap.size ≤ w1.heap.size + 1 + 1 ∧ w.heap.size + 1 < w1.heap.size ∧ w.heap.size + 1 ≤ w1.heap.size ∧ w.heap.size + 1 ≤ w1.heap.size + 1 ∧ w.heap.size + 1 ≤ w1.heap.size + 1 + 1 := (by omega); clear hc_w1 hf_w1; have hW_w1 : Below w.heap.size w w1 := below_after (by go_grown) hB)
    go_wp2_with fail
    refine bodyPost_ret (by simp [results, Tryz.results105, go_sem, k1_w1, k0_w1]; try rfl) rfl ?_
    refine ⟨ret_wide_int ?_ rfl, by go_grown⟩
    exact ⟨hp.out.1.symm, hp.out.2.1.symm, hp.out.2.2.1.symm, hp.out.2.2.2.symm⟩
  · have h1 := blen_ne _ h0
    have hy : byS (cat4 x0 x1 x2 x3) = 256 - (blen (cat4 x0 x1 x2 x3) : Int) := by unfold byS; rw [if_neg h0]
    have hy' := Lib.hid hy
    have hne : ((blen (cat4 x0 x1 x2 x3) : Int) == 0) = false := by simp; omega
    clear hy h0
    go_enter Tryz.func105, Tryz.ntmps105
    go_wp2_with fail
    refine (raise_long x0 x1 x2 x3 _).mono ?_
    rintro en w1 ⟨rfl, hB⟩
    (obtain ⟨hc_w1, hf_w1⟩ := bcell hB; have hz_w1 := hB.size; (try simp only [World.size_alloc, World.size_setCell, World.size_drew] at hz_w1 hc_w1 hf_w1); have k0_w1 := fun o => hc_w1 (w.heap.size) o (by omega); have l0_w1 := fun o => hf_w1 (w.heap.size) o (by omega); have k1_w1 := fun o => hc_w1 (w.heap.size + 1) o (by omega); have l1_w1 := fun o => hf_w1 (w.heap.size + 1) o (by omega); have z_w1 : w.heap.size < w1.heap.size ∧ w.heap.size ≤ w1.heap.size ∧ w.heap.size ≤ w1.heap.size + 1 ∧ w.heap.size ≤ w1.heap.size + 1 + 1 ∧ w.heap.size + 1 < w1.heap.size ∧ w.heap.size + 1 ≤ w1.heap.size ∧ w.heap.size + 1 ≤ w1.heap.size + 1 ∧ w.heap.size + 1 ≤ w1.heap.size + 1 + 1 := (by omega); clear hc_w1 hf_w1; have hW_w1 : Below w.heap.size w w1 := below_after (by go_grown) hB)
    go_wp2_with fail
    refine (shift_WideLeft x0 x1 x2 x3 _ _).mono ?_
    rw [← hy'.out]
    rintro en w2 ⟨rfl, hB2⟩
    (obtain ⟨hc_w2, hf_w2⟩ := bcell hB2; have hz_w2 := hB2.size; (try simp only [World.size_alloc, World.size_setCell, World.size_drew] at hz_w2 hc_w2 hf_w2); have k0_w2 := fun o => hc_w2 (w.heap.size) o (by omega); have l0_w2 := fun o => hf_w2 (w.heap.size) o (by omega); have k1_w2 := fun o => hc_w2 (w.heap.size + 1) o (by omega); have l1_w2 := fun o => hf_w2 (w.heap.size + 1) o (by omega); have z_w2 : w.heap.size < w2.heap.size ∧ w.heap.size ≤ w2.heap.size ∧ w.heap.size ≤ w2.heap.size + 1 ∧ w.heap.size ≤ w2.heap.size + 1 + 1 ∧ w.heap.size + 1 < w2.heap.size ∧ w.heap.size + 1 ≤ w2.heap.size ∧ w.heap.size + 1 ≤ w2.heap.size + 1 ∧ w.heap.size + 1 ≤ w2.heap.size + 1 + 1 := (by omega); clear hc_w2 hf_w2; have hW_w2 : Below w.heap.size w w2 := below_after (by go_grown) hB2)
    go_wp2_with fail
    refine bodyPost_ret (by simp [results, Tryz.results105, go_sem, k1_w2, k1_w1]; try rfl) rfl ?_
    refine ⟨ret_wide_int ⟨rfl, rfl, rfl, rfl⟩ hy'.out.symm, by go_grown⟩
/-- How far a number is raised, of 128 bits. -/
def by128 (v : Nat) : Int := if v = 0 then 0 else 128 - (blen v : Int)
def up128 (v : Nat) : Nat := v * 2 ^ 128
def raise128 (v : Nat) : Nat := v * 2 ^ (by128 v).toNat
theorem blen_shl (v k : Nat) (h : v ≠ 0) : blen (v * 2 ^ k) = blen v + k := by
  have h1 := blen_lt v
  have h2 := blen_le v h
  have h3 : 1 ≤ blen v := by rw [blen_pos v h]; omega
  apply blen_unique
  · rw [Nat.pow_add]; exact Nat.mul_lt_mul_of_pos_right h1 (Nat.two_pow_pos k)
  · right
    rw [show blen v + k - 1 = blen v - 1 + k by omega, Nat.pow_add]
    exact Nat.mul_le_mul_right _ h2
theorem cat4_join (h l : Int) : cat4 0 0 l h = cat h l * 2 ^ 128 := by
  unfold cat4 cat; rw [two128]; simp; omega
theorem blen_128 (v : Nat) (h : v < 2 ^ 128) : blen v ≤ 128 := by
  by_cases h0 : v = 0
  · subst h0; simp [blen]
  · rw [blen_pos _ h0]
    have := (Nat.log2_lt h0).2 h
    omega
theorem raise_join (h l : Int) [U64 h] [U64 l] : byS (cat4 0 0 l h) = by128 (cat h l) ∧ raiseS (cat4 0 0 l h) = up128 (raise128 (cat h l)) := by
  rw [cat4_join]
  unfold raiseS byS up128 raise128 by128 lsh
  by_cases h0 : cat h l = 0
  · simp [h0]
  · have h1 : ¬ cat h l * 2 ^ 128 = 0 := by
      have := Nat.mul_pos (Nat.pos_of_ne_zero h0) (Nat.two_pow_pos 128); omega
    rw [if_neg h0, if_neg h1, blen_shl _ _ h0]
    constructor
    · push_cast; omega
    · rw [show (256 - ((blen (cat h l) + 128 : Nat) : Int)) = 128 - (blen (cat h l) : Int) by push_cast; omega]
      rw [Nat.mul_right_comm]
theorem raise128_lt (v : Nat) (hv : v < 2 ^ 128) : raise128 v < 2 ^ 128 := by
  unfold raise128 by128
  by_cases h0 : v = 0
  · rw [h0]; simp
  · rw [if_neg h0]
    have h1 := blen_128 v hv
    have h2 := Nat.mul_lt_mul_of_pos_right (blen_lt v) (Nat.two_pow_pos (128 - (blen v : Int)).toNat)
    rw [← Nat.pow_add, show blen v + (128 - (blen v : Int)).toNat = 128 by omega] at h2
    exact h2
theorem high_128 (v : Nat) (hv : v < 2 ^ 128) : w3 (up128 v) = hi v ∧ w2 (up128 v) = lo v := by
  unfold up128
  rw [two128] at *
  unfold w3 w2 hi lo
  constructor
  · rw [show (6277101735386680763835789423207666416102355444464034512896 : Nat) = 340282366920938463463374607431768211456 * 18446744073709551616 by rfl, ← Nat.div_div_eq_div_mul, Nat.mul_div_cancel _ (by decide)]
  · rw [Nat.mul_div_cancel _ (by decide)]
theorem count_Raise (h l : Int) [U64 h] [U64 l] (w : World) :
    Calls Tryz.prog 70 #[.agg #[.int .u64 (h), .int .u64 (l)]] w fun en w' => en = .returned (.tuple #[.agg #[.int .u64 (hi (raise128 (cat h l))), .int .u64 (lo (raise128 (cat h l)))], .int .i64 (by128 (cat h l))]) ∧ Below w.heap.size w w' := by
  have hj := raise_join h l
  have hr := Lib.hid (high_128 (raise128 (cat h l)) (raise128_lt _ (by rw [two128]; exact cat_lt h l)))
  have hj1 := Lib.hid hj.1
  have hj2 := Lib.hid hj.2
  clear hj
  go_enter Tryz.func70, Tryz.ntmps70
  (go_wp2_with fail; refine (wide_Join _ _ _ _ _).mono ?_; rintro en w1 ⟨rfl, hB_w1⟩; (obtain ⟨hc_w1, hf_w1⟩ := bcell hB_w1; have hz_w1 := hB_w1.size; (try simp only [World.size_alloc, World.size_setCell, World.size_drew] at hz_w1 hc_w1 hf_w1); have k0_w1 := fun o => hc_w1 (w.heap.size) o (by omega); have l0_w1 := fun o => hf_w1 (w.heap.size) o (by omega); have k1_w1 := fun o => hc_w1 (w.heap.size + 1) o (by omega); have l1_w1 := fun o => hf_w1 (w.heap.size + 1) o (by omega); have z_w1 : w.heap.size < w1.heap.size ∧ w.heap.size ≤ w1.heap.size ∧ w.heap.size ≤ w1.heap.size + 1 ∧ w.heap.size ≤ w1.heap.size + 1 + 1 ∧ w.heap.size + 1 < w1.heap.size ∧ w.heap.size + 1 ≤ w1.heap.size ∧ w.heap.size + 1 ≤ w1.heap.size + 1 ∧ w.heap.size + 1 ≤ w1.heap.size + 1 + 1 := (by omega); clear hc_w1 hf_w1; have hW_w1 : Below w.heap.size w w1 := below_after (by go_grown) hB_w1))
  go_wp2_with fail
  refine (count_raised_r 0 0 l h _).mono ?_
  rw [hj1.out, hj2.out]
  rintro en w2 ⟨rfl, hB2⟩
  (obtain ⟨hc_w2, hf_w2⟩ := bcell hB2; have hz_w2 := hB2.size; (try simp only [World.size_alloc, World.size_setCell, World.size_drew] at hz_w2 hc_w2 hf_w2); have k0_w2 := fun o => hc_w2 (w.heap.size) o (by omega); have l0_w2 := fun o => hf_w2 (w.heap.size) o (by omega); have k1_w2 := fun o => hc_w2 (w.heap.size + 1) o (by omega); have l1_w2 := fun o => hf_w2 (w.heap.size + 1) o (by omega); have z_w2 : w.heap.size < w2.heap.size ∧ w.heap.size ≤ w2.heap.size ∧ w.heap.size ≤ w2.heap.size + 1 ∧ w.heap.size ≤ w2.heap.size + 1 + 1 ∧ w.heap.size + 1 < w2.heap.size ∧ w.heap.size + 1 ≤ w2.heap.size ∧ w.heap.size + 1 ≤ w2.heap.size + 1 ∧ w.heap.size + 1 ≤ w2.heap.size + 1 + 1 := (by omega); clear hc_w2 hf_w2; have n_w2 : w.heap.size ≠ w2.heap.size ∧ w2.heap.size ≠ w.heap.size ∧ w.heap.size ≠ w2.heap.size + 1 ∧ w2.heap.size + 1 ≠ w.heap.size ∧ w.heap.size + 1 ≠ w2.heap.size ∧ w2.heap.size ≠ w.heap.size + 1 ∧ w.heap.size + 1 ≠ w2.heap.size + 1 ∧ w2.heap.size + 1 ≠ w.heap.size + 1 := (by omega); have hW_w2 : Below w.heap.size w w2 := below_after (by go_grown) hB2)
  go_wp2_with fail
  refine (wide_High _ _ _ _ _).mono ?_
  rw [hr.out.1, hr.out.2]
  rintro en w3 ⟨rfl, hB3⟩
  (obtain ⟨hc_w3, hf_w3⟩ := bcell hB3; have hz_w3 := hB3.size; (try simp only [World.size_alloc, World.size_setCell, World.size_drew] at hz_w3 hc_w3 hf_w3); have k0_w3 := fun o => hc_w3 (w.heap.size) o (by omega); have l0_w3 := fun o => hf_w3 (w.heap.size) o (by omega); have k1_w3 := fun o => hc_w3 (w.heap.size + 1) o (by omega); have l1_w3 := fun o => hf_w3 (w.heap.size + 1) o (by omega); have z_w3 : w.heap.size < w3.heap.size ∧ w.heap.size ≤ w3.heap.size ∧ w.heap.size ≤ w3.heap.size + 1 ∧ w.heap.size ≤ w3.heap.size + 1 + 1 ∧ w.heap.size + 1 < w3.heap.size ∧ w.heap.size + 1 ≤ w3.heap.size ∧ w.heap.size + 1 ≤ w3.heap.size + 1 ∧ w.heap.size + 1 ≤ w3.heap.size + 1 + 1 := (by omega); clear hc_w3 hf_w3; have n_w3 : w.heap.size ≠ w3.heap.size ∧ w3.heap.size ≠ w.heap.size ∧ w.heap.size ≠ w3.heap.size + 1 ∧ w3.heap.size + 1 ≠ w.heap.size ∧ w.heap.size + 1 ≠ w3.heap.size ∧ w3.heap.size ≠ w.heap.size + 1 ∧ w.heap.size + 1 ≠ w3.heap.size + 1 ∧ w3.heap.size + 1 ≠ w.heap.size + 1 := (by omega); have hW_w3 : Below w.heap.size w w3 := below_after (by go_grown) hB3)
  go_wp2_with fail
  refine bodyPost_ret (by simp [results, Tryz.results70, go_sem, k1_w3, k1_w2, k1_w1, z_w3, z_w2, n_w3, n_w2]; try rfl) rfl ?_
  exact ⟨rfl, by go_grown⟩
end Go.Proofs.YtkpjeceofcfnkaaGreatDoor

namespace Go.Proofs.YtkpjeceofcfnkaaGreatDoor
open Go.RowKit Go.Hb
/-- The class of an encoding: 0 nought, 1 subnormal, 2 normal, 3 infinite, 4 quiet, 5 signaling. -/
def classF (f : Int) (v : Nat) : Int :=
  if 4 ≤ f then 0 else if expF f v = 0 then (if fracF f v = 0 then 0 else 1) else if (expF f v : Int) < 2 * emaxS f + 1 then 2 else if fracF f v = 0 then 3 else if (fracF f v).testBit ((precS f - 2).toNat) then 4 else 5
theorem classF_bd (f : Int) (v : Nat) : 0 ≤ classF f v ∧ classF f v ≤ 5 := by unfold classF; repeat' split <;> omega
theorem class_Of (f h l : Int) [hU : U8 f] [U64 h] [U64 l] (w : World) [Laid w] :
    Calls Tryz.prog 65 #[.int .u8 f, .agg #[.int .u64 (h), .int .u64 (l)]] w fun en w' => en = .returned (.tuple #[.int .u8 (classF f (cat h l)), .bool (sgnF f (cat h l))]) ∧ Below w.heap.size w w' := by
  by_cases hf : f < 4
  · have hd : decide (f < 4) = true := by simp; omega
    have hx := Lib.hid (cat_hl (fracF f (cat h l)) (Nat.lt_of_lt_of_le (fracF_lt f _ U8.ge) (by omega)))
    have hel := expF_lt f (cat h l) U8.ge
    obtain ⟨b1, b2, b3, b4, b5, b6⟩ := fmt_bd f U8.ge hf
    obtain ⟨em0, em1⟩ := emaxS_bd f
    have hw1 : IntKind.i64.wrap (2 * emaxS f) = 2 * emaxS f := IntWalk.i64_in _ (by omega)
    have hw2 : IntKind.i64.wrap (2 * emaxS f + 1) = 2 * emaxS f + 1 := IntWalk.i64_in _ (by omega)
    have hw3 : IntKind.i64.wrap (precS f - 2) = precS f - 2 := IntWalk.i64_in _ (by omega)
    have hp0 : decide (0 ≤ precS f - 2) = true := by simp; omega
    go_enter Tryz.func65, Tryz.ntmps65
    go_wp2_with (go_at_call 27; refine (format_Known _ _).mono ?_; rintro en w' ⟨rfl, rfl⟩)
    refine (format_Split _ _ _ _).mono ?_
    rintro en w1 ⟨rfl, hB1⟩
    have lay1 := laid_after hB1
    have hBW : Below w.heap.size w w1 := below_after (by go_grown) hB1
    have hs1 := hB1.size
    simp only [World.size_alloc] at hs1
    clear hB1
    go_wp2_with fail
    refine (word_Zero _ _ _).mono ?_
    rw [hx.out]
    rintro en wz ⟨rfl, hBz⟩
    have c0 := cell_later hBz (show World.cell? _ ⟨w1.heap.size, 0, none⟩ = some (.int .u64 (hi (fracF f (cat h l)))) by go_simp)
    have c1 := cell_later hBz (show World.cell? _ ⟨w1.heap.size, 1, none⟩ = some (.int .u64 (lo (fracF f (cat h l)))) by go_simp)
    have layz := laid_after hBz
    replace hBW := below_after (w := w) (w1 := wz) (by go_grown) hBz
    have hsz := hBz.size
    simp only [World.size_alloc] at hsz
    clear hBz
    go_wp2_with fail
    refine (format_Emax _ _).mono ?_
    rintro en w2 ⟨rfl, hB2⟩
    have lay2 := laid_after hB2
    replace hBW := below_after (w := w) (w1 := w2) (by go_grown) hB2
    have hs2 := hB2.size
    (replace c0 := cell_later hB2 (cell_later (by go_grown) c0); replace c1 := cell_later hB2 (cell_later (by go_grown) c1); skip)
    clear hB2
    by_cases hE : expF f (cat h l) = 0
    · have he : (((expF f (cat h l) : Nat) : Int) == 0) = true := by simp [hE]
      by_cases hF : fracF f (cat h l) = 0
      · have hfd : decide (fracF f (cat h l) = 0) = true := by simp [hF]
        have hc : classF f (cat h l) = 0 := by unfold classF; rw [if_neg (by omega), if_pos hE, if_pos hF]
        go_wp2_with fail
        go_returns
        exact ⟨by rw [hc]; rfl, by go_grown⟩
      · have hfd : decide (fracF f (cat h l) = 0) = false := by simp [hF]
        have hc : classF f (cat h l) = 1 := by unfold classF; rw [if_neg (by omega), if_pos hE, if_neg hF]
        go_wp2_with fail
        go_returns
        exact ⟨by rw [hc]; rfl, by go_grown⟩
    · have he : (((expF f (cat h l) : Nat) : Int) == 0) = false := by simp [hE]
      by_cases hT : ((expF f (cat h l) : Nat) : Int) < 2 * emaxS f + 1
      · have ht : decide (((expF f (cat h l) : Nat) : Int) < 2 * emaxS f + 1) = true := by simpa using hT
        have hc : classF f (cat h l) = 2 := by unfold classF; rw [if_neg (by omega), if_neg hE, if_pos hT]
        go_wp2_with fail
        go_returns
        exact ⟨by rw [hc]; rfl, by go_grown⟩
      · have ht : decide (((expF f (cat h l) : Nat) : Int) < 2 * emaxS f + 1) = false := by simpa using hT
        by_cases hF : fracF f (cat h l) = 0
        · have hfd : decide (fracF f (cat h l) = 0) = true := by simp [hF]
          have hc : classF f (cat h l) = 3 := by unfold classF; rw [if_neg (by omega), if_neg hE, if_neg hT, if_pos hF]
          go_wp2_with fail
          go_returns
          exact ⟨by rw [hc]; rfl, by go_grown⟩
        · have hfd : decide (fracF f (cat h l) = 0) = false := by simp [hF]
          have hc : classF f (cat h l) = if (fracF f (cat h l)).testBit ((precS f - 2).toNat) then 4 else 5 := by unfold classF; rw [if_neg (by omega), if_neg hE, if_neg hT, if_neg hF]
          go_upto_region 14 with fail
          go_region_held3 (fun w' => w'.cell? ⟨w1.heap.size, 0, none⟩ = some (.int .u64 (hi (fracF f (cat h l)))) ∧ w'.cell? ⟨w1.heap.size, 1, none⟩ = some (.int .u64 (lo (fracF f (cat h l)))))
            ((refine ⟨?_, ?_⟩ <;> (refine cell_later (w := w2) ?_ (by assumption); go_grown)))
            (first | (go_at_call 31; refine (format_Prec _ _).mono ?_; rintro en w3 ⟨rfl, hB3⟩; have hb3 : Below w2.heap.size w2 w3 := below_after (by go_grown) hB3; have lay3 := laid_after hb3) | (go_at_call 97; refine (word_Bit _ _ _ _).mono ?_; rw [hp0, Bool.true_and, hx.out]; rintro en w4 ⟨rfl, hB4⟩; have hb4 : Below w2.heap.size w2 w4 := below_after (by go_grown) hB4; have lay4 := laid_after hb4))
          replace hBW := below_after hBW hb4
          cases hbit : (fracF f (cat h l)).testBit ((precS f - 2).toNat)
          · rw [hbit, if_neg (by decide)] at hc
            go_wp2_with fail
            go_returns
            exact ⟨by rw [hc]; rfl, by go_grown⟩
          · rw [hbit, if_pos rfl] at hc
            go_wp2_with fail
            go_returns
            exact ⟨by rw [hc]; rfl, by go_grown⟩
  · have hd : decide (f < 4) = false := by simp; omega
    have hs : sgnF f (cat h l) = false := by simp [sgnF]; omega
    have hc : classF f (cat h l) = 0 := by simp [classF]; omega
    rw [hs, hc]
    clear hs hc
    go_enter Tryz.func65, Tryz.ntmps65
    go_wp2_with (go_at_call 27; refine (format_Known _ _).mono ?_; rintro en w' ⟨rfl, rfl⟩)
    go_returns
    exact ⟨rfl, by go_grown⟩
end Go.Proofs.YtkpjeceofcfnkaaGreatDoor

namespace Go.Proofs.YtkpjeceofcfnkaaGreatDoor
open Go.RowKit Go.Hb
theorem scale_exp (p m e : Int) (w : World) (h0 : -1000000 ≤ e) (h1 : e ≤ 1000000) (h2 : 0 ≤ m) (h3 : m ≤ 100000) :
    Calls Tryz.prog 67 #[.agg #[.int .i64 p, .int .i64 m], .int .i64 e] w fun en w' => en = .returned (.int .i64 (e - m)) ∧ Below w.heap.size w w' := by
  have hw : IntKind.i64.wrap (e - m) = e - m := IntWalk.i64_in _ (by omega)
  go_enter Tryz.func67, Tryz.ntmps67
  go_wp2_with fail
  go_returns
  exact ⟨rfl, by go_grown⟩
theorem scale_least (p m : Int) (w : World) (h2 : 0 ≤ m) (h3 : m ≤ 100000) :
    Calls Tryz.prog 71 #[.agg #[.int .i64 p, .int .i64 m]] w fun en w' => en = .returned (.int .i64 (1 - m)) ∧ Below w.heap.size w w' := by
  have hw : IntKind.i64.wrap (1 - m) = 1 - m := IntWalk.i64_in _ (by omega)
  go_enter Tryz.func71, Tryz.ntmps71
  go_wp2_with fail
  go_returns
  exact ⟨rfl, by go_grown⟩
/-- A number of a format lies in a box. -/
def NumAt (w : World) (n : Nat) (p m : Int) (neg : Bool) (c e h l : Int) : Prop :=
  w.cell? ⟨n, 0, none⟩ = some (.int .i64 p) ∧ w.cell? ⟨n, 1, none⟩ = some (.int .i64 m) ∧ w.cell? ⟨n, 2, none⟩ = some (.bool neg) ∧ w.cell? ⟨n, 3, none⟩ = some (.int .u8 c) ∧ w.cell? ⟨n, 4, none⟩ = some (.int .i64 e) ∧ w.cell? ⟨n, 5, none⟩ = some (.int .u64 h) ∧ w.cell? ⟨n, 6, none⟩ = some (.int .u64 l) ∧
  w.frozen? ⟨n, 4, none⟩ = false ∧ w.frozen? ⟨n, 5, none⟩ = false ∧ w.frozen? ⟨n, 6, none⟩ = false
theorem fields_of (f c e h l : Int) (neg : Bool) [hU : U8 f] (w : World) [Laid w] :
    Calls Tryz.prog 66 #[.int .u8 f, .agg #[.bool neg, .int .u8 c, .int .i64 e, .int .u64 h, .int .u64 l]] w fun en w' =>
      ∃ n, en = .returned (.pointer (some ⟨n, 0, none⟩)) ∧ Below w.heap.size w w' ∧ w.heap.size ≤ n ∧ n < w'.heap.size ∧ NumAt w' n (precS f) (emaxS f) neg c e h l := by
  go_enter Tryz.func66, Tryz.ntmps66
  go_upto_region 1 with fail
  refine wp_rename ?_
  intro W0 hW0
  have lay0 : Laid W0 := by rw [hW0]; infer_instance
  have c0 : W0.cell? ⟨w.heap.size, 0, none⟩ = some (.bool neg) := by rw [hW0]; go_simp
  have c1 : W0.cell? ⟨w.heap.size, 1, none⟩ = some (.int .u8 c) := by rw [hW0]; go_simp
  have c2 : W0.cell? ⟨w.heap.size, 2, none⟩ = some (.int .i64 e) := by rw [hW0]; go_simp
  have c3 : W0.cell? ⟨w.heap.size, 3, none⟩ = some (.int .u64 h) := by rw [hW0]; go_simp
  have c4 : W0.cell? ⟨w.heap.size, 4, none⟩ = some (.int .u64 l) := by rw [hW0]; go_simp
  have hBW : Below w.heap.size w W0 := by rw [hW0]; go_grown
  have hs0 : w.heap.size + 1 ≤ W0.heap.size := by rw [hW0]; simp
  clear hW0
  go_region_held3 (fun w' => w'.cell? ⟨w.heap.size, 0, none⟩ = some (.bool neg) ∧ w'.cell? ⟨w.heap.size, 1, none⟩ = some (.int .u8 c) ∧ w'.cell? ⟨w.heap.size, 2, none⟩ = some (.int .i64 e) ∧ w'.cell? ⟨w.heap.size, 3, none⟩ = some (.int .u64 h) ∧ w'.cell? ⟨w.heap.size, 4, none⟩ = some (.int .u64 l))
    ((refine ⟨?_, ?_, ?_, ?_, ?_⟩ <;> (refine cell_later (w := W0) ?_ (by assumption); go_grown)))
    (first | (go_at_call 31; refine (format_Prec _ _).mono ?_; rintro en w2 ⟨rfl, hB2⟩; have hb2 : Below W0.heap.size W0 w2 := below_after (by go_grown) hB2; have lay2 := laid_after hb2) | (go_at_call 85; refine (format_Emax _ _).mono ?_; rintro en w3 ⟨rfl, hB3⟩; have hb3 : Below W0.heap.size W0 w3 := below_after (by go_grown) hB3; have hz3 := hb3.size; have lay3 := laid_after hb3))
  have hBW3 := below_after (w := w) hBW hb3
  go_wp2_with fail
  go_returns
  refine ⟨w3.heap.size, rfl, by go_grown, by omega, by simp, ?_⟩
  unfold NumAt
  refine ⟨?_, ?_, ?_, ?_, ?_, ?_, ?_, ?_, ?_, ?_⟩ <;> go_simp
end Go.Proofs.YtkpjeceofcfnkaaGreatDoor
