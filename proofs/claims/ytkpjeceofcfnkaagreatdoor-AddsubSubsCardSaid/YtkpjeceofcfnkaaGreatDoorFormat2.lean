/- The contracts of package format: fields: for every input. -/
import Derived.Test.YtkpjeceofcfnkaaGreatDoorFormat
import Derived.Test.YtkpjeceofcfnkaaGreatDoorShift6
set_option maxRecDepth 100000
set_option maxHeartbeats 8000000
set_option linter.unusedSimpArgs false
set_option linter.unusedVariables false
namespace Go.Hb
/-- The lowest n bits. -/
def lowN (v : Nat) (n : Int) : Nat := v % 2 ^ n.toNat
theorem lowN_le (v : Nat) (n : Int) : lowN v n ≤ v := Nat.mod_le _ _
theorem widthS_bd (f : Int) : 0 ≤ widthS f ∧ widthS f ≤ 128 := by unfold widthS; repeat' split <;> omega
theorem precS_bd (f : Int) : 0 ≤ precS f ∧ precS f ≤ 113 := by unfold precS; repeat' split <;> omega
theorem emaxS_bd (f : Int) : 0 ≤ emaxS f ∧ emaxS f ≤ 16383 := by unfold emaxS; repeat' split <;> omega
theorem low_eq (v : Nat) (n : Int) (h0 : 0 ≤ n) (h1 : n ≤ 128) : rsh (cat (hi (lsh v (128 - n))) (lo (lsh v (128 - n)))) (128 - n) = v % 2 ^ n.toNat := by
  have hc : cat (hi (lsh v (128 - n))) (lo (lsh v (128 - n))) = lsh v (128 - n) % 2 ^ 128 := by
    unfold cat hi lo; omega
  rw [hc]
  unfold rsh lsh
  have e : (2 : Nat) ^ 128 = 2 ^ n.toNat * 2 ^ (128 - n).toNat := by rw [← Nat.pow_add]; congr 1; omega
  rw [e, Nat.mul_mod_mul_right, Nat.mul_div_cancel _ (Nat.two_pow_pos _)]
end Go.Hb
namespace Go.Proofs.YtkpjeceofcfnkaaGreatDoor
open Go.RowKit Go.Hb
theorem format_low (h l n : Int) [U64 h] [U64 l] (n0 : 0 ≤ n) (n1 : n ≤ 128) (w : World) :
    Calls Tryz.prog 73 #[.agg #[.int .u64 (h), .int .u64 (l)], .int .i64 n] w fun e w' => e = .returned (.agg #[.int .u64 (hi (lowN (cat h l) n)), .int .u64 (lo (lowN (cat h l) n))]) ∧ Below w.heap.size w w' := by
  have hsp := Lib.hid (low_eq (cat h l) n n0 n1)
  go_enter Tryz.func73, Tryz.ntmps73
  (go_wp2_with fail; refine (shift_Left' _ _ _ _).mono ?_; rintro en w1 ⟨rfl, hB_w1⟩; (obtain ⟨hc_w1, hf_w1⟩ := bcell hB_w1; have hz_w1 := hB_w1.size; (try simp only [World.size_alloc, World.size_setCell, World.size_drew] at hz_w1 hc_w1 hf_w1); have k0_w1 := fun o => hc_w1 (w.heap.size) o (by omega); have l0_w1 := fun o => hf_w1 (w.heap.size) o (by omega); have k1_w1 := fun o => hc_w1 (w.heap.size + 1) o (by omega); have l1_w1 := fun o => hf_w1 (w.heap.size + 1) o (by omega); have z_w1 : w.heap.size < w1.heap.size ∧ w.heap.size ≤ w1.heap.size ∧ w.heap.size ≤ w1.heap.size + 1 ∧ w.heap.size ≤ w1.heap.size + 1 + 1 ∧ w.heap.size + 1 < w1.heap.size ∧ w.heap.size + 1 ≤ w1.heap.size ∧ w.heap.size + 1 ≤ w1.heap.size + 1 ∧ w.heap.size + 1 ≤ w1.heap.size + 1 + 1 := (by omega); clear hc_w1 hf_w1; have hW_w1 : Below w.heap.size w w1 := below_after (by go_grown) hB_w1))
  (go_wp2_with fail; refine (shift_Right _ _ _ _).mono ?_; rintro en w2 ⟨rfl, hB_w2⟩; (obtain ⟨hc_w2, hf_w2⟩ := bcell hB_w2; have hz_w2 := hB_w2.size; (try simp only [World.size_alloc, World.size_setCell, World.size_drew] at hz_w2 hc_w2 hf_w2); have k0_w2 := fun o => hc_w2 (w.heap.size) o (by omega); have l0_w2 := fun o => hf_w2 (w.heap.size) o (by omega); have k1_w2 := fun o => hc_w2 (w.heap.size + 1) o (by omega); have l1_w2 := fun o => hf_w2 (w.heap.size + 1) o (by omega); have z_w2 : w.heap.size < w2.heap.size ∧ w.heap.size ≤ w2.heap.size ∧ w.heap.size ≤ w2.heap.size + 1 ∧ w.heap.size ≤ w2.heap.size + 1 + 1 ∧ w.heap.size + 1 < w2.heap.size ∧ w.heap.size + 1 ≤ w2.heap.size ∧ w.heap.size + 1 ≤ w2.heap.size + 1 ∧ w.heap.size + 1 ≤ w2.heap.size + 1 + 1 := (by omega); clear hc_w2 hf_w2; have hW_w2 : Below w.heap.size w w2 := below_after (by go_grown) hB_w2))
  go_wp2_with fail
  refine bodyPost_ret (by simp [results, Tryz.results73, go_sem, k1_w2, k1_w1]; try rfl) rfl ?_
  refine ⟨ret_bits ?_, by go_grown⟩
  rw [hsp.out]
  exact ⟨rfl, rfl⟩
theorem format_Cut (f h l : Int) [U8 f] [U64 h] [U64 l] (w : World) [Laid w] :
    Calls Tryz.prog 32 #[.int .u8 f, .agg #[.int .u64 (h), .int .u64 (l)]] w fun e w' => e = .returned (.agg #[.int .u64 (hi (lowN (cat h l) (widthS f))), .int .u64 (lo (lowN (cat h l) (widthS f)))]) ∧ Below w.heap.size w w' := by
  go_enter Tryz.func32, Tryz.ntmps32
  go_wp2_with fail
  go_region_held3 (fun w' => w'.cell? ⟨w.heap.size, 0, none⟩ = some (.int .u64 h) ∧ w'.cell? ⟨w.heap.size, 1, none⟩ = some (.int .u64 l))
    (go_keep)
    (first | (go_at_call 74; refine (format_Width _ _).mono ?_; rintro e w1 ⟨rfl, hB1⟩; (obtain ⟨hc_w1, hf_w1⟩ := bcell hB1; have hz_w1 := hB1.size; (try simp only [World.size_alloc, World.size_setCell, World.size_drew] at hz_w1 hc_w1 hf_w1); have k0_w1 := fun o => hc_w1 (w.heap.size) o (by omega); have l0_w1 := fun o => hf_w1 (w.heap.size) o (by omega); have k1_w1 := fun o => hc_w1 (w.heap.size + 1) o (by omega); have l1_w1 := fun o => hf_w1 (w.heap.size + 1) o (by omega); clear hc_w1 hf_w1; have hW_w1 : Below w.heap.size w w1 := below_after (by go_grown) hB1)) | (go_at_call 73; refine (format_low _ _ _ (widthS_bd f).1 (widthS_bd f).2 _).mono ?_; rintro e w2 ⟨rfl, hB2⟩; (obtain ⟨hc_w2, hf_w2⟩ := bcell hB2; have hz_w2 := hB2.size; (try simp only [World.size_alloc, World.size_setCell, World.size_drew] at hz_w2 hc_w2 hf_w2); have k0_w2 := fun o => hc_w2 (w.heap.size) o (by omega); have l0_w2 := fun o => hf_w2 (w.heap.size) o (by omega); have k1_w2 := fun o => hc_w2 (w.heap.size + 1) o (by omega); have l1_w2 := fun o => hf_w2 (w.heap.size + 1) o (by omega); clear hc_w2 hf_w2; have hW_w2 : Below w.heap.size w w2 := below_after (by go_grown) hB2)))
  go_wp2
  refine bodyPost_ret (by simp [results, Tryz.results32, go_sem, k1_w2, k1_w1]; try rfl) rfl ?_
  exact ⟨rfl, by go_grown⟩
/-- The fields of an encoding. -/
def sgnF (f : Int) (v : Nat) : Bool := if 4 ≤ f then false else v.testBit (widthS f - 1).toNat
def expF (f : Int) (v : Nat) : Nat := if 4 ≤ f then 0 else v / 2 ^ (precS f - 1).toNat % 2 ^ (widthS f - precS f).toNat
def fracF (f : Int) (v : Nat) : Nat := if 4 ≤ f then 0 else v % 2 ^ (precS f - 1).toNat
/-- Of a format that there is. -/
theorem fmt_bd (f : Int) (h0 : 0 ≤ f) (h : f < 4) : 16 ≤ widthS f ∧ widthS f ≤ 128 ∧ 11 ≤ precS f ∧ precS f ≤ 113 ∧ 5 ≤ widthS f - precS f ∧ widthS f - precS f ≤ 15 := by
  unfold widthS precS; repeat' split <;> omega
theorem fmt_none (f : Int) (h : 4 ≤ f) : widthS f = 0 ∧ precS f = 0 ∧ emaxS f = 0 := by
  unfold widthS precS emaxS
  rw [if_neg (by omega), if_neg (by omega), if_neg (by omega), if_neg (by omega), if_neg (by omega), if_neg (by omega), if_neg (by omega), if_neg (by omega), if_neg (by omega), if_neg (by omega), if_neg (by omega), if_neg (by omega)]
  simp
theorem and1 (x : Int) (k : Nat) (h0 : 0 ≤ x) (h1 : x < 18446744073709551616) : (bits BinOp.and IntKind.u64 (x / 2 ^ k) 1 == 1) = x.toNat.testBit k := by
  obtain ⟨n, rfl⟩ := Int.eq_ofNat_of_zero_le h0
  have e : (n : Int) / 2 ^ k = ((n / 2 ^ k : Nat) : Int) := by simp
  have hn : n / 2 ^ k < 2 ^ 64 := Nat.lt_of_le_of_lt (Nat.div_le_self _ _) (by omega)
  have := (bits_nat .u64 64 (by decide) (fun n h1 h2 => by rw [IntKind.wrap_u64]; omega) (n / 2 ^ k) 1 hn (by decide)).1
  rw [e, show (1 : Int) = ((1 : Nat) : Int) from rfl, this, Nat.testBit_eq_decide_div_mod_eq, Nat.and_one_is_mod, Bool.eq_iff_iff]
  simp; omega
theorem cat_bit (h l : Int) (k : Nat) [hh : U64 h] [hl : U64 l] : (cat h l).testBit k = if k < 64 then l.toNat.testBit k else h.toNat.testBit (k - 64) := by
  have := hl.ge; have := hl.lt
  have e : cat h l = 2 ^ 64 * h.toNat + l.toNat := by unfold cat; omega
  rw [e, Nat.testBit_two_pow_mul_add _ (by omega)]
theorem word_Bit (h l i : Int) [hh : U64 h] [hl : U64 l] (w : World) :
    Calls Tryz.prog 97 #[.agg #[.int .u64 (h), .int .u64 (l)], .int .i64 i] w fun e w' => e = .returned (.bool (decide (0 ≤ i) && (cat h l).testBit i.toNat)) ∧ Below w.heap.size w w' := by
  have g0 := hh.ge; have g1 := hl.ge; have e0 := Lib.hid hh.lt; have e1 := Lib.hid hl.lt
  have : i < 0 ∨ 127 < i ∨ (63 < i ∧ i ≤ 127) ∨ (0 ≤ i ∧ i ≤ 63) := by omega
  rcases this with hi | hi | ⟨hi1, hi2⟩ | ⟨hi1, hi2⟩
  all_goals go_enter Tryz.func97, Tryz.ntmps97
  all_goals go_wp2
  all_goals go_returns
  all_goals refine ⟨ret_bool ?_, by go_grown⟩
  · rw [decide_eq_false (by omega)]; rfl
  · rw [decide_eq_true (by omega), cat_bit, if_neg (by omega), Nat.testBit_lt_two_pow (Nat.lt_of_lt_of_le (show h.toNat < 2 ^ 64 by have := e0.out; omega) (Nat.pow_le_pow_right (by omega) (by omega)))]; rfl
  · show (bits BinOp.and IntKind.u64 (h / 2 ^ (i - 64).toNat) 1 == 1) = _
    rw [and1 _ _ g0 e0.out, decide_eq_true (by omega), cat_bit, if_neg (by omega), show i.toNat - 64 = (i - 64).toNat by omega]; rfl
  · show (bits BinOp.and IntKind.u64 (l / 2 ^ i.toNat) 1 == 1) = _
    rw [and1 _ _ g1 e1.out, decide_eq_true (by omega), cat_bit, if_pos (by omega)]; rfl
theorem exp_eq (v : Nat) (f : Int) (h0 : 0 ≤ f) (hf : f < 4) : lowN (rsh (lowN v (widthS f)) (precS f - 1)) (widthS f - precS f) = expF f v := by
  obtain ⟨b1, b2, b3, b4, b5, b6⟩ := fmt_bd f h0 hf
  unfold rsh expF lowN
  rw [if_neg (by omega)]
  have e : (2 : Nat) ^ (widthS f).toNat = 2 ^ (precS f - 1).toNat * 2 ^ ((widthS f - precS f).toNat + 1) := by rw [← Nat.pow_add]; congr 1; omega
  rw [e, Nat.mod_mul_right_div_self, Nat.mod_mod_of_dvd]
  exact ⟨2, by rw [Nat.pow_succ]⟩
theorem expF_lt (f : Int) (v : Nat) (h0 : 0 ≤ f) : expF f v < 32768 := by
  unfold expF
  split
  · omega
  · obtain ⟨b1, b2, b3, b4, b5, b6⟩ := fmt_bd f h0 (by omega)
    have : (2 : Nat) ^ (widthS f - precS f).toNat ≤ 2 ^ 15 := Nat.pow_le_pow_right (by omega) (by omega)
    have h2 := Nat.mod_lt (v / 2 ^ (precS f - 1).toNat) (Nat.two_pow_pos (widthS f - precS f).toNat)
    omega
theorem fracF_lt (f : Int) (v : Nat) (h0 : 0 ≤ f) : fracF f v < 2 ^ 112 := by
  unfold fracF
  split
  · exact Nat.two_pow_pos _
  · obtain ⟨b1, b2, b3, b4, b5, b6⟩ := fmt_bd f h0 (by omega)
    have : (2 : Nat) ^ (precS f - 1).toNat ≤ 2 ^ 112 := Nat.pow_le_pow_right (by omega) (by omega)
    have h2 := Nat.mod_lt v (Nat.two_pow_pos (precS f - 1).toNat)
    omega
theorem lo_small (n : Nat) (h : n < 18446744073709551616) : lo n = (n : Int) := by unfold lo; omega
theorem ret_split {a b : Bool} {n m : Int} {x y x' y' : Int} (h1 : a = b) (h2 : n = m) (h3 : x = x' ∧ y = y') : Ending.returned (.tuple #[.bool a, .int .i64 n, .agg #[.int .u64 (x), .int .u64 (y)]]) = Ending.returned (.tuple #[.bool b, .int .i64 m, .agg #[.int .u64 (x'), .int .u64 (y')]]) := by rw [h1, h2, h3.1, h3.2]
theorem split_s (f : Int) (v : Nat) (h0 : 0 ≤ f) (hf : f < 4) : (decide (1 ≤ widthS f) && v.testBit ((widthS f).toNat - 1)) = sgnF f v := by
  obtain ⟨b1, b2, b3, b4, b5, b6⟩ := fmt_bd f h0 hf
  rw [decide_eq_true (by omega), sgnF, if_neg (by omega), show (widthS f).toNat - 1 = (widthS f - 1).toNat by omega, Bool.true_and]
theorem split_e (f : Int) (v : Nat) (h0 : 0 ≤ f) (hf : f < 4) {c : Nat} (hc : c = rsh (lowN v (widthS f)) (precS f - 1)) : IntKind.i64.wrap (lo (lowN c (widthS f - precS f))) = (expF f v : Int) := by
  subst hc
  have := expF_lt f v h0
  rw [exp_eq _ _ h0 hf, lo_small _ (by omega)]
  exact IntWalk.i64_in _ (by omega)
theorem split_f (f : Int) (v : Nat) (h0 : 0 ≤ f) (hf : f < 4) : hi (lowN v (precS f - 1)) = hi (fracF f v) ∧ lo (lowN v (precS f - 1)) = lo (fracF f v) := by
  obtain ⟨b1, b2, b3, b4, b5, b6⟩ := fmt_bd f h0 hf
  rw [fracF, if_neg (by omega)]; exact ⟨rfl, rfl⟩
theorem cell_two0 (w : World) (B : Nat) (a b : Value) (h : (w.cell? ⟨B, 0, none⟩).isSome = true) : ((w.setCell ⟨B, 0, none⟩ a).setCell ⟨B, 1, none⟩ b).cell? ⟨B, 0, none⟩ = some a := by
  rw [World.cell?_setCell_other _ _ _ _ (by simp)]
  exact World.cell?_setCell_same' _ _ _ h
theorem cell_two1 (w : World) (B : Nat) (a b : Value) (h : (w.cell? ⟨B, 1, none⟩).isSome = true) : ((w.setCell ⟨B, 0, none⟩ a).setCell ⟨B, 1, none⟩ b).cell? ⟨B, 1, none⟩ = some b := by
  refine World.cell?_setCell_same' _ _ _ ?_
  rw [World.cell?_setCell_other _ _ _ _ (by simp)]
  exact h
@[go_sem] theorem bits0 (a b : Int) (W : World) : (Instr.field 26 (.agg #[.int .u64 (a), .int .u64 (b)]) 0).run Tryz.prog W = .ok (.int .u64 a) W := by kernel_rfl
@[go_sem] theorem bits1 (a b : Int) (W : World) : (Instr.field 26 (.agg #[.int .u64 (a), .int .u64 (b)]) 1).run Tryz.prog W = .ok (.int .u64 b) W := by kernel_rfl
theorem format_Split (f h l : Int) [U8 f] [U64 h] [U64 l] (w : World) [Laid w] :
    Calls Tryz.prog 53 #[.int .u8 f, .agg #[.int .u64 (h), .int .u64 (l)]] w fun e w' => e = .returned (.tuple #[.bool (sgnF f (cat h l)), .int .i64 (expF f (cat h l)), .agg #[.int .u64 (hi (fracF f (cat h l))), .int .u64 (lo (fracF f (cat h l)))]]) ∧ Below w.heap.size w w' := by
  by_cases hf : f < 4
  · obtain ⟨b1, b2, b3, b4, b5, b6⟩ := fmt_bd f U8.ge hf
    go_enter Tryz.func53, Tryz.ntmps53
    have hp1 : IntKind.i64.wrap (precS f - 1) = precS f - 1 := IntWalk.i64_in _ (by omega)
    have hp2 : IntKind.i64.wrap (widthS f - 1) = widthS f - 1 := IntWalk.i64_in _ (by omega)
    have hp3 : IntKind.i64.wrap (widthS f - precS f) = widthS f - precS f := IntWalk.i64_in _ (by omega)
    have hx := Lib.hid (cat_hl (lowN (cat h l) (widthS f)) (Nat.lt_of_le_of_lt (lowN_le _ _) (cat_lt h l)))
    (go_wp2_with fail; refine (format_of _ _).mono ?_; rintro en w1 ⟨rfl, hB_w1⟩; have lay_w1 := laid_after hB_w1; (obtain ⟨hc_w1, hf_w1⟩ := bcell hB_w1; have hz_w1 := hB_w1.size; (try simp only [World.size_alloc, World.size_setCell, World.size_drew] at hz_w1 hc_w1 hf_w1); have k0_w1 := fun o => hc_w1 (w.heap.size) o (by omega); have l0_w1 := fun o => hf_w1 (w.heap.size) o (by omega); have k1_w1 := fun o => hc_w1 (w.heap.size + 1) o (by omega); have l1_w1 := fun o => hf_w1 (w.heap.size + 1) o (by omega); have z_w1 : w.heap.size < w1.heap.size ∧ w.heap.size ≤ w1.heap.size ∧ w.heap.size ≤ w1.heap.size + 1 ∧ w.heap.size ≤ w1.heap.size + 1 + 1 ∧ w.heap.size + 1 < w1.heap.size ∧ w.heap.size + 1 ≤ w1.heap.size ∧ w.heap.size + 1 ≤ w1.heap.size + 1 ∧ w.heap.size + 1 ≤ w1.heap.size + 1 + 1 := (by omega); clear hc_w1 hf_w1; have n_w1 : w.heap.size ≠ w1.heap.size ∧ w1.heap.size ≠ w.heap.size ∧ w.heap.size ≠ w1.heap.size + 1 ∧ w1.heap.size + 1 ≠ w.heap.size ∧ w.heap.size + 1 ≠ w1.heap.size ∧ w1.heap.size ≠ w.heap.size + 1 ∧ w.heap.size + 1 ≠ w1.heap.size + 1 ∧ w1.heap.size + 1 ≠ w.heap.size + 1 := (by omega); have hW_w1 : Below w.heap.size w w1 := below_after (by go_grown) hB_w1))
    go_upto_region 4 with fail
    refine wp_rename ?_
    intro W0 hW0
    have c0 : W0.cell? ⟨w.heap.size, 0, none⟩ = some (.int .u64 h) := by rw [hW0]; go_simp
    have c1 : W0.cell? ⟨w.heap.size, 1, none⟩ = some (.int .u64 l) := by rw [hW0]; go_simp
    have c2 : W0.cell? ⟨w1.heap.size, 0, none⟩ = some (.int .i64 (widthS f)) := by rw [hW0]; go_simp
    have c3 : W0.cell? ⟨w1.heap.size, 1, none⟩ = some (.int .i64 (precS f)) := by rw [hW0]; go_simp
    have r0 : W0.cell? ⟨w.heap.size + 1, 0, none⟩ = some (.int .u64 0) := by rw [hW0]; go_simp
    have r1 : W0.cell? ⟨w.heap.size + 1, 1, none⟩ = some (.int .u64 0) := by rw [hW0]; go_simp
    have q0 : W0.frozen? ⟨w.heap.size + 1, 0, none⟩ = false := by rw [hW0]; go_simp
    have q1 : W0.frozen? ⟨w.heap.size + 1, 1, none⟩ = false := by rw [hW0]; go_simp
    have hBW : Below w.heap.size w W0 := by rw [hW0]; go_grown
    have lay0 : Laid W0 := by rw [hW0]; infer_instance
    have hs0 : w1.heap.size + 1 ≤ W0.heap.size := by rw [hW0]; simp
    clear hW0 k0_w1 k1_w1 l0_w1 l1_w1 hW_w1 lay_w1 hB_w1 z_w1 n_w1
    go_cut [8] (fun s8 wx => ∃ g : Nat, s8 = .pointer (some ⟨g, 0, none⟩) ∧ wx.cell? ⟨g, 0, none⟩ = some (.int .u64 (hi (rsh (lowN (cat h l) (widthS f)) (precS f - 1)))) ∧ wx.cell? ⟨g, 1, none⟩ = some (.int .u64 (lo (rsh (lowN (cat h l) (widthS f)) (precS f - 1))))
      ∧ Below W0.heap.size W0 wx ∧ W0.heap.size ≤ g)
    case first =>
      go_region_held3 (fun w' => w'.cell? ⟨w.heap.size, 0, none⟩ = some (.int .u64 h) ∧ w'.cell? ⟨w.heap.size, 1, none⟩ = some (.int .u64 l) ∧ w'.cell? ⟨w1.heap.size, 0, none⟩ = some (.int .i64 (widthS f)) ∧ w'.cell? ⟨w1.heap.size, 1, none⟩ = some (.int .i64 (precS f)))
        ((refine ⟨?_, ?_, ?_, ?_⟩ <;> (refine cell_later (w := W0) ?_ (by assumption); go_grown)))
        (first | (go_at_call 32; refine (format_Cut _ _ _ _).mono ?_; rintro e w2 ⟨rfl, hB2⟩; have hb2 : Below W0.heap.size W0 w2 := below_after (by go_grown) hB2; obtain ⟨hc2, hf2⟩ := bcell hB2; have hz2 := hB2.size; (try simp only [World.size_alloc, World.size_drew] at hz2 hc2 hf2); have z2 : W0.heap.size < w2.heap.size := (by omega)) | (go_at_call 32; refine (format_Cut _ _ _ _).mono ?_; rintro e w2 ⟨rfl, hB2⟩; have hb2 : Below W0.heap.size W0 w2 := below_after (by go_grown) hB2; obtain ⟨hc2, hf2⟩ := bcell hB2; have hz2 := hB2.size; (try simp only [World.size_alloc, World.size_drew] at hz2 hc2 hf2)) | (go_at_call 96; refine (shift_Right _ _ _ _).mono ?_; rw [hx.out]; rintro e w3 ⟨rfl, hB3⟩; have hb3 : Below W0.heap.size W0 w3 := below_after (by go_grown) hB3; obtain ⟨hc3, hf3⟩ := bcell hB3; have hz3 := hB3.size; (try simp only [World.size_alloc, World.size_drew] at hz3 hc3 hf3)))
      all_goals (go_wp2_with fail; go_meet)
      · exact ⟨_, rfl, by go_cell, by go_cell, by go_grown, by omega⟩
      · exact ⟨_, rfl, cell_two0 _ _ _ _ (by go_simp), cell_two1 _ _ _ _ (by go_simp), by go_grown, by omega⟩
      · exact ⟨_, rfl, cell_two0 _ _ _ _ (by go_simp), cell_two1 _ _ _ _ (by go_simp), by go_grown, by omega⟩
    case rest =>
      obtain ⟨g, rfl, g0, g1, hBx, hgW⟩ := hcut
      have c0 := cell_later hBx c0
      have c1 := cell_later hBx c1
      have c2 := cell_later hBx c2
      have c3 := cell_later hBx c3
      have r0 := cell_later hBx r0
      have r1 := cell_later hBx r1
      have q0 := frozen_later hBx q0 (by omega)
      have q1 := frozen_later hBx q1 (by omega)
      have hBW := below_after hBW hBx
      have hy := Lib.hid (cat_hl (rsh (lowN (cat h l) (widthS f)) (precS f - 1)) (Nat.lt_of_le_of_lt (Nat.le_trans (Nat.div_le_self _ _) (lowN_le _ _)) (cat_lt h l)))
      have hsz := hBx.size
      clear hBx lay0
      go_wp2_with fail
      go_region_held3 (fun w' => w'.cell? ⟨w.heap.size, 0, none⟩ = some (.int .u64 h) ∧ w'.cell? ⟨w.heap.size, 1, none⟩ = some (.int .u64 l) ∧ w'.cell? ⟨w1.heap.size, 0, none⟩ = some (.int .i64 (widthS f)) ∧ w'.cell? ⟨w1.heap.size, 1, none⟩ = some (.int .i64 (precS f)) ∧ w'.cell? ⟨g, 0, none⟩ = some (.int .u64 (hi (rsh (lowN (cat h l) (widthS f)) (precS f - 1)))) ∧ w'.cell? ⟨g, 1, none⟩ = some (.int .u64 (lo (rsh (lowN (cat h l) (widthS f)) (precS f - 1)))))
        (first | (refine ⟨?_, ?_, ?_, ?_, ?_, ?_⟩ <;> (refine cell_later (w := wc) ?_ (by assumption); go_grown; done)) | (refine ⟨?_, ?_, ?_, ?_, ?_, ?_⟩ <;> (rw [World.cell?_setCell_other _ _ _ _ (by first | (simp; done) | (simp; omega)), World.cell?_setCell_other _ _ _ _ (by first | (simp; done) | (simp; omega))]; refine cell_later hb5 (by assumption))))
        (first | (go_at_call 97; refine (word_Bit _ _ _ _).mono ?_; rintro e w4 ⟨rfl, hB4⟩; have hb4 : Below wc.heap.size wc w4 := below_after (by go_grown) hB4; have hz4 := hB4.size; (try simp only [World.size_alloc, World.size_drew] at hz4); (have r0 := cell_later hB4 (cell_later (by go_grown) r0); have r1 := cell_later hB4 (cell_later (by go_grown) r1); have q0 := frozen_later hB4 (frozen_later (by go_grown) q0 (by first | omega | (simp; omega))) (by first | omega | (simp; omega)); have q1 := frozen_later hB4 (frozen_later (by go_grown) q1 (by first | omega | (simp; omega))) (by first | omega | (simp; omega)); skip)) | (go_at_call 73; refine (format_low _ _ _ (by omega) (by omega) _).mono ?_; rintro e w5 ⟨rfl, hB5⟩; have hb5 : Below wc.heap.size wc w5 := below_after (by go_grown) hB5; have hz5 := hB5.size; (try simp only [World.size_alloc, World.size_drew] at hz5); (have r0 := cell_later hB5 (cell_later (by go_grown) r0); have r1 := cell_later hB5 (cell_later (by go_grown) r1); have q0 := frozen_later hB5 (frozen_later (by go_grown) q0 (by first | omega | (simp; omega))) (by first | omega | (simp; omega)); have q1 := frozen_later hB5 (frozen_later (by go_grown) q1 (by first | omega | (simp; omega))) (by first | omega | (simp; omega)); skip)))
      go_wp2
      refine bodyPost_ret (by simp [results, Tryz.results53, go_sem, r0, r1]; try rfl) rfl ?_
      have hw5 : Below w.heap.size w w5 := below_after hBW hb5
      refine ⟨ret_split ?_ ?_ ?_, by go_grown⟩
      · exact split_s f _ U8.ge hf
      · exact split_e f _ U8.ge hf hy.out
      · exact split_f f _ U8.ge hf
  · obtain ⟨e1, e2, e3⟩ := fmt_none f (by omega)
    have hs : sgnF f (cat h l) = false := by simp [sgnF]; omega
    have he : expF f (cat h l) = 0 := by simp [expF]; omega
    have hr : fracF f (cat h l) = 0 := by simp [fracF]; omega
    rw [hs, he, hr]
    clear hs he hr hf
    go_enter Tryz.func53, Tryz.ntmps53
    (go_wp2_with fail; refine (format_of _ _).mono ?_; rintro en w1 ⟨rfl, hB_w1⟩; have lay_w1 := laid_after hB_w1; (obtain ⟨hc_w1, hf_w1⟩ := bcell hB_w1; have hz_w1 := hB_w1.size; (try simp only [World.size_alloc, World.size_setCell, World.size_drew] at hz_w1 hc_w1 hf_w1); have k0_w1 := fun o => hc_w1 (w.heap.size) o (by omega); have l0_w1 := fun o => hf_w1 (w.heap.size) o (by omega); have k1_w1 := fun o => hc_w1 (w.heap.size + 1) o (by omega); have l1_w1 := fun o => hf_w1 (w.heap.size + 1) o (by omega); have z_w1 : w.heap.size < w1.heap.size ∧ w.heap.size ≤ w1.heap.size ∧ w.heap.size ≤ w1.heap.size + 1 ∧ w.heap.size ≤ w1.heap.size + 1 + 1 ∧ w.heap.size + 1 < w1.heap.size ∧ w.heap.size + 1 ≤ w1.heap.size ∧ w.heap.size + 1 ≤ w1.heap.size + 1 ∧ w.heap.size + 1 ≤ w1.heap.size + 1 + 1 := (by omega); clear hc_w1 hf_w1; have n_w1 : w.heap.size ≠ w1.heap.size ∧ w1.heap.size ≠ w.heap.size ∧ w.heap.size ≠ w1.heap.size + 1 ∧ w1.heap.size + 1 ≠ w.heap.size ∧ w.heap.size + 1 ≠ w1.heap.size ∧ w1.heap.size ≠ w.heap.size + 1 ∧ w.heap.size + 1 ≠ w1.heap.size + 1 ∧ w1.heap.size + 1 ≠ w.heap.size + 1 := (by omega); have hW_w1 : Below w.heap.size w w1 := below_after (by go_grown) hB_w1))
    go_wp2_with fail
    refine bodyPost_ret (by simp [results, Tryz.results53, go_sem, k1_w1, z_w1, e1]; try rfl) rfl ?_
    exact ⟨rfl, by go_grown⟩
end Go.Proofs.YtkpjeceofcfnkaaGreatDoor
