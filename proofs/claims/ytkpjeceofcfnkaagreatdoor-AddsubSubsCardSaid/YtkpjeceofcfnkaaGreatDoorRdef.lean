/- The rounding of package pack's closure: for every input. The contract of pack.put: for every input. The contract of pack.of: for every input. The contract of pack's full: for every input. The contract of pack.Round where the number is nought: for every known format and mode. What a raised number is less than (toward pack.Round where the number is not nought). What round.Cut keeps, in plain numbers. What pack.Round answers, in plain numbers. No condition. What pack.Round answers at every input, in plain numbers. No condition. -/
import Derived.Test.YtkpjeceofcfnkaaGreatDoorRound
import Derived.Test.YtkpjeceofcfnkaaGreatDoorOver
import Derived.Test.YtkpjeceofcfnkaaGreatDoorCount
set_option maxRecDepth 100000
set_option maxHeartbeats 4000000
set_option linter.unusedSimpArgs false
set_option linter.unusedVariables false
namespace Go.Proofs.YtkpjeceofcfnkaaGreatDoor
open Go.RowKit Go.Hb
theorem pack_cut (bn bv bg : Nat) (x0 x1 x2 x3 p m : Int) (neg : Bool) [U64 x0] [U64 x1] [U64 x2] [U64 x3] (w : World) (h0 : 0 ≤ p) (h1 : p ≤ 127) (m0 : 0 ≤ m) (m1 : m ≤ 4)
    (cn : w.cell? ⟨bn, 0, none⟩ = some (.int .i64 p)) (cv : w.cell? ⟨bv, 0, none⟩ = some (.int .u8 m)) (cg : w.cell? ⟨bg, 0, none⟩ = some (.bool neg)) (sn : bn < w.heap.size) (sv : bv < w.heap.size) (sg : bg < w.heap.size) :
    Calls Tryz.prog 117 #[.agg #[.int .u64 (x0), .int .u64 (x1), .int .u64 (x2), .int .u64 (x3)], .pointer (some ⟨bn, 0, none⟩), .pointer (some ⟨bv, 0, none⟩), .pointer (some ⟨bg, 0, none⟩)] w fun e w' => e = .returned (.tuple #[.agg #[.int .u64 (hi (cutS (cat4 x0 x1 x2 x3) p m neg)), .int .u64 (lo (cutS (cat4 x0 x1 x2 x3) p m neg))], .bool (inexS (cat4 x0 x1 x2 x3) p)]) ∧ Below w.heap.size w w' := by
  have nn : bn ≠ w.heap.size ∧ bn ≠ w.heap.size + 1 ∧ w.heap.size ≠ bn ∧ w.heap.size + 1 ≠ bn ∧ bv ≠ w.heap.size ∧ bv ≠ w.heap.size + 1 ∧ w.heap.size ≠ bv ∧ w.heap.size + 1 ≠ bv ∧ bg ≠ w.heap.size ∧ bg ≠ w.heap.size + 1 ∧ w.heap.size ≠ bg ∧ w.heap.size + 1 ≠ bg := by omega
  go_enter Tryz.func117, Tryz.ntmps117
  (go_wp2_with fail; refine (round_Cut _ _ _ _ _ _ _ _ h0 h1 m0 m1).mono ?_; rintro en w1 ⟨rfl, hB_w1⟩; (obtain ⟨hc_w1, hf_w1⟩ := bcell hB_w1; have hz_w1 := hB_w1.size; (try simp only [World.size_alloc, World.size_setCell, World.size_drew] at hz_w1 hc_w1 hf_w1); have k0_w1 := fun o => hc_w1 (w.heap.size) o (by omega); have l0_w1 := fun o => hf_w1 (w.heap.size) o (by omega); have k1_w1 := fun o => hc_w1 (w.heap.size + 1) o (by omega); have l1_w1 := fun o => hf_w1 (w.heap.size + 1) o (by omega); have z_w1 : w.heap.size < w1.heap.size ∧ w.heap.size ≤ w1.heap.size ∧ w.heap.size ≤ w1.heap.size + 1 ∧ w.heap.size ≤ w1.heap.size + 1 + 1 ∧ w.heap.size + 1 < w1.heap.size ∧ w.heap.size + 1 ≤ w1.heap.size ∧ w.heap.size + 1 ≤ w1.heap.size + 1 ∧ w.heap.size + 1 ≤ w1.heap.size + 1 + 1 := (by omega); clear hc_w1 hf_w1; have hW_w1 : Below w.heap.size w w1 := below_after (by go_grown) hB_w1))
  go_wp2_with fail
  refine bodyPost_ret (by simp [results, Tryz.results117, go_sem, k1_w1, z_w1]; try rfl) rfl ?_
  exact ⟨rfl, by go_grown⟩
end Go.Proofs.YtkpjeceofcfnkaaGreatDoor

namespace Go.Proofs.YtkpjeceofcfnkaaGreatDoor
open Go.RowKit Go.Hb
theorem put_pos (f e h l : Int) (neg : Bool) [hU : U8 f] [U64 h] [U64 l] (w : World) [Laid w] (he : ¬ e = 0) :
    Calls Tryz.prog 121 #[.int .u8 f, .bool neg, .int .i64 e, .agg #[.int .u64 (h), .int .u64 (l)]] w fun en w' => en = .returned (.agg #[.int .u64 (hi (makeF f neg e (cat h l))), .int .u64 (lo (makeF f neg e (cat h l)))]) ∧ Below w.heap.size w w' := by
  have hd : (e == 0) = false := by simpa using he
  go_enter Tryz.func121, Tryz.ntmps121
  go_upto_region 1 with fail
  go_region
  (go_wp2_with fail; refine (format_Make _ _ _ _ _ _).mono ?_; rintro en w1 ⟨rfl, hB_w1⟩; (obtain ⟨hc_w1, hf_w1⟩ := bcell hB_w1; have hz_w1 := hB_w1.size; (try simp only [World.size_alloc, World.size_setCell, World.size_drew] at hz_w1 hc_w1 hf_w1); have k0_w1 := fun o => hc_w1 (w.heap.size) o (by omega); have l0_w1 := fun o => hf_w1 (w.heap.size) o (by omega); have k1_w1 := fun o => hc_w1 (w.heap.size + 1) o (by omega); have l1_w1 := fun o => hf_w1 (w.heap.size + 1) o (by omega); have z_w1 : w.heap.size < w1.heap.size ∧ w.heap.size ≤ w1.heap.size ∧ w.heap.size ≤ w1.heap.size + 1 ∧ w.heap.size ≤ w1.heap.size + 1 + 1 ∧ w.heap.size + 1 < w1.heap.size ∧ w.heap.size + 1 ≤ w1.heap.size ∧ w.heap.size + 1 ≤ w1.heap.size + 1 ∧ w.heap.size + 1 ≤ w1.heap.size + 1 + 1 := (by omega); clear hc_w1 hf_w1; have hW_w1 : Below w.heap.size w w1 := below_after (by go_grown) hB_w1))
  go_wp2_with fail
  refine bodyPost_ret (by simp [results, Tryz.results121, go_sem, k1_w1, z_w1]; try rfl) rfl ?_
  exact ⟨rfl, by go_grown⟩
/-- The field that put writes where it is given 0. -/
def fieldS (f : Int) (v : Nat) : Int := if v.testBit (precS f - 1).toNat then 1 else 0
theorem put_zero (f h l : Int) (neg : Bool) [hU : U8 f] [U64 h] [U64 l] (w : World) [Laid w] (hf : f < 4) :
    Calls Tryz.prog 121 #[.int .u8 f, .bool neg, .int .i64 0, .agg #[.int .u64 (h), .int .u64 (l)]] w fun en w' => en = .returned (.agg #[.int .u64 (hi (makeF f neg (fieldS f (cat h l)) (cat h l))), .int .u64 (lo (makeF f neg (fieldS f (cat h l)) (cat h l)))]) ∧ Below w.heap.size w w' := by
  obtain ⟨b1, b2, b3, b4, b5, b6⟩ := fmt_bd f U8.ge hf
  have hp1 : IntKind.i64.wrap (precS f - 1) = precS f - 1 := IntWalk.i64_in _ (by omega)
  have hp0 : decide (0 ≤ precS f - 1) = true := by simp; omega
  go_enter Tryz.func121, Tryz.ntmps121
  go_upto_region 1 with fail
  refine wp_rename ?_
  intro W0 hW0
  have lay0 : Laid W0 := by rw [hW0]; infer_instance
  have c0 : W0.cell? ⟨w.heap.size, 0, none⟩ = some (.int .u64 h) := by rw [hW0]; go_simp
  have c1 : W0.cell? ⟨w.heap.size, 1, none⟩ = some (.int .u64 l) := by rw [hW0]; go_simp
  have r0 : W0.cell? ⟨w.heap.size + 1, 0, none⟩ = some (.int .u64 0) := by rw [hW0]; go_simp
  have r1 : W0.cell? ⟨w.heap.size + 1, 1, none⟩ = some (.int .u64 0) := by rw [hW0]; go_simp
  have q0 : W0.frozen? ⟨w.heap.size + 1, 0, none⟩ = false := by rw [hW0]; go_simp
  have q1 : W0.frozen? ⟨w.heap.size + 1, 1, none⟩ = false := by rw [hW0]; go_simp
  have hBW : Below w.heap.size w W0 := by rw [hW0]; go_grown
  have hs0 : w.heap.size + 2 ≤ W0.heap.size := by rw [hW0]; simp
  clear hW0
  go_region_held3 (fun w' => w'.cell? ⟨w.heap.size, 0, none⟩ = some (.int .u64 h) ∧ w'.cell? ⟨w.heap.size, 1, none⟩ = some (.int .u64 l))
    ((refine ⟨?_, ?_⟩ <;> (refine cell_later (w := W0) ?_ (by assumption); go_grown)))
    (first | (go_at_call 31; refine (format_Prec _ _).mono ?_; rintro en w2 ⟨rfl, hB2⟩; have hb2 : Below W0.heap.size W0 w2 := below_after (by go_grown) hB2; have lay2 := laid_after hb2) | (go_at_call 97; refine (word_Bit _ _ _ _).mono ?_; rw [hp0, Bool.true_and]; rintro en w3 ⟨rfl, hB3⟩; have hb3 : Below W0.heap.size W0 w3 := below_after (by go_grown) hB3; have lay3 := laid_after hb3))
  have hf3 : fieldS f (cat h l) = if (cat h l).testBit ((precS f).toNat - 1) then 1 else 0 := by unfold fieldS; rw [show (precS f - 1).toNat = (precS f).toNat - 1 by omega]
  have d0 := cell_later hb3 c0
  have d1 := cell_later hb3 c1
  have r0 := cell_later hb3 r0
  have r1 := cell_later hb3 r1
  have q0 := frozen_later hb3 q0 (by omega)
  have q1 := frozen_later hb3 q1 (by omega)
  have hs3 := hb3.size
  have hBW3 := below_after hBW hb3
  cases hbit : (cat h l).testBit ((precS f).toNat - 1)
  · rw [hbit] at hf3
    go_wp2_with fail
    refine (format_Make _ _ _ _ _ _).mono ?_
    rintro en w4 ⟨rfl, hB4⟩
    have hBW4 := below_after hBW3 hB4
    have r0 := cell_later hB4 r0
    have r1 := cell_later hB4 r1
    have q0 := frozen_later hB4 q0 (by omega)
    have q1 := frozen_later hB4 q1 (by omega)
    go_wp2_with fail
    refine bodyPost_ret (by simp [results, Tryz.results121, go_sem, r0, r1]; try rfl) rfl ?_
    refine ⟨ret_bits ⟨?_, ?_⟩, by go_grown⟩
    · rw [hf3]; rfl
    · rw [hf3]; rfl
  · rw [hbit] at hf3
    go_wp2_with fail
    refine (format_Make _ _ _ _ _ _).mono ?_
    rintro en w4 ⟨rfl, hB4⟩
    have hBW4 := below_after hBW3 hB4
    have r0 := cell_later hB4 r0
    have r1 := cell_later hB4 r1
    have q0 := frozen_later hB4 q0 (by omega)
    have q1 := frozen_later hB4 q1 (by omega)
    go_wp2_with fail
    refine bodyPost_ret (by simp [results, Tryz.results121, go_sem, r0, r1]; try rfl) rfl ?_
    refine ⟨ret_bits ⟨?_, ?_⟩, by go_grown⟩
    · rw [hf3]; rfl
    · rw [hf3]; rfl
end Go.Proofs.YtkpjeceofcfnkaaGreatDoor

namespace Go.Proofs.YtkpjeceofcfnkaaGreatDoor
open Go.RowKit Go.Hb
/-- An exponent that goes no further than far. -/
def farS (e : Int) : Int := max (-1099511627776) (min e 1099511627776)
theorem byS_bd (v : Nat) (h : v < 2 ^ 256) : 0 ≤ byS v ∧ byS v ≤ 256 := by
  unfold byS
  split
  · omega
  · rename_i h0
    have h1 := Nat.lt_of_le_of_lt (blen_le v h0) h
    have h2 := (Nat.pow_lt_pow_iff_right (by omega : 1 < 2)).1 h1
    omega
theorem ret_num {a b x y c d e f : Int} (h : x = y) : Ending.returned (.agg #[.int .i64 a, .int .i64 b, .int .i64 x, .int .u64 c, .int .u64 d, .int .u64 e, .int .u64 f]) = Ending.returned (.agg #[.int .i64 a, .int .i64 b, .int .i64 y, .int .u64 c, .int .u64 d, .int .u64 e, .int .u64 f]) := by rw [h]
theorem pack_of (f e x0 x1 x2 x3 : Int) [hU : U8 f] [U64 x0] [U64 x1] [U64 x2] [U64 x3] (w : World) [Laid w] :
    Calls Tryz.prog 116 #[.int .u8 f, .int .i64 e, .agg #[.int .u64 (x0), .int .u64 (x1), .int .u64 (x2), .int .u64 (x3)]] w fun en w' => en = .returned (.agg #[.int .i64 (precS f), .int .i64 (1 - emaxS f), .int .i64 (farS e - byS (cat4 x0 x1 x2 x3)), .int .u64 (lo (raiseS (cat4 x0 x1 x2 x3))), .int .u64 (w1 (raiseS (cat4 x0 x1 x2 x3))), .int .u64 (w2 (raiseS (cat4 x0 x1 x2 x3))), .int .u64 (w3 (raiseS (cat4 x0 x1 x2 x3)))]) ∧ Below w.heap.size w w' := by
  obtain ⟨em0, em1⟩ := emaxS_bd f
  obtain ⟨by0, by1⟩ := byS_bd (cat4 x0 x1 x2 x3) (cat4_lt x0 x1 x2 x3)
  have hp1 : IntKind.i64.wrap (1 - emaxS f) = 1 - emaxS f := IntWalk.i64_in _ (by omega)
  go_enter Tryz.func116, Tryz.ntmps116
  (go_wp2_with fail; refine (count_WideRaise _ _ _ _ _).mono ?_; rintro en v1 ⟨rfl, hB_v1⟩; have lay_v1 := laid_after hB_v1; (obtain ⟨hc_v1, hf_v1⟩ := bcell hB_v1; have hz_v1 := hB_v1.size; (try simp only [World.size_alloc, World.size_setCell, World.size_drew] at hz_v1 hc_v1 hf_v1); have k0_v1 := fun o => hc_v1 (w.heap.size) o (by omega); have l0_v1 := fun o => hf_v1 (w.heap.size) o (by omega); have k1_v1 := fun o => hc_v1 (w.heap.size + 1) o (by omega); have l1_v1 := fun o => hf_v1 (w.heap.size + 1) o (by omega); have z_v1 : w.heap.size < v1.heap.size ∧ w.heap.size ≤ v1.heap.size ∧ w.heap.size ≤ v1.heap.size + 1 ∧ w.heap.size ≤ v1.heap.size + 1 + 1 ∧ w.heap.size + 1 < v1.heap.size ∧ w.heap.size + 1 ≤ v1.heap.size ∧ w.heap.size + 1 ≤ v1.heap.size + 1 ∧ w.heap.size + 1 ≤ v1.heap.size + 1 + 1 := (by omega); clear hc_v1 hf_v1; have n_v1 : w.heap.size ≠ v1.heap.size ∧ v1.heap.size ≠ w.heap.size ∧ w.heap.size ≠ v1.heap.size + 1 ∧ v1.heap.size + 1 ≠ w.heap.size ∧ w.heap.size + 1 ≠ v1.heap.size ∧ v1.heap.size ≠ w.heap.size + 1 ∧ w.heap.size + 1 ≠ v1.heap.size + 1 ∧ v1.heap.size + 1 ≠ w.heap.size + 1 := (by omega); have hW_v1 : Below w.heap.size w v1 := below_after (by go_grown) hB_v1))
  go_upto_region 2 with fail
  have hfar : IntKind.i64.wrap (farS e - byS (cat4 x0 x1 x2 x3)) = farS e - byS (cat4 x0 x1 x2 x3) := IntWalk.i64_in _ (by unfold farS; omega)
  refine wp_rename ?_
  intro W0 hW0
  have lay0 : Laid W0 := by rw [hW0]; infer_instance
  have c0 : W0.cell? ⟨v1.heap.size, 0, none⟩ = some (.int .u64 (lo (raiseS (cat4 x0 x1 x2 x3)))) := by rw [hW0]; go_simp
  have c1 : W0.cell? ⟨v1.heap.size, 1, none⟩ = some (.int .u64 (Hb.w1 (raiseS (cat4 x0 x1 x2 x3)))) := by rw [hW0]; go_simp
  have c2 : W0.cell? ⟨v1.heap.size, 2, none⟩ = some (.int .u64 (Hb.w2 (raiseS (cat4 x0 x1 x2 x3)))) := by rw [hW0]; go_simp
  have c3 : W0.cell? ⟨v1.heap.size, 3, none⟩ = some (.int .u64 (Hb.w3 (raiseS (cat4 x0 x1 x2 x3)))) := by rw [hW0]; go_simp
  have r0 : W0.cell? ⟨w.heap.size + 1, 0, none⟩ = some (.int .i64 0) := by rw [hW0]; go_simp
  have q0 : W0.frozen? ⟨w.heap.size + 1, 0, none⟩ = false := by rw [hW0]; go_simp
  have r1 : W0.cell? ⟨w.heap.size + 1, 1, none⟩ = some (.int .i64 0) := by rw [hW0]; go_simp
  have q1 : W0.frozen? ⟨w.heap.size + 1, 1, none⟩ = false := by rw [hW0]; go_simp
  have r2 : W0.cell? ⟨w.heap.size + 1, 2, none⟩ = some (.int .i64 0) := by rw [hW0]; go_simp
  have q2 : W0.frozen? ⟨w.heap.size + 1, 2, none⟩ = false := by rw [hW0]; go_simp
  have r3 : W0.cell? ⟨w.heap.size + 1, 3, none⟩ = some (.int .u64 0) := by rw [hW0]; go_simp
  have q3 : W0.frozen? ⟨w.heap.size + 1, 3, none⟩ = false := by rw [hW0]; go_simp
  have r4 : W0.cell? ⟨w.heap.size + 1, 4, none⟩ = some (.int .u64 0) := by rw [hW0]; go_simp
  have q4 : W0.frozen? ⟨w.heap.size + 1, 4, none⟩ = false := by rw [hW0]; go_simp
  have r5 : W0.cell? ⟨w.heap.size + 1, 5, none⟩ = some (.int .u64 0) := by rw [hW0]; go_simp
  have q5 : W0.frozen? ⟨w.heap.size + 1, 5, none⟩ = false := by rw [hW0]; go_simp
  have r6 : W0.cell? ⟨w.heap.size + 1, 6, none⟩ = some (.int .u64 0) := by rw [hW0]; go_simp
  have q6 : W0.frozen? ⟨w.heap.size + 1, 6, none⟩ = false := by rw [hW0]; go_simp
  have hBW : Below w.heap.size w W0 := by rw [hW0]; go_grown
  have hs0 : v1.heap.size + 1 ≤ W0.heap.size := by rw [hW0]; simp
  clear hW0 lay_v1 k0_v1 k1_v1 l0_v1 l1_v1
  go_region_held3 (fun w' => w'.cell? ⟨v1.heap.size, 0, none⟩ = some (.int .u64 (lo (raiseS (cat4 x0 x1 x2 x3)))) ∧ w'.cell? ⟨v1.heap.size, 1, none⟩ = some (.int .u64 (Hb.w1 (raiseS (cat4 x0 x1 x2 x3)))) ∧ w'.cell? ⟨v1.heap.size, 2, none⟩ = some (.int .u64 (Hb.w2 (raiseS (cat4 x0 x1 x2 x3)))) ∧ w'.cell? ⟨v1.heap.size, 3, none⟩ = some (.int .u64 (Hb.w3 (raiseS (cat4 x0 x1 x2 x3)))))
    (first | (refine ⟨?_, ?_, ?_, ?_⟩ <;> (refine cell_later (w := W0) ?_ (by assumption); go_grown; done)) | (refine ⟨?_, ?_, ?_, ?_⟩ <;> ((repeat rw [World.cell?_setCell_other _ _ _ _ (by first | (simp; done) | (simp; omega))]); refine cell_later (w := W0) ?_ (by assumption); go_grown; done)))
    (first | (go_at_call 31; refine (format_Prec _ _).mono ?_; rintro en w2 ⟨rfl, hB2⟩; have hb2 : Below W0.heap.size W0 w2 := below_after (by go_grown) hB2; have hz2 := hB2.size; (try simp only [World.size_alloc, World.size_drew] at hz2); have lay2 := laid_after hb2; (have r0 := cell_later hB2 (cell_later (by go_grown) r0); have r1 := cell_later hB2 (cell_later (by go_grown) r1); have r2 := cell_later hB2 (cell_later (by go_grown) r2); have r3 := cell_later hB2 (cell_later (by go_grown) r3); have r4 := cell_later hB2 (cell_later (by go_grown) r4); have r5 := cell_later hB2 (cell_later (by go_grown) r5); have r6 := cell_later hB2 (cell_later (by go_grown) r6); have q0 := frozen_later hB2 (frozen_later (by go_grown) q0 (by first | omega | (simp; omega))) (by first | omega | (simp; omega)); have q1 := frozen_later hB2 (frozen_later (by go_grown) q1 (by first | omega | (simp; omega))) (by first | omega | (simp; omega)); have q2 := frozen_later hB2 (frozen_later (by go_grown) q2 (by first | omega | (simp; omega))) (by first | omega | (simp; omega)); have q3 := frozen_later hB2 (frozen_later (by go_grown) q3 (by first | omega | (simp; omega))) (by first | omega | (simp; omega)); have q4 := frozen_later hB2 (frozen_later (by go_grown) q4 (by first | omega | (simp; omega))) (by first | omega | (simp; omega)); have q5 := frozen_later hB2 (frozen_later (by go_grown) q5 (by first | omega | (simp; omega))) (by first | omega | (simp; omega)); have q6 := frozen_later hB2 (frozen_later (by go_grown) q6 (by first | omega | (simp; omega))) (by first | omega | (simp; omega)); skip)) | (go_at_call 85; refine (format_Emax _ _).mono ?_; rintro en w3 ⟨rfl, hB3⟩; have hb3 : Below W0.heap.size W0 w3 := below_after (by go_grown) hB3; have hz3 := hB3.size; (try simp only [World.size_alloc, World.size_drew] at hz3); have lay3 := laid_after hb3; (have r0 := cell_later hB3 (cell_later (by go_grown) r0); have r1 := cell_later hB3 (cell_later (by go_grown) r1); have r2 := cell_later hB3 (cell_later (by go_grown) r2); have r3 := cell_later hB3 (cell_later (by go_grown) r3); have r4 := cell_later hB3 (cell_later (by go_grown) r4); have r5 := cell_later hB3 (cell_later (by go_grown) r5); have r6 := cell_later hB3 (cell_later (by go_grown) r6); have q0 := frozen_later hB3 (frozen_later (by go_grown) q0 (by first | omega | (simp; omega))) (by first | omega | (simp; omega)); have q1 := frozen_later hB3 (frozen_later (by go_grown) q1 (by first | omega | (simp; omega))) (by first | omega | (simp; omega)); have q2 := frozen_later hB3 (frozen_later (by go_grown) q2 (by first | omega | (simp; omega))) (by first | omega | (simp; omega)); have q3 := frozen_later hB3 (frozen_later (by go_grown) q3 (by first | omega | (simp; omega))) (by first | omega | (simp; omega)); have q4 := frozen_later hB3 (frozen_later (by go_grown) q4 (by first | omega | (simp; omega))) (by first | omega | (simp; omega)); have q5 := frozen_later hB3 (frozen_later (by go_grown) q5 (by first | omega | (simp; omega))) (by first | omega | (simp; omega)); have q6 := frozen_later hB3 (frozen_later (by go_grown) q6 (by first | omega | (simp; omega))) (by first | omega | (simp; omega)); skip)))
  all_goals have hB8 := below_after hBW hb2
  all_goals have hB9 := below_after hBW hb3
  all_goals (repeat (first | go_values | go_skip | go_guarded | go_step | go_upon))
  all_goals refine bodyPost_ret (by simp [results, Tryz.results116, go_sem, r0, r1, r2, r3, r4, r5, r6]; try rfl) rfl ?_
  all_goals exact ⟨ret_num hfar, by go_grown⟩
end Go.Proofs.YtkpjeceofcfnkaaGreatDoor

namespace Go.Proofs.YtkpjeceofcfnkaaGreatDoor
open Go.RowKit Go.Hb
theorem pack_full (p t h l : Int) [U64 h] [U64 l] (w : World) (h0 : 0 ≤ p) :
    Calls Tryz.prog 118 #[.agg #[.int .i64 p, .int .i64 t], .agg #[.int .u64 (h), .int .u64 (l)]] w fun en w' => en = .returned (.bool ((cat h l).testBit p.toNat)) ∧ Below w.heap.size w w' := by
  have hp0 : decide (0 ≤ p) = true := by simp; omega
  go_enter Tryz.func118, Tryz.ntmps118
  (go_wp2_with fail; refine (word_Bit _ _ _ _).mono ?_; rintro en w1 ⟨rfl, hB_w1⟩; (obtain ⟨hc_w1, hf_w1⟩ := bcell hB_w1; have hz_w1 := hB_w1.size; (try simp only [World.size_alloc, World.size_setCell, World.size_drew] at hz_w1 hc_w1 hf_w1); have k0_w1 := fun o => hc_w1 (w.heap.size) o (by omega); have l0_w1 := fun o => hf_w1 (w.heap.size) o (by omega); have k1_w1 := fun o => hc_w1 (w.heap.size + 1) o (by omega); have l1_w1 := fun o => hf_w1 (w.heap.size + 1) o (by omega); have z_w1 : w.heap.size < w1.heap.size ∧ w.heap.size ≤ w1.heap.size ∧ w.heap.size ≤ w1.heap.size + 1 ∧ w.heap.size ≤ w1.heap.size + 1 + 1 ∧ w.heap.size + 1 < w1.heap.size ∧ w.heap.size + 1 ≤ w1.heap.size ∧ w.heap.size + 1 ≤ w1.heap.size + 1 ∧ w.heap.size + 1 ≤ w1.heap.size + 1 + 1 := (by omega); clear hc_w1 hf_w1; have hW_w1 : Below w.heap.size w w1 := below_after (by go_grown) hB_w1))
  go_wp2_with fail
  go_returns
  refine ⟨ret_bool ?_, by go_grown⟩
  simp [h0]
end Go.Proofs.YtkpjeceofcfnkaaGreatDoor

namespace Go.Proofs.YtkpjeceofcfnkaaGreatDoor
open Go.RowKit Go.Hb
theorem pack_Round_zero (f m e x0 x1 x2 x3 : Int) (aft neg : Bool) [hU : U8 f] [U64 x0] [U64 x1] [U64 x2] [U64 x3] (w : World) [Laid w] (hf : f < 4) (m0 : 0 ≤ m) (m1 : m ≤ 4) (hz : cat4 x0 x1 x2 x3 = 0) :
    Calls Tryz.prog 79 #[.int .u8 f, .agg #[.int .u8 m, .bool aft], .bool neg, .int .i64 e, .agg #[.int .u64 (x0), .int .u64 (x1), .int .u64 (x2), .int .u64 (x3)]] w fun en w' => en = .returned (.agg #[.int .u64 (hi (makeF f neg 0 0)), .int .u64 (lo (makeF f neg 0 0)), .int .u8 0]) ∧ Below w.heap.size w w' := by
  have hzd : decide (cat4 x0 x1 x2 x3 = 0) = true := by simp [hz]
  go_enter Tryz.func79, Tryz.ntmps79
  go_wp2_with (first | (go_at_call 27; refine (format_Known _ _).mono ?_; rintro en w' ⟨rfl, rfl⟩) | (go_at_call 28; refine (mode_Known _ _).mono ?_; rintro e w' ⟨rfl, rfl⟩))
  refine (wide_Zero _ _ _ _ _).mono ?_
  rintro en w1 ⟨rfl, hB_w1⟩
  have lay_w1 := laid_after hB_w1
  (obtain ⟨hc_w1, hf_w1⟩ := bcell hB_w1; have hz_w1 := hB_w1.size; (try simp only [World.size_alloc, World.size_setCell, World.size_drew] at hz_w1 hc_w1 hf_w1); have k0_w1 := fun o => hc_w1 (w.heap.size) o (by omega); have l0_w1 := fun o => hf_w1 (w.heap.size) o (by omega); have k1_w1 := fun o => hc_w1 (w.heap.size + 1) o (by omega); have l1_w1 := fun o => hf_w1 (w.heap.size + 1) o (by omega); have k2_w1 := fun o => hc_w1 (w.heap.size + 1 + 1) o (by omega); have l2_w1 := fun o => hf_w1 (w.heap.size + 1 + 1) o (by omega); have k3_w1 := fun o => hc_w1 (w.heap.size + 1 + 1 + 1) o (by omega); have l3_w1 := fun o => hf_w1 (w.heap.size + 1 + 1 + 1) o (by omega); have z_w1 : w.heap.size < w1.heap.size ∧ w.heap.size ≤ w1.heap.size ∧ w.heap.size ≤ w1.heap.size + 1 ∧ w.heap.size ≤ w1.heap.size + 1 + 1 ∧ w.heap.size + 1 < w1.heap.size ∧ w.heap.size + 1 ≤ w1.heap.size ∧ w.heap.size + 1 ≤ w1.heap.size + 1 ∧ w.heap.size + 1 ≤ w1.heap.size + 1 + 1 ∧ w.heap.size + 1 + 1 < w1.heap.size ∧ w.heap.size + 1 + 1 ≤ w1.heap.size ∧ w.heap.size + 1 + 1 ≤ w1.heap.size + 1 ∧ w.heap.size + 1 + 1 ≤ w1.heap.size + 1 + 1 ∧ w.heap.size + 1 + 1 + 1 < w1.heap.size ∧ w.heap.size + 1 + 1 + 1 ≤ w1.heap.size ∧ w.heap.size + 1 + 1 + 1 ≤ w1.heap.size + 1 ∧ w.heap.size + 1 + 1 + 1 ≤ w1.heap.size + 1 + 1 := (by omega); clear hc_w1 hf_w1; have n_w1 : w.heap.size ≠ w1.heap.size ∧ w1.heap.size ≠ w.heap.size ∧ w.heap.size ≠ w1.heap.size + 1 ∧ w1.heap.size + 1 ≠ w.heap.size ∧ w.heap.size + 1 ≠ w1.heap.size ∧ w1.heap.size ≠ w.heap.size + 1 ∧ w.heap.size + 1 ≠ w1.heap.size + 1 ∧ w1.heap.size + 1 ≠ w.heap.size + 1 ∧ w.heap.size + 1 + 1 ≠ w1.heap.size ∧ w1.heap.size ≠ w.heap.size + 1 + 1 ∧ w.heap.size + 1 + 1 ≠ w1.heap.size + 1 ∧ w1.heap.size + 1 ≠ w.heap.size + 1 + 1 ∧ w.heap.size + 1 + 1 + 1 ≠ w1.heap.size ∧ w1.heap.size ≠ w.heap.size + 1 + 1 + 1 ∧ w.heap.size + 1 + 1 + 1 ≠ w1.heap.size + 1 ∧ w1.heap.size + 1 ≠ w.heap.size + 1 + 1 + 1 := (by omega); have hW_w1 : Below w.heap.size w w1 := below_after (by go_grown) hB_w1)
  (go_wp2_with fail; refine (format_Nought _ _ _).mono ?_; rintro en w2 ⟨rfl, hB_w2⟩; have lay_w2 := laid_after hB_w2; (obtain ⟨hc_w2, hf_w2⟩ := bcell hB_w2; have hz_w2 := hB_w2.size; (try simp only [World.size_alloc, World.size_setCell, World.size_drew] at hz_w2 hc_w2 hf_w2); have k0_w2 := fun o => hc_w2 (w.heap.size) o (by omega); have l0_w2 := fun o => hf_w2 (w.heap.size) o (by omega); have k1_w2 := fun o => hc_w2 (w.heap.size + 1) o (by omega); have l1_w2 := fun o => hf_w2 (w.heap.size + 1) o (by omega); have k2_w2 := fun o => hc_w2 (w.heap.size + 1 + 1) o (by omega); have l2_w2 := fun o => hf_w2 (w.heap.size + 1 + 1) o (by omega); have k3_w2 := fun o => hc_w2 (w.heap.size + 1 + 1 + 1) o (by omega); have l3_w2 := fun o => hf_w2 (w.heap.size + 1 + 1 + 1) o (by omega); have z_w2 : w.heap.size < w2.heap.size ∧ w.heap.size ≤ w2.heap.size ∧ w.heap.size ≤ w2.heap.size + 1 ∧ w.heap.size ≤ w2.heap.size + 1 + 1 ∧ w.heap.size + 1 < w2.heap.size ∧ w.heap.size + 1 ≤ w2.heap.size ∧ w.heap.size + 1 ≤ w2.heap.size + 1 ∧ w.heap.size + 1 ≤ w2.heap.size + 1 + 1 ∧ w.heap.size + 1 + 1 < w2.heap.size ∧ w.heap.size + 1 + 1 ≤ w2.heap.size ∧ w.heap.size + 1 + 1 ≤ w2.heap.size + 1 ∧ w.heap.size + 1 + 1 ≤ w2.heap.size + 1 + 1 ∧ w.heap.size + 1 + 1 + 1 < w2.heap.size ∧ w.heap.size + 1 + 1 + 1 ≤ w2.heap.size ∧ w.heap.size + 1 + 1 + 1 ≤ w2.heap.size + 1 ∧ w.heap.size + 1 + 1 + 1 ≤ w2.heap.size + 1 + 1 := (by omega); clear hc_w2 hf_w2; have n_w2 : w.heap.size ≠ w2.heap.size ∧ w2.heap.size ≠ w.heap.size ∧ w.heap.size ≠ w2.heap.size + 1 ∧ w2.heap.size + 1 ≠ w.heap.size ∧ w.heap.size + 1 ≠ w2.heap.size ∧ w2.heap.size ≠ w.heap.size + 1 ∧ w.heap.size + 1 ≠ w2.heap.size + 1 ∧ w2.heap.size + 1 ≠ w.heap.size + 1 ∧ w.heap.size + 1 + 1 ≠ w2.heap.size ∧ w2.heap.size ≠ w.heap.size + 1 + 1 ∧ w.heap.size + 1 + 1 ≠ w2.heap.size + 1 ∧ w2.heap.size + 1 ≠ w.heap.size + 1 + 1 ∧ w.heap.size + 1 + 1 + 1 ≠ w2.heap.size ∧ w2.heap.size ≠ w.heap.size + 1 + 1 + 1 ∧ w.heap.size + 1 + 1 + 1 ≠ w2.heap.size + 1 ∧ w2.heap.size + 1 ≠ w.heap.size + 1 + 1 + 1 := (by omega); have hW_w2 : Below w.heap.size w w2 := below_after (by go_grown) hB_w2))
  go_wp2_with fail
  refine bodyPost_ret (by simp [results, Tryz.results79, go_sem, k3_w2, k3_w1, z_w2, z_w1]; try rfl) rfl ?_
  exact ⟨rfl, by go_grown⟩
end Go.Proofs.YtkpjeceofcfnkaaGreatDoor

namespace Go.Proofs.YtkpjeceofcfnkaaGreatDoor
open Go.RowKit Go.Hb
theorem raise_lt (v : Nat) (h : v < 2 ^ 256) : raiseS v < 2 ^ 256 := by
  obtain ⟨b0, b1⟩ := byS_bd v h
  have hl := blen_lt v
  by_cases h0 : v = 0
  · unfold raiseS lsh; rw [h0, Nat.zero_mul]; exact Nat.two_pow_pos _
  · have e : (byS v).toNat + blen v = 256 := by unfold byS at *; rw [if_neg h0] at *; omega
    have h2 := Nat.mul_lt_mul_of_pos_right hl (Nat.two_pow_pos (byS v).toNat)
    rw [← Nat.pow_add, Nat.add_comm, e] at h2
    exact h2
end Go.Proofs.YtkpjeceofcfnkaaGreatDoor

namespace Go.Proofs.YtkpjeceofcfnkaaGreatDoor
open Go.RowKit Go.Hb
theorem restS_N (v : Nat) (keep : Int) (h1 : keep ≤ 127) : restS v keep = restN v (256 - keep).toNat := by
  have e : (256 - keep).toNat - 1 = (255 - keep).toNat := by omega
  have hs : ¬ (256 - keep).toNat = 0 := by omega
  unfold restS restN ofS lostS
  rw [if_neg hs, e]
  cases v.testBit (255 - keep).toNat <;> by_cases h : v % 2 ^ (255 - keep).toNat = 0 <;> simp [h]
theorem wide_half (v : Nat) (keep : Int) (h0 : 0 ≤ keep) (h1 : keep ≤ 127) (hv : v < 2 ^ 256) : v / 2 ^ (256 - keep).toNat < 2 ^ keep.toNat := by
  rw [Nat.div_lt_iff_lt_mul (Nat.two_pow_pos _), ← Nat.pow_add, show keep.toNat + (256 - keep).toNat = 256 by omega]
  exact hv
theorem lo_odd (x : Nat) : (lo x % 2 == 1) = (x % 2 == 1) := by
  unfold lo; rw [Bool.eq_iff_iff]; simp; omega
theorem cutS_form (v : Nat) (keep m : Int) (neg : Bool) (h0 : 0 ≤ keep) (h1 : keep ≤ 127) (hv : v < 2 ^ 256) :
    cutS v keep m neg = v / 2 ^ (256 - keep).toNat + (if nextS m neg (v / 2 ^ (256 - keep).toNat % 2 == 1) (restN v (256 - keep).toNat) then 1 else 0) := by
  have hw := wide_half v keep h0 h1 hv
  have hw2 : v / 2 ^ (256 - keep).toNat < 2 ^ 127 := Nat.lt_of_lt_of_le hw (Nat.pow_le_pow_right (by omega) (by omega))
  have hc : cat (w1 (v / 2 ^ (256 - keep).toNat)) (lo (v / 2 ^ (256 - keep).toNat)) = v / 2 ^ (256 - keep).toNat := by
    rw [← hi_w1]; exact cat_hl _ (by omega)
  unfold cutS rsh
  rw [hc, lo_odd, restS_N v keep h1]
  split <;> rfl
theorem cutS_le (v : Nat) (keep m : Int) (neg : Bool) (h0 : 0 ≤ keep) (h1 : keep ≤ 127) (hv : v < 2 ^ 256) : cutS v keep m neg ≤ 2 ^ keep.toNat := by
  rw [cutS_form v keep m neg h0 h1 hv]
  have := wide_half v keep h0 h1 hv
  split <;> omega
theorem cutS_cat (v : Nat) (keep m : Int) (neg : Bool) (h0 : 0 ≤ keep) (h1 : keep ≤ 127) (hv : v < 2 ^ 256) : cat (hi (cutS v keep m neg)) (lo (cutS v keep m neg)) = cutS v keep m neg := by
  have := cutS_le v keep m neg h0 h1 hv
  have : 2 ^ keep.toNat ≤ 2 ^ 127 := Nat.pow_le_pow_right (by omega) (by omega)
  exact cat_hl _ (by omega)
theorem jamS_le (v : Nat) (n : Int) (hv : v < 2 ^ 256) : jamS v n < 2 ^ 256 := by
  have h : rsh v n < 2 ^ 256 := Nat.lt_of_le_of_lt (Nat.div_le_self _ _) hv
  unfold jamS
  split
  · exact Nat.or_lt_two_pow h (by omega)
  · exact h
theorem jamS_cat (v : Nat) (n : Int) (hv : v < 2 ^ 256) : cat4 (lo (jamS v n)) (w1 (jamS v n)) (w2 (jamS v n)) (w3 (jamS v n)) = jamS v n :=
  cat4_parts _ (by rw [← two256]; exact jamS_le v n hv)
theorem jamS_N (v : Nat) (n : Int) : jamS v n = jamN v n.toNat := by
  unfold jamS jamN lostS rsh
  by_cases h : v % 2 ^ n.toNat = 0 <;> simp [h]
end Go.Proofs.YtkpjeceofcfnkaaGreatDoor

namespace Go.Proofs.YtkpjeceofcfnkaaGreatDoor
open Go.RowKit Go.Hb
/-- A number's exponent. -/
def nE (e : Int) (v : Nat) : Int := farS e - byS v
/-- The least exponent of a format. -/
def leastS (f : Int) : Int := 1 - emaxS f
/-- A number of the format's precision, of an unbounded exponent. -/
def topB (f m : Int) (neg : Bool) (v : Nat) : Nat := cutS (raiseS v) (precS f) m neg
def fullS (f m : Int) (neg : Bool) (v : Nat) : Bool := (topB f m neg v).testBit (precS f).toNat
def eS (f m : Int) (neg : Bool) (e : Int) (v : Nat) : Int := if fullS f m neg v then nE e v + 1 else nE e v
def lowJ (f e : Int) (v : Nat) : Nat := jamS (raiseS v) (leastS f - nE e v)
def subB (f m : Int) (neg : Bool) (e : Int) (v : Nat) : Nat := cutS (lowJ f e v) (precS f) m neg
def tinyS (f m : Int) (aft neg : Bool) (e : Int) (v : Nat) : Bool := decide (nE e v < leastS f) && (!aft || decide (eS f m neg e v < leastS f))
def roundB (f m : Int) (neg : Bool) (e : Int) (v : Nat) : Nat :=
  if emaxS f < eS f m neg e v then overB f m neg else if nE e v < leastS f then makeF f neg (fieldS f (subB f m neg e v)) (subB f m neg e v) else makeF f neg (eS f m neg e v - leastS f + 1) (topB f m neg v)
def inexactS (f e : Int) (v : Nat) : Bool := if nE e v < leastS f then inexS (lowJ f e v) (precS f) else inexS (raiseS v) (precS f)
def flagsS (inex tiny : Bool) : Int := if inex then (if tiny then 24 else 16) else 0
def roundFl (f m : Int) (aft neg : Bool) (e : Int) (v : Nat) : Int := if emaxS f < eS f m neg e v then 20 else flagsS (inexactS f e v) (tinyS f m aft neg e v)
theorem ret_round {a b x c d y : Int} (h : a = c ∧ b = d) (hx : x = y) : Ending.returned (.agg #[.int .u64 a, .int .u64 b, .int .u8 x]) = Ending.returned (.agg #[.int .u64 c, .int .u64 d, .int .u8 y]) := by rw [h.1, h.2, hx]
theorem leastS_bd (f : Int) : -16382 ≤ leastS f ∧ leastS f ≤ 1 := by obtain ⟨h0, h1⟩ := emaxS_bd f; unfold leastS; omega
theorem nE_bd (e : Int) (v : Nat) (h : v < 2 ^ 256) : -1099511628032 ≤ nE e v ∧ nE e v ≤ 1099511627776 := by
  obtain ⟨h0, h1⟩ := byS_bd v h; unfold nE farS; omega
theorem flagsS_f (t : Bool) : flagsS false t = 0 := rfl
theorem flagsS_tf : flagsS true false = 16 := rfl
theorem flagsS_tt : flagsS true true = 24 := rfl
theorem wrap_in (x : Int) (h0 : -4611686018427387904 ≤ x) (h1 : x ≤ 4611686018427387904) : IntKind.i64.wrap x = x := IntWalk.i64_in _ (by omega)
theorem wraps (N E L M : Int) (h0 : -16382 ≤ L) (h1 : L ≤ 1) (h2 : -1099511628032 ≤ N) (h3 : N ≤ 1099511627776) (h4 : N ≤ E) (h5 : E ≤ M) (h6 : M ≤ 16383) : IntKind.i64.wrap (E - L) = E - L ∧ IntKind.i64.wrap (E - L + 1) = E - L + 1 ∧ IntKind.i64.wrap (L - N) = L - N :=
  ⟨wrap_in _ (by omega) (by omega), wrap_in _ (by omega) (by omega), wrap_in _ (by omega) (by omega)⟩
theorem top_ne0 (N E L : Int) (h4 : N ≤ E) (h : ¬ N < L) : ¬ E - L + 1 = 0 := by omega
theorem eS_bd (f m : Int) (neg : Bool) (e : Int) (v : Nat) : nE e v ≤ eS f m neg e v ∧ eS f m neg e v ≤ nE e v + 1 := by unfold eS; split <;> omega
end Go.Proofs.YtkpjeceofcfnkaaGreatDoor

namespace Go.Proofs.YtkpjeceofcfnkaaGreatDoor
open Go.RowKit Go.Hb
/-- What Round answers: the bits. -/
def resB (f m : Int) (neg : Bool) (e : Int) (v : Nat) : Nat := if f < 4 ∧ m ≤ 4 then (if v = 0 then makeF f neg 0 0 else roundB f m neg e v) else 0
/-- What Round answers: the flags. -/
def resFl (f m : Int) (aft neg : Bool) (e : Int) (v : Nat) : Int := if f < 4 ∧ m ≤ 4 then (if v = 0 then 0 else roundFl f m aft neg e v) else 0
end Go.Proofs.YtkpjeceofcfnkaaGreatDoor
