/- The contract of pack.put: for every input. -/
import Derived.Test.YtgdbdbjegiaifaaDoorOver
import Derived.Test.YtgdbdbjegiaifaaDoorPack1
set_option linter.unusedSimpArgs false
set_option linter.unusedVariables false
namespace Go.Proofs.YtgdbdbjegiaifaaDoor
open Go.RowKit Go.Hb
set_option maxHeartbeats 4000000 in
theorem put_pos (f e h l : Int) (neg : Bool) [hU : U8 f] [U64 h] [U64 l] (w : World) [Laid w] (he : ¬ e = 0) :
    Calls Tryd.prog 39 #[.int .u8 f, .bool neg, .int .i64 e, .agg #[.int .u64 (h), .int .u64 (l)]] w fun en w' => en = .returned (.agg #[.int .u64 (hi (makeF f neg e (cat h l))), .int .u64 (lo (makeF f neg e (cat h l)))]) ∧ Below w.heap.size w w' := by
  have hd : (e == 0) = false := by simpa using he
  go_enter Tryd.func39, Tryd.ntmps39
  go_upto_region 1 with fail
  go_region
  (go_wp2_with fail; refine (format_Make _ _ _ _ _ _).mono ?_; rintro en w1 ⟨rfl, hB_w1⟩; (obtain ⟨hc_w1, hf_w1⟩ := bcell hB_w1; have hz_w1 := hB_w1.size; (try simp only [World.size_alloc, World.size_setCell, World.size_drew] at hz_w1 hc_w1 hf_w1); have k0_w1 := fun o => hc_w1 (w.heap.size) o (by omega); have l0_w1 := fun o => hf_w1 (w.heap.size) o (by omega); have k1_w1 := fun o => hc_w1 (w.heap.size + 1) o (by omega); have l1_w1 := fun o => hf_w1 (w.heap.size + 1) o (by omega); have z_w1 : w.heap.size < w1.heap.size ∧ w.heap.size ≤ w1.heap.size ∧ w.heap.size ≤ w1.heap.size + 1 ∧ w.heap.size ≤ w1.heap.size + 1 + 1 ∧ w.heap.size + 1 < w1.heap.size ∧ w.heap.size + 1 ≤ w1.heap.size ∧ w.heap.size + 1 ≤ w1.heap.size + 1 ∧ w.heap.size + 1 ≤ w1.heap.size + 1 + 1 := (by omega); clear hc_w1 hf_w1; have hW_w1 : Below w.heap.size w w1 := below_after (by go_grown) hB_w1))
  go_wp2_with fail
  refine bodyPost_ret (by simp [results, Tryd.results39, go_sem, k1_w1, z_w1]; try rfl) rfl ?_
  exact ⟨rfl, by go_grown⟩
/-- The field that put writes where it is given 0. -/
def fieldS (f : Int) (v : Nat) : Int := if v.testBit (precS f - 1).toNat then 1 else 0
set_option maxHeartbeats 4000000 in
theorem put_zero (f h l : Int) (neg : Bool) [hU : U8 f] [U64 h] [U64 l] (w : World) [Laid w] (hf : f < 4) :
    Calls Tryd.prog 39 #[.int .u8 f, .bool neg, .int .i64 0, .agg #[.int .u64 (h), .int .u64 (l)]] w fun en w' => en = .returned (.agg #[.int .u64 (hi (makeF f neg (fieldS f (cat h l)) (cat h l))), .int .u64 (lo (makeF f neg (fieldS f (cat h l)) (cat h l)))]) ∧ Below w.heap.size w w' := by
  obtain ⟨b1, b2, b3, b4, b5, b6⟩ := fmt_bd f U8.ge hf
  have hp1 : IntKind.i64.wrap (precS f - 1) = precS f - 1 := IntWalk.i64_in _ (by omega)
  have hp0 : decide (0 ≤ precS f - 1) = true := by simp; omega
  go_enter Tryd.func39, Tryd.ntmps39
  go_upto_region 1 with fail
  refine wp_rename ?_
  intro W0 hW0
  have lay0 : Laid W0 := by rw [hW0]; infer_instance
  have c0 : W0.cell? ⟨w.heap.size, 0, none⟩ = some (.int .u64 h) := by rw [hW0]; go_simp
  have c1 : W0.cell? ⟨w.heap.size, 1, none⟩ = some (.int .u64 l) := by rw [hW0]; go_simp
  have r0 : W0.cell? ⟨w.heap.size + 1, 0, none⟩ = some (.int .u64 0) := by rw [hW0]; go_simp
  have r1 : W0.cell? ⟨w.heap.size + 1, 1, none⟩ = some (.int .u64 0) := by rw [hW0]; go_simp
  have q0 : W0.frozen? ⟨w.heap.size + 1, 0, none⟩ = false := by rw [hW0]; go_simp
  have q1 : W0.frozen? ⟨w.heap.size + 1, 1, none⟩ = false := by rw [hW0]; go_simp
  have hBW : Below w.heap.size w W0 := by rw [hW0]; go_grown
  have hs0 : w.heap.size + 2 ≤ W0.heap.size := by rw [hW0]; simp
  clear hW0
  go_region_held3 (fun w' => w'.cell? ⟨w.heap.size, 0, none⟩ = some (.int .u64 h) ∧ w'.cell? ⟨w.heap.size, 1, none⟩ = some (.int .u64 l))
    ((refine ⟨?_, ?_⟩ <;> (refine cell_later (w := W0) ?_ (by assumption); go_grown)))
    (first | (go_at_call 66; refine (format_Prec _ _).mono ?_; rintro en w2 ⟨rfl, hB2⟩; have hb2 : Below W0.heap.size W0 w2 := below_after (by go_grown) hB2; have lay2 := laid_after hb2) | (go_at_call 65; refine (word_Bit _ _ _ _).mono ?_; rw [hp0, Bool.true_and]; rintro en w3 ⟨rfl, hB3⟩; have hb3 : Below W0.heap.size W0 w3 := below_after (by go_grown) hB3; have lay3 := laid_after hb3))
  have hf3 : fieldS f (cat h l) = if (cat h l).testBit ((precS f).toNat - 1) then 1 else 0 := by unfold fieldS; rw [show (precS f - 1).toNat = (precS f).toNat - 1 by omega]
  have d0 := cell_later hb3 c0
  have d1 := cell_later hb3 c1
  have r0 := cell_later hb3 r0
  have r1 := cell_later hb3 r1
  have q0 := frozen_later hb3 q0 (by omega)
  have q1 := frozen_later hb3 q1 (by omega)
  have hs3 := hb3.size
  have hBW3 := below_after hBW hb3
  cases hbit : (cat h l).testBit ((precS f).toNat - 1)
  · rw [hbit] at hf3
    go_wp2_with fail
    refine (format_Make _ _ _ _ _ _).mono ?_
    rintro en w4 ⟨rfl, hB4⟩
    have hBW4 := below_after hBW3 hB4
    have r0 := cell_later hB4 r0
    have r1 := cell_later hB4 r1
    have q0 := frozen_later hB4 q0 (by omega)
    have q1 := frozen_later hB4 q1 (by omega)
    go_wp2_with fail
    refine bodyPost_ret (by simp [results, Tryd.results39, go_sem, r0, r1]; try rfl) rfl ?_
    refine ⟨ret_bits ⟨?_, ?_⟩, by go_grown⟩
    · rw [hf3]; rfl
    · rw [hf3]; rfl
  · rw [hbit] at hf3
    go_wp2_with fail
    refine (format_Make _ _ _ _ _ _).mono ?_
    rintro en w4 ⟨rfl, hB4⟩
    have hBW4 := below_after hBW3 hB4
    have r0 := cell_later hB4 r0
    have r1 := cell_later hB4 r1
    have q0 := frozen_later hB4 q0 (by omega)
    have q1 := frozen_later hB4 q1 (by omega)
    go_wp2_with fail
    refine bodyPost_ret (by simp [results, Tryd.results39, go_sem, r0, r1]; try rfl) rfl ?_
    refine ⟨ret_bits ⟨?_, ?_⟩, by go_grown⟩
    · rw [hf3]; rfl
    · rw [hf3]; rfl
end Go.Proofs.YtgdbdbjegiaifaaDoor
