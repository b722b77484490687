/- The contract of over.Over: for every known format and mode. -/
import Derived.Test.YtgdbdbjegiaifaaDoorEnds
import Derived.Laws.EntriesVeiled
set_option linter.unusedSimpArgs false
set_option linter.unusedVariables false
namespace Go.Proofs.YtgdbdbjegiaifaaDoor
open Go.RowKit Go.Hb
/-- What is too great: the greatest number, or the infinity. -/
def overB (f m : Int) (neg : Bool) : Nat := if nextS m neg true 3 then makeF f neg (2 * emaxS f + 1) 0 else makeF f neg (2 * emaxS f) (cat 18446744073709551615 18446744073709551615)
theorem ret_over {a b c d x : Int} (h : a = c ∧ b = d) : Ending.returned (.agg #[.int .u64 a, .int .u64 b, .int .u8 x]) = Ending.returned (.agg #[.int .u64 c, .int .u64 d, .int .u8 x]) := by rw [h.1, h.2]
set_option maxHeartbeats 4000000 in
theorem over_Over (f m : Int) (neg : Bool) [hU : U8 f] (w : World) [Laid w] (hf : f < 4) (m0 : 0 ≤ m) (m1 : m ≤ 4) :
    Calls Tryd.prog 38 #[.int .u8 f, .int .u8 m, .bool neg] w fun en w' => en = .returned (.agg #[.int .u64 (hi (overB f m neg)), .int .u64 (lo (overB f m neg)), .int .u8 20]) ∧ Below w.heap.size w w' := by
  go_enter Tryd.func38, Tryd.ntmps38
  go_wp2_with (first | (go_at_call 16; refine (format_Known _ _).mono ?_; rintro en w' ⟨rfl, rfl⟩) | (go_at_call 23; refine (mode_Known _ _).mono ?_; rintro e w' ⟨rfl, rfl⟩))
  refine (mode_Infinite _ _ _ m0).mono ?_
  rintro en w1 ⟨rfl, hB_w1⟩
  have lay_w1 := laid_after hB_w1
  (obtain ⟨hc_w1, hf_w1⟩ := bcell hB_w1; have hz_w1 := hB_w1.size; (try simp only [World.size_alloc, World.size_setCell, World.size_drew] at hz_w1 hc_w1 hf_w1); have k0_w1 := fun o => hc_w1 (w.heap.size) o (by omega); have l0_w1 := fun o => hf_w1 (w.heap.size) o (by omega); have k1_w1 := fun o => hc_w1 (w.heap.size + 1) o (by omega); have l1_w1 := fun o => hf_w1 (w.heap.size + 1) o (by omega); have k2_w1 := fun o => hc_w1 (w.heap.size + 1 + 1) o (by omega); have l2_w1 := fun o => hf_w1 (w.heap.size + 1 + 1) o (by omega); have k3_w1 := fun o => hc_w1 (w.heap.size + 1 + 1 + 1) o (by omega); have l3_w1 := fun o => hf_w1 (w.heap.size + 1 + 1 + 1) o (by omega); have z_w1 : w.heap.size < w1.heap.size ∧ w.heap.size ≤ w1.heap.size ∧ w.heap.size ≤ w1.heap.size + 1 ∧ w.heap.size ≤ w1.heap.size + 1 + 1 ∧ w.heap.size + 1 < w1.heap.size ∧ w.heap.size + 1 ≤ w1.heap.size ∧ w.heap.size + 1 ≤ w1.heap.size + 1 ∧ w.heap.size + 1 ≤ w1.heap.size + 1 + 1 ∧ w.heap.size + 1 + 1 < w1.heap.size ∧ w.heap.size + 1 + 1 ≤ w1.heap.size ∧ w.heap.size + 1 + 1 ≤ w1.heap.size + 1 ∧ w.heap.size + 1 + 1 ≤ w1.heap.size + 1 + 1 ∧ w.heap.size + 1 + 1 + 1 < w1.heap.size ∧ w.heap.size + 1 + 1 + 1 ≤ w1.heap.size ∧ w.heap.size + 1 + 1 + 1 ≤ w1.heap.size + 1 ∧ w.heap.size + 1 + 1 + 1 ≤ w1.heap.size + 1 + 1 := (by omega); clear hc_w1 hf_w1; have n_w1 : w.heap.size ≠ w1.heap.size ∧ w1.heap.size ≠ w.heap.size ∧ w.heap.size ≠ w1.heap.size + 1 ∧ w1.heap.size + 1 ≠ w.heap.size ∧ w.heap.size + 1 ≠ w1.heap.size ∧ w1.heap.size ≠ w.heap.size + 1 ∧ w.heap.size + 1 ≠ w1.heap.size + 1 ∧ w1.heap.size + 1 ≠ w.heap.size + 1 ∧ w.heap.size + 1 + 1 ≠ w1.heap.size ∧ w1.heap.size ≠ w.heap.size + 1 + 1 ∧ w.heap.size + 1 + 1 ≠ w1.heap.size + 1 ∧ w1.heap.size + 1 ≠ w.heap.size + 1 + 1 ∧ w.heap.size + 1 + 1 + 1 ≠ w1.heap.size ∧ w1.heap.size ≠ w.heap.size + 1 + 1 + 1 ∧ w.heap.size + 1 + 1 + 1 ≠ w1.heap.size + 1 ∧ w1.heap.size + 1 ≠ w.heap.size + 1 + 1 + 1 := (by omega); have hW_w1 : Below w.heap.size w w1 := below_after (by go_grown) hB_w1)
  cases hn : nextS m neg true 3
  · have hcut : overB f m neg = makeF f neg (2 * emaxS f) (cat 18446744073709551615 18446744073709551615) := by unfold overB; rw [if_neg (by rw [hn]; decide)]
    go_wp2_with fail
    refine (over_max f neg _ _ w1 (by rw [k0_w1]; go_simp) (by rw [k1_w1]; go_simp) (by omega) (by omega)).mono ?_
    rintro en w2 ⟨rfl, hB_w2⟩
    (obtain ⟨hc_w2, hf_w2⟩ := bcell hB_w2; have hz_w2 := hB_w2.size; (try simp only [World.size_alloc, World.size_setCell, World.size_drew] at hz_w2 hc_w2 hf_w2); have k0_w2 := fun o => hc_w2 (w.heap.size) o (by omega); have l0_w2 := fun o => hf_w2 (w.heap.size) o (by omega); have k1_w2 := fun o => hc_w2 (w.heap.size + 1) o (by omega); have l1_w2 := fun o => hf_w2 (w.heap.size + 1) o (by omega); have k2_w2 := fun o => hc_w2 (w.heap.size + 1 + 1) o (by omega); have l2_w2 := fun o => hf_w2 (w.heap.size + 1 + 1) o (by omega); have k3_w2 := fun o => hc_w2 (w.heap.size + 1 + 1 + 1) o (by omega); have l3_w2 := fun o => hf_w2 (w.heap.size + 1 + 1 + 1) o (by omega); have z_w2 : w.heap.size < w2.heap.size ∧ w.heap.size ≤ w2.heap.size ∧ w.heap.size ≤ w2.heap.size + 1 ∧ w.heap.size ≤ w2.heap.size + 1 + 1 ∧ w.heap.size + 1 < w2.heap.size ∧ w.heap.size + 1 ≤ w2.heap.size ∧ w.heap.size + 1 ≤ w2.heap.size + 1 ∧ w.heap.size + 1 ≤ w2.heap.size + 1 + 1 ∧ w.heap.size + 1 + 1 < w2.heap.size ∧ w.heap.size + 1 + 1 ≤ w2.heap.size ∧ w.heap.size + 1 + 1 ≤ w2.heap.size + 1 ∧ w.heap.size + 1 + 1 ≤ w2.heap.size + 1 + 1 ∧ w.heap.size + 1 + 1 + 1 < w2.heap.size ∧ w.heap.size + 1 + 1 + 1 ≤ w2.heap.size ∧ w.heap.size + 1 + 1 + 1 ≤ w2.heap.size + 1 ∧ w.heap.size + 1 + 1 + 1 ≤ w2.heap.size + 1 + 1 := (by omega); clear hc_w2 hf_w2; have hW_w2 : Below w.heap.size w w2 := below_after (by go_grown) hB_w2)
    go_wp2_with fail
    refine bodyPost_ret (by simp [results, Tryd.results38, go_sem, k2_w2, k2_w1, z_w2, z_w1]; try rfl) rfl ?_
    refine ⟨ret_over ⟨?_, ?_⟩, by go_grown⟩
    · rw [hcut]
    · rw [hcut]
  · have hcut : overB f m neg = makeF f neg (2 * emaxS f + 1) 0 := by unfold overB; rw [if_pos hn]
    go_wp2_with fail
    refine (over_inf f neg _ _ w1 (by rw [k0_w1]; go_simp) (by rw [k1_w1]; go_simp) (by omega) (by omega)).mono ?_
    rintro en w2 ⟨rfl, hB_w2⟩
    (obtain ⟨hc_w2, hf_w2⟩ := bcell hB_w2; have hz_w2 := hB_w2.size; (try simp only [World.size_alloc, World.size_setCell, World.size_drew] at hz_w2 hc_w2 hf_w2); have k0_w2 := fun o => hc_w2 (w.heap.size) o (by omega); have l0_w2 := fun o => hf_w2 (w.heap.size) o (by omega); have k1_w2 := fun o => hc_w2 (w.heap.size + 1) o (by omega); have l1_w2 := fun o => hf_w2 (w.heap.size + 1) o (by omega); have k2_w2 := fun o => hc_w2 (w.heap.size + 1 + 1) o (by omega); have l2_w2 := fun o => hf_w2 (w.heap.size + 1 + 1) o (by omega); have k3_w2 := fun o => hc_w2 (w.heap.size + 1 + 1 + 1) o (by omega); have l3_w2 := fun o => hf_w2 (w.heap.size + 1 + 1 + 1) o (by omega); have z_w2 : w.heap.size < w2.heap.size ∧ w.heap.size ≤ w2.heap.size ∧ w.heap.size ≤ w2.heap.size + 1 ∧ w.heap.size ≤ w2.heap.size + 1 + 1 ∧ w.heap.size + 1 < w2.heap.size ∧ w.heap.size + 1 ≤ w2.heap.size ∧ w.heap.size + 1 ≤ w2.heap.size + 1 ∧ w.heap.size + 1 ≤ w2.heap.size + 1 + 1 ∧ w.heap.size + 1 + 1 < w2.heap.size ∧ w.heap.size + 1 + 1 ≤ w2.heap.size ∧ w.heap.size + 1 + 1 ≤ w2.heap.size + 1 ∧ w.heap.size + 1 + 1 ≤ w2.heap.size + 1 + 1 ∧ w.heap.size + 1 + 1 + 1 < w2.heap.size ∧ w.heap.size + 1 + 1 + 1 ≤ w2.heap.size ∧ w.heap.size + 1 + 1 + 1 ≤ w2.heap.size + 1 ∧ w.heap.size + 1 + 1 + 1 ≤ w2.heap.size + 1 + 1 := (by omega); clear hc_w2 hf_w2; have hW_w2 : Below w.heap.size w w2 := below_after (by go_grown) hB_w2)
    go_wp2_with fail
    refine bodyPost_ret (by simp [results, Tryd.results38, go_sem, k2_w2, k2_w1, z_w2, z_w1]; try rfl) rfl ?_
    refine ⟨ret_over ⟨?_, ?_⟩, by go_grown⟩
    · rw [hcut]
    · rw [hcut]
end Go.Proofs.YtgdbdbjegiaifaaDoor
