/- The contract of pack's full: for every input. -/
import Derived.Test.YtgdbdbjegiaifaaDoorPack2
set_option linter.unusedSimpArgs false
set_option linter.unusedVariables false
namespace Go.Proofs.YtgdbdbjegiaifaaDoor
open Go.RowKit Go.Hb
theorem pack_full (p t h l : Int) [U64 h] [U64 l] (w : World) (h0 : 0 ≤ p) :
    Calls Tryd.prog 36 #[.agg #[.int .i64 p, .int .i64 t], .agg #[.int .u64 (h), .int .u64 (l)]] w fun en w' => en = .returned (.bool ((cat h l).testBit p.toNat)) ∧ Below w.heap.size w w' := by
  have hp0 : decide (0 ≤ p) = true := by simp; omega
  go_enter Tryd.func36, Tryd.ntmps36
  (go_wp2_with fail; refine (word_Bit _ _ _ _).mono ?_; rintro en w1 ⟨rfl, hB_w1⟩; (obtain ⟨hc_w1, hf_w1⟩ := bcell hB_w1; have hz_w1 := hB_w1.size; (try simp only [World.size_alloc, World.size_setCell, World.size_drew] at hz_w1 hc_w1 hf_w1); have k0_w1 := fun o => hc_w1 (w.heap.size) o (by omega); have l0_w1 := fun o => hf_w1 (w.heap.size) o (by omega); have k1_w1 := fun o => hc_w1 (w.heap.size + 1) o (by omega); have l1_w1 := fun o => hf_w1 (w.heap.size + 1) o (by omega); have z_w1 : w.heap.size < w1.heap.size ∧ w.heap.size ≤ w1.heap.size ∧ w.heap.size ≤ w1.heap.size + 1 ∧ w.heap.size ≤ w1.heap.size + 1 + 1 ∧ w.heap.size + 1 < w1.heap.size ∧ w.heap.size + 1 ≤ w1.heap.size ∧ w.heap.size + 1 ≤ w1.heap.size + 1 ∧ w.heap.size + 1 ≤ w1.heap.size + 1 + 1 := (by omega); clear hc_w1 hf_w1; have hW_w1 : Below w.heap.size w w1 := below_after (by go_grown) hB_w1))
  go_wp2_with fail
  go_returns
  refine ⟨ret_bool ?_, by go_grown⟩
  simp [h0]
end Go.Proofs.YtgdbdbjegiaifaaDoor
