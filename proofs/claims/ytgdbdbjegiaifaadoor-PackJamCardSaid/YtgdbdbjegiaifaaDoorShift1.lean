/- The contracts of package shift: left and right, 128 bits: for every input. -/
import Derived.Test.YtgdbdbjegiaifaaDoorShift
set_option linter.unusedSimpArgs false
set_option linter.unusedVariables false
namespace Go.Proofs.YtgdbdbjegiaifaaDoor
open Go.RowKit Go.Hb

set_option maxHeartbeats 1000000 in
theorem shift_Left (ah al n : Int) [U64 ah] [U64 al] (w : World) :
    Calls Tryd.prog 55 #[.agg #[.int .u64 (ah), .int .u64 (al)], .int .i64 n] w fun e w' => e = .returned (.agg #[.int .u64 (hi (shI (cat ah al) (max n 0))), .int .u64 (lo (shI (cat ah al) (max n 0)))]) ∧ Below w.heap.size w w' := by
  by_cases hn : n < 0
  · rw [show max n 0 = 0 by omega]
    go_enter Tryd.func55, Tryd.ntmps55
    go_wp2_with fail
    refine (shift_parts _ _ _).mono ?_
    rintro e w1 ⟨b, rfl, hb, h0, h1, hlt, hB⟩
    (obtain ⟨hc_w1, hf_w1⟩ := bcell hB; have hz_w1 := hB.size; (try simp only [World.size_alloc, World.size_setCell, World.size_drew] at hz_w1 hc_w1 hf_w1); have k0_w1 := fun o => hc_w1 (w.heap.size) o (by omega); have l0_w1 := fun o => hf_w1 (w.heap.size) o (by omega); have k1_w1 := fun o => hc_w1 (w.heap.size + 1) o (by omega); have l1_w1 := fun o => hf_w1 (w.heap.size + 1) o (by omega); clear hc_w1 hf_w1; have hW_w1 : Below w.heap.size w w1 := below_after (by go_grown) hB)
    go_wp2_with fail
    refine (moved2 b _ _ _ _ _ h0 h1).mono ?_
    rintro e w2 ⟨rfl, hB2⟩
    (obtain ⟨hc_w2, hf_w2⟩ := bcell hB2; have hz_w2 := hB2.size; (try simp only [World.size_alloc, World.size_setCell, World.size_drew] at hz_w2 hc_w2 hf_w2); have k0_w2 := fun o => hc_w2 (w.heap.size) o (by omega); have l0_w2 := fun o => hf_w2 (w.heap.size) o (by omega); have k1_w2 := fun o => hc_w2 (w.heap.size + 1) o (by omega); have l1_w2 := fun o => hf_w2 (w.heap.size + 1) o (by omega); clear hc_w2 hf_w2; have hW_w2 : Below w.heap.size w w2 := below_after (by go_grown) hB2)
    go_wp2_with fail
    refine bodyPost_ret (by simp [results, Tryd.results55, go_sem, k1_w2, k1_w1]; try rfl) rfl ?_
    exact ⟨rfl, by go_grown⟩
  · rw [show max n 0 = n by omega]
    go_enter Tryd.func55, Tryd.ntmps55
    go_wp2_with fail
    refine (shift_parts _ _ _).mono ?_
    rintro e w1 ⟨b, rfl, hb, h0, h1, hlt, hB⟩
    (obtain ⟨hc_w1, hf_w1⟩ := bcell hB; have hz_w1 := hB.size; (try simp only [World.size_alloc, World.size_setCell, World.size_drew] at hz_w1 hc_w1 hf_w1); have k0_w1 := fun o => hc_w1 (w.heap.size) o (by omega); have l0_w1 := fun o => hf_w1 (w.heap.size) o (by omega); have k1_w1 := fun o => hc_w1 (w.heap.size + 1) o (by omega); have l1_w1 := fun o => hf_w1 (w.heap.size + 1) o (by omega); clear hc_w1 hf_w1; have hW_w1 : Below w.heap.size w w1 := below_after (by go_grown) hB)
    go_wp2_with fail
    refine (moved2 b _ _ _ _ _ h0 h1).mono ?_
    rintro e w2 ⟨rfl, hB2⟩
    (obtain ⟨hc_w2, hf_w2⟩ := bcell hB2; have hz_w2 := hB2.size; (try simp only [World.size_alloc, World.size_setCell, World.size_drew] at hz_w2 hc_w2 hf_w2); have k0_w2 := fun o => hc_w2 (w.heap.size) o (by omega); have l0_w2 := fun o => hf_w2 (w.heap.size) o (by omega); have k1_w2 := fun o => hc_w2 (w.heap.size + 1) o (by omega); have l1_w2 := fun o => hf_w2 (w.heap.size + 1) o (by omega); clear hc_w2 hf_w2; have hW_w2 : Below w.heap.size w w2 := below_after (by go_grown) hB2)
    go_wp2_with fail
    refine bodyPost_ret (by simp [results, Tryd.results55, go_sem, k1_w2, k1_w1]; try rfl) rfl ?_
    exact ⟨rfl, by go_grown⟩
end Go.Proofs.YtgdbdbjegiaifaaDoor
