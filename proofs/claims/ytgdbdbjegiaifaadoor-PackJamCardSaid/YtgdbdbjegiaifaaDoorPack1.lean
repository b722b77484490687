/- The rounding of package pack's closure: for every input. -/
import Derived.Test.YtgdbdbjegiaifaaDoorRound
set_option linter.unusedSimpArgs false
set_option linter.unusedVariables false
namespace Go.Proofs.YtgdbdbjegiaifaaDoor
open Go.RowKit Go.Hb
set_option maxHeartbeats 4000000 in
theorem pack_cut (bn bv bg : Nat) (x0 x1 x2 x3 p m : Int) (neg : Bool) [U64 x0] [U64 x1] [U64 x2] [U64 x3] (w : World) (h0 : 0 ≤ p) (h1 : p ≤ 127) (m0 : 0 ≤ m) (m1 : m ≤ 4)
    (cn : w.cell? ⟨bn, 0, none⟩ = some (.int .i64 p)) (cv : w.cell? ⟨bv, 0, none⟩ = some (.int .u8 m)) (cg : w.cell? ⟨bg, 0, none⟩ = some (.bool neg)) (sn : bn < w.heap.size) (sv : bv < w.heap.size) (sg : bg < w.heap.size) :
    Calls Tryd.prog 34 #[.agg #[.int .u64 (x0), .int .u64 (x1), .int .u64 (x2), .int .u64 (x3)], .pointer (some ⟨bn, 0, none⟩), .pointer (some ⟨bv, 0, none⟩), .pointer (some ⟨bg, 0, none⟩)] w fun e w' => e = .returned (.tuple #[.agg #[.int .u64 (hi (cutS (cat4 x0 x1 x2 x3) p m neg)), .int .u64 (lo (cutS (cat4 x0 x1 x2 x3) p m neg))], .bool (inexS (cat4 x0 x1 x2 x3) p)]) ∧ Below w.heap.size w w' := by
  have nn : bn ≠ w.heap.size ∧ bn ≠ w.heap.size + 1 ∧ w.heap.size ≠ bn ∧ w.heap.size + 1 ≠ bn ∧ bv ≠ w.heap.size ∧ bv ≠ w.heap.size + 1 ∧ w.heap.size ≠ bv ∧ w.heap.size + 1 ≠ bv ∧ bg ≠ w.heap.size ∧ bg ≠ w.heap.size + 1 ∧ w.heap.size ≠ bg ∧ w.heap.size + 1 ≠ bg := by omega
  go_enter Tryd.func34, Tryd.ntmps34
  (go_wp2_with fail; refine (round_Cut _ _ _ _ _ _ _ _ h0 h1 m0 m1).mono ?_; rintro en w1 ⟨rfl, hB_w1⟩; (obtain ⟨hc_w1, hf_w1⟩ := bcell hB_w1; have hz_w1 := hB_w1.size; (try simp only [World.size_alloc, World.size_setCell, World.size_drew] at hz_w1 hc_w1 hf_w1); have k0_w1 := fun o => hc_w1 (w.heap.size) o (by omega); have l0_w1 := fun o => hf_w1 (w.heap.size) o (by omega); have k1_w1 := fun o => hc_w1 (w.heap.size + 1) o (by omega); have l1_w1 := fun o => hf_w1 (w.heap.size + 1) o (by omega); have z_w1 : w.heap.size < w1.heap.size ∧ w.heap.size ≤ w1.heap.size ∧ w.heap.size ≤ w1.heap.size + 1 ∧ w.heap.size ≤ w1.heap.size + 1 + 1 ∧ w.heap.size + 1 < w1.heap.size ∧ w.heap.size + 1 ≤ w1.heap.size ∧ w.heap.size + 1 ≤ w1.heap.size + 1 ∧ w.heap.size + 1 ≤ w1.heap.size + 1 + 1 := (by omega); clear hc_w1 hf_w1; have hW_w1 : Below w.heap.size w w1 := below_after (by go_grown) hB_w1))
  go_wp2_with fail
  refine bodyPost_ret (by simp [results, Tryd.results34, go_sem, k1_w1, z_w1]; try rfl) rfl ?_
  exact ⟨rfl, by go_grown⟩
end Go.Proofs.YtgdbdbjegiaifaaDoor
