/- The contracts of package count: WideRaise: for every input. -/
import Derived.Test.YtgdbdbjegiaifaaDoorCount
import Derived.Test.YtgdbdbjegiaifaaDoorShift6
import Derived.Test.YtgdbdbjegiaifaaDoorFormat
set_option linter.unusedSimpArgs false
set_option linter.unusedVariables false
namespace Go.Hb
/-- How far a number is raised, of 256 bits. -/
def byS (v : Nat) : Int := if v = 0 then 0 else 256 - (blen v : Int)
def raiseS (v : Nat) : Nat := lsh v (byS v)
theorem blen_256 (v : Nat) (h : v < 115792089237316195423570985008687907853269984665640564039457584007913129639936) : blen v ≤ 256 := by
  by_cases h0 : v = 0
  · subst h0; simp [blen]
  · rw [blen_pos _ h0]
    have := (Nat.log2_lt h0).2 (show v < 2 ^ 256 by rw [two256]; exact h)
    omega
theorem blen_ne (v : Nat) (h : v ≠ 0) : 1 ≤ blen v := by rw [blen_pos _ h]; omega
theorem ret_wide_int {a b c d a' b' c' d' n m : Int} (h : a = a' ∧ b = b' ∧ c = c' ∧ d = d') (hn : n = m) : Ending.returned (.tuple #[.agg #[.int .u64 (a), .int .u64 (b), .int .u64 (c), .int .u64 (d)], .int .i64 n]) = Ending.returned (.tuple #[.agg #[.int .u64 (a'), .int .u64 (b'), .int .u64 (c'), .int .u64 (d')], .int .i64 m]) := by rw [h.1, h.2.1, h.2.2.1, h.2.2.2, hn]
end Go.Hb
namespace Go.Proofs.YtgdbdbjegiaifaaDoor
open Go.RowKit Go.Hb
set_option maxRecDepth 100000 in
set_option maxHeartbeats 2000000 in
theorem count_raised (x0 x1 x2 x3 : Int) [U64 x0] [U64 x1] [U64 x2] [U64 x3] (w : World) :
    Calls Tryd.prog 102 #[.agg #[.int .u64 (x0), .int .u64 (x1), .int .u64 (x2), .int .u64 (x3)], .int .i64 256, .func (.func 103) #[] #[], .func (.func 92) #[] #[]] w fun en w' =>
      en = .returned (.tuple #[.agg #[.int .u64 (lo (raiseS (cat4 x0 x1 x2 x3))), .int .u64 (w1 (raiseS (cat4 x0 x1 x2 x3))), .int .u64 (w2 (raiseS (cat4 x0 x1 x2 x3))), .int .u64 (w3 (raiseS (cat4 x0 x1 x2 x3)))], .int .i64 (byS (cat4 x0 x1 x2 x3))]) ∧ Below w.heap.size w w' := by
  have hb := blen_256 _ (cat4_lt x0 x1 x2 x3)
  have hp := Lib.hid (parts_cat4 x0 x1 x2 x3)
  by_cases h0 : cat4 x0 x1 x2 x3 = 0
  · have hl : blen (cat4 x0 x1 x2 x3) = 0 := by rw [h0]; rfl
    have hr : raiseS (cat4 x0 x1 x2 x3) = cat4 x0 x1 x2 x3 := by rw [h0]; rfl
    have hy : byS (cat4 x0 x1 x2 x3) = 0 := by rw [h0]; rfl
    rw [hr, hy]
    have h0' := Lib.hid h0
    have hl' := Lib.hid hl
    clear hr hy hb h0 hl
    go_enter Tryd.func102, Tryd.ntmps102
    go_wp2_with fail
    refine (count_WideLen x0 x1 x2 x3 _).mono ?_
    rw [hl'.out]
    rintro en w1 ⟨rfl, hB⟩
    (obtain ⟨hc_w1, hf_w1⟩ := bcell hB; have hz_w1 := hB.size; (try simp only [World.size_alloc, World.size_setCell, World.size_drew] at hz_w1 hc_w1 hf_w1); have k0_w1 := fun o => hc_w1 (w.heap.size) o (by omega); have l0_w1 := fun o => hf_w1 (w.heap.size) o (by omega); have k1_w1 := fun o => hc_w1 (w.heap.size + 1) o (by omega); have l1_w1 := fun o => hf_w1 (w.heap.size + 1) o (by omega); have z_w1 : w.heap.size < w1.heap.size ∧ w.heap.size ≤ w1.heap.size ∧ w.heap.size ≤ w1.heap.size + 1 ∧ w.heap.size ≤ w1.heap.size + 1 + 1 ∧ w.heap.size + 1 < w1.heap.size ∧ w.heap.size + 1 ≤ w1.heap.size ∧ w.heap.size + 1 ≤ w1.heap.size + 1 ∧ w.heap.size + 1 ≤ w1.heap.size + 1 + 1 := (by omega); clear hc_w1 hf_w1; have hW_w1 : Below w.heap.size w w1 := below_after (by go_grown) hB)
    go_wp2_with fail
    refine bodyPost_ret (by simp [results, Tryd.results102, go_sem, k1_w1, k0_w1]; try rfl) rfl ?_
    refine ⟨ret_wide_int ?_ rfl, by go_grown⟩
    exact ⟨hp.out.1.symm, hp.out.2.1.symm, hp.out.2.2.1.symm, hp.out.2.2.2.symm⟩
  · have h1 := blen_ne _ h0
    have hy : byS (cat4 x0 x1 x2 x3) = 256 - (blen (cat4 x0 x1 x2 x3) : Int) := by unfold byS; rw [if_neg h0]
    have hy' := Lib.hid hy
    have hne : ((blen (cat4 x0 x1 x2 x3) : Int) == 0) = false := by simp; omega
    clear hy h0
    go_enter Tryd.func102, Tryd.ntmps102
    go_wp2_with fail
    refine (count_WideLen x0 x1 x2 x3 _).mono ?_
    rintro en w1 ⟨rfl, hB⟩
    (obtain ⟨hc_w1, hf_w1⟩ := bcell hB; have hz_w1 := hB.size; (try simp only [World.size_alloc, World.size_setCell, World.size_drew] at hz_w1 hc_w1 hf_w1); have k0_w1 := fun o => hc_w1 (w.heap.size) o (by omega); have l0_w1 := fun o => hf_w1 (w.heap.size) o (by omega); have k1_w1 := fun o => hc_w1 (w.heap.size + 1) o (by omega); have l1_w1 := fun o => hf_w1 (w.heap.size + 1) o (by omega); have z_w1 : w.heap.size < w1.heap.size ∧ w.heap.size ≤ w1.heap.size ∧ w.heap.size ≤ w1.heap.size + 1 ∧ w.heap.size ≤ w1.heap.size + 1 + 1 ∧ w.heap.size + 1 < w1.heap.size ∧ w.heap.size + 1 ≤ w1.heap.size ∧ w.heap.size + 1 ≤ w1.heap.size + 1 ∧ w.heap.size + 1 ≤ w1.heap.size + 1 + 1 := (by omega); clear hc_w1 hf_w1; have hW_w1 : Below w.heap.size w w1 := below_after (by go_grown) hB)
    go_wp2_with fail
    refine (shift_WideLeft x0 x1 x2 x3 _ _).mono ?_
    rw [← hy'.out]
    rintro en w2 ⟨rfl, hB2⟩
    (obtain ⟨hc_w2, hf_w2⟩ := bcell hB2; have hz_w2 := hB2.size; (try simp only [World.size_alloc, World.size_setCell, World.size_drew] at hz_w2 hc_w2 hf_w2); have k0_w2 := fun o => hc_w2 (w.heap.size) o (by omega); have l0_w2 := fun o => hf_w2 (w.heap.size) o (by omega); have k1_w2 := fun o => hc_w2 (w.heap.size + 1) o (by omega); have l1_w2 := fun o => hf_w2 (w.heap.size + 1) o (by omega); have z_w2 : w.heap.size < w2.heap.size ∧ w.heap.size ≤ w2.heap.size ∧ w.heap.size ≤ w2.heap.size + 1 ∧ w.heap.size ≤ w2.heap.size + 1 + 1 ∧ w.heap.size + 1 < w2.heap.size ∧ w.heap.size + 1 ≤ w2.heap.size ∧ w.heap.size + 1 ≤ w2.heap.size + 1 ∧ w.heap.size + 1 ≤ w2.heap.size + 1 + 1 := (by omega); clear hc_w2 hf_w2; have hW_w2 : Below w.heap.size w w2 := below_after (by go_grown) hB2)
    go_wp2_with fail
    refine bodyPost_ret (by simp [results, Tryd.results102, go_sem, k1_w2, k1_w1]; try rfl) rfl ?_
    refine ⟨ret_wide_int ⟨rfl, rfl, rfl, rfl⟩ hy'.out.symm, by go_grown⟩
set_option maxRecDepth 100000 in
set_option maxHeartbeats 2000000 in
theorem count_WideRaise (x0 x1 x2 x3 : Int) [U64 x0] [U64 x1] [U64 x2] [U64 x3] (w : World) :
    Calls Tryd.prog 67 #[.agg #[.int .u64 (x0), .int .u64 (x1), .int .u64 (x2), .int .u64 (x3)]] w fun en w' =>
      en = .returned (.tuple #[.agg #[.int .u64 (lo (raiseS (cat4 x0 x1 x2 x3))), .int .u64 (w1 (raiseS (cat4 x0 x1 x2 x3))), .int .u64 (w2 (raiseS (cat4 x0 x1 x2 x3))), .int .u64 (w3 (raiseS (cat4 x0 x1 x2 x3)))], .int .i64 (byS (cat4 x0 x1 x2 x3))]) ∧ Below w.heap.size w w' := by
  go_enter Tryd.func67, Tryd.ntmps67
  go_wp2_with fail
  refine (count_raised x0 x1 x2 x3 _).mono ?_
  rintro en w1 ⟨rfl, hB⟩
  (obtain ⟨hc_w1, hf_w1⟩ := bcell hB; have hz_w1 := hB.size; (try simp only [World.size_alloc, World.size_setCell, World.size_drew] at hz_w1 hc_w1 hf_w1); have k0_w1 := fun o => hc_w1 (w.heap.size) o (by omega); have l0_w1 := fun o => hf_w1 (w.heap.size) o (by omega); have k1_w1 := fun o => hc_w1 (w.heap.size + 1) o (by omega); have l1_w1 := fun o => hf_w1 (w.heap.size + 1) o (by omega); have z_w1 : w.heap.size < w1.heap.size ∧ w.heap.size ≤ w1.heap.size ∧ w.heap.size ≤ w1.heap.size + 1 ∧ w.heap.size ≤ w1.heap.size + 1 + 1 ∧ w.heap.size + 1 < w1.heap.size ∧ w.heap.size + 1 ≤ w1.heap.size ∧ w.heap.size + 1 ≤ w1.heap.size + 1 ∧ w.heap.size + 1 ≤ w1.heap.size + 1 + 1 := (by omega); clear hc_w1 hf_w1; have hW_w1 : Below w.heap.size w w1 := below_after (by go_grown) hB)
  go_wp2_with fail
  refine bodyPost_ret (by simp [results, Tryd.results67, go_sem, k1_w1]; try rfl) rfl ?_
  exact ⟨rfl, by go_grown⟩
end Go.Proofs.YtgdbdbjegiaifaaDoor
