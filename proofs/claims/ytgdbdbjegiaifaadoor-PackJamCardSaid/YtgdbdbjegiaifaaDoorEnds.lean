/- The contracts of format's and over's ends: for every input. -/
import Derived.Test.YtgdbdbjegiaifaaDoorFormat4
import Derived.Test.YtgdbdbjegiaifaaDoorRound
set_option linter.unusedSimpArgs false
set_option linter.unusedVariables false
namespace Go.Proofs.YtgdbdbjegiaifaaDoor
open Go.RowKit Go.Hb
theorem format_Nought (f : Int) (neg : Bool) [hU : U8 f] (w : World) [Laid w] :
    Calls Tryd.prog 24 #[.int .u8 f, .bool neg] w fun en w' => en = .returned (.agg #[.int .u64 (hi (makeF f neg 0 0)), .int .u64 (lo (makeF f neg 0 0))]) ∧ Below w.heap.size w w' := by
  have c0 : cat 0 0 = 0 := rfl
  go_enter Tryd.func24, Tryd.ntmps24
  (go_wp2_with fail; refine (format_Make _ _ _ _ _ _).mono ?_; rintro en w1 ⟨rfl, hB_w1⟩; (obtain ⟨hc_w1, hf_w1⟩ := bcell hB_w1; have hz_w1 := hB_w1.size; (try simp only [World.size_alloc, World.size_setCell, World.size_drew] at hz_w1 hc_w1 hf_w1); have k0_w1 := fun o => hc_w1 (w.heap.size) o (by omega); have l0_w1 := fun o => hf_w1 (w.heap.size) o (by omega); have z_w1 : w.heap.size < w1.heap.size ∧ w.heap.size ≤ w1.heap.size ∧ w.heap.size ≤ w1.heap.size + 1 ∧ w.heap.size ≤ w1.heap.size + 1 + 1 := (by omega); clear hc_w1 hf_w1; have hW_w1 : Below w.heap.size w w1 := below_after (by go_grown) hB_w1))
  go_wp2_with fail
  refine bodyPost_ret (by simp [results, Tryd.results24, go_sem, k0_w1, z_w1, c0]; try rfl) rfl ?_
  exact ⟨rfl, by go_grown⟩
instance : U64 18446744073709551615 := ⟨by omega, by omega⟩
theorem format_Max (f : Int) (neg : Bool) [hU : U8 f] (w : World) [Laid w] :
    Calls Tryd.prog 71 #[.int .u8 f, .bool neg] w fun en w' => en = .returned (.agg #[.int .u64 (hi (makeF f neg (2 * emaxS f) (cat 18446744073709551615 18446744073709551615))), .int .u64 (lo (makeF f neg (2 * emaxS f) (cat 18446744073709551615 18446744073709551615)))]) ∧ Below w.heap.size w w' := by
  obtain ⟨em0, em1⟩ := emaxS_bd f
  have hw1 : IntKind.i64.wrap (2 * emaxS f) = 2 * emaxS f := IntWalk.i64_in _ (by omega)
  go_enter Tryd.func71, Tryd.ntmps71
  (go_wp2_with fail; refine (format_Emax _ _).mono ?_; rintro en w1 ⟨rfl, hB_w1⟩; have lay_w1 := laid_after hB_w1; (obtain ⟨hc_w1, hf_w1⟩ := bcell hB_w1; have hz_w1 := hB_w1.size; (try simp only [World.size_alloc, World.size_setCell, World.size_drew] at hz_w1 hc_w1 hf_w1); have k0_w1 := fun o => hc_w1 (w.heap.size) o (by omega); have l0_w1 := fun o => hf_w1 (w.heap.size) o (by omega); have z_w1 : w.heap.size < w1.heap.size ∧ w.heap.size ≤ w1.heap.size ∧ w.heap.size ≤ w1.heap.size + 1 ∧ w.heap.size ≤ w1.heap.size + 1 + 1 := (by omega); clear hc_w1 hf_w1; have n_w1 : w.heap.size ≠ w1.heap.size ∧ w1.heap.size ≠ w.heap.size ∧ w.heap.size ≠ w1.heap.size + 1 ∧ w1.heap.size + 1 ≠ w.heap.size := (by omega); have hW_w1 : Below w.heap.size w w1 := below_after (by go_grown) hB_w1))
  (go_wp2_with fail; refine (format_Make _ _ _ _ _ _).mono ?_; rintro en w2 ⟨rfl, hB_w2⟩; (obtain ⟨hc_w2, hf_w2⟩ := bcell hB_w2; have hz_w2 := hB_w2.size; (try simp only [World.size_alloc, World.size_setCell, World.size_drew] at hz_w2 hc_w2 hf_w2); have k0_w2 := fun o => hc_w2 (w.heap.size) o (by omega); have l0_w2 := fun o => hf_w2 (w.heap.size) o (by omega); have z_w2 : w.heap.size < w2.heap.size ∧ w.heap.size ≤ w2.heap.size ∧ w.heap.size ≤ w2.heap.size + 1 ∧ w.heap.size ≤ w2.heap.size + 1 + 1 := (by omega); clear hc_w2 hf_w2; have hW_w2 : Below w.heap.size w w2 := below_after (by go_grown) hB_w2))
  go_wp2_with fail
  refine bodyPost_ret (by simp [results, Tryd.results71, go_sem, k0_w2, k0_w1, z_w2, z_w1, n_w1]; try rfl) rfl ?_
  exact ⟨rfl, by go_grown⟩
theorem over_Beyond (f e : Int) [hU : U8 f] (w : World) [Laid w] (hf : f < 4) :
    Calls Tryd.prog 37 #[.int .u8 f, .int .i64 e] w fun en w' => en = .returned (.bool (decide (emaxS f < e))) ∧ Below w.heap.size w w' := by
  go_enter Tryd.func37, Tryd.ntmps37
  go_wp2_with (go_at_call 16; refine (format_Known _ _).mono ?_; rintro en w' ⟨rfl, rfl⟩)
  refine (format_Emax _ _).mono ?_
  rintro en w1 ⟨rfl, hB1⟩
  go_wp2_with fail
  go_returns
  exact ⟨rfl, by go_grown⟩
/-- The two closures of Over: the greatest number and the infinity. -/
theorem over_max (f : Int) (neg : Bool) [hU : U8 f] (bf bg : Nat) (w : World) [Laid w] (cf : w.cell? ⟨bf, 0, none⟩ = some (.int .u8 f)) (cg : w.cell? ⟨bg, 0, none⟩ = some (.bool neg)) (sf : bf < w.heap.size) (sg : bg < w.heap.size) :
    Calls Tryd.prog 70 #[.pointer (some ⟨bf, 0, none⟩), .pointer (some ⟨bg, 0, none⟩)] w fun en w' => en = .returned (.agg #[.int .u64 (hi (makeF f neg (2 * emaxS f) (cat 18446744073709551615 18446744073709551615))), .int .u64 (lo (makeF f neg (2 * emaxS f) (cat 18446744073709551615 18446744073709551615)))]) ∧ Below w.heap.size w w' := by
  have nn : bf ≠ w.heap.size ∧ w.heap.size ≠ bf ∧ bg ≠ w.heap.size ∧ w.heap.size ≠ bg := by omega
  go_enter Tryd.func70, Tryd.ntmps70
  (go_wp2_with fail; refine (format_Max _ _ _).mono ?_; rintro en w1 ⟨rfl, hB_w1⟩; (obtain ⟨hc_w1, hf_w1⟩ := bcell hB_w1; have hz_w1 := hB_w1.size; (try simp only [World.size_alloc, World.size_setCell, World.size_drew] at hz_w1 hc_w1 hf_w1); have k0_w1 := fun o => hc_w1 (w.heap.size) o (by omega); have l0_w1 := fun o => hf_w1 (w.heap.size) o (by omega); have z_w1 : w.heap.size < w1.heap.size ∧ w.heap.size ≤ w1.heap.size ∧ w.heap.size ≤ w1.heap.size + 1 ∧ w.heap.size ≤ w1.heap.size + 1 + 1 := (by omega); clear hc_w1 hf_w1; have hW_w1 : Below w.heap.size w w1 := below_after (by go_grown) hB_w1))
  go_wp2_with fail
  refine bodyPost_ret (by simp [results, Tryd.results70, go_sem, k0_w1, z_w1]; try rfl) rfl ?_
  exact ⟨rfl, by go_grown⟩
theorem over_inf (f : Int) (neg : Bool) [hU : U8 f] (bf bg : Nat) (w : World) [Laid w] (cf : w.cell? ⟨bf, 0, none⟩ = some (.int .u8 f)) (cg : w.cell? ⟨bg, 0, none⟩ = some (.bool neg)) (sf : bf < w.heap.size) (sg : bg < w.heap.size) :
    Calls Tryd.prog 72 #[.pointer (some ⟨bf, 0, none⟩), .pointer (some ⟨bg, 0, none⟩)] w fun en w' => en = .returned (.agg #[.int .u64 (hi (makeF f neg (2 * emaxS f + 1) 0)), .int .u64 (lo (makeF f neg (2 * emaxS f + 1) 0))]) ∧ Below w.heap.size w w' := by
  have nn : bf ≠ w.heap.size ∧ w.heap.size ≠ bf ∧ bg ≠ w.heap.size ∧ w.heap.size ≠ bg := by omega
  go_enter Tryd.func72, Tryd.ntmps72
  (go_wp2_with fail; refine (format_Inf _ _ _).mono ?_; rintro en w1 ⟨rfl, hB_w1⟩; (obtain ⟨hc_w1, hf_w1⟩ := bcell hB_w1; have hz_w1 := hB_w1.size; (try simp only [World.size_alloc, World.size_setCell, World.size_drew] at hz_w1 hc_w1 hf_w1); have k0_w1 := fun o => hc_w1 (w.heap.size) o (by omega); have l0_w1 := fun o => hf_w1 (w.heap.size) o (by omega); have z_w1 : w.heap.size < w1.heap.size ∧ w.heap.size ≤ w1.heap.size ∧ w.heap.size ≤ w1.heap.size + 1 ∧ w.heap.size ≤ w1.heap.size + 1 + 1 := (by omega); clear hc_w1 hf_w1; have hW_w1 : Below w.heap.size w w1 := below_after (by go_grown) hB_w1))
  go_wp2_with fail
  refine bodyPost_ret (by simp [results, Tryd.results72, go_sem, k0_w1, z_w1]; try rfl) rfl ?_
  exact ⟨rfl, by go_grown⟩
end Go.Proofs.YtgdbdbjegiaifaaDoor
