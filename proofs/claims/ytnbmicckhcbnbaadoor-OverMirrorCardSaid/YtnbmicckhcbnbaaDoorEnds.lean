/- The contracts of format's and over's ends: for every input. -/
import Derived.Test.YtnbmicckhcbnbaaDoorFormat4
import Derived.Test.YtnbmicckhcbnbaaDoorRound
set_option linter.unusedSimpArgs false
set_option linter.unusedVariables false
namespace Go.Proofs.YtnbmicckhcbnbaaDoor
open Go.RowKit Go.Hb
instance : U64 18446744073709551615 := ⟨by omega, by omega⟩
theorem format_Max (f : Int) (neg : Bool) [hU : U8 f] (w : World) [Laid w] :
    Calls Tryd.prog 22 #[.int .u8 f, .bool neg] w fun en w' => en = .returned (.agg #[.int .u64 (hi (makeF f neg (2 * emaxS f) (cat 18446744073709551615 18446744073709551615))), .int .u64 (lo (makeF f neg (2 * emaxS f) (cat 18446744073709551615 18446744073709551615)))]) ∧ Below w.heap.size w w' := by
  obtain ⟨em0, em1⟩ := emaxS_bd f
  have hw1 : IntKind.i64.wrap (2 * emaxS f) = 2 * emaxS f := IntWalk.i64_in _ (by omega)
  go_enter Tryd.func22, Tryd.ntmps22
  (go_wp2_with fail; refine (format_Emax _ _).mono ?_; rintro en w1 ⟨rfl, hB_w1⟩; have lay_w1 := laid_after hB_w1; (obtain ⟨hc_w1, hf_w1⟩ := bcell hB_w1; have hz_w1 := hB_w1.size; (try simp only [World.size_alloc, World.size_setCell, World.size_drew] at hz_w1 hc_w1 hf_w1); have k0_w1 := fun o => hc_w1 (w.heap.size) o (by omega); have l0_w1 := fun o => hf_w1 (w.heap.size) o (by omega); have z_w1 : w.heap.size < w1.heap.size ∧ w.heap.size ≤ w1.heap.size ∧ w.heap.size ≤ w1.heap.size + 1 ∧ w.heap.size ≤ w1.heap.size + 1 + 1 := (by omega); clear hc_w1 hf_w1; have n_w1 : w.heap.size ≠ w1.heap.size ∧ w1.heap.size ≠ w.heap.size ∧ w.heap.size ≠ w1.heap.size + 1 ∧ w1.heap.size + 1 ≠ w.heap.size := (by omega); have hW_w1 : Below w.heap.size w w1 := below_after (by go_grown) hB_w1))
  (go_wp2_with fail; refine (format_Make _ _ _ _ _ _).mono ?_; rintro en w2 ⟨rfl, hB_w2⟩; (obtain ⟨hc_w2, hf_w2⟩ := bcell hB_w2; have hz_w2 := hB_w2.size; (try simp only [World.size_alloc, World.size_setCell, World.size_drew] at hz_w2 hc_w2 hf_w2); have k0_w2 := fun o => hc_w2 (w.heap.size) o (by omega); have l0_w2 := fun o => hf_w2 (w.heap.size) o (by omega); have z_w2 : w.heap.size < w2.heap.size ∧ w.heap.size ≤ w2.heap.size ∧ w.heap.size ≤ w2.heap.size + 1 ∧ w.heap.size ≤ w2.heap.size + 1 + 1 := (by omega); clear hc_w2 hf_w2; have hW_w2 : Below w.heap.size w w2 := below_after (by go_grown) hB_w2))
  go_wp2_with fail
  refine bodyPost_ret (by simp [results, Tryd.results22, go_sem, k0_w2, k0_w1, z_w2, z_w1, n_w1]; try rfl) rfl ?_
  exact ⟨rfl, by go_grown⟩
theorem over_Least (f : Int) (neg : Bool) [hU : U8 f] (w : World) [Laid w] :
    Calls Tryd.prog 11 #[.int .u8 f, .bool neg] w fun en w' => en = .returned (.agg #[.int .u64 (hi (makeF f neg 0 (cat 0 1))), .int .u64 (lo (makeF f neg 0 (cat 0 1)))]) ∧ Below w.heap.size w w' := by
  go_enter Tryd.func11, Tryd.ntmps11
  (go_wp2_with fail; refine (format_Make _ _ _ _ _ _).mono ?_; rintro en w1 ⟨rfl, hB_w1⟩; (obtain ⟨hc_w1, hf_w1⟩ := bcell hB_w1; have hz_w1 := hB_w1.size; (try simp only [World.size_alloc, World.size_setCell, World.size_drew] at hz_w1 hc_w1 hf_w1); have k0_w1 := fun o => hc_w1 (w.heap.size) o (by omega); have l0_w1 := fun o => hf_w1 (w.heap.size) o (by omega); have z_w1 : w.heap.size < w1.heap.size ∧ w.heap.size ≤ w1.heap.size ∧ w.heap.size ≤ w1.heap.size + 1 ∧ w.heap.size ≤ w1.heap.size + 1 + 1 := (by omega); clear hc_w1 hf_w1; have hW_w1 : Below w.heap.size w w1 := below_after (by go_grown) hB_w1))
  go_wp2_with fail
  refine bodyPost_ret (by simp [results, Tryd.results11, go_sem, k0_w1, z_w1]; try rfl) rfl ?_
  exact ⟨rfl, by go_grown⟩
theorem over_Normal (f : Int) (neg : Bool) [hU : U8 f] (w : World) [Laid w] :
    Calls Tryd.prog 13 #[.int .u8 f, .bool neg] w fun en w' => en = .returned (.agg #[.int .u64 (hi (makeF f neg 1 0)), .int .u64 (lo (makeF f neg 1 0))]) ∧ Below w.heap.size w w' := by
  have c0 : cat 0 0 = 0 := rfl
  go_enter Tryd.func13, Tryd.ntmps13
  (go_wp2_with fail; refine (format_Make _ _ _ _ _ _).mono ?_; rintro en w1 ⟨rfl, hB_w1⟩; (obtain ⟨hc_w1, hf_w1⟩ := bcell hB_w1; have hz_w1 := hB_w1.size; (try simp only [World.size_alloc, World.size_setCell, World.size_drew] at hz_w1 hc_w1 hf_w1); have k0_w1 := fun o => hc_w1 (w.heap.size) o (by omega); have l0_w1 := fun o => hf_w1 (w.heap.size) o (by omega); have z_w1 : w.heap.size < w1.heap.size ∧ w.heap.size ≤ w1.heap.size ∧ w.heap.size ≤ w1.heap.size + 1 ∧ w.heap.size ≤ w1.heap.size + 1 + 1 := (by omega); clear hc_w1 hf_w1; have hW_w1 : Below w.heap.size w w1 := below_after (by go_grown) hB_w1))
  go_wp2_with fail
  refine bodyPost_ret (by simp [results, Tryd.results13, go_sem, k0_w1, z_w1, c0]; try rfl) rfl ?_
  exact ⟨rfl, by go_grown⟩
theorem over_Beyond (f e : Int) [hU : U8 f] (w : World) [Laid w] (hf : f < 4) :
    Calls Tryd.prog 15 #[.int .u8 f, .int .i64 e] w fun en w' => en = .returned (.bool (decide (emaxS f < e))) ∧ Below w.heap.size w w' := by
  go_enter Tryd.func15, Tryd.ntmps15
  go_wp2_with (go_at_call 19; refine (format_Known _ _).mono ?_; rintro en w' ⟨rfl, rfl⟩)
  refine (format_Emax _ _).mono ?_
  rintro en w1 ⟨rfl, hB1⟩
  go_wp2_with fail
  go_returns
  exact ⟨rfl, by go_grown⟩
theorem over_Tiny (f e : Int) [hU : U8 f] (w : World) [Laid w] (hf : f < 4) :
    Calls Tryd.prog 16 #[.int .u8 f, .int .i64 e] w fun en w' => en = .returned (.bool (decide (e < 1 - emaxS f))) ∧ Below w.heap.size w w' := by
  obtain ⟨em0, em1⟩ := emaxS_bd f
  have hw1 : IntKind.i64.wrap (1 - emaxS f) = 1 - emaxS f := IntWalk.i64_in _ (by omega)
  go_enter Tryd.func16, Tryd.ntmps16
  go_wp2_with (go_at_call 19; refine (format_Known _ _).mono ?_; rintro en w' ⟨rfl, rfl⟩)
  refine (format_Emax _ _).mono ?_
  rintro en w1 ⟨rfl, hB1⟩
  go_wp2_with fail
  go_returns
  exact ⟨rfl, by go_grown⟩
/-- The two closures of Over: the greatest number and the infinity. -/
theorem over_max (f : Int) (neg : Bool) [hU : U8 f] (bf bg : Nat) (w : World) [Laid w] (cf : w.cell? ⟨bf, 0, none⟩ = some (.int .u8 f)) (cg : w.cell? ⟨bg, 0, none⟩ = some (.bool neg)) (sf : bf < w.heap.size) (sg : bg < w.heap.size) :
    Calls Tryd.prog 31 #[.pointer (some ⟨bf, 0, none⟩), .pointer (some ⟨bg, 0, none⟩)] w fun en w' => en = .returned (.agg #[.int .u64 (hi (makeF f neg (2 * emaxS f) (cat 18446744073709551615 18446744073709551615))), .int .u64 (lo (makeF f neg (2 * emaxS f) (cat 18446744073709551615 18446744073709551615)))]) ∧ Below w.heap.size w w' := by
  have nn : bf ≠ w.heap.size ∧ w.heap.size ≠ bf ∧ bg ≠ w.heap.size ∧ w.heap.size ≠ bg := by omega
  go_enter Tryd.func31, Tryd.ntmps31
  (go_wp2_with fail; refine (format_Max _ _ _).mono ?_; rintro en w1 ⟨rfl, hB_w1⟩; (obtain ⟨hc_w1, hf_w1⟩ := bcell hB_w1; have hz_w1 := hB_w1.size; (try simp only [World.size_alloc, World.size_setCell, World.size_drew] at hz_w1 hc_w1 hf_w1); have k0_w1 := fun o => hc_w1 (w.heap.size) o (by omega); have l0_w1 := fun o => hf_w1 (w.heap.size) o (by omega); have z_w1 : w.heap.size < w1.heap.size ∧ w.heap.size ≤ w1.heap.size ∧ w.heap.size ≤ w1.heap.size + 1 ∧ w.heap.size ≤ w1.heap.size + 1 + 1 := (by omega); clear hc_w1 hf_w1; have hW_w1 : Below w.heap.size w w1 := below_after (by go_grown) hB_w1))
  go_wp2_with fail
  refine bodyPost_ret (by simp [results, Tryd.results31, go_sem, k0_w1, z_w1]; try rfl) rfl ?_
  exact ⟨rfl, by go_grown⟩
theorem over_inf (f : Int) (neg : Bool) [hU : U8 f] (bf bg : Nat) (w : World) [Laid w] (cf : w.cell? ⟨bf, 0, none⟩ = some (.int .u8 f)) (cg : w.cell? ⟨bg, 0, none⟩ = some (.bool neg)) (sf : bf < w.heap.size) (sg : bg < w.heap.size) :
    Calls Tryd.prog 32 #[.pointer (some ⟨bf, 0, none⟩), .pointer (some ⟨bg, 0, none⟩)] w fun en w' => en = .returned (.agg #[.int .u64 (hi (makeF f neg (2 * emaxS f + 1) 0)), .int .u64 (lo (makeF f neg (2 * emaxS f + 1) 0))]) ∧ Below w.heap.size w w' := by
  have nn : bf ≠ w.heap.size ∧ w.heap.size ≠ bf ∧ bg ≠ w.heap.size ∧ w.heap.size ≠ bg := by omega
  go_enter Tryd.func32, Tryd.ntmps32
  (go_wp2_with fail; refine (format_Inf _ _ _).mono ?_; rintro en w1 ⟨rfl, hB_w1⟩; (obtain ⟨hc_w1, hf_w1⟩ := bcell hB_w1; have hz_w1 := hB_w1.size; (try simp only [World.size_alloc, World.size_setCell, World.size_drew] at hz_w1 hc_w1 hf_w1); have k0_w1 := fun o => hc_w1 (w.heap.size) o (by omega); have l0_w1 := fun o => hf_w1 (w.heap.size) o (by omega); have z_w1 : w.heap.size < w1.heap.size ∧ w.heap.size ≤ w1.heap.size ∧ w.heap.size ≤ w1.heap.size + 1 ∧ w.heap.size ≤ w1.heap.size + 1 + 1 := (by omega); clear hc_w1 hf_w1; have hW_w1 : Below w.heap.size w w1 := below_after (by go_grown) hB_w1))
  go_wp2_with fail
  refine bodyPost_ret (by simp [results, Tryd.results32, go_sem, k0_w1, z_w1]; try rfl) rfl ?_
  exact ⟨rfl, by go_grown⟩
end Go.Proofs.YtnbmicckhcbnbaaDoor
