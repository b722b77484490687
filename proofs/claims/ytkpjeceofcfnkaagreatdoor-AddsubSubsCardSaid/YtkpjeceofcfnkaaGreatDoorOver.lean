/- The contracts of format's and over's ends: for every input. The contract of over.Over: for every known format and mode. The contracts of package over: for every input. -/
import Derived.Test.YtkpjeceofcfnkaaGreatDoorFormat4
import Derived.Test.YtkpjeceofcfnkaaGreatDoorRound
import Derived.Laws.EntriesVeiled
import Derived.Test.YtkpjeceofcfnkaaGreatDoorKit
set_option maxRecDepth 100000
set_option maxHeartbeats 4000000
set_option linter.unusedSimpArgs false
set_option linter.unusedVariables false
namespace Go.Proofs.YtkpjeceofcfnkaaGreatDoor
open Go.RowKit Go.Hb
theorem format_Nought (f : Int) (neg : Bool) [hU : U8 f] (w : World) [Laid w] :
    Calls Tryz.prog 115 #[.int .u8 f, .bool neg] w fun en w' => en = .returned (.agg #[.int .u64 (hi (makeF f neg 0 0)), .int .u64 (lo (makeF f neg 0 0))]) ∧ Below w.heap.size w w' := by
  have c0 : cat 0 0 = 0 := rfl
  go_enter Tryz.func115, Tryz.ntmps115
  (go_wp2_with fail; refine (format_Make _ _ _ _ _ _).mono ?_; rintro en w1 ⟨rfl, hB_w1⟩; (obtain ⟨hc_w1, hf_w1⟩ := bcell hB_w1; have hz_w1 := hB_w1.size; (try simp only [World.size_alloc, World.size_setCell, World.size_drew] at hz_w1 hc_w1 hf_w1); have k0_w1 := fun o => hc_w1 (w.heap.size) o (by omega); have l0_w1 := fun o => hf_w1 (w.heap.size) o (by omega); have z_w1 : w.heap.size < w1.heap.size ∧ w.heap.size ≤ w1.heap.size ∧ w.heap.size ≤ w1.heap.size + 1 ∧ w.heap.size ≤ w1.heap.size + 1 + 1 := (by omega); clear hc_w1 hf_w1; have hW_w1 : Below w.heap.size w w1 := below_after (by go_grown) hB_w1))
  go_wp2_with fail
  refine bodyPost_ret (by simp [results, Tryz.results115, go_sem, k0_w1, z_w1, c0]; try rfl) rfl ?_
  exact ⟨rfl, by go_grown⟩
instance u64_Over1 : U64 18446744073709551615 := ⟨by omega, by omega⟩
theorem format_Max (f : Int) (neg : Bool) [hU : U8 f] (w : World) [Laid w] :
    Calls Tryz.prog 139 #[.int .u8 f, .bool neg] w fun en w' => en = .returned (.agg #[.int .u64 (hi (makeF f neg (2 * emaxS f) (cat 18446744073709551615 18446744073709551615))), .int .u64 (lo (makeF f neg (2 * emaxS f) (cat 18446744073709551615 18446744073709551615)))]) ∧ Below w.heap.size w w' := by
  obtain ⟨em0, em1⟩ := emaxS_bd f
  have hw1 : IntKind.i64.wrap (2 * emaxS f) = 2 * emaxS f := IntWalk.i64_in _ (by omega)
  go_enter Tryz.func139, Tryz.ntmps139
  (go_wp2_with fail; refine (format_Emax _ _).mono ?_; rintro en w1 ⟨rfl, hB_w1⟩; have lay_w1 := laid_after hB_w1; (obtain ⟨hc_w1, hf_w1⟩ := bcell hB_w1; have hz_w1 := hB_w1.size; (try simp only [World.size_alloc, World.size_setCell, World.size_drew] at hz_w1 hc_w1 hf_w1); have k0_w1 := fun o => hc_w1 (w.heap.size) o (by omega); have l0_w1 := fun o => hf_w1 (w.heap.size) o (by omega); have z_w1 : w.heap.size < w1.heap.size ∧ w.heap.size ≤ w1.heap.size ∧ w.heap.size ≤ w1.heap.size + 1 ∧ w.heap.size ≤ w1.heap.size + 1 + 1 := (by omega); clear hc_w1 hf_w1; have n_w1 : w.heap.size ≠ w1.heap.size ∧ w1.heap.size ≠ w.heap.size ∧ w.heap.size ≠ w1.heap.size + 1 ∧ w1.heap.size + 1 ≠ w.heap.size := (by omega); have hW_w1 : Below w.heap.size w w1 := below_after (by go_grown) hB_w1))
  (go_wp2_with fail; refine (format_Make _ _ _ _ _ _).mono ?_; rintro en w2 ⟨rfl, hB_w2⟩; (obtain ⟨hc_w2, hf_w2⟩ := bcell hB_w2; have hz_w2 := hB_w2.size; (try simp only [World.size_alloc, World.size_setCell, World.size_drew] at hz_w2 hc_w2 hf_w2); have k0_w2 := fun o => hc_w2 (w.heap.size) o (by omega); have l0_w2 := fun o => hf_w2 (w.heap.size) o (by omega); have z_w2 : w.heap.size < w2.heap.size ∧ w.heap.size ≤ w2.heap.size ∧ w.heap.size ≤ w2.heap.size + 1 ∧ w.heap.size ≤ w2.heap.size + 1 + 1 := (by omega); clear hc_w2 hf_w2; have hW_w2 : Below w.heap.size w w2 := below_after (by go_grown) hB_w2))
  go_wp2_with fail
  refine bodyPost_ret (by simp [results, Tryz.results139, go_sem, k0_w2, k0_w1, z_w2, z_w1, n_w1]; try rfl) rfl ?_
  exact ⟨rfl, by go_grown⟩
theorem over_Beyond (f e : Int) [hU : U8 f] (w : World) [Laid w] (hf : f < 4) :
    Calls Tryz.prog 119 #[.int .u8 f, .int .i64 e] w fun en w' => en = .returned (.bool (decide (emaxS f < e))) ∧ Below w.heap.size w w' := by
  go_enter Tryz.func119, Tryz.ntmps119
  go_wp2_with (go_at_call 27; refine (format_Known _ _).mono ?_; rintro en w' ⟨rfl, rfl⟩)
  refine (format_Emax _ _).mono ?_
  rintro en w1 ⟨rfl, hB1⟩
  go_wp2_with fail
  go_returns
  exact ⟨rfl, by go_grown⟩
/-- The two closures of Over: the greatest number and the infinity. -/
theorem over_max (f : Int) (neg : Bool) [hU : U8 f] (bf bg : Nat) (w : World) [Laid w] (cf : w.cell? ⟨bf, 0, none⟩ = some (.int .u8 f)) (cg : w.cell? ⟨bg, 0, none⟩ = some (.bool neg)) (sf : bf < w.heap.size) (sg : bg < w.heap.size) :
    Calls Tryz.prog 138 #[.pointer (some ⟨bf, 0, none⟩), .pointer (some ⟨bg, 0, none⟩)] w fun en w' => en = .returned (.agg #[.int .u64 (hi (makeF f neg (2 * emaxS f) (cat 18446744073709551615 18446744073709551615))), .int .u64 (lo (makeF f neg (2 * emaxS f) (cat 18446744073709551615 18446744073709551615)))]) ∧ Below w.heap.size w w' := by
  have nn : bf ≠ w.heap.size ∧ w.heap.size ≠ bf ∧ bg ≠ w.heap.size ∧ w.heap.size ≠ bg := by omega
  go_enter Tryz.func138, Tryz.ntmps138
  (go_wp2_with fail; refine (format_Max _ _ _).mono ?_; rintro en w1 ⟨rfl, hB_w1⟩; (obtain ⟨hc_w1, hf_w1⟩ := bcell hB_w1; have hz_w1 := hB_w1.size; (try simp only [World.size_alloc, World.size_setCell, World.size_drew] at hz_w1 hc_w1 hf_w1); have k0_w1 := fun o => hc_w1 (w.heap.size) o (by omega); have l0_w1 := fun o => hf_w1 (w.heap.size) o (by omega); have z_w1 : w.heap.size < w1.heap.size ∧ w.heap.size ≤ w1.heap.size ∧ w.heap.size ≤ w1.heap.size + 1 ∧ w.heap.size ≤ w1.heap.size + 1 + 1 := (by omega); clear hc_w1 hf_w1; have hW_w1 : Below w.heap.size w w1 := below_after (by go_grown) hB_w1))
  go_wp2_with fail
  refine bodyPost_ret (by simp [results, Tryz.results138, go_sem, k0_w1, z_w1]; try rfl) rfl ?_
  exact ⟨rfl, by go_grown⟩
theorem over_inf (f : Int) (neg : Bool) [hU : U8 f] (bf bg : Nat) (w : World) [Laid w] (cf : w.cell? ⟨bf, 0, none⟩ = some (.int .u8 f)) (cg : w.cell? ⟨bg, 0, none⟩ = some (.bool neg)) (sf : bf < w.heap.size) (sg : bg < w.heap.size) :
    Calls Tryz.prog 140 #[.pointer (some ⟨bf, 0, none⟩), .pointer (some ⟨bg, 0, none⟩)] w fun en w' => en = .returned (.agg #[.int .u64 (hi (makeF f neg (2 * emaxS f + 1) 0)), .int .u64 (lo (makeF f neg (2 * emaxS f + 1) 0))]) ∧ Below w.heap.size w w' := by
  have nn : bf ≠ w.heap.size ∧ w.heap.size ≠ bf ∧ bg ≠ w.heap.size ∧ w.heap.size ≠ bg := by omega
  go_enter Tryz.func140, Tryz.ntmps140
  (go_wp2_with fail; refine (format_Inf _ _ _).mono ?_; rintro en w1 ⟨rfl, hB_w1⟩; (obtain ⟨hc_w1, hf_w1⟩ := bcell hB_w1; have hz_w1 := hB_w1.size; (try simp only [World.size_alloc, World.size_setCell, World.size_drew] at hz_w1 hc_w1 hf_w1); have k0_w1 := fun o => hc_w1 (w.heap.size) o (by omega); have l0_w1 := fun o => hf_w1 (w.heap.size) o (by omega); have z_w1 : w.heap.size < w1.heap.size ∧ w.heap.size ≤ w1.heap.size ∧ w.heap.size ≤ w1.heap.size + 1 ∧ w.heap.size ≤ w1.heap.size + 1 + 1 := (by omega); clear hc_w1 hf_w1; have hW_w1 : Below w.heap.size w w1 := below_after (by go_grown) hB_w1))
  go_wp2_with fail
  refine bodyPost_ret (by simp [results, Tryz.results140, go_sem, k0_w1, z_w1]; try rfl) rfl ?_
  exact ⟨rfl, by go_grown⟩
end Go.Proofs.YtkpjeceofcfnkaaGreatDoor

namespace Go.Proofs.YtkpjeceofcfnkaaGreatDoor
open Go.RowKit Go.Hb
/-- What is too great: the greatest number, or the infinity. -/
def overB (f m : Int) (neg : Bool) : Nat := if nextS m neg true 3 then makeF f neg (2 * emaxS f + 1) 0 else makeF f neg (2 * emaxS f) (cat 18446744073709551615 18446744073709551615)
theorem ret_over {a b c d x : Int} (h : a = c ∧ b = d) : Ending.returned (.agg #[.int .u64 a, .int .u64 b, .int .u8 x]) = Ending.returned (.agg #[.int .u64 c, .int .u64 d, .int .u8 x]) := by rw [h.1, h.2]
theorem over_Over (f m : Int) (neg : Bool) [hU : U8 f] (w : World) [Laid w] (hf : f < 4) (m0 : 0 ≤ m) (m1 : m ≤ 4) :
    Calls Tryz.prog 120 #[.int .u8 f, .int .u8 m, .bool neg] w fun en w' => en = .returned (.agg #[.int .u64 (hi (overB f m neg)), .int .u64 (lo (overB f m neg)), .int .u8 20]) ∧ Below w.heap.size w w' := by
  go_enter Tryz.func120, Tryz.ntmps120
  go_wp2_with (first | (go_at_call 27; refine (format_Known _ _).mono ?_; rintro en w' ⟨rfl, rfl⟩) | (go_at_call 28; refine (mode_Known _ _).mono ?_; rintro e w' ⟨rfl, rfl⟩))
  refine (mode_Infinite _ _ _ m0).mono ?_
  rintro en w1 ⟨rfl, hB_w1⟩
  have lay_w1 := laid_after hB_w1
  (obtain ⟨hc_w1, hf_w1⟩ := bcell hB_w1; have hz_w1 := hB_w1.size; (try simp only [World.size_alloc, World.size_setCell, World.size_drew] at hz_w1 hc_w1 hf_w1); have k0_w1 := fun o => hc_w1 (w.heap.size) o (by omega); have l0_w1 := fun o => hf_w1 (w.heap.size) o (by omega); have k1_w1 := fun o => hc_w1 (w.heap.size + 1) o (by omega); have l1_w1 := fun o => hf_w1 (w.heap.size + 1) o (by omega); have k2_w1 := fun o => hc_w1 (w.heap.size + 1 + 1) o (by omega); have l2_w1 := fun o => hf_w1 (w.heap.size + 1 + 1) o (by omega); have k3_w1 := fun o => hc_w1 (w.heap.size + 1 + 1 + 1) o (by omega); have l3_w1 := fun o => hf_w1 (w.heap.size + 1 + 1 + 1) o (by omega); have z_w1 : w.heap.size < w1.heap.size ∧ w.heap.size ≤ w1.heap.size ∧ w.heap.size ≤ w1.heap.size + 1 ∧ w.heap.size ≤ w1.heap.size + 1 + 1 ∧ w.heap.size + 1 < w1.heap.size ∧ w.heap.size + 1 ≤ w1.heap.size ∧ w.heap.size + 1 ≤ w1.heap.size + 1 ∧ w.heap.size + 1 ≤ w1.heap.size + 1 + 1 ∧ w.heap.size + 1 + 1 < w1.heap.size ∧ w.heap.size + 1 + 1 ≤ w1.heap.size ∧ w.heap.size + 1 + 1 ≤ w1.heap.size + 1 ∧ w.heap.size + 1 + 1 ≤ w1.heap.size + 1 + 1 ∧ w.heap.size + 1 + 1 + 1 < w1.heap.size ∧ w.heap.size + 1 + 1 + 1 ≤ w1.heap.size ∧ w.heap.size + 1 + 1 + 1 ≤ w1.heap.size + 1 ∧ w.heap.size + 1 + 1 + 1 ≤ w1.heap.size + 1 + 1 := (by omega); clear hc_w1 hf_w1; have n_w1 : w.heap.size ≠ w1.heap.size ∧ w1.heap.size ≠ w.heap.size ∧ w.heap.size ≠ w1.heap.size + 1 ∧ w1.heap.size + 1 ≠ w.heap.size ∧ w.heap.size + 1 ≠ w1.heap.size ∧ w1.heap.size ≠ w.heap.size + 1 ∧ w.heap.size + 1 ≠ w1.heap.size + 1 ∧ w1.heap.size + 1 ≠ w.heap.size + 1 ∧ w.heap.size + 1 + 1 ≠ w1.heap.size ∧ w1.heap.size ≠ w.heap.size + 1 + 1 ∧ w.heap.size + 1 + 1 ≠ w1.heap.size + 1 ∧ w1.heap.size + 1 ≠ w.heap.size + 1 + 1 ∧ w.heap.size + 1 + 1 + 1 ≠ w1.heap.size ∧ w1.heap.size ≠ w.heap.size + 1 + 1 + 1 ∧ w.heap.size + 1 + 1 + 1 ≠ w1.heap.size + 1 ∧ w1.heap.size + 1 ≠ w.heap.size + 1 + 1 + 1 := (by omega); have hW_w1 : Below w.heap.size w w1 := below_after (by go_grown) hB_w1)
  cases hn : nextS m neg true 3
  · have hcut : overB f m neg = makeF f neg (2 * emaxS f) (cat 18446744073709551615 18446744073709551615) := by unfold overB; rw [if_neg (by rw [hn]; decide)]
    go_wp2_with fail
    refine (over_max f neg _ _ w1 (by rw [k0_w1]; go_simp) (by rw [k1_w1]; go_simp) (by omega) (by omega)).mono ?_
    rintro en w2 ⟨rfl, hB_w2⟩
    (obtain ⟨hc_w2, hf_w2⟩ := bcell hB_w2; have hz_w2 := hB_w2.size; (try simp only [World.size_alloc, World.size_setCell, World.size_drew] at hz_w2 hc_w2 hf_w2); have k0_w2 := fun o => hc_w2 (w.heap.size) o (by omega); have l0_w2 := fun o => hf_w2 (w.heap.size) o (by omega); have k1_w2 := fun o => hc_w2 (w.heap.size + 1) o (by omega); have l1_w2 := fun o => hf_w2 (w.heap.size + 1) o (by omega); have k2_w2 := fun o => hc_w2 (w.heap.size + 1 + 1) o (by omega); have l2_w2 := fun o => hf_w2 (w.heap.size + 1 + 1) o (by omega); have k3_w2 := fun o => hc_w2 (w.heap.size + 1 + 1 + 1) o (by omega); have l3_w2 := fun o => hf_w2 (w.heap.size + 1 + 1 + 1) o (by omega); have z_w2 : w.heap.size < w2.heap.size ∧ w.heap.size ≤ w2.heap.size ∧ w.heap.size ≤ w2.heap.size + 1 ∧ w.heap.size ≤ w2.heap.size + 1 + 1 ∧ w.heap.size + 1 < w2.heap.size ∧ w.heap.size + 1 ≤ w2.heap.size ∧ w.heap.size + 1 ≤ w2.heap.size + 1 ∧ w.heap.size + 1 ≤ w2.heap.size + 1 + 1 ∧ w.heap.size + 1 + 1 < w2.heap.size ∧ w.heap.size + 1 + 1 ≤ w2.heap.size ∧ w.heap.size + 1 + 1 ≤ w2.heap.size + 1 ∧ w.heap.size + 1 + 1 ≤ w2.heap.size + 1 + 1 ∧ w.heap.size + 1 + 1 + 1 < w2.heap.size ∧ w.heap.size + 1 + 1 + 1 ≤ w2.heap.size ∧ w.heap.size + 1 + 1 + 1 ≤ w2.heap.size + 1 ∧ w.heap.size + 1 + 1 + 1 ≤ w2.heap.size + 1 + 1 := (by omega); clear hc_w2 hf_w2; have hW_w2 : Below w.heap.size w w2 := below_after (by go_grown) hB_w2)
    go_wp2_with fail
    refine bodyPost_ret (by simp [results, Tryz.results120, go_sem, k2_w2, k2_w1, z_w2, z_w1]; try rfl) rfl ?_
    refine ⟨ret_over ⟨?_, ?_⟩, by go_grown⟩
    · rw [hcut]
    · rw [hcut]
  · have hcut : overB f m neg = makeF f neg (2 * emaxS f + 1) 0 := by unfold overB; rw [if_pos hn]
    go_wp2_with fail
    refine (over_inf f neg _ _ w1 (by rw [k0_w1]; go_simp) (by rw [k1_w1]; go_simp) (by omega) (by omega)).mono ?_
    rintro en w2 ⟨rfl, hB_w2⟩
    (obtain ⟨hc_w2, hf_w2⟩ := bcell hB_w2; have hz_w2 := hB_w2.size; (try simp only [World.size_alloc, World.size_setCell, World.size_drew] at hz_w2 hc_w2 hf_w2); have k0_w2 := fun o => hc_w2 (w.heap.size) o (by omega); have l0_w2 := fun o => hf_w2 (w.heap.size) o (by omega); have k1_w2 := fun o => hc_w2 (w.heap.size + 1) o (by omega); have l1_w2 := fun o => hf_w2 (w.heap.size + 1) o (by omega); have k2_w2 := fun o => hc_w2 (w.heap.size + 1 + 1) o (by omega); have l2_w2 := fun o => hf_w2 (w.heap.size + 1 + 1) o (by omega); have k3_w2 := fun o => hc_w2 (w.heap.size + 1 + 1 + 1) o (by omega); have l3_w2 := fun o => hf_w2 (w.heap.size + 1 + 1 + 1) o (by omega); have z_w2 : w.heap.size < w2.heap.size ∧ w.heap.size ≤ w2.heap.size ∧ w.heap.size ≤ w2.heap.size + 1 ∧ w.heap.size ≤ w2.heap.size + 1 + 1 ∧ w.heap.size + 1 < w2.heap.size ∧ w.heap.size + 1 ≤ w2.heap.size ∧ w.heap.size + 1 ≤ w2.heap.size + 1 ∧ w.heap.size + 1 ≤ w2.heap.size + 1 + 1 ∧ w.heap.size + 1 + 1 < w2.heap.size ∧ w.heap.size + 1 + 1 ≤ w2.heap.size ∧ w.heap.size + 1 + 1 ≤ w2.heap.size + 1 ∧ w.heap.size + 1 + 1 ≤ w2.heap.size + 1 + 1 ∧ w.heap.size + 1 + 1 + 1 < w2.heap.size ∧ w.heap.size + 1 + 1 + 1 ≤ w2.heap.size ∧ w.heap.size + 1 + 1 + 1 ≤ w2.heap.size + 1 ∧ w.heap.size + 1 + 1 + 1 ≤ w2.heap.size + 1 + 1 := (by omega); clear hc_w2 hf_w2; have hW_w2 : Below w.heap.size w w2 := below_after (by go_grown) hB_w2)
    go_wp2_with fail
    refine bodyPost_ret (by simp [results, Tryz.results120, go_sem, k2_w2, k2_w1, z_w2, z_w1]; try rfl) rfl ?_
    refine ⟨ret_over ⟨?_, ?_⟩, by go_grown⟩
    · rw [hcut]
    · rw [hcut]
end Go.Proofs.YtkpjeceofcfnkaaGreatDoor

namespace Go.Proofs.YtkpjeceofcfnkaaGreatDoor
open Go.RowKit Go.Hb
def overO (f m : Int) (neg : Bool) : Nat := if f < 4 ∧ m ≤ 4 then overB f m neg else 0
def overFl (f m : Int) : Int := if f < 4 ∧ m ≤ 4 then 20 else 0
theorem over_all (f m : Int) (neg : Bool) [hU : U8 f] [hM : U8 m] (w : World) [Laid w] :
    Calls Tryz.prog 120 #[.int .u8 f, .int .u8 m, .bool neg] w fun en w' => en = .returned (.agg #[.int .u64 (hi (overO f m neg)), .int .u64 (lo (overO f m neg)), .int .u8 (overFl f m)]) ∧ Below w.heap.size w w' := by
  by_cases hk : f < 4 ∧ m ≤ 4
  · have h1 : overO f m neg = overB f m neg := by unfold overO; rw [if_pos hk]
    have h2 : overFl f m = 20 := by unfold overFl; rw [if_pos hk]
    rw [h1, h2]
    exact over_Over f m neg w hk.1 hM.ge hk.2
  · have h1 : overO f m neg = 0 := by unfold overO; rw [if_neg hk]
    have h2 : overFl f m = 0 := by unfold overFl; rw [if_neg hk]
    have h3 : hi 0 = 0 := rfl
    have h4 : lo 0 = 0 := rfl
    rw [h1, h2, h3, h4]
    by_cases hf : f < 4
    · have hfd : decide (f < 4) = true := by simpa using hf
      have hmd : decide (m ≤ 4) = false := by simp; omega
      go_enter Tryz.func120, Tryz.ntmps120
      go_wp2_with (first | (go_at_call 27; refine (format_Known _ _).mono ?_; rintro en w' ⟨rfl, rfl⟩) | (go_at_call 28; refine (mode_Known _ _).mono ?_; rintro e w' ⟨rfl, rfl⟩))
      refine bodyPost_ret (by simp [results, Tryz.results120, go_sem]; try rfl) rfl ?_
      exact ⟨rfl, by go_grown⟩
    · have hfd : decide (f < 4) = false := by simpa using hf
      go_enter Tryz.func120, Tryz.ntmps120
      go_wp2_with (first | (go_at_call 27; refine (format_Known _ _).mono ?_; rintro en w' ⟨rfl, rfl⟩) | (go_at_call 28; refine (mode_Known _ _).mono ?_; rintro e w' ⟨rfl, rfl⟩))
      refine bodyPost_ret (by simp [results, Tryz.results120, go_sem]; try rfl) rfl ?_
      exact ⟨rfl, by go_grown⟩
def beyondS (f e : Int) : Bool := decide (f < 4) && decide (emaxS f < e)
theorem over_Beyond_all (f e : Int) [hU : U8 f] (w : World) [Laid w] :
    Calls Tryz.prog 119 #[.int .u8 f, .int .i64 e] w fun en w' => en = .returned (.bool (beyondS f e)) ∧ Below w.heap.size w w' := by
  by_cases hf : f < 4
  · have h : beyondS f e = decide (emaxS f < e) := by unfold beyondS; rw [decide_eq_true hf]; rfl
    rw [h]
    exact over_Beyond f e w hf
  · have h : beyondS f e = false := by unfold beyondS; rw [decide_eq_false hf]; rfl
    have hfd : decide (f < 4) = false := by simpa using hf
    rw [h]
    clear h
    go_enter Tryz.func119, Tryz.ntmps119
    go_wp2_with (go_at_call 27; refine (format_Known _ _).mono ?_; rintro en w' ⟨rfl, rfl⟩)
    go_returns
    exact ⟨rfl, by go_grown⟩
end Go.Proofs.YtkpjeceofcfnkaaGreatDoor
