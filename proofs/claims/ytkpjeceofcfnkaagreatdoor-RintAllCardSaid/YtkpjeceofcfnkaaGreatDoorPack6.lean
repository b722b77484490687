/- The contract of pack.Round where the number is not nought: for every known format and mode. The contracts of pack.Round and pack.Exact: for every input. The contracts of pack.Exact, mode.Mirror: for every input. -/
import Derived.Test.YtkpjeceofcfnkaaGreatDoorPack6b
import Derived.Test.YtkpjeceofcfnkaaGreatDoorPack6c
import Derived.Test.YtkpjeceofcfnkaaGreatDoorRdef
import Derived.Test.YtkpjeceofcfnkaaGreatDoorKit
set_option linter.unusedSimpArgs false
set_option linter.unusedVariables false
namespace Go.Proofs.YtkpjeceofcfnkaaGreatDoor
open Go.RowKit Go.Hb
theorem pack_Round_pos (f m e x0 x1 x2 x3 : Int) (aft neg : Bool) [hU : U8 f] [U64 x0] [U64 x1] [U64 x2] [U64 x3] (w : World) [Laid w] (hf : f < 4) (m0 : 0 ≤ m) (m1 : m ≤ 4) (hz : ¬ cat4 x0 x1 x2 x3 = 0) :
    Calls Tryz.prog 79 #[.int .u8 f, .agg #[.int .u8 m, .bool aft], .bool neg, .int .i64 e, .agg #[.int .u64 (x0), .int .u64 (x1), .int .u64 (x2), .int .u64 (x3)]] w fun en w' => en = .returned (.agg #[.int .u64 (hi (roundB f m neg e (cat4 x0 x1 x2 x3))), .int .u64 (lo (roundB f m neg e (cat4 x0 x1 x2 x3))), .int .u8 (roundFl f m aft neg e (cat4 x0 x1 x2 x3))]) ∧ Below w.heap.size w w' := by
  by_cases hbey : emaxS f < eS f m neg e (cat4 x0 x1 x2 x3)
  · exact pack_Round_over f m e x0 x1 x2 x3 aft neg w hf m0 m1 hz hbey
  · by_cases hl : nE e (cat4 x0 x1 x2 x3) < leastS f
    · exact pack_Round_less f m e x0 x1 x2 x3 aft neg w hf m0 m1 hz hbey hl
    · exact pack_Round_top f m e x0 x1 x2 x3 aft neg w hf m0 m1 hz hbey hl
end Go.Proofs.YtkpjeceofcfnkaaGreatDoor

namespace Go.Proofs.YtkpjeceofcfnkaaGreatDoor
open Go.RowKit Go.Hb
theorem pack_Round_none (f m e x0 x1 x2 x3 : Int) (aft neg : Bool) [hU : U8 f] (w : World) (hk : ¬ (f < 4 ∧ m ≤ 4)) :
    Calls Tryz.prog 79 #[.int .u8 f, .agg #[.int .u8 m, .bool aft], .bool neg, .int .i64 e, .agg #[.int .u64 (x0), .int .u64 (x1), .int .u64 (x2), .int .u64 (x3)]] w fun en w' => en = .returned (.agg #[.int .u64 0, .int .u64 0, .int .u8 0]) ∧ Below w.heap.size w w' := by
  by_cases hf : f < 4
  · have hfd : decide (f < 4) = true := by simpa using hf
    have hmd : decide (m ≤ 4) = false := by simp; omega
    go_enter Tryz.func79, Tryz.ntmps79
    go_wp2_with (first | (go_at_call 27; refine (format_Known _ _).mono ?_; rintro en w' ⟨rfl, rfl⟩) | (go_at_call 28; refine (mode_Known _ _).mono ?_; rintro e w' ⟨rfl, rfl⟩))
    refine bodyPost_ret (by simp [results, Tryz.results79, go_sem]; try rfl) rfl ?_
    exact ⟨rfl, by go_grown⟩
  · have hfd : decide (f < 4) = false := by simpa using hf
    go_enter Tryz.func79, Tryz.ntmps79
    go_wp2_with (first | (go_at_call 27; refine (format_Known _ _).mono ?_; rintro en w' ⟨rfl, rfl⟩) | (go_at_call 28; refine (mode_Known _ _).mono ?_; rintro e w' ⟨rfl, rfl⟩))
    refine bodyPost_ret (by simp [results, Tryz.results79, go_sem]; try rfl) rfl ?_
    exact ⟨rfl, by go_grown⟩
theorem pack_Round (f m e x0 x1 x2 x3 : Int) (aft neg : Bool) [hU : U8 f] [hM : U8 m] [U64 x0] [U64 x1] [U64 x2] [U64 x3] (w : World) [Laid w] :
    Calls Tryz.prog 79 #[.int .u8 f, .agg #[.int .u8 m, .bool aft], .bool neg, .int .i64 e, .agg #[.int .u64 (x0), .int .u64 (x1), .int .u64 (x2), .int .u64 (x3)]] w fun en w' => en = .returned (.agg #[.int .u64 (hi (resB f m neg e (cat4 x0 x1 x2 x3))), .int .u64 (lo (resB f m neg e (cat4 x0 x1 x2 x3))), .int .u8 (resFl f m aft neg e (cat4 x0 x1 x2 x3))]) ∧ Below w.heap.size w w' := by
  by_cases hk : f < 4 ∧ m ≤ 4
  · by_cases hz : cat4 x0 x1 x2 x3 = 0
    · have h1 : resB f m neg e (cat4 x0 x1 x2 x3) = makeF f neg 0 0 := by unfold resB; rw [if_pos hk, if_pos hz]
      have h2 : resFl f m aft neg e (cat4 x0 x1 x2 x3) = 0 := by unfold resFl; rw [if_pos hk, if_pos hz]
      rw [h1, h2]
      exact pack_Round_zero f m e x0 x1 x2 x3 aft neg w hk.1 hM.ge hk.2 hz
    · have h1 : resB f m neg e (cat4 x0 x1 x2 x3) = roundB f m neg e (cat4 x0 x1 x2 x3) := by unfold resB; rw [if_pos hk, if_neg hz]
      have h2 : resFl f m aft neg e (cat4 x0 x1 x2 x3) = roundFl f m aft neg e (cat4 x0 x1 x2 x3) := by unfold resFl; rw [if_pos hk, if_neg hz]
      rw [h1, h2]
      exact pack_Round_pos f m e x0 x1 x2 x3 aft neg w hk.1 hM.ge hk.2 hz
  · have h1 : resB f m neg e (cat4 x0 x1 x2 x3) = 0 := by unfold resB; rw [if_neg hk]
    have h2 : resFl f m aft neg e (cat4 x0 x1 x2 x3) = 0 := by unfold resFl; rw [if_neg hk]
    rw [h1, h2]
    exact pack_Round_none f m e x0 x1 x2 x3 aft neg w hk
end Go.Proofs.YtkpjeceofcfnkaaGreatDoor

namespace Go.Proofs.YtkpjeceofcfnkaaGreatDoor
open Go.RowKit Go.Hb
def exB (f : Int) (neg : Bool) (e : Int) (v : Nat) : Nat := if f < 4 ∧ resFl f 4 false neg e v = 0 then resB f 4 neg e v else 0
def exOk (f : Int) (neg : Bool) (e : Int) (v : Nat) : Bool := decide (f < 4) && (resFl f 4 false neg e v == 0)
theorem pack_Exact (f e x0 x1 x2 x3 : Int) (neg : Bool) [hU : U8 f] [U64 x0] [U64 x1] [U64 x2] [U64 x3] (w : World) [Laid w] :
    Calls Tryz.prog 34 #[.int .u8 f, .bool neg, .int .i64 e, .agg #[.int .u64 (x0), .int .u64 (x1), .int .u64 (x2), .int .u64 (x3)]] w fun en w' => en = .returned (.tuple #[.agg #[.int .u64 (hi (exB f neg e (cat4 x0 x1 x2 x3))), .int .u64 (lo (exB f neg e (cat4 x0 x1 x2 x3)))], .bool (exOk f neg e (cat4 x0 x1 x2 x3))]) ∧ Below w.heap.size w w' := by
  have h0 : hi 0 = 0 := rfl
  have h1 : lo 0 = 0 := rfl
  by_cases hk : f < 4 ∧ resFl f 4 false neg e (cat4 x0 x1 x2 x3) = 0
  · obtain ⟨hf, hz⟩ := hk
    have hfd : decide (f < 4) = true := decide_eq_true hf
    have hb : exB f neg e (cat4 x0 x1 x2 x3) = resB f 4 neg e (cat4 x0 x1 x2 x3) := by unfold exB; rw [if_pos ⟨hf, hz⟩]
    have ho : exOk f neg e (cat4 x0 x1 x2 x3) = true := by unfold exOk; rw [hfd, hz]; rfl
    rw [hb, ho]
    clear hb ho
    go_enter Tryz.func34, Tryz.ntmps34
    go_wp2_with fail
    refine (pack_Round _ _ _ _ _ _ _ _ _ _).mono ?_
    rw [hz]
    rintro en v1 ⟨rfl, hB_v1⟩
    (obtain ⟨hc_v1, hf_v1⟩ := bcell hB_v1; have hz_v1 := hB_v1.size; (try simp only [World.size_alloc, World.size_setCell, World.size_drew] at hz_v1 hc_v1 hf_v1); have k0_v1 := fun o => hc_v1 (w.heap.size) o (by omega); have l0_v1 := fun o => hf_v1 (w.heap.size) o (by omega); have k1_v1 := fun o => hc_v1 (w.heap.size + 1) o (by omega); have l1_v1 := fun o => hf_v1 (w.heap.size + 1) o (by omega); have z_v1 : w.heap.size < v1.heap.size ∧ w.heap.size ≤ v1.heap.size ∧ w.heap.size ≤ v1.heap.size + 1 ∧ w.heap.size ≤ v1.heap.size + 1 + 1 ∧ w.heap.size + 1 < v1.heap.size ∧ w.heap.size + 1 ≤ v1.heap.size ∧ w.heap.size + 1 ≤ v1.heap.size + 1 ∧ w.heap.size + 1 ≤ v1.heap.size + 1 + 1 := (by omega); clear hc_v1 hf_v1; have n_v1 : w.heap.size ≠ v1.heap.size ∧ v1.heap.size ≠ w.heap.size ∧ w.heap.size ≠ v1.heap.size + 1 ∧ v1.heap.size + 1 ≠ w.heap.size ∧ w.heap.size + 1 ≠ v1.heap.size ∧ v1.heap.size ≠ w.heap.size + 1 ∧ w.heap.size + 1 ≠ v1.heap.size + 1 ∧ v1.heap.size + 1 ≠ w.heap.size + 1 := (by omega); have hW_v1 : Below w.heap.size w v1 := below_after (by go_grown) hB_v1)
    go_wp2_with (go_at_call 27; refine (format_Known _ _).mono ?_; rintro en w' ⟨rfl, rfl⟩)
    refine bodyPost_ret (by simp [results, Tryz.results34, go_sem, k1_v1, z_v1, n_v1]; try rfl) rfl ?_
    exact ⟨rfl, by go_grown⟩
  · have hb : exB f neg e (cat4 x0 x1 x2 x3) = 0 := by unfold exB; rw [if_neg hk]
    have ho : exOk f neg e (cat4 x0 x1 x2 x3) = false := by
      unfold exOk
      by_cases hf : f < 4
      · rw [decide_eq_true hf, Bool.true_and, beq_eq_false_iff_ne]
        exact fun h => hk ⟨hf, h⟩
      · rw [decide_eq_false hf]; rfl
    rw [hb, ho, h0, h1]
    clear hb ho
    by_cases hf : f < 4
    · have hfd : decide (f < 4) = true := decide_eq_true hf
      have hz : (resFl f 4 false neg e (cat4 x0 x1 x2 x3) == 0) = false := by
        rw [beq_eq_false_iff_ne]
        exact fun h => hk ⟨hf, h⟩
      clear hk
      go_enter Tryz.func34, Tryz.ntmps34
      go_wp2_with fail
      refine (pack_Round _ _ _ _ _ _ _ _ _ _).mono ?_
      rintro en v1 ⟨rfl, hB_v1⟩
      (obtain ⟨hc_v1, hf_v1⟩ := bcell hB_v1; have hz_v1 := hB_v1.size; (try simp only [World.size_alloc, World.size_setCell, World.size_drew] at hz_v1 hc_v1 hf_v1); have k0_v1 := fun o => hc_v1 (w.heap.size) o (by omega); have l0_v1 := fun o => hf_v1 (w.heap.size) o (by omega); have k1_v1 := fun o => hc_v1 (w.heap.size + 1) o (by omega); have l1_v1 := fun o => hf_v1 (w.heap.size + 1) o (by omega); have z_v1 : w.heap.size < v1.heap.size ∧ w.heap.size ≤ v1.heap.size ∧ w.heap.size ≤ v1.heap.size + 1 ∧ w.heap.size ≤ v1.heap.size + 1 + 1 ∧ w.heap.size + 1 < v1.heap.size ∧ w.heap.size + 1 ≤ v1.heap.size ∧ w.heap.size + 1 ≤ v1.heap.size + 1 ∧ w.heap.size + 1 ≤ v1.heap.size + 1 + 1 := (by omega); clear hc_v1 hf_v1; have n_v1 : w.heap.size ≠ v1.heap.size ∧ v1.heap.size ≠ w.heap.size ∧ w.heap.size ≠ v1.heap.size + 1 ∧ v1.heap.size + 1 ≠ w.heap.size ∧ w.heap.size + 1 ≠ v1.heap.size ∧ v1.heap.size ≠ w.heap.size + 1 ∧ w.heap.size + 1 ≠ v1.heap.size + 1 ∧ v1.heap.size + 1 ≠ w.heap.size + 1 := (by omega); have hW_v1 : Below w.heap.size w v1 := below_after (by go_grown) hB_v1)
      go_wp2_with (go_at_call 27; refine (format_Known _ _).mono ?_; rintro en w' ⟨rfl, rfl⟩)
      refine bodyPost_ret (by simp [results, Tryz.results34, go_sem, k1_v1, z_v1, n_v1]; try rfl) rfl ?_
      exact ⟨rfl, by go_grown⟩
    · have hfd : decide (f < 4) = false := decide_eq_false hf
      clear hk
      go_enter Tryz.func34, Tryz.ntmps34
      go_wp2_with fail
      refine (pack_Round _ _ _ _ _ _ _ _ _ _).mono ?_
      rintro en v1 ⟨rfl, hB_v1⟩
      (obtain ⟨hc_v1, hf_v1⟩ := bcell hB_v1; have hz_v1 := hB_v1.size; (try simp only [World.size_alloc, World.size_setCell, World.size_drew] at hz_v1 hc_v1 hf_v1); have k0_v1 := fun o => hc_v1 (w.heap.size) o (by omega); have l0_v1 := fun o => hf_v1 (w.heap.size) o (by omega); have k1_v1 := fun o => hc_v1 (w.heap.size + 1) o (by omega); have l1_v1 := fun o => hf_v1 (w.heap.size + 1) o (by omega); have z_v1 : w.heap.size < v1.heap.size ∧ w.heap.size ≤ v1.heap.size ∧ w.heap.size ≤ v1.heap.size + 1 ∧ w.heap.size ≤ v1.heap.size + 1 + 1 ∧ w.heap.size + 1 < v1.heap.size ∧ w.heap.size + 1 ≤ v1.heap.size ∧ w.heap.size + 1 ≤ v1.heap.size + 1 ∧ w.heap.size + 1 ≤ v1.heap.size + 1 + 1 := (by omega); clear hc_v1 hf_v1; have n_v1 : w.heap.size ≠ v1.heap.size ∧ v1.heap.size ≠ w.heap.size ∧ w.heap.size ≠ v1.heap.size + 1 ∧ v1.heap.size + 1 ≠ w.heap.size ∧ w.heap.size + 1 ≠ v1.heap.size ∧ v1.heap.size ≠ w.heap.size + 1 ∧ w.heap.size + 1 ≠ v1.heap.size + 1 ∧ v1.heap.size + 1 ≠ w.heap.size + 1 := (by omega); have hW_v1 : Below w.heap.size w v1 := below_after (by go_grown) hB_v1)
      go_wp2_with (go_at_call 27; refine (format_Known _ _).mono ?_; rintro en w' ⟨rfl, rfl⟩)
      refine bodyPost_ret (by simp [results, Tryz.results34, go_sem, k1_v1, z_v1, n_v1]; try rfl) rfl ?_
      exact ⟨rfl, by go_grown⟩
end Go.Proofs.YtkpjeceofcfnkaaGreatDoor
