/- The contracts of pack.Round and pack.Exact: for every input. -/
import Derived.Test.YtgdbdbjegiaifaaDoorPack6
import Derived.Test.YtgdbdbjegiaifaaDoorResdef
set_option linter.unusedSimpArgs false
set_option linter.unusedVariables false
namespace Go.Proofs.YtgdbdbjegiaifaaDoor
open Go.RowKit Go.Hb
theorem pack_Round_none (f m e x0 x1 x2 x3 : Int) (aft neg : Bool) [hU : U8 f] (w : World) (hk : ¬ (f < 4 ∧ m ≤ 4)) :
    Calls Tryd.prog 12 #[.int .u8 f, .agg #[.int .u8 m, .bool aft], .bool neg, .int .i64 e, .agg #[.int .u64 (x0), .int .u64 (x1), .int .u64 (x2), .int .u64 (x3)]] w fun en w' => en = .returned (.agg #[.int .u64 0, .int .u64 0, .int .u8 0]) ∧ Below w.heap.size w w' := by
  by_cases hf : f < 4
  · have hfd : decide (f < 4) = true := by simpa using hf
    have hmd : decide (m ≤ 4) = false := by simp; omega
    go_enter Tryd.func12, Tryd.ntmps12
    go_wp2_with (first | (go_at_call 16; refine (format_Known _ _).mono ?_; rintro en w' ⟨rfl, rfl⟩) | (go_at_call 23; refine (mode_Known _ _).mono ?_; rintro e w' ⟨rfl, rfl⟩))
    refine bodyPost_ret (by simp [results, Tryd.results12, go_sem]; try rfl) rfl ?_
    exact ⟨rfl, by go_grown⟩
  · have hfd : decide (f < 4) = false := by simpa using hf
    go_enter Tryd.func12, Tryd.ntmps12
    go_wp2_with (first | (go_at_call 16; refine (format_Known _ _).mono ?_; rintro en w' ⟨rfl, rfl⟩) | (go_at_call 23; refine (mode_Known _ _).mono ?_; rintro e w' ⟨rfl, rfl⟩))
    refine bodyPost_ret (by simp [results, Tryd.results12, go_sem]; try rfl) rfl ?_
    exact ⟨rfl, by go_grown⟩
theorem pack_Round (f m e x0 x1 x2 x3 : Int) (aft neg : Bool) [hU : U8 f] [hM : U8 m] [U64 x0] [U64 x1] [U64 x2] [U64 x3] (w : World) [Laid w] :
    Calls Tryd.prog 12 #[.int .u8 f, .agg #[.int .u8 m, .bool aft], .bool neg, .int .i64 e, .agg #[.int .u64 (x0), .int .u64 (x1), .int .u64 (x2), .int .u64 (x3)]] w fun en w' => en = .returned (.agg #[.int .u64 (hi (resB f m neg e (cat4 x0 x1 x2 x3))), .int .u64 (lo (resB f m neg e (cat4 x0 x1 x2 x3))), .int .u8 (resFl f m aft neg e (cat4 x0 x1 x2 x3))]) ∧ Below w.heap.size w w' := by
  by_cases hk : f < 4 ∧ m ≤ 4
  · by_cases hz : cat4 x0 x1 x2 x3 = 0
    · have h1 : resB f m neg e (cat4 x0 x1 x2 x3) = makeF f neg 0 0 := by unfold resB; rw [if_pos hk, if_pos hz]
      have h2 : resFl f m aft neg e (cat4 x0 x1 x2 x3) = 0 := by unfold resFl; rw [if_pos hk, if_pos hz]
      rw [h1, h2]
      exact pack_Round_zero f m e x0 x1 x2 x3 aft neg w hk.1 hM.ge hk.2 hz
    · have h1 : resB f m neg e (cat4 x0 x1 x2 x3) = roundB f m neg e (cat4 x0 x1 x2 x3) := by unfold resB; rw [if_pos hk, if_neg hz]
      have h2 : resFl f m aft neg e (cat4 x0 x1 x2 x3) = roundFl f m aft neg e (cat4 x0 x1 x2 x3) := by unfold resFl; rw [if_pos hk, if_neg hz]
      rw [h1, h2]
      exact pack_Round_pos f m e x0 x1 x2 x3 aft neg w hk.1 hM.ge hk.2 hz
  · have h1 : resB f m neg e (cat4 x0 x1 x2 x3) = 0 := by unfold resB; rw [if_neg hk]
    have h2 : resFl f m aft neg e (cat4 x0 x1 x2 x3) = 0 := by unfold resFl; rw [if_neg hk]
    rw [h1, h2]
    exact pack_Round_none f m e x0 x1 x2 x3 aft neg w hk
end Go.Proofs.YtgdbdbjegiaifaaDoor
