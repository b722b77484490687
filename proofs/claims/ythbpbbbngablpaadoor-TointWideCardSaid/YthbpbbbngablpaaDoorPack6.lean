/- The contract of pack.Round where the number is not nought: for every known format and mode. The contracts of pack.Round and pack.Exact: for every input. The contracts of pack.Exact, mode.Mirror: for every input. -/
import Derived.Test.YthbpbbbngablpaaDoorPack6b
import Derived.Test.YthbpbbbngablpaaDoorPack6c
import Derived.Test.YthbpbbbngablpaaDoorRdef
import Derived.Test.YthbpbbbngablpaaDoorKit
set_option linter.unusedSimpArgs false
set_option linter.unusedVariables false
namespace Go.Proofs.YthbpbbbngablpaaDoor
open Go.RowKit Go.Hb
theorem pack_Round_pos (f m e x0 x1 x2 x3 : Int) (aft neg : Bool) [hU : U8 f] [U64 x0] [U64 x1] [U64 x2] [U64 x3] (w : World) [Laid w] (hf : f < 4) (m0 : 0 ≤ m) (m1 : m ≤ 4) (hz : ¬ cat4 x0 x1 x2 x3 = 0) :
    Calls Tryd.prog 41 #[.int .u8 f, .agg #[.int .u8 m, .bool aft], .bool neg, .int .i64 e, .agg #[.int .u64 (x0), .int .u64 (x1), .int .u64 (x2), .int .u64 (x3)]] w fun en w' => en = .returned (.agg #[.int .u64 (hi (roundB f m neg e (cat4 x0 x1 x2 x3))), .int .u64 (lo (roundB f m neg e (cat4 x0 x1 x2 x3))), .int .u8 (roundFl f m aft neg e (cat4 x0 x1 x2 x3))]) ∧ Below w.heap.size w w' := by
  by_cases hbey : emaxS f < eS f m neg e (cat4 x0 x1 x2 x3)
  · exact pack_Round_over f m e x0 x1 x2 x3 aft neg w hf m0 m1 hz hbey
  · by_cases hl : nE e (cat4 x0 x1 x2 x3) < leastS f
    · exact pack_Round_less f m e x0 x1 x2 x3 aft neg w hf m0 m1 hz hbey hl
    · exact pack_Round_top f m e x0 x1 x2 x3 aft neg w hf m0 m1 hz hbey hl
end Go.Proofs.YthbpbbbngablpaaDoor

namespace Go.Proofs.YthbpbbbngablpaaDoor
open Go.RowKit Go.Hb
theorem pack_Round_none (f m e x0 x1 x2 x3 : Int) (aft neg : Bool) [hU : U8 f] (w : World) (hk : ¬ (f < 4 ∧ m ≤ 4)) :
    Calls Tryd.prog 41 #[.int .u8 f, .agg #[.int .u8 m, .bool aft], .bool neg, .int .i64 e, .agg #[.int .u64 (x0), .int .u64 (x1), .int .u64 (x2), .int .u64 (x3)]] w fun en w' => en = .returned (.agg #[.int .u64 0, .int .u64 0, .int .u8 0]) ∧ Below w.heap.size w w' := by
  by_cases hf : f < 4
  · have hfd : decide (f < 4) = true := by simpa using hf
    have hmd : decide (m ≤ 4) = false := by simp; omega
    go_enter Tryd.func41, Tryd.ntmps41
    go_wp2_with (first | (go_at_call 11; refine (format_Known _ _).mono ?_; rintro en w' ⟨rfl, rfl⟩) | (go_at_call 34; refine (mode_Known _ _).mono ?_; rintro e w' ⟨rfl, rfl⟩))
    refine bodyPost_ret (by simp [results, Tryd.results41, go_sem]; try rfl) rfl ?_
    exact ⟨rfl, by go_grown⟩
  · have hfd : decide (f < 4) = false := by simpa using hf
    go_enter Tryd.func41, Tryd.ntmps41
    go_wp2_with (first | (go_at_call 11; refine (format_Known _ _).mono ?_; rintro en w' ⟨rfl, rfl⟩) | (go_at_call 34; refine (mode_Known _ _).mono ?_; rintro e w' ⟨rfl, rfl⟩))
    refine bodyPost_ret (by simp [results, Tryd.results41, go_sem]; try rfl) rfl ?_
    exact ⟨rfl, by go_grown⟩
theorem pack_Round (f m e x0 x1 x2 x3 : Int) (aft neg : Bool) [hU : U8 f] [hM : U8 m] [U64 x0] [U64 x1] [U64 x2] [U64 x3] (w : World) [Laid w] :
    Calls Tryd.prog 41 #[.int .u8 f, .agg #[.int .u8 m, .bool aft], .bool neg, .int .i64 e, .agg #[.int .u64 (x0), .int .u64 (x1), .int .u64 (x2), .int .u64 (x3)]] w fun en w' => en = .returned (.agg #[.int .u64 (hi (resB f m neg e (cat4 x0 x1 x2 x3))), .int .u64 (lo (resB f m neg e (cat4 x0 x1 x2 x3))), .int .u8 (resFl f m aft neg e (cat4 x0 x1 x2 x3))]) ∧ Below w.heap.size w w' := by
  by_cases hk : f < 4 ∧ m ≤ 4
  · by_cases hz : cat4 x0 x1 x2 x3 = 0
    · have h1 : resB f m neg e (cat4 x0 x1 x2 x3) = makeF f neg 0 0 := by unfold resB; rw [if_pos hk, if_pos hz]
      have h2 : resFl f m aft neg e (cat4 x0 x1 x2 x3) = 0 := by unfold resFl; rw [if_pos hk, if_pos hz]
      rw [h1, h2]
      exact pack_Round_zero f m e x0 x1 x2 x3 aft neg w hk.1 hM.ge hk.2 hz
    · have h1 : resB f m neg e (cat4 x0 x1 x2 x3) = roundB f m neg e (cat4 x0 x1 x2 x3) := by unfold resB; rw [if_pos hk, if_neg hz]
      have h2 : resFl f m aft neg e (cat4 x0 x1 x2 x3) = roundFl f m aft neg e (cat4 x0 x1 x2 x3) := by unfold resFl; rw [if_pos hk, if_neg hz]
      rw [h1, h2]
      exact pack_Round_pos f m e x0 x1 x2 x3 aft neg w hk.1 hM.ge hk.2 hz
  · have h1 : resB f m neg e (cat4 x0 x1 x2 x3) = 0 := by unfold resB; rw [if_neg hk]
    have h2 : resFl f m aft neg e (cat4 x0 x1 x2 x3) = 0 := by unfold resFl; rw [if_neg hk]
    rw [h1, h2]
    exact pack_Round_none f m e x0 x1 x2 x3 aft neg w hk
end Go.Proofs.YthbpbbbngablpaaDoor

namespace Go.Proofs.YthbpbbbngablpaaDoor
open Go.RowKit Go.Hb
def exB (f : Int) (neg : Bool) (e : Int) (v : Nat) : Nat := if f < 4 ∧ resFl f 4 false neg e v = 0 then resB f 4 neg e v else 0
def exOk (f : Int) (neg : Bool) (e : Int) (v : Nat) : Bool := decide (f < 4) && (resFl f 4 false neg e v == 0)
end Go.Proofs.YthbpbbbngablpaaDoor
