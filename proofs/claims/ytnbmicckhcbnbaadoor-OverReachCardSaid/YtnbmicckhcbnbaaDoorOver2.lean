/- The contracts of package over: for every input. -/
import Derived.Test.YtnbmicckhcbnbaaDoorOver
import Derived.Test.YtnbmicckhcbnbaaDoorEqs
set_option linter.unusedSimpArgs false
set_option linter.unusedVariables false
namespace Go.Proofs.YtnbmicckhcbnbaaDoor
open Go.RowKit Go.Hb
def overO (f m : Int) (neg : Bool) : Nat := if f < 4 ∧ m ≤ 4 then overB f m neg else 0
def overFl (f m : Int) : Int := if f < 4 ∧ m ≤ 4 then 20 else 0
theorem over_all (f m : Int) (neg : Bool) [hU : U8 f] [hM : U8 m] (w : World) [Laid w] :
    Calls Tryd.prog 9 #[.int .u8 f, .int .u8 m, .bool neg] w fun en w' => en = .returned (.agg #[.int .u64 (hi (overO f m neg)), .int .u64 (lo (overO f m neg)), .int .u8 (overFl f m)]) ∧ Below w.heap.size w w' := by
  by_cases hk : f < 4 ∧ m ≤ 4
  · have h1 : overO f m neg = overB f m neg := by unfold overO; rw [if_pos hk]
    have h2 : overFl f m = 20 := by unfold overFl; rw [if_pos hk]
    rw [h1, h2]
    exact over_Over f m neg w hk.1 hM.ge hk.2
  · have h1 : overO f m neg = 0 := by unfold overO; rw [if_neg hk]
    have h2 : overFl f m = 0 := by unfold overFl; rw [if_neg hk]
    have h3 : hi 0 = 0 := rfl
    have h4 : lo 0 = 0 := rfl
    rw [h1, h2, h3, h4]
    by_cases hf : f < 4
    · have hfd : decide (f < 4) = true := by simpa using hf
      have hmd : decide (m ≤ 4) = false := by simp; omega
      go_enter Tryd.func9, Tryd.ntmps9
      go_wp2_with (first | (go_at_call 19; refine (format_Known _ _).mono ?_; rintro en w' ⟨rfl, rfl⟩) | (go_at_call 20; refine (mode_Known _ _).mono ?_; rintro e w' ⟨rfl, rfl⟩))
      refine bodyPost_ret (by simp [results, Tryd.results9, go_sem]; try rfl) rfl ?_
      exact ⟨rfl, by go_grown⟩
    · have hfd : decide (f < 4) = false := by simpa using hf
      go_enter Tryd.func9, Tryd.ntmps9
      go_wp2_with (first | (go_at_call 19; refine (format_Known _ _).mono ?_; rintro en w' ⟨rfl, rfl⟩) | (go_at_call 20; refine (mode_Known _ _).mono ?_; rintro e w' ⟨rfl, rfl⟩))
      refine bodyPost_ret (by simp [results, Tryd.results9, go_sem]; try rfl) rfl ?_
      exact ⟨rfl, by go_grown⟩
def beyondS (f e : Int) : Bool := decide (f < 4) && decide (emaxS f < e)
theorem over_Beyond_all (f e : Int) [hU : U8 f] (w : World) [Laid w] :
    Calls Tryd.prog 15 #[.int .u8 f, .int .i64 e] w fun en w' => en = .returned (.bool (beyondS f e)) ∧ Below w.heap.size w w' := by
  by_cases hf : f < 4
  · have h : beyondS f e = decide (emaxS f < e) := by unfold beyondS; rw [decide_eq_true hf]; rfl
    rw [h]
    exact over_Beyond f e w hf
  · have h : beyondS f e = false := by unfold beyondS; rw [decide_eq_false hf]; rfl
    have hfd : decide (f < 4) = false := by simpa using hf
    rw [h]
    clear h
    go_enter Tryd.func15, Tryd.ntmps15
    go_wp2_with (go_at_call 19; refine (format_Known _ _).mono ?_; rintro en w' ⟨rfl, rfl⟩)
    go_returns
    exact ⟨rfl, by go_grown⟩
def tinyO (f e : Int) : Bool := decide (f < 4) && decide (e < 1 - emaxS f)
theorem over_Tiny_all (f e : Int) [hU : U8 f] (w : World) [Laid w] :
    Calls Tryd.prog 16 #[.int .u8 f, .int .i64 e] w fun en w' => en = .returned (.bool (tinyO f e)) ∧ Below w.heap.size w w' := by
  by_cases hf : f < 4
  · have h : tinyO f e = decide (e < 1 - emaxS f) := by unfold tinyO; rw [decide_eq_true hf]; rfl
    rw [h]
    exact over_Tiny f e w hf
  · have h : tinyO f e = false := by unfold tinyO; rw [decide_eq_false hf]; rfl
    have hfd : decide (f < 4) = false := by simpa using hf
    rw [h]
    clear h
    go_enter Tryd.func16, Tryd.ntmps16
    go_wp2_with (go_at_call 19; refine (format_Known _ _).mono ?_; rintro en w' ⟨rfl, rfl⟩)
    go_returns
    exact ⟨rfl, by go_grown⟩
end Go.Proofs.YtnbmicckhcbnbaaDoor
