/- The contracts of package mode: for every input. The contracts of mode.Mirror, format.Known, mode.Known in one form: for every input. -/
import Derived.Test.YtkpjeceofcfnkaaGreatDoorKit
import Derived.Test.YtkpjeceofcfnkaaGreatDoorFormat
set_option maxRecDepth 100000
set_option maxHeartbeats 4000000
set_option linter.unusedSimpArgs false
set_option linter.unusedVariables false
namespace Go.Proofs.YtkpjeceofcfnkaaGreatDoor
open Go.RowKit Go.Hb
theorem rule1 (neg odd : Bool) (r : Int) (w : World) :
    Calls Tryz.prog 150 #[.bool neg, .bool odd, .int .u8 r] w fun e w' => e = .returned (.bool (decide (r = 3) || (decide (r = 2) && odd))) ∧ w = w' := by
  go_enter Tryz.func150, Tryz.ntmps150
  go_wp2
  all_goals go_returns
  all_goals refine ⟨ret_bool ?_, rfl⟩
  all_goals simp_all
theorem rule2 (neg odd : Bool) (r : Int) (w : World) :
    Calls Tryz.prog 151 #[.bool neg, .bool odd, .int .u8 r] w fun e w' => e = .returned (.bool (decide (2 ≤ r))) ∧ w = w' := by
  go_enter Tryz.func151, Tryz.ntmps151
  go_wp2
  all_goals go_returns
  all_goals refine ⟨ret_bool ?_, rfl⟩
  all_goals simp_all
theorem rule3 (neg odd : Bool) (r : Int) (w : World) :
    Calls Tryz.prog 152 #[.bool neg, .bool odd, .int .u8 r] w fun e w' => e = .returned (.bool (!neg)) ∧ w = w' := by
  go_enter Tryz.func152, Tryz.ntmps152
  go_wp2
  all_goals go_returns
  all_goals refine ⟨ret_bool ?_, rfl⟩
  all_goals simp_all
theorem rule4 (neg odd : Bool) (r : Int) (w : World) :
    Calls Tryz.prog 153 #[.bool neg, .bool odd, .int .u8 r] w fun e w' => e = .returned (.bool (neg)) ∧ w = w' := by
  go_enter Tryz.func153, Tryz.ntmps153
  go_wp2
  all_goals go_returns
  all_goals refine ⟨ret_bool ?_, rfl⟩
  all_goals simp_all
theorem rule5 (neg odd : Bool) (r : Int) (w : World) :
    Calls Tryz.prog 154 #[.bool neg, .bool odd, .int .u8 r] w fun e w' => e = .returned (.bool (false)) ∧ w = w' := by
  go_enter Tryz.func154, Tryz.ntmps154
  go_wp2
  all_goals go_returns
  all_goals refine ⟨ret_bool ?_, rfl⟩
  all_goals simp_all
/-- The entries of the rules' map. -/
def ruleEs : Array MapEntry := #[{ key := .int .u8 0, val := .func (.func 150) #[] #[], born := 0 }, { key := .int .u8 1, val := .func (.func 151) #[] #[], born := 1 }, { key := .int .u8 2, val := .func (.func 152) #[] #[], born := 2 }, { key := .int .u8 3, val := .func (.func 153) #[] #[], born := 3 }, { key := .int .u8 4, val := .func (.func 154) #[] #[], born := 4 }]
theorem mode_rules (w : World) :
    Calls Tryz.prog 136 #[] w fun e w' => e = .returned (.map (some w.heap.size)) ∧ w.alloc (.map ruleEs 5) = w' := by
  have hmm := @run_makeMap Tryz.prog
  have i0 := run_insert_new (P := Tryz.prog) w _ rfl #[] 0 0 (.func (.func 150) #[] #[]) Tryz.underlying171 Tryz.underlying23 rfl
  have i1 := run_insert_new (P := Tryz.prog) w _ rfl #[{ key := .int .u8 0, val := .func (.func 150) #[] #[], born := 0 }] 1 1 (.func (.func 151) #[] #[]) Tryz.underlying171 Tryz.underlying23 rfl
  have i2 := run_insert_new (P := Tryz.prog) w _ rfl #[{ key := .int .u8 0, val := .func (.func 150) #[] #[], born := 0 }, { key := .int .u8 1, val := .func (.func 151) #[] #[], born := 1 }] 2 2 (.func (.func 152) #[] #[]) Tryz.underlying171 Tryz.underlying23 rfl
  have i3 := run_insert_new (P := Tryz.prog) w _ rfl #[{ key := .int .u8 0, val := .func (.func 150) #[] #[], born := 0 }, { key := .int .u8 1, val := .func (.func 151) #[] #[], born := 1 }, { key := .int .u8 2, val := .func (.func 152) #[] #[], born := 2 }] 3 3 (.func (.func 153) #[] #[]) Tryz.underlying171 Tryz.underlying23 rfl
  have i4 := run_insert_new (P := Tryz.prog) w _ rfl #[{ key := .int .u8 0, val := .func (.func 150) #[] #[], born := 0 }, { key := .int .u8 1, val := .func (.func 151) #[] #[], born := 1 }, { key := .int .u8 2, val := .func (.func 152) #[] #[], born := 2 }, { key := .int .u8 3, val := .func (.func 153) #[] #[], born := 3 }] 4 4 (.func (.func 154) #[] #[]) Tryz.underlying171 Tryz.underlying23 rfl
  go_enter Tryz.func136, Tryz.ntmps136
  go_wp2
  go_returns
  exact ⟨rfl, rfl⟩
theorem mode_Known (m : Int) (w : World) :
    Calls Tryz.prog 28 #[.int .u8 m] w fun e w' => e = .returned (.bool (decide (m ≤ 4))) ∧ w = w' := by
  go_enter Tryz.func28, Tryz.ntmps28
  go_wp2
  go_returns
  exact ⟨ret_bool rfl, rfl⟩
/-- What a rule says: whether a number is rounded to the next one. -/
def ruleS (m : Int) (neg odd : Bool) (r : Int) : Bool :=
  if m = 0 then decide (r = 3) || (decide (r = 2) && odd) else if m = 1 then decide (2 ≤ r) else if m = 2 then !neg else if m = 3 then neg else false
def nextS (m : Int) (neg odd : Bool) (r : Int) : Bool := decide (1 ≤ r) && decide (r ≤ 3) && ruleS m neg odd r
theorem zeroRule (w : World) : (zeroValue 169).run Tryz.prog w = .ok .nilFunc w := by kernel_rfl
theorem find_none (m : Int) (h : 5 ≤ m) : Instr.findNow (.int .u8) (.int .u8 m) ruleEs.toList 0 = some none := by
  have h0 : (m == 0) = false := by simp; omega
  have h1 : (m == 1) = false := by simp; omega
  have h2 : (m == 2) = false := by simp; omega
  have h3 : (m == 3) = false := by simp; omega
  have h4 : (m == 4) = false := by simp; omega
  simp [ruleEs, Instr.findNow, Instr.sameNow, h0, h1, h2, h3, h4]
theorem mode_Next (m : Int) (neg odd : Bool) (r : Int) (w : World) (m0 : 0 ≤ m) :
    Calls Tryz.prog 114 #[.int .u8 m, .bool neg, .bool odd, .int .u8 r] w fun e w' => e = .returned (.bool (nextS m neg odd r)) ∧ Below w.heap.size w w' := by
  have : 5 ≤ m ∨ m = 0 ∨ m = 1 ∨ m = 2 ∨ m = 3 ∨ m = 4 := by omega
  rcases this with hm | rfl | rfl | rfl | rfl | rfl
  · have lk := fun w : World => run_lookup_none (P := Tryz.prog) w _ rfl ruleEs 5 m .nilFunc Tryz.underlying171 Tryz.underlying23 zeroRule (find_none m hm)
    go_enter Tryz.func114, Tryz.ntmps114
    go_wp2_with (go_at_call 136; refine (mode_rules _).mono ?_; rintro e w' ⟨rfl, rfl⟩)
    go_returns
    refine ⟨ret_bool ?_, by go_grown⟩
    simp [nextS, ruleS, show ¬ m = 0 by omega, show ¬ m = 1 by omega, show ¬ m = 2 by omega, show ¬ m = 3 by omega]
  · have lk := fun w : World => run_lookup_new (P := Tryz.prog) w _ rfl ruleEs 5 0 (.func (.func 150) #[] #[]) 0 Tryz.underlying171 Tryz.underlying23 rfl
    by_cases h1 : 1 ≤ r
    all_goals by_cases h2 : r ≤ 3
    all_goals go_enter Tryz.func114, Tryz.ntmps114
    all_goals go_wp2_with (first | (go_at_call 136; refine (mode_rules _).mono ?_; rintro e w' ⟨rfl, rfl⟩) | (go_at_call 150; refine (rule1 _ _ _ _).mono ?_; rintro e w' ⟨rfl, rfl⟩))
    all_goals go_returns
    all_goals refine ⟨ret_bool ?_, by go_grown⟩
    all_goals first | (simp_all [nextS, ruleS]; done) | (simp_all [nextS, ruleS]; intros; exfalso; omega)
  · have lk := fun w : World => run_lookup_new (P := Tryz.prog) w _ rfl ruleEs 5 1 (.func (.func 151) #[] #[]) 1 Tryz.underlying171 Tryz.underlying23 rfl
    by_cases h1 : 1 ≤ r
    all_goals by_cases h2 : r ≤ 3
    all_goals go_enter Tryz.func114, Tryz.ntmps114
    all_goals go_wp2_with (first | (go_at_call 136; refine (mode_rules _).mono ?_; rintro e w' ⟨rfl, rfl⟩) | (go_at_call 151; refine (rule2 _ _ _ _).mono ?_; rintro e w' ⟨rfl, rfl⟩))
    all_goals go_returns
    all_goals refine ⟨ret_bool ?_, by go_grown⟩
    all_goals first | (simp_all [nextS, ruleS]; done) | (simp_all [nextS, ruleS]; intros; exfalso; omega)
  · have lk := fun w : World => run_lookup_new (P := Tryz.prog) w _ rfl ruleEs 5 2 (.func (.func 152) #[] #[]) 2 Tryz.underlying171 Tryz.underlying23 rfl
    by_cases h1 : 1 ≤ r
    all_goals by_cases h2 : r ≤ 3
    all_goals go_enter Tryz.func114, Tryz.ntmps114
    all_goals go_wp2_with (first | (go_at_call 136; refine (mode_rules _).mono ?_; rintro e w' ⟨rfl, rfl⟩) | (go_at_call 152; refine (rule3 _ _ _ _).mono ?_; rintro e w' ⟨rfl, rfl⟩))
    all_goals go_returns
    all_goals refine ⟨ret_bool ?_, by go_grown⟩
    all_goals first | (simp_all [nextS, ruleS]; done) | (simp_all [nextS, ruleS]; intros; exfalso; omega)
  · have lk := fun w : World => run_lookup_new (P := Tryz.prog) w _ rfl ruleEs 5 3 (.func (.func 153) #[] #[]) 3 Tryz.underlying171 Tryz.underlying23 rfl
    by_cases h1 : 1 ≤ r
    all_goals by_cases h2 : r ≤ 3
    all_goals go_enter Tryz.func114, Tryz.ntmps114
    all_goals go_wp2_with (first | (go_at_call 136; refine (mode_rules _).mono ?_; rintro e w' ⟨rfl, rfl⟩) | (go_at_call 153; refine (rule4 _ _ _ _).mono ?_; rintro e w' ⟨rfl, rfl⟩))
    all_goals go_returns
    all_goals refine ⟨ret_bool ?_, by go_grown⟩
    all_goals first | (simp_all [nextS, ruleS]; done) | (simp_all [nextS, ruleS]; intros; exfalso; omega)
  · have lk := fun w : World => run_lookup_new (P := Tryz.prog) w _ rfl ruleEs 5 4 (.func (.func 154) #[] #[]) 4 Tryz.underlying171 Tryz.underlying23 rfl
    by_cases h1 : 1 ≤ r
    all_goals by_cases h2 : r ≤ 3
    all_goals go_enter Tryz.func114, Tryz.ntmps114
    all_goals go_wp2_with (first | (go_at_call 136; refine (mode_rules _).mono ?_; rintro e w' ⟨rfl, rfl⟩) | (go_at_call 154; refine (rule5 _ _ _ _).mono ?_; rintro e w' ⟨rfl, rfl⟩))
    all_goals go_returns
    all_goals refine ⟨ret_bool ?_, by go_grown⟩
    all_goals first | (simp_all [nextS, ruleS]; done) | (simp_all [nextS, ruleS]; intros; exfalso; omega)
end Go.Proofs.YtkpjeceofcfnkaaGreatDoor

namespace Go.Proofs.YtkpjeceofcfnkaaGreatDoor
open Go.RowKit Go.Hb
def mirS (m : Int) : Int := if m = 2 then 3 else if m = 3 then 2 else m
instance (m : Int) [h : U8 m] : U8 (mirS m) := ⟨by have := h.ge; unfold mirS; repeat' split <;> omega, by have := h.le; unfold mirS; repeat' split <;> omega⟩
theorem format_Known_b (f : Int) [h : U8 f] (w : World) :
    Calls Tryz.prog 27 #[.int .u8 f] w fun e w' => e = .returned (.bool (decide (f < 4))) ∧ Below w.heap.size w w' :=
  (format_Known f w).mono fun _ _ ⟨h1, h2⟩ => ⟨h1, by rw [← h2]; exact Below.refl _ _⟩
theorem mode_Known_b (m : Int) (w : World) :
    Calls Tryz.prog 28 #[.int .u8 m] w fun e w' => e = .returned (.bool (decide (m ≤ 4))) ∧ Below w.heap.size w w' :=
  (mode_Known m w).mono fun _ _ ⟨h1, h2⟩ => ⟨h1, by rw [← h2]; exact Below.refl _ _⟩
end Go.Proofs.YtkpjeceofcfnkaaGreatDoor
