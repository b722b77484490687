/- The contracts of package word (and of what it calls): sums, differences, comparison, one bit, nought: for every input. -/
import Derived.Test.YtkpjeceofcfnkaaGreatDoorKit
set_option linter.unusedSimpArgs false
set_option linter.unusedVariables false
namespace Go.Proofs.YtkpjeceofcfnkaaGreatDoor
open Go.RowKit Go.Hb

theorem add64_call (x y c : Int) (hx : 0 ≤ x) (hy : 0 ≤ y) (hc0 : 0 ≤ c) (hc : c ≤ 1) (w : World) :
    (callFunc 101 #[.int .u64 x, .int .u64 y, .int .u64 c]).run Tryz.prog w =
      .ok (.value (.tuple #[.int .u64 ((x + y + c) % 18446744073709551616), .int .u64 ((x + y + c) / 18446744073709551616)])) w := by
  rw [run_callFunc_extern Tryz.func101 (by kernel_rfl) (by kernel_rfl) (by kernel_rfl) (e := add64Entry) (by kernel_rfl), run_add64 x y c hx hy hc0 hc]
  rfl
def s64 (x y c : Int) : Int := (x + y + c) % 18446744073709551616
def c64 (x y c : Int) : Int := (x + y + c) / 18446744073709551616
instance (x y c : Int) : U64 (s64 x y c) := ⟨by unfold s64; omega, by unfold s64; omega⟩
theorem word_Add (ah al bh bl : Int) [U64 ah] [U64 al] [U64 bh] [U64 bl] (w : World) :
    Calls Tryz.prog 68 #[.agg #[.int .u64 (ah), .int .u64 (al)], .agg #[.int .u64 (bh), .int .u64 (bl)]] w fun e w' =>
      e = .returned (.tuple #[.agg #[.int .u64 (hi (cat ah al + cat bh bl)), .int .u64 (lo (cat ah al + cat bh bl))], .bool (decide (340282366920938463463374607431768211456 ≤ cat ah al + cat bh bl))]) ∧ Below w.heap.size w w' := by
  have e1 : ∀ w, (callFunc 101 #[.int .u64 al, .int .u64 bl, .int .u64 0]).run Tryz.prog w = .ok (.value (.tuple #[.int .u64 (s64 al bl 0), .int .u64 (c64 al bl 0)])) w :=
    fun w => add64_call al bl 0 U64.ge U64.ge (by omega) (by omega) w
  have e2 : ∀ w, (callFunc 101 #[.int .u64 ah, .int .u64 bh, .int .u64 (c64 al bl 0)]).run Tryz.prog w = .ok (.value (.tuple #[.int .u64 (s64 ah bh (c64 al bl 0)), .int .u64 (c64 ah bh (c64 al bl 0))])) w :=
    fun w => add64_call ah bh _ U64.ge U64.ge (by have := U64.ge (x := al); have := U64.ge (x := bl); unfold c64; omega) (by have := U64.lt (x := al); have := U64.lt (x := bl); unfold c64; omega) w
  go_enter Tryz.func68, Tryz.ntmps68
  go_wp2
  go_returns
  have ga := U64.ge (x := ah); have gb := U64.ge (x := al); have gc := U64.ge (x := bh); have gd := U64.ge (x := bl)
  have la := U64.lt (x := ah); have lb := U64.lt (x := al); have lc := U64.lt (x := bh); have ld := U64.lt (x := bl)
  refine ⟨ret_bits_bool ⟨?_, ?_⟩ ?_, by go_grown⟩
  · unfold s64 c64 hi cat; omega
  · unfold s64 lo cat; omega
  · unfold c64 cat; rw [Bool.eq_iff_iff]; simp; omega


theorem isNaN_any (x : Int) (w : World) : Calls Tryz.prog 160 #[.int .u64 x] w fun e w' => e = .returned (.bool false) ∧ w = w' := by
  go_enter Tryz.func160, Tryz.ntmps160
  go_wp2
  go_returns
  exact ⟨by simp, rfl⟩
def cmpI (x y : Int) : Int := if x < y then -1 else if y < x then 1 else 0
theorem compare_any (x y : Int) (w : World) : Calls Tryz.prog 159 #[.int .u64 x, .int .u64 y] w fun e w' => e = .returned (.int .i64 (cmpI x y)) ∧ w = w' := by
  by_cases h1 : x < y
  all_goals by_cases h2 : y < x
  all_goals go_enter Tryz.func159, Tryz.ntmps159
  all_goals go_wp2_with (go_at_call 160; refine (isNaN_any _ _).mono ?_; rintro e w' ⟨rfl, rfl⟩)
  all_goals go_returns
  all_goals refine ⟨ret_int ?_, rfl⟩
  all_goals unfold cmpI
  all_goals (split <;> (first | rfl | omega | (split <;> (first | rfl | omega))))
def firstI (x y : Int) : Int := if x = 0 then y else x
theorem first_any (b c : Nat) (x y : Int) (w : World) (h0 : w.cell? ⟨b, 0, none⟩ = some (.int .i64 x)) (h1 : w.cell? ⟨b, 1, none⟩ = some (.int .i64 y)) :
    Calls Tryz.prog 158 #[.slice (some ⟨b, 0, none⟩) 2 c] w fun e w' => e = .returned (.int .i64 (firstI x y)) ∧ w = w' := by
  by_cases hx : x = 0
  all_goals by_cases hy : y = 0
  all_goals go_enter Tryz.func158, Tryz.ntmps158
  all_goals go_wp2
  all_goals go_rounds 3
  all_goals go_returns
  all_goals refine ⟨ret_int ?_, rfl⟩
  all_goals simp_all [firstI]
/-- -1, 0, 1. -/
def cmpN (a b : Nat) : Int := if a < b then -1 else if b < a then 1 else 0
theorem word_Cmp (ah al bh bl : Int) [U64 ah] [U64 al] [U64 bh] [U64 bl] (w : World) :
    Calls Tryz.prog 156 #[.agg #[.int .u64 (ah), .int .u64 (al)], .agg #[.int .u64 (bh), .int .u64 (bl)]] w fun e w' => e = .returned (.int .i64 (cmpN (cat ah al) (cat bh bl))) ∧ Below w.heap.size w w' := by
  go_enter Tryz.func156, Tryz.ntmps156
  go_wp2_with fail
  go_region_held3 (fun w' => w'.cell? ⟨w.heap.size, 0, none⟩ = some (.int .u64 ah) ∧ w'.cell? ⟨w.heap.size, 1, none⟩ = some (.int .u64 al) ∧ w'.cell? ⟨w.heap.size + 1, 0, none⟩ = some (.int .u64 bh) ∧ w'.cell? ⟨w.heap.size + 1, 1, none⟩ = some (.int .u64 bl))
    (go_keep)
    (first | (go_at_call 159; refine (compare_any _ _ _).mono ?_; rintro e w' ⟨rfl, rfl⟩) | (go_at_call 158; refine (first_any _ _ (cmpI ah bh) (cmpI al bl) _ (by go_cell) (by go_cell)).mono ?_; rintro e w' ⟨rfl, rfl⟩))
  all_goals go_wp2
  all_goals go_returns
  all_goals refine ⟨ret_int ?_, by go_grown⟩
  all_goals
    have ga := U64.ge (x := ah); have gb := U64.ge (x := al); have gc := U64.ge (x := bh); have gd := U64.ge (x := bl)
    have la := U64.lt (x := ah); have lb := U64.lt (x := al); have lc := U64.lt (x := bh); have ld := U64.lt (x := bl)
    unfold firstI cmpI cmpN cat
    repeat' split
    all_goals omega
theorem word_Zero (h l : Int) [U64 h] [U64 l] (w : World) :
    Calls Tryz.prog 100 #[.agg #[.int .u64 (h), .int .u64 (l)]] w fun e w' => e = .returned (.bool (decide (cat h l = 0))) ∧ Below w.heap.size w w' := by
  have ga := U64.ge (x := h); have gb := U64.ge (x := l)
  go_enter Tryz.func100, Tryz.ntmps100
  go_wp2
  all_goals go_returns
  all_goals refine ⟨ret_bool ?_, by go_grown⟩
  all_goals unfold cat; rw [Bool.eq_iff_iff]; simp; omega
end Go.Proofs.YtkpjeceofcfnkaaGreatDoor
