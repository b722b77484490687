/- The contracts of package fields: of, scale's parts. -/
import Derived.Test.YtnbmicckhcbnbaaDoorRaise
import Derived.Test.YtnbmicckhcbnbaaDoorClass
set_option linter.unusedSimpArgs false
set_option linter.unusedVariables false
namespace Go.Proofs.YtnbmicckhcbnbaaDoor
open Go.RowKit Go.Hb
theorem scale_exp (p m e : Int) (w : World) (h0 : -1000000 ≤ e) (h1 : e ≤ 1000000) (h2 : 0 ≤ m) (h3 : m ≤ 100000) :
    Calls Tryd.prog 42 #[.agg #[.int .i64 p, .int .i64 m], .int .i64 e] w fun en w' => en = .returned (.int .i64 (e - m)) ∧ Below w.heap.size w w' := by
  have hw : IntKind.i64.wrap (e - m) = e - m := IntWalk.i64_in _ (by omega)
  go_enter Tryd.func42, Tryd.ntmps42
  go_wp2_with fail
  go_returns
  exact ⟨rfl, by go_grown⟩
theorem scale_least (p m : Int) (w : World) (h2 : 0 ≤ m) (h3 : m ≤ 100000) :
    Calls Tryd.prog 46 #[.agg #[.int .i64 p, .int .i64 m]] w fun en w' => en = .returned (.int .i64 (1 - m)) ∧ Below w.heap.size w w' := by
  have hw : IntKind.i64.wrap (1 - m) = 1 - m := IntWalk.i64_in _ (by omega)
  go_enter Tryd.func46, Tryd.ntmps46
  go_wp2_with fail
  go_returns
  exact ⟨rfl, by go_grown⟩
/-- A number of a format lies in a box. -/
def NumAt (w : World) (n : Nat) (p m : Int) (neg : Bool) (c e h l : Int) : Prop :=
  w.cell? ⟨n, 0, none⟩ = some (.int .i64 p) ∧ w.cell? ⟨n, 1, none⟩ = some (.int .i64 m) ∧ w.cell? ⟨n, 2, none⟩ = some (.bool neg) ∧ w.cell? ⟨n, 3, none⟩ = some (.int .u8 c) ∧ w.cell? ⟨n, 4, none⟩ = some (.int .i64 e) ∧ w.cell? ⟨n, 5, none⟩ = some (.int .u64 h) ∧ w.cell? ⟨n, 6, none⟩ = some (.int .u64 l) ∧
  w.frozen? ⟨n, 4, none⟩ = false ∧ w.frozen? ⟨n, 5, none⟩ = false ∧ w.frozen? ⟨n, 6, none⟩ = false
set_option maxRecDepth 100000 in
set_option maxHeartbeats 8000000 in
theorem fields_of (f c e h l : Int) (neg : Bool) [hU : U8 f] (w : World) [Laid w] :
    Calls Tryd.prog 41 #[.int .u8 f, .agg #[.bool neg, .int .u8 c, .int .i64 e, .int .u64 h, .int .u64 l]] w fun en w' =>
      ∃ n, en = .returned (.pointer (some ⟨n, 0, none⟩)) ∧ Below w.heap.size w w' ∧ w.heap.size ≤ n ∧ n < w'.heap.size ∧ NumAt w' n (precS f) (emaxS f) neg c e h l := by
  go_enter Tryd.func41, Tryd.ntmps41
  go_upto_region 1 with fail
  refine wp_rename ?_
  intro W0 hW0
  have lay0 : Laid W0 := by rw [hW0]; infer_instance
  have c0 : W0.cell? ⟨w.heap.size, 0, none⟩ = some (.bool neg) := by rw [hW0]; go_simp
  have c1 : W0.cell? ⟨w.heap.size, 1, none⟩ = some (.int .u8 c) := by rw [hW0]; go_simp
  have c2 : W0.cell? ⟨w.heap.size, 2, none⟩ = some (.int .i64 e) := by rw [hW0]; go_simp
  have c3 : W0.cell? ⟨w.heap.size, 3, none⟩ = some (.int .u64 h) := by rw [hW0]; go_simp
  have c4 : W0.cell? ⟨w.heap.size, 4, none⟩ = some (.int .u64 l) := by rw [hW0]; go_simp
  have hBW : Below w.heap.size w W0 := by rw [hW0]; go_grown
  have hs0 : w.heap.size + 1 ≤ W0.heap.size := by rw [hW0]; simp
  clear hW0
  go_region_held3 (fun w' => w'.cell? ⟨w.heap.size, 0, none⟩ = some (.bool neg) ∧ w'.cell? ⟨w.heap.size, 1, none⟩ = some (.int .u8 c) ∧ w'.cell? ⟨w.heap.size, 2, none⟩ = some (.int .i64 e) ∧ w'.cell? ⟨w.heap.size, 3, none⟩ = some (.int .u64 h) ∧ w'.cell? ⟨w.heap.size, 4, none⟩ = some (.int .u64 l))
    ((refine ⟨?_, ?_, ?_, ?_, ?_⟩ <;> (refine cell_later (w := W0) ?_ (by assumption); go_grown)))
    (first | (go_at_call 28; refine (format_Prec _ _).mono ?_; rintro en w2 ⟨rfl, hB2⟩; have hb2 : Below W0.heap.size W0 w2 := below_after (by go_grown) hB2; have lay2 := laid_after hb2) | (go_at_call 24; refine (format_Emax _ _).mono ?_; rintro en w3 ⟨rfl, hB3⟩; have hb3 : Below W0.heap.size W0 w3 := below_after (by go_grown) hB3; have hz3 := hb3.size; have lay3 := laid_after hb3))
  have hBW3 := below_after (w := w) hBW hb3
  go_wp2_with fail
  go_returns
  refine ⟨w3.heap.size, rfl, by go_grown, by omega, by simp, ?_⟩
  unfold NumAt
  refine ⟨?_, ?_, ?_, ?_, ?_, ?_, ?_, ?_, ?_, ?_⟩ <;> go_simp
end Go.Proofs.YtnbmicckhcbnbaaDoor
