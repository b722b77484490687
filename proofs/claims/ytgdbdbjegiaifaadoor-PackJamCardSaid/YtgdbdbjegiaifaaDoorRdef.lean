/- What pack.Round answers, in plain numbers. No condition. -/
import Derived.Test.YtgdbdbjegiaifaaDoorCutform
set_option linter.unusedSimpArgs false
set_option linter.unusedVariables false
namespace Go.Proofs.YtgdbdbjegiaifaaDoor
open Go.RowKit Go.Hb
/-- A number's exponent. -/
def nE (e : Int) (v : Nat) : Int := farS e - byS v
/-- The least exponent of a format. -/
def leastS (f : Int) : Int := 1 - emaxS f
/-- A number of the format's precision, of an unbounded exponent. -/
def topB (f m : Int) (neg : Bool) (v : Nat) : Nat := cutS (raiseS v) (precS f) m neg
def fullS (f m : Int) (neg : Bool) (v : Nat) : Bool := (topB f m neg v).testBit (precS f).toNat
def eS (f m : Int) (neg : Bool) (e : Int) (v : Nat) : Int := if fullS f m neg v then nE e v + 1 else nE e v
def lowJ (f e : Int) (v : Nat) : Nat := jamS (raiseS v) (leastS f - nE e v)
def subB (f m : Int) (neg : Bool) (e : Int) (v : Nat) : Nat := cutS (lowJ f e v) (precS f) m neg
def tinyS (f m : Int) (aft neg : Bool) (e : Int) (v : Nat) : Bool := decide (nE e v < leastS f) && (!aft || decide (eS f m neg e v < leastS f))
def roundB (f m : Int) (neg : Bool) (e : Int) (v : Nat) : Nat :=
  if emaxS f < eS f m neg e v then overB f m neg else if nE e v < leastS f then makeF f neg (fieldS f (subB f m neg e v)) (subB f m neg e v) else makeF f neg (eS f m neg e v - leastS f + 1) (topB f m neg v)
def inexactS (f e : Int) (v : Nat) : Bool := if nE e v < leastS f then inexS (lowJ f e v) (precS f) else inexS (raiseS v) (precS f)
def flagsS (inex tiny : Bool) : Int := if inex then (if tiny then 24 else 16) else 0
def roundFl (f m : Int) (aft neg : Bool) (e : Int) (v : Nat) : Int := if emaxS f < eS f m neg e v then 20 else flagsS (inexactS f e v) (tinyS f m aft neg e v)
theorem ret_round {a b x c d y : Int} (h : a = c ∧ b = d) (hx : x = y) : Ending.returned (.agg #[.int .u64 a, .int .u64 b, .int .u8 x]) = Ending.returned (.agg #[.int .u64 c, .int .u64 d, .int .u8 y]) := by rw [h.1, h.2, hx]
theorem leastS_bd (f : Int) : -16382 ≤ leastS f ∧ leastS f ≤ 1 := by obtain ⟨h0, h1⟩ := emaxS_bd f; unfold leastS; omega
theorem nE_bd (e : Int) (v : Nat) (h : v < 2 ^ 256) : -1099511628032 ≤ nE e v ∧ nE e v ≤ 1099511627776 := by
  obtain ⟨h0, h1⟩ := byS_bd v h; unfold nE farS; omega
theorem flagsS_f (t : Bool) : flagsS false t = 0 := rfl
theorem flagsS_tf : flagsS true false = 16 := rfl
theorem flagsS_tt : flagsS true true = 24 := rfl
theorem wrap_in (x : Int) (h0 : -4611686018427387904 ≤ x) (h1 : x ≤ 4611686018427387904) : IntKind.i64.wrap x = x := IntWalk.i64_in _ (by omega)
theorem wraps (N E L M : Int) (h0 : -16382 ≤ L) (h1 : L ≤ 1) (h2 : -1099511628032 ≤ N) (h3 : N ≤ 1099511627776) (h4 : N ≤ E) (h5 : E ≤ M) (h6 : M ≤ 16383) : IntKind.i64.wrap (E - L) = E - L ∧ IntKind.i64.wrap (E - L + 1) = E - L + 1 ∧ IntKind.i64.wrap (L - N) = L - N :=
  ⟨wrap_in _ (by omega) (by omega), wrap_in _ (by omega) (by omega), wrap_in _ (by omega) (by omega)⟩
theorem top_ne0 (N E L : Int) (h4 : N ≤ E) (h : ¬ N < L) : ¬ E - L + 1 = 0 := by omega
theorem eS_bd (f m : Int) (neg : Bool) (e : Int) (v : Nat) : nE e v ≤ eS f m neg e v ∧ eS f m neg e v ≤ nE e v + 1 := by unfold eS; split <;> omega
end Go.Proofs.YtgdbdbjegiaifaaDoor
