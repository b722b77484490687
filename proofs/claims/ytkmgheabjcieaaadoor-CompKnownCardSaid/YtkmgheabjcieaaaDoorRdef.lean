/- The rounding of package pack's closure: for every input. The contract of pack.put: for every input. The contract of pack.of: for every input. The contract of pack's full: for every input. The contract of pack.Round where the number is nought: for every known format and mode. What a raised number is less than (toward pack.Round where the number is not nought). What round.Cut keeps, in plain numbers. What pack.Round answers, in plain numbers. No condition. What pack.Round answers at every input, in plain numbers. No condition. -/
import Derived.Test.YtkmgheabjcieaaaDoorRound
import Derived.Test.YtkmgheabjcieaaaDoorOver
import Derived.Test.YtkmgheabjcieaaaDoorCount
set_option linter.unusedSimpArgs false
set_option linter.unusedVariables false
namespace Go.Proofs.YtkmgheabjcieaaaDoor
open Go.RowKit Go.Hb
end Go.Proofs.YtkmgheabjcieaaaDoor

namespace Go.Proofs.YtkmgheabjcieaaaDoor
open Go.RowKit Go.Hb
/-- The field that put writes where it is given 0. -/
def fieldS (f : Int) (v : Nat) : Int := if v.testBit (precS f - 1).toNat then 1 else 0
end Go.Proofs.YtkmgheabjcieaaaDoor

namespace Go.Proofs.YtkmgheabjcieaaaDoor
open Go.RowKit Go.Hb
/-- An exponent that goes no further than far. -/
def farS (e : Int) : Int := max (-1099511627776) (min e 1099511627776)
theorem byS_bd (v : Nat) (h : v < 2 ^ 256) : 0 ≤ byS v ∧ byS v ≤ 256 := by
  unfold byS
  split
  · omega
  · rename_i h0
    have h1 := Nat.lt_of_le_of_lt (blen_le v h0) h
    have h2 := (Nat.pow_lt_pow_iff_right (by omega : 1 < 2)).1 h1
    omega
theorem ret_num {a b x y c d e f : Int} (h : x = y) : Ending.returned (.agg #[.int .i64 a, .int .i64 b, .int .i64 x, .int .u64 c, .int .u64 d, .int .u64 e, .int .u64 f]) = Ending.returned (.agg #[.int .i64 a, .int .i64 b, .int .i64 y, .int .u64 c, .int .u64 d, .int .u64 e, .int .u64 f]) := by rw [h]
end Go.Proofs.YtkmgheabjcieaaaDoor

namespace Go.Proofs.YtkmgheabjcieaaaDoor
open Go.RowKit Go.Hb
end Go.Proofs.YtkmgheabjcieaaaDoor

namespace Go.Proofs.YtkmgheabjcieaaaDoor
open Go.RowKit Go.Hb
end Go.Proofs.YtkmgheabjcieaaaDoor

namespace Go.Proofs.YtkmgheabjcieaaaDoor
open Go.RowKit Go.Hb
theorem raise_lt (v : Nat) (h : v < 2 ^ 256) : raiseS v < 2 ^ 256 := by
  obtain ⟨b0, b1⟩ := byS_bd v h
  have hl := blen_lt v
  by_cases h0 : v = 0
  · unfold raiseS lsh; rw [h0, Nat.zero_mul]; exact Nat.two_pow_pos _
  · have e : (byS v).toNat + blen v = 256 := by unfold byS at *; rw [if_neg h0] at *; omega
    have h2 := Nat.mul_lt_mul_of_pos_right hl (Nat.two_pow_pos (byS v).toNat)
    rw [← Nat.pow_add, Nat.add_comm, e] at h2
    exact h2
end Go.Proofs.YtkmgheabjcieaaaDoor

namespace Go.Proofs.YtkmgheabjcieaaaDoor
open Go.RowKit Go.Hb
theorem restS_N (v : Nat) (keep : Int) (h1 : keep ≤ 127) : restS v keep = restN v (256 - keep).toNat := by
  have e : (256 - keep).toNat - 1 = (255 - keep).toNat := by omega
  have hs : ¬ (256 - keep).toNat = 0 := by omega
  unfold restS restN ofS lostS
  rw [if_neg hs, e]
  cases v.testBit (255 - keep).toNat <;> by_cases h : v % 2 ^ (255 - keep).toNat = 0 <;> simp [h]
theorem wide_half (v : Nat) (keep : Int) (h0 : 0 ≤ keep) (h1 : keep ≤ 127) (hv : v < 2 ^ 256) : v / 2 ^ (256 - keep).toNat < 2 ^ keep.toNat := by
  rw [Nat.div_lt_iff_lt_mul (Nat.two_pow_pos _), ← Nat.pow_add, show keep.toNat + (256 - keep).toNat = 256 by omega]
  exact hv
theorem lo_odd (x : Nat) : (lo x % 2 == 1) = (x % 2 == 1) := by
  unfold lo; rw [Bool.eq_iff_iff]; simp; omega
theorem cutS_form (v : Nat) (keep m : Int) (neg : Bool) (h0 : 0 ≤ keep) (h1 : keep ≤ 127) (hv : v < 2 ^ 256) :
    cutS v keep m neg = v / 2 ^ (256 - keep).toNat + (if nextS m neg (v / 2 ^ (256 - keep).toNat % 2 == 1) (restN v (256 - keep).toNat) then 1 else 0) := by
  have hw := wide_half v keep h0 h1 hv
  have hw2 : v / 2 ^ (256 - keep).toNat < 2 ^ 127 := Nat.lt_of_lt_of_le hw (Nat.pow_le_pow_right (by omega) (by omega))
  have hc : cat (w1 (v / 2 ^ (256 - keep).toNat)) (lo (v / 2 ^ (256 - keep).toNat)) = v / 2 ^ (256 - keep).toNat := by
    rw [← hi_w1]; exact cat_hl _ (by omega)
  unfold cutS rsh
  rw [hc, lo_odd, restS_N v keep h1]
  split <;> rfl
theorem cutS_le (v : Nat) (keep m : Int) (neg : Bool) (h0 : 0 ≤ keep) (h1 : keep ≤ 127) (hv : v < 2 ^ 256) : cutS v keep m neg ≤ 2 ^ keep.toNat := by
  rw [cutS_form v keep m neg h0 h1 hv]
  have := wide_half v keep h0 h1 hv
  split <;> omega
theorem cutS_cat (v : Nat) (keep m : Int) (neg : Bool) (h0 : 0 ≤ keep) (h1 : keep ≤ 127) (hv : v < 2 ^ 256) : cat (hi (cutS v keep m neg)) (lo (cutS v keep m neg)) = cutS v keep m neg := by
  have := cutS_le v keep m neg h0 h1 hv
  have : 2 ^ keep.toNat ≤ 2 ^ 127 := Nat.pow_le_pow_right (by omega) (by omega)
  exact cat_hl _ (by omega)
theorem jamS_le (v : Nat) (n : Int) (hv : v < 2 ^ 256) : jamS v n < 2 ^ 256 := by
  have h : rsh v n < 2 ^ 256 := Nat.lt_of_le_of_lt (Nat.div_le_self _ _) hv
  unfold jamS
  split
  · exact Nat.or_lt_two_pow h (by omega)
  · exact h
theorem jamS_cat (v : Nat) (n : Int) (hv : v < 2 ^ 256) : cat4 (lo (jamS v n)) (w1 (jamS v n)) (w2 (jamS v n)) (w3 (jamS v n)) = jamS v n :=
  cat4_parts _ (by rw [← two256]; exact jamS_le v n hv)
theorem jamS_N (v : Nat) (n : Int) : jamS v n = jamN v n.toNat := by
  unfold jamS jamN lostS rsh
  by_cases h : v % 2 ^ n.toNat = 0 <;> simp [h]
end Go.Proofs.YtkmgheabjcieaaaDoor

namespace Go.Proofs.YtkmgheabjcieaaaDoor
open Go.RowKit Go.Hb
/-- A number's exponent. -/
def nE (e : Int) (v : Nat) : Int := farS e - byS v
/-- The least exponent of a format. -/
def leastS (f : Int) : Int := 1 - emaxS f
/-- A number of the format's precision, of an unbounded exponent. -/
def topB (f m : Int) (neg : Bool) (v : Nat) : Nat := cutS (raiseS v) (precS f) m neg
def fullS (f m : Int) (neg : Bool) (v : Nat) : Bool := (topB f m neg v).testBit (precS f).toNat
def eS (f m : Int) (neg : Bool) (e : Int) (v : Nat) : Int := if fullS f m neg v then nE e v + 1 else nE e v
def lowJ (f e : Int) (v : Nat) : Nat := jamS (raiseS v) (leastS f - nE e v)
def subB (f m : Int) (neg : Bool) (e : Int) (v : Nat) : Nat := cutS (lowJ f e v) (precS f) m neg
def tinyS (f m : Int) (aft neg : Bool) (e : Int) (v : Nat) : Bool := decide (nE e v < leastS f) && (!aft || decide (eS f m neg e v < leastS f))
def roundB (f m : Int) (neg : Bool) (e : Int) (v : Nat) : Nat :=
  if emaxS f < eS f m neg e v then overB f m neg else if nE e v < leastS f then makeF f neg (fieldS f (subB f m neg e v)) (subB f m neg e v) else makeF f neg (eS f m neg e v - leastS f + 1) (topB f m neg v)
def inexactS (f e : Int) (v : Nat) : Bool := if nE e v < leastS f then inexS (lowJ f e v) (precS f) else inexS (raiseS v) (precS f)
def flagsS (inex tiny : Bool) : Int := if inex then (if tiny then 24 else 16) else 0
def roundFl (f m : Int) (aft neg : Bool) (e : Int) (v : Nat) : Int := if emaxS f < eS f m neg e v then 20 else flagsS (inexactS f e v) (tinyS f m aft neg e v)
theorem ret_round {a b x c d y : Int} (h : a = c ∧ b = d) (hx : x = y) : Ending.returned (.agg #[.int .u64 a, .int .u64 b, .int .u8 x]) = Ending.returned (.agg #[.int .u64 c, .int .u64 d, .int .u8 y]) := by rw [h.1, h.2, hx]
theorem leastS_bd (f : Int) : -16382 ≤ leastS f ∧ leastS f ≤ 1 := by obtain ⟨h0, h1⟩ := emaxS_bd f; unfold leastS; omega
theorem nE_bd (e : Int) (v : Nat) (h : v < 2 ^ 256) : -1099511628032 ≤ nE e v ∧ nE e v ≤ 1099511627776 := by
  obtain ⟨h0, h1⟩ := byS_bd v h; unfold nE farS; omega
theorem flagsS_f (t : Bool) : flagsS false t = 0 := rfl
theorem flagsS_tf : flagsS true false = 16 := rfl
theorem flagsS_tt : flagsS true true = 24 := rfl
theorem wrap_in (x : Int) (h0 : -4611686018427387904 ≤ x) (h1 : x ≤ 4611686018427387904) : IntKind.i64.wrap x = x := IntWalk.i64_in _ (by omega)
theorem wraps (N E L M : Int) (h0 : -16382 ≤ L) (h1 : L ≤ 1) (h2 : -1099511628032 ≤ N) (h3 : N ≤ 1099511627776) (h4 : N ≤ E) (h5 : E ≤ M) (h6 : M ≤ 16383) : IntKind.i64.wrap (E - L) = E - L ∧ IntKind.i64.wrap (E - L + 1) = E - L + 1 ∧ IntKind.i64.wrap (L - N) = L - N :=
  ⟨wrap_in _ (by omega) (by omega), wrap_in _ (by omega) (by omega), wrap_in _ (by omega) (by omega)⟩
theorem top_ne0 (N E L : Int) (h4 : N ≤ E) (h : ¬ N < L) : ¬ E - L + 1 = 0 := by omega
theorem eS_bd (f m : Int) (neg : Bool) (e : Int) (v : Nat) : nE e v ≤ eS f m neg e v ∧ eS f m neg e v ≤ nE e v + 1 := by unfold eS; split <;> omega
end Go.Proofs.YtkmgheabjcieaaaDoor

namespace Go.Proofs.YtkmgheabjcieaaaDoor
open Go.RowKit Go.Hb
/-- What Round answers: the bits. -/
def resB (f m : Int) (neg : Bool) (e : Int) (v : Nat) : Nat := if f < 4 ∧ m ≤ 4 then (if v = 0 then makeF f neg 0 0 else roundB f m neg e v) else 0
/-- What Round answers: the flags. -/
def resFl (f m : Int) (aft neg : Bool) (e : Int) (v : Nat) : Int := if f < 4 ∧ m ≤ 4 then (if v = 0 then 0 else roundFl f m aft neg e v) else 0
end Go.Proofs.YtkmgheabjcieaaaDoor
