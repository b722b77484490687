/- The contracts of package round: for every input. -/
import Derived.Test.YtkmgheabjcieaaaDoorMode
import Derived.Test.YtkmgheabjcieaaaDoorShift6
import Derived.Test.YtkmgheabjcieaaaDoorFormat2
set_option linter.unusedSimpArgs false
set_option linter.unusedVariables false
namespace Go.Hb
/-- A rest of its bits. -/
def ofS (half below : Bool) : Int := if half then (if below then 3 else 2) else (if below then 1 else 0)
/-- The rest of 256 bits behind keep of them. -/
def restS (v : Nat) (keep : Int) : Int := ofS (v.testBit (255 - keep).toNat) (lostS v (255 - keep))
end Go.Hb
namespace Go.Proofs.YtkmgheabjcieaaaDoor
open Go.RowKit Go.Hb
/-- Whether a rest is lost. -/
def inexS (v : Nat) (keep : Int) : Bool := restS v keep != 0
/-- The bits that are kept, rounded. -/
def cutS (v : Nat) (keep m : Int) (neg : Bool) : Nat := if nextS m neg (lo (rsh v (256 - keep)) % 2 == 1) (restS v keep) then cat (w1 (rsh v (256 - keep))) (lo (rsh v (256 - keep))) + 1 else cat (w1 (rsh v (256 - keep))) (lo (rsh v (256 - keep)))
theorem cat4_bit (a b c d : Int) (i : Nat) [ha : U64 a] : (cat4 a b c d).testBit i = if i < 64 then a.toNat.testBit i else (cat4 b c d 0).testBit (i - 64) := by
  have h1 := ha.lt; have h2 := ha.ge
  have e : cat4 a b c d = 2 ^ 64 * cat4 b c d 0 + a.toNat := by unfold cat4; omega
  rw [e, Nat.testBit_two_pow_mul_add _ (by omega)]
theorem cat4_word (b : Nat) (x0 x1 x2 x3 i : Int) [h0 : U64 x0] [h1 : U64 x1] [h2 : U64 x2] [h3 : U64 x3] (w : World) (i0 : 0 ≤ i) (i1 : i ≤ 255)
    (c0 : w.cell? ⟨b, 0, none⟩ = some (.int .u64 x0)) (c1 : w.cell? ⟨b, 1, none⟩ = some (.int .u64 x1)) (c2 : w.cell? ⟨b, 2, none⟩ = some (.int .u64 x2)) (c3 : w.cell? ⟨b, 3, none⟩ = some (.int .u64 x3)) :
    ∃ x : Int, w.cell? ⟨b, (i / 64).toNat, none⟩ = some (.int .u64 x) ∧ 0 ≤ x ∧ x < 18446744073709551616 ∧ (cat4 x0 x1 x2 x3).testBit i.toNat = x.toNat.testBit (i % 64).toNat := by
  have hi : i / 64 = 0 ∨ i / 64 = 1 ∨ i / 64 = 2 ∨ i / 64 = 3 := by omega
  rcases hi with hi | hi | hi | hi
  · refine ⟨x0, by rw [hi]; exact c0, h0.ge, h0.lt, ?_⟩
    rw [cat4_bit, if_pos (by omega)]; congr 1; omega
  · refine ⟨x1, by rw [hi]; exact c1, h1.ge, h1.lt, ?_⟩
    rw [cat4_bit, if_neg (by omega), cat4_bit, if_pos (by omega)]; congr 1; omega
  · refine ⟨x2, by rw [hi]; exact c2, h2.ge, h2.lt, ?_⟩
    have e1 : ¬ i.toNat < 64 := by omega
    have e2 : ¬ i.toNat - 64 < 64 := by omega
    have e3 : i.toNat - 64 - 64 < 64 := by omega
    rw [cat4_bit, if_neg e1, cat4_bit, if_neg e2, cat4_bit, if_pos e3, show i.toNat - 64 - 64 = (i % 64).toNat by omega]
  · refine ⟨x3, by rw [hi]; exact c3, h3.ge, h3.lt, ?_⟩
    have e1 : ¬ i.toNat < 64 := by omega
    have e2 : ¬ i.toNat - 64 < 64 := by omega
    have e3 : ¬ i.toNat - 64 - 64 < 64 := by omega
    have e4 : i.toNat - 64 - 64 - 64 < 64 := by omega
    rw [cat4_bit, if_neg e1, cat4_bit, if_neg e2, cat4_bit, if_neg e3, cat4_bit, if_pos e4, show i.toNat - 64 - 64 - 64 = (i % 64).toNat by omega]
theorem odd_lo (n : Nat) : bits BinOp.and IntKind.u64 (lo n) 1 = lo n % 2 := by
  have := (bits_nat .u64 64 (by decide) (fun n h1 h2 => by rw [IntKind.wrap_u64]; omega) (n % 18446744073709551616) 1 (Nat.mod_lt _ (by decide)) (by decide)).1
  have e : lo n = ((n % 18446744073709551616 : Nat) : Int) := by unfold lo; omega
  rw [e, show (1 : Int) = ((1 : Nat) : Int) from rfl, this, Nat.and_one_is_mod]
  omega
end Go.Proofs.YtkmgheabjcieaaaDoor
