/- What round.Cut keeps, in plain numbers. -/
import Derived.Test.YtgdbdbjegiaifaaDoorPack5
set_option linter.unusedSimpArgs false
set_option linter.unusedVariables false
namespace Go.Proofs.YtgdbdbjegiaifaaDoor
open Go.RowKit Go.Hb
theorem restS_N (v : Nat) (keep : Int) (h1 : keep ≤ 127) : restS v keep = restN v (256 - keep).toNat := by
  have e : (256 - keep).toNat - 1 = (255 - keep).toNat := by omega
  have hs : ¬ (256 - keep).toNat = 0 := by omega
  unfold restS restN ofS lostS
  rw [if_neg hs, e]
  cases v.testBit (255 - keep).toNat <;> by_cases h : v % 2 ^ (255 - keep).toNat = 0 <;> simp [h]
theorem wide_half (v : Nat) (keep : Int) (h0 : 0 ≤ keep) (h1 : keep ≤ 127) (hv : v < 2 ^ 256) : v / 2 ^ (256 - keep).toNat < 2 ^ keep.toNat := by
  rw [Nat.div_lt_iff_lt_mul (Nat.two_pow_pos _), ← Nat.pow_add, show keep.toNat + (256 - keep).toNat = 256 by omega]
  exact hv
theorem lo_odd (x : Nat) : (lo x % 2 == 1) = (x % 2 == 1) := by
  unfold lo; rw [Bool.eq_iff_iff]; simp; omega
theorem cutS_form (v : Nat) (keep m : Int) (neg : Bool) (h0 : 0 ≤ keep) (h1 : keep ≤ 127) (hv : v < 2 ^ 256) :
    cutS v keep m neg = v / 2 ^ (256 - keep).toNat + (if nextS m neg (v / 2 ^ (256 - keep).toNat % 2 == 1) (restN v (256 - keep).toNat) then 1 else 0) := by
  have hw := wide_half v keep h0 h1 hv
  have hw2 : v / 2 ^ (256 - keep).toNat < 2 ^ 127 := Nat.lt_of_lt_of_le hw (Nat.pow_le_pow_right (by omega) (by omega))
  have hc : cat (w1 (v / 2 ^ (256 - keep).toNat)) (lo (v / 2 ^ (256 - keep).toNat)) = v / 2 ^ (256 - keep).toNat := by
    rw [← hi_w1]; exact cat_hl _ (by omega)
  unfold cutS rsh
  rw [hc, lo_odd, restS_N v keep h1]
  split <;> rfl
theorem cutS_le (v : Nat) (keep m : Int) (neg : Bool) (h0 : 0 ≤ keep) (h1 : keep ≤ 127) (hv : v < 2 ^ 256) : cutS v keep m neg ≤ 2 ^ keep.toNat := by
  rw [cutS_form v keep m neg h0 h1 hv]
  have := wide_half v keep h0 h1 hv
  split <;> omega
theorem cutS_cat (v : Nat) (keep m : Int) (neg : Bool) (h0 : 0 ≤ keep) (h1 : keep ≤ 127) (hv : v < 2 ^ 256) : cat (hi (cutS v keep m neg)) (lo (cutS v keep m neg)) = cutS v keep m neg := by
  have := cutS_le v keep m neg h0 h1 hv
  have : 2 ^ keep.toNat ≤ 2 ^ 127 := Nat.pow_le_pow_right (by omega) (by omega)
  exact cat_hl _ (by omega)
theorem jamS_le (v : Nat) (n : Int) (hv : v < 2 ^ 256) : jamS v n < 2 ^ 256 := by
  have h : rsh v n < 2 ^ 256 := Nat.lt_of_le_of_lt (Nat.div_le_self _ _) hv
  unfold jamS
  split
  · exact Nat.or_lt_two_pow h (by omega)
  · exact h
theorem jamS_cat (v : Nat) (n : Int) (hv : v < 2 ^ 256) : cat4 (lo (jamS v n)) (w1 (jamS v n)) (w2 (jamS v n)) (w3 (jamS v n)) = jamS v n :=
  cat4_parts _ (by rw [← two256]; exact jamS_le v n hv)
theorem jamS_N (v : Nat) (n : Int) : jamS v n = jamN v n.toNat := by
  unfold jamS jamN lostS rsh
  by_cases h : v % 2 ^ n.toNat = 0 <;> simp [h]
end Go.Proofs.YtgdbdbjegiaifaaDoor
