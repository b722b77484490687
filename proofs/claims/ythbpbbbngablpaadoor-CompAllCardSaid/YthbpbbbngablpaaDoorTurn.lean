/- The contract of addsub.Turn: for every input; a sign turned, as codes. Condition: the listed table is laid. -/
import Derived.Test.YthbpbbbngablpaaDoorFormat4
import Derived.Test.YthbpbbbngablpaaDoorFormat3
import Derived.Test.YthbpbbbngablpaaDoorCodes4
set_option linter.unusedSimpArgs false
set_option linter.unusedVariables false
namespace Go.Proofs.YthbpbbbngablpaaDoor
open Go.RowKit Go.Hb
/-- The bits with the sign turned. -/
def turnF (f : Int) (v : Nat) : Nat := makeF f (!(sgnF f v)) (expF f v) (cat (hi (fracF f v)) (lo (fracF f v)))
end Go.Proofs.YthbpbbbngablpaaDoor
namespace Go.Proofs.YthbpbbbngablpaaDoor
open Go.RowKit Go.Hb
theorem fracF_lt128 (f : Int) (v : Nat) (h0 : 0 ≤ f) (hf : f < 4) : fracF f v < 2 ^ 128 := by
  have h1 := frac_lt_p f v h0 hf
  obtain ⟨p0, p1⟩ := precS_bd f
  exact Nat.lt_of_lt_of_le h1 (Nat.pow_le_pow_right (by decide) (by omega))
theorem expF_bd (f : Int) (v : Nat) (h0 : 0 ≤ f) (hf : f < 4) : (expF f v : Int) ≤ 2 * emaxS f + 1 := by
  obtain ⟨x1, x2⟩ := fmt_ex f h0 hf
  unfold expF
  rw [if_neg (by omega), x1]
  have := Nat.mod_lt (v / 2 ^ (precS f - 1).toNat) (y := (2 * emaxS f + 2).toNat) (by omega)
  omega
theorem turnF_c (f : Int) (v : Nat) (h0 : 0 ≤ f) (hf : f < 4) : turnF f v = codeF f v + signN f (!(sgnF f v)) := by
  unfold turnF
  rw [cat_small _ (fracF_lt128 f v h0 hf), makeF_c f _ _ _ h0 hf (by omega) (expF_bd f v h0 hf)]
  unfold codeF
  rw [Nat.mod_eq_of_lt (frac_lt_p f v h0 hf), Int.toNat_natCast]
theorem turnF_of (f : Int) (c : Nat) (neg : Bool) (h0 : 0 ≤ f) (hf : f < 4) (hc : c < 2 ^ (widthS f - 1).toNat) : turnF f (c + signN f neg) = c + signN f (!neg) := by
  rw [turnF_c f _ h0 hf, code_of f c neg h0 hf hc, (of_code f c neg h0 hf hc).2.2]
theorem endC_lt (f m : Int) (neg : Bool) (c : Nat) (h0 : 0 ≤ f) (hf : f < 4) : endC f m neg c < 2 ^ (widthS f - 1).toNat := by
  have h1 := infC_lt f h0 hf
  have h2 := endC_le f m neg c
  have h3 := Nat.two_pow_pos (precS f - 1).toNat
  omega
/-- What is rounded is turned by turning the sign and mirroring the mode. -/
theorem res_turn (f m e : Int) (v : Nat) (h0 : 0 ≤ f) (hf : f < 4) (hm : m ≤ 4) (hv : v < 2 ^ 256) : turnF f (resB f m false e v) = resB f (mirS m) true e v ∧ sgnF f (resB f (mirS m) true e v) = true := by
  rw [res_mir f m e v h0 hf hm hv, res_code f m false e v h0 hf hm hv]
  have hl := endC_lt f m false (codeR f m false KK e v) h0 hf
  rw [turnF_of f _ false h0 hf hl]
  have hz : signN f false = 0 := rfl
  rw [hz, Nat.add_zero]
  exact ⟨rfl, (of_code f _ true h0 hf hl).2.2⟩
end Go.Proofs.YthbpbbbngablpaaDoor
