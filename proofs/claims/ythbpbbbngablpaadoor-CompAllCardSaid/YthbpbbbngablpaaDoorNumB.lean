/- The contracts of the reference's formats, ends and rounding (chapters 7, 13, 14, 15), the plain law of its rounding, the walk of OverEnds. Condition: the listed table is laid. -/
import Derived.Test.YthbpbbbngablpaaDoorNumA
import Derived.Test.YthbpbbbngablpaaDoorFormat4
import Derived.Test.YthbpbbbngablpaaDoorOver
import Derived.Test.YthbpbbbngablpaaDoorCodes
import Derived.Test.YthbpbbbngablpaaDoorLaw14a
set_option linter.unusedSimpArgs false
set_option linter.unusedVariables false
namespace Go.Proofs.YthbpbbbngablpaaDoor
open Go.RowKit Go.Hb
theorem num_Shl_at (a n : Nat) (j : Int) (va : Value) (w : World) (hj : j = (n : Nat)) (ha : RN w va a) (la : dl a ≤ 100000) (hn : n ≤ 1000000) : Calls Tryd.prog 51 #[va, .int .i64 j] w fun en w' => GivesN (a * 2 ^ n) en w' ∧ Below w.heap.size w w' := by
  subst hj; exact num_Shl a n va w ha la hn
theorem num_Shr_at (a n : Nat) (j : Int) (va : Value) (w : World) (hj : j = (n : Nat)) (ha : RN w va a) (la : dl a ≤ 100000) (hn : n ≤ 1000000) : Calls Tryd.prog 102 #[va, .int .i64 j] w fun en w' => GivesN (a / 2 ^ n) en w' ∧ Below w.heap.size w w' := by
  subst hj; exact num_Shr a n va w ha la hn
theorem num_Cut_at (a n : Nat) (j : Int) (va : Value) (w : World) (hj : j = (n : Nat)) (ha : RN w va a) (la : dl a ≤ 100000) (hn : n ≤ 1000000) : Calls Tryd.prog 61 #[va, .int .i64 j] w fun en w' => GivesN (a % 2 ^ n) en w' ∧ Below w.heap.size w w' := by
  subst hj; exact num_Cut a n va w ha la hn
theorem num_Full_at (n : Nat) (j : Int) (w : World) (hj : j = (n : Nat)) (hn : n ≤ 1000000) : Calls Tryd.prog 91 #[.int .i64 j] w fun en w' => GivesN (2 ^ n) en w' ∧ Below w.heap.size w w' := by
  subst hj; exact num_Full n w hn
theorem num_Bit_at (a i : Nat) (j : Int) (v : Value) (w : World) (hj : j = (i : Nat)) (h : RN w v a) (hi : i ≤ 1000000) : Calls Tryd.prog 27 #[v, .int .i64 j] w fun en w' => en = .returned (.bool (a.testBit i)) ∧ w = w' := by
  subst hj; exact num_Bit a i v w h hi
theorem fmt_cases (f : Int) (h0 : 0 ≤ f) : f = 0 ∨ f = 1 ∨ f = 2 ∨ f = 3 ∨ ((f == 0) = false ∧ (f == 1) = false ∧ (f == 2) = false ∧ (f == 3) = false ∧ 4 ≤ f) := by
  by_cases h : f < 4
  · have : f = 0 ∨ f = 1 ∨ f = 2 ∨ f = 3 := by omega
    rcases this with h | h | h | h
    · exact Or.inl h
    · exact Or.inr (Or.inl h)
    · exact Or.inr (Or.inr (Or.inl h))
    · exact Or.inr (Or.inr (Or.inr (Or.inl h)))
  · refine Or.inr (Or.inr (Or.inr (Or.inr ⟨?_, ?_, ?_, ?_, by omega⟩)))
    all_goals (rw [beq_eq_false_iff_ne]; omega)
set_option maxRecDepth 100000 in
theorem ref_Width (f : Int) [hU : U8 f] (w : World) : Calls Tryd.prog 25 #[.int .u8 f] w fun en w' => en = .returned (.int .i64 (widthS f)) ∧ w = w' := by
  rcases fmt_cases f hU.ge with rfl | rfl | rfl | rfl | ⟨h0, h1, h2, h3, h4⟩
  case inr.inr.inr.inr => rw [(fmt_none f h4).1]; go_enter Tryd.func25, Tryd.ntmps25; go_wp2_with fail; go_returns; exact ⟨rfl, by first | rfl | trivial⟩
  all_goals (go_enter Tryd.func25, Tryd.ntmps25; go_wp2_with fail; go_returns; exact ⟨rfl, by first | rfl | trivial⟩)
set_option maxRecDepth 100000 in
theorem ref_Prec (f : Int) [hU : U8 f] (w : World) : Calls Tryd.prog 92 #[.int .u8 f] w fun en w' => en = .returned (.int .i64 (precS f)) ∧ w = w' := by
  rcases fmt_cases f hU.ge with rfl | rfl | rfl | rfl | ⟨h0, h1, h2, h3, h4⟩
  case inr.inr.inr.inr => rw [(fmt_none f h4).2.1]; go_enter Tryd.func92, Tryd.ntmps92; go_wp2_with fail; go_returns; exact ⟨rfl, by first | rfl | trivial⟩
  all_goals (go_enter Tryd.func92, Tryd.ntmps92; go_wp2_with fail; go_returns; exact ⟨rfl, by first | rfl | trivial⟩)
set_option maxRecDepth 100000 in
theorem ref_Emax (f : Int) [hU : U8 f] (w : World) : Calls Tryd.prog 90 #[.int .u8 f] w fun en w' => en = .returned (.int .i64 (emaxS f)) ∧ w = w' := by
  rcases fmt_cases f hU.ge with rfl | rfl | rfl | rfl | ⟨h0, h1, h2, h3, h4⟩
  case inr.inr.inr.inr => rw [(fmt_none f h4).2.2]; go_enter Tryd.func90, Tryd.ntmps90; go_wp2_with fail; go_returns; exact ⟨rfl, by first | rfl | trivial⟩
  all_goals (go_enter Tryd.func90, Tryd.ntmps90; go_wp2_with fail; go_returns; exact ⟨rfl, by first | rfl | trivial⟩)
theorem dl_of (n k : Nat) (h : n < 2 ^ k) (hk : k ≤ 3000000) : dl n ≤ 100000 := by
  have := blen_le_of n k h
  unfold dl; omega
end Go.Proofs.YthbpbbbngablpaaDoor
namespace Go.Proofs.YthbpbbbngablpaaDoor
open Go.RowKit Go.Hb
theorem dl_nought : dl 0 ≤ 100000 := by rw [dl_zero]; omega
theorem max_same (f : Int) (neg : Bool) (h0 : 0 ≤ f) (hf : f < 4) : makeF f neg (2 * emaxS f) (2 ^ (precS f - 1).toNat - 1) = makeF f neg (2 * emaxS f) (cat 18446744073709551615 18446744073709551615) := by
  obtain ⟨b1, b2, b3, b4, b5, b6⟩ := fmt_bd f h0 hf
  have e : cat 18446744073709551615 18446744073709551615 = 2 ^ 128 - 1 := by decide
  have e2 : (2 ^ (precS f - 1).toNat - 1) % 2 ^ (precS f - 1).toNat = 2 ^ (precS f - 1).toNat - 1 := Nat.mod_eq_of_lt (Nat.sub_lt (Nat.two_pow_pos _) (by decide))
  rw [e]
  unfold makeF
  rw [ones_mod _ (by omega), e2]
end Go.Proofs.YthbpbbbngablpaaDoor
namespace Go.Proofs.YthbpbbbngablpaaDoor
open Go.RowKit Go.Hb
theorem makeF_none (f e : Int) (neg : Bool) (x : Nat) (h : 4 ≤ f) : makeF f neg e x = 0 := by unfold makeF; rw [if_pos h]
end Go.Proofs.YthbpbbbngablpaaDoor
namespace Go.Proofs.YthbpbbbngablpaaDoor
open Go.RowKit Go.Hb
/-- A number Q by 2^n: its floor, what is left, and the rounded one. -/
def floorR (q : Nat) (n : Int) : Nat := if n ≤ 0 then q * 2 ^ (-n).toNat else q / 2 ^ n.toNat
def restR (q : Nat) (n : Int) : Int := if n ≤ 0 then 0 else restN q n.toNat
def cutR (m : Int) (neg : Bool) (q : Nat) (n : Int) : Nat := floorR q n + (if nextS m neg (floorR q n % 2 == 1) (restR q n) then 1 else 0)
theorem restG_scale (d g s : Nat) (hs : 0 < s) : restG (d * s) (g * s) = restG d g := by
  unfold restG
  have h1 : d * s = 0 ↔ d = 0 := by rw [Nat.mul_eq_zero]; omega
  have h2 : 2 * (d * s) < g * s ↔ 2 * d < g := by rw [← Nat.mul_assoc]; exact Nat.mul_lt_mul_right hs
  have h3 : 2 * (d * s) = g * s ↔ 2 * d = g := by rw [← Nat.mul_assoc]; exact Nat.mul_left_inj (by omega)
  simp only [h1, h2, h3]
theorem cut_unit (Q t : Nat) (E K unit : Int) (h0 : 0 ≤ E + K) (ht : unit + K = t) : Q * 2 ^ (E + K).toNat / 2 ^ t = floorR Q (unit - E) ∧ restN (Q * 2 ^ (E + K).toNat) t = restR Q (unit - E) := by
  unfold floorR restR
  by_cases h : unit - E ≤ 0
  · have e : (E + K).toNat = (-(unit - E)).toNat + t := by omega
    rw [if_pos h, if_pos h, e, Nat.pow_add, ← Nat.mul_assoc, Nat.mul_div_cancel _ (Nat.two_pow_pos _), restN_G, Nat.mul_mod_left]
    exact ⟨rfl, by simp [restG]⟩
  · have e : t = (E + K).toNat + (unit - E).toNat := by omega
    rw [if_neg h, if_neg h, restN_G, restN_G]
    generalize (unit - E).toNat = b at *
    subst e
    generalize (E + K).toNat = a at *
    have hp := Nat.two_pow_pos a
    rw [Nat.pow_add, ← Nat.div_div_eq_div_mul, Nat.mul_div_cancel _ hp, Nat.mul_comm (2 ^ a) (2 ^ b), Nat.mul_mod_mul_right, restG_scale _ _ _ hp]
    exact ⟨rfl, rfl⟩
theorem code_cut (p B : Nat) (m : Int) (neg : Bool) (Q : Nat) (E K unit : Int) (hp : 2 ≤ p) (h0 : 0 ≤ E + K) (ht : unit + K = cutAt p B (Q * 2 ^ (E + K).toNat)) :
    codeX p B m neg (Q * 2 ^ (E + K).toNat) = (cutAt p B (Q * 2 ^ (E + K).toNat) - B) * 2 ^ (p - 1) + cutR m neg Q (unit - E) ∧ restC p B (Q * 2 ^ (E + K).toNat) = restR Q (unit - E) ∧
    cutR m neg Q (unit - E) ≤ 2 * 2 ^ (p - 1) ∧ (cutAt p B (Q * 2 ^ (E + K).toNat) = B ∨ 2 ^ (p - 1) ≤ cutR m neg Q (unit - E)) := by
  obtain ⟨c1, c2⟩ := cut_unit Q _ E K unit h0 ht
  obtain ⟨b1, b2, b3⟩ := cut_bd p B (Q * 2 ^ (E + K).toNat) (by omega)
  rw [c1] at b2 b3
  refine ⟨?_, by rw [restC_N p B _ (by omega), c2], ?_, ?_⟩
  · unfold codeX
    rw [floorC_odd p B _ hp, restC_N p B _ (by omega), c1, c2]
    unfold floorC cutR
    rw [c1, Nat.add_assoc]
  · unfold cutR; split <;> omega
  · unfold cutR; split <;> omega
/-- The reference's answer. -/
def ownR (f m : Int) (neg : Bool) (Q : Nat) (E : Int) : Int := blen (cutR m neg Q (blen Q - precS f)) + blen Q - 1 + E - precS f
def unitR (f : Int) (Q : Nat) (E : Int) : Int := max (blen Q - 1 + E) (leastS f) - (precS f - 1)
def lowR (f m : Int) (neg : Bool) (Q : Nat) (E : Int) : Nat := cutR m neg Q (unitR f Q E - E)
def tinyR (f m : Int) (aft neg : Bool) (Q : Nat) (E : Int) : Bool := if aft then decide (ownR f m neg Q E < leastS f) else decide ((blen Q : Int) - 1 + E < leastS f)
def refB (f m : Int) (neg : Bool) (Q : Nat) (E : Int) : Nat :=
  if Q = 0 then makeF f neg 0 0 else if emaxS f < ownR f m neg Q E then overB f m neg else
    if (blen (lowR f m neg Q E) : Int) < precS f then makeF f neg 0 (lowR f m neg Q E) else
      makeF f neg (blen (lowR f m neg Q E) + unitR f Q E - leastS f) (lowR f m neg Q E / 2 ^ (blen (lowR f m neg Q E) - precS f).toNat)
def refFl (f m : Int) (aft neg : Bool) (Q : Nat) (E : Int) : Int :=
  if Q = 0 then 0 else if emaxS f < ownR f m neg Q E then 20 else flagsS (restR Q (unitR f Q E - E) != 0) (tinyR f m aft neg Q E)
theorem blen_full (p n : Nat) (hp : 1 ≤ p) (h1 : 2 ^ (p - 1) ≤ n) (h2 : n ≤ 2 * 2 ^ (p - 1)) : (n < 2 * 2 ^ (p - 1) ∧ blen n = p) ∨ (n = 2 * 2 ^ (p - 1) ∧ blen n = p + 1) := by
  have e : 2 * 2 ^ (p - 1) = 2 ^ p := by rw [← Nat.pow_succ']; congr 1; omega
  by_cases h : n = 2 * 2 ^ (p - 1)
  · right
    refine ⟨h, ?_⟩
    apply blen_unique
    · rw [h, e]; exact Nat.pow_lt_pow_right (by decide) (by omega)
    · right; rw [h, e]; exact Nat.le_refl _
  · left
    refine ⟨by omega, ?_⟩
    apply blen_unique
    · rw [← e]; omega
    · exact Or.inr h1
theorem cut_is (X Q : Nat) (E K : Int) (hQ : Q ≠ 0) (h0 : 0 ≤ E + K) (hX : X = Q * 2 ^ (E + K).toNat) : (blen X : Int) = blen Q + (E + K) := by
  rw [hX, blen_up _ _ hQ]; omega
/-- How far a rounded number reaches, by its free code. -/
theorem own_code (f m : Int) (neg : Bool) (Q : Nat) (E K : Int) (hf0 : 0 ≤ f) (hf : f < 4) (hQ : Q ≠ 0) (h0 : 0 ≤ E + K) (hK : precS f ≤ E + K) (T : Nat) :
    ownR f m neg Q E + K + 1 - precS f < T ↔ codeX (precS f).toNat 0 m neg (Q * 2 ^ (E + K).toNat) < (T + 1) * 2 ^ ((precS f).toNat - 1) := by
  obtain ⟨f1, f2, f3, f4, f5, f6⟩ := fmt_bd f hf0 hf
  have hb := cut_is _ Q E K hQ h0 rfl
  have hq := blen_ne Q hQ
  have hc : (cutAt (precS f).toNat 0 (Q * 2 ^ (E + K).toNat) : Int) = blen Q + (E + K) - precS f := by unfold cutAt; omega
  have hu : (blen Q : Int) - precS f = (blen Q + E - precS f) - E := by omega
  obtain ⟨c1, _, c3, c4⟩ := code_cut (precS f).toNat 0 m neg Q E K (blen Q + E - precS f) (by omega) h0 (by omega)
  rw [← hu] at c1 c3 c4
  have hn : 2 ^ ((precS f).toNat - 1) ≤ cutR m neg Q (blen Q - precS f) := by
    rcases c4 with c4 | c4
    · omega
    · exact c4
  unfold ownR
  rw [c1]
  generalize cutR m neg Q (blen Q - precS f) = n at *
  have hcn : cutAt (precS f).toNat 0 (Q * 2 ^ (E + K).toNat) - 0 = (blen Q + (E + K) - precS f).toNat := by omega
  rw [hcn]
  generalize hs : (blen Q + (E + K) - precS f).toNat = s at *
  have hp := Nat.two_pow_pos ((precS f).toNat - 1)
  rcases blen_full (precS f).toNat n (by omega) hn c3 with ⟨g1, g2⟩ | ⟨g1, g2⟩
  · have e1 : (blen n : Int) = precS f := by omega
    generalize 2 ^ ((precS f).toNat - 1) = u at *
    rw [e1]
    have e2 : s * u + n < (T + 1) * u ↔ s < T := by
      constructor
      · intro h
        have h3 : (s + 1) * u < (T + 1) * u := by rw [Nat.succ_mul]; omega
        exact Nat.succ_lt_succ_iff.1 (Nat.lt_of_mul_lt_mul_right h3)
      · intro h
        have h3 : (s + 2) * u ≤ (T + 1) * u := Nat.mul_le_mul_right _ (by omega)
        have h4 : (s + 2) * u = s * u + 2 * u := Nat.add_mul _ _ _
        omega
    rw [e2]; omega
  · have e1 : (blen n : Int) = precS f + 1 := by omega
    rw [e1, g1]
    generalize 2 ^ ((precS f).toNat - 1) = u at *
    have e2 : s * u + 2 * u < (T + 1) * u ↔ s + 1 < T := by
      rw [← Nat.add_mul]
      constructor
      · intro h; have := Nat.lt_of_mul_lt_mul_right h; omega
      · intro h; exact Nat.mul_lt_mul_of_pos_right (by omega) hp
    rw [e2]; omega
theorem code_free (p B : Nat) (m : Int) (neg : Bool) (X : Nat) (hp : 2 ≤ p) (h : B + p ≤ blen X) : codeX p 0 m neg X = codeX p B m neg X + B * 2 ^ (p - 1) := by
  have h1 : cutAt p 0 X = cutAt p B X := by unfold cutAt; omega
  have h2 : cutAt p 0 X - 0 = cutAt p B X - B + B := by unfold cutAt; omega
  unfold codeX
  rw [floorC_odd p 0 _ hp, floorC_odd p B _ hp, restC_N p 0 _ (by omega), restC_N p B _ (by omega), h1]
  unfold floorC
  rw [h2, h1, Nat.add_mul]; omega
theorem code_few (p B : Nat) (m : Int) (neg : Bool) (X : Nat) (hp : 2 ≤ p) (h : blen X < B + p) : codeX p B m neg X ≤ 2 * 2 ^ (p - 1) := by
  have h1 : cutAt p B X = B := by unfold cutAt; omega
  obtain ⟨b1, b2, b3⟩ := cut_bd p B X (by omega)
  unfold codeX floorC
  rw [h1] at *
  rw [Nat.sub_self, Nat.zero_mul]
  split <;> omega
theorem code_free_few (p B : Nat) (m : Int) (neg : Bool) (X : Nat) (hp : 2 ≤ p) (h : blen X < B + p) : codeX p 0 m neg X ≤ (B + 1) * 2 ^ (p - 1) := by
  obtain ⟨b1, b2, b3⟩ := cut_bd p 0 X (by omega)
  by_cases h0 : blen X ≤ p
  · have h1 : cutAt p 0 X = 0 := by unfold cutAt; omega
    by_cases hB : B = 0
    · subst hB
      have hx : X < 2 ^ (p - 1) := Nat.lt_of_lt_of_le (blen_lt X) (Nat.pow_le_pow_right (by decide) (by omega))
      unfold codeX
      rw [restC_N p 0 _ (by omega)]
      unfold floorC
      rw [h1, Nat.pow_zero, Nat.div_one]
      split <;> omega
    · have h3 : 2 * 2 ^ (p - 1) ≤ (B + 1) * 2 ^ (p - 1) := Nat.mul_le_mul_right _ (by omega)
      have h4 : codeX p 0 m neg X ≤ 2 * 2 ^ (p - 1) := by
        rw [h1] at b2
        unfold codeX floorC
        rw [h1, Nat.sub_self, Nat.zero_mul]
        split <;> omega
      omega
  · have h1 : cutAt p 0 X = blen X - p := by unfold cutAt; omega
    have h3 : (blen X - p + 2) * 2 ^ (p - 1) ≤ (B + 1) * 2 ^ (p - 1) := Nat.mul_le_mul_right _ (by omega)
    have h4 : codeX p 0 m neg X ≤ (blen X - p) * 2 ^ (p - 1) + 2 * 2 ^ (p - 1) := by
      rw [h1] at b2
      unfold codeX floorC
      rw [h1, Nat.sub_zero]
      generalize (blen X - p) * 2 ^ (p - 1) = y at *
      split <;> omega
    rw [Nat.add_mul] at h3
    omega
theorem ref_over (f m : Int) (neg : Bool) (Q : Nat) (E K : Int) (hf0 : 0 ≤ f) (hf : f < 4) (hQ : Q ≠ 0) (h0 : 0 ≤ E + K) (hK : 20000 ≤ K) (hK2 : precS f ≤ E + K) :
    emaxS f < ownR f m neg Q E ↔ infC f ≤ codeX (precS f).toNat (unitB f (K - 255)) m neg (Q * 2 ^ (E + K).toNat) := by
  obtain ⟨f1, f2, f3, f4, f5, f6⟩ := fmt_bd f hf0 hf
  obtain ⟨x1, x2⟩ := fmt_ex f hf0 hf
  obtain ⟨m0, m1⟩ := emaxS_bd f
  have hB : (unitB f (K - 255) : Int) = 1 - emaxS f - precS f + 1 + K := by unfold unitB leastS; omega
  have ho := own_code f m neg Q E K hf0 hf hQ h0 hK2 (emaxS f + 2 - precS f + K).toNat
  have hu := Nat.two_pow_pos ((precS f).toNat - 1)
  have hi : infC f = (2 * emaxS f + 1).toNat * 2 ^ ((precS f).toNat - 1) := by unfold infC; congr 2; omega
  rw [hi]
  generalize hX : Q * 2 ^ (E + K).toNat = X at *
  by_cases hb : unitB f (K - 255) + (precS f).toNat ≤ blen X
  · have e := code_free (precS f).toNat (unitB f (K - 255)) m neg X (by omega) hb
    have e2 : ((emaxS f + 2 - precS f + K).toNat + 1) * 2 ^ ((precS f).toNat - 1) = (2 * emaxS f + 1).toNat * 2 ^ ((precS f).toNat - 1) + unitB f (K - 255) * 2 ^ ((precS f).toNat - 1) := by rw [← Nat.add_mul]; congr 1; omega
    rw [e, e2] at ho
    omega
  · have c1 := code_few (precS f).toNat (unitB f (K - 255)) m neg X (by omega) (by omega)
    have c2 := code_free_few (precS f).toNat (unitB f (K - 255)) m neg X (by omega) (by omega)
    have e1 : 3 * 2 ^ ((precS f).toNat - 1) ≤ (2 * emaxS f + 1).toNat * 2 ^ ((precS f).toNat - 1) := Nat.mul_le_mul_right _ (by omega)
    have e2 : (unitB f (K - 255) + 1 + 1) * 2 ^ ((precS f).toNat - 1) ≤ ((emaxS f + 2 - precS f + K).toNat + 1) * 2 ^ ((precS f).toNat - 1) := Nat.mul_le_mul_right _ (by omega)
    rw [Nat.succ_mul] at e2
    have := ho.2 (by omega)
    omega
theorem unit_cut (f : Int) (Q : Nat) (E K : Int) (hf0 : 0 ≤ f) (hf : f < 4) (hQ : Q ≠ 0) (h0 : 0 ≤ E + K) (hK : 20000 ≤ K) : unitR f Q E + K = cutAt (precS f).toNat (unitB f (K - 255)) (Q * 2 ^ (E + K).toNat) := by
  obtain ⟨f1, f2, f3, f4, f5, f6⟩ := fmt_bd f hf0 hf
  obtain ⟨m0, m1⟩ := emaxS_bd f
  have hb := cut_is _ Q E K hQ h0 rfl
  have hB : (unitB f (K - 255) : Int) = 1 - emaxS f - precS f + 1 + K := by unfold unitB leastS; omega
  unfold unitR cutAt leastS
  omega
theorem ref_code (f m : Int) (neg : Bool) (Q : Nat) (E K : Int) (hf0 : 0 ≤ f) (hf : f < 4) (hQ : Q ≠ 0) (h0 : 0 ≤ E + K) (hK : 20000 ≤ K) (hK2 : precS f ≤ E + K) :
    refB f m neg Q E = endC f m neg (codeX (precS f).toNat (unitB f (K - 255)) m neg (Q * 2 ^ (E + K).toNat)) + signN f neg := by
  obtain ⟨f1, f2, f3, f4, f5, f6⟩ := fmt_bd f hf0 hf
  obtain ⟨x1, x2⟩ := fmt_ex f hf0 hf
  obtain ⟨m0, m1⟩ := emaxS_bd f
  have hB : (unitB f (K - 255) : Int) = 1 - emaxS f - precS f + 1 + K := by unfold unitB leastS; omega
  have ho := ref_over f m neg Q E K hf0 hf hQ h0 hK hK2
  have hu := unit_cut f Q E K hf0 hf hQ h0 hK
  obtain ⟨c1, c2, c3, c4⟩ := code_cut (precS f).toNat (unitB f (K - 255)) m neg Q E K (unitR f Q E) (by omega) h0 hu
  have hi : infC f = (2 * emaxS f + 1).toNat * 2 ^ ((precS f).toNat - 1) := by unfold infC; congr 2; omega
  have hl : cutR m neg Q (unitR f Q E - E) = lowR f m neg Q E := rfl
  rw [hl] at c1 c3 c4
  have hcb : unitB f (K - 255) ≤ cutAt (precS f).toNat (unitB f (K - 255)) (Q * 2 ^ (E + K).toNat) := Nat.le_max_right _ _
  unfold refB endC
  rw [if_neg hQ]
  by_cases hov : emaxS f < ownR f m neg Q E
  · rw [if_pos hov, if_pos (ho.1 hov), overB_c f m neg hf0 hf]
  · have hno := fun h => hov (ho.2 h)
    rw [if_neg hov, if_neg hno]
    rw [c1, hi] at hno
    rw [c1]
    have hlo : leastS f = 1 - emaxS f := rfl
    generalize cutAt (precS f).toNat (unitB f (K - 255)) (Q * 2 ^ (E + K).toNat) = t at *
    generalize lowR f m neg Q E = n at *
    have hp1 : (precS f - 1).toNat = (precS f).toNat - 1 := by omega
    have hup := Nat.two_pow_pos ((precS f).toNat - 1)
    have hfew : ∀ s : Nat, ¬ (2 * emaxS f + 1).toNat * 2 ^ ((precS f).toNat - 1) ≤ s * 2 ^ ((precS f).toNat - 1) → (s : Int) < 2 * emaxS f + 1 := fun s h => by
      have : s < (2 * emaxS f + 1).toNat := Nat.lt_of_not_le fun h' => h (Nat.mul_le_mul_right _ h')
      omega
    by_cases hn : n < 2 ^ ((precS f).toNat - 1)
    · have hbn : blen n ≤ (precS f).toNat - 1 := by
        by_cases hz : n = 0
        · rw [hz, blen_zero]; exact Nat.zero_le _
        · have h1 := blen_le n hz
          have := (Nat.pow_lt_pow_iff_right (a := 2) (by decide)).1 (Nat.lt_of_le_of_lt h1 hn)
          omega
      have ht : t = unitB f (K - 255) := by rcases c4 with h | h <;> omega
      rw [if_pos (by omega), makeF_c f 0 neg n hf0 hf (by omega) (by omega), hp1, Nat.mod_eq_of_lt hn, ht, Nat.sub_self]
      simp
    · rcases blen_full (precS f).toNat n (by omega) (by omega) c3 with ⟨g1, g2⟩ | ⟨g1, g2⟩
      · have e1 : (blen n : Int) = precS f := by omega
        have e2 : n % 2 ^ ((precS f).toNat - 1) = n - 2 ^ ((precS f).toNat - 1) := by rw [Nat.mod_eq_sub_mod (by omega), Nat.mod_eq_of_lt (by omega)]
        have hs := hfew (t - unitB f (K - 255) + 1) (by rw [Nat.succ_mul]; omega)
        have e3 : (precS f + unitR f Q E - leastS f).toNat = t - unitB f (K - 255) + 1 := by omega
        rw [if_neg (by omega), e1, show (precS f - precS f).toNat = 0 by omega, Nat.pow_zero, Nat.div_one, makeF_c f _ neg n hf0 hf (by omega) (by omega), hp1, e2, e3, Nat.succ_mul]
        omega
      · have e1 : (blen n : Int) = precS f + 1 := by omega
        have hs := hfew (t - unitB f (K - 255) + 2) (by rw [Nat.add_mul]; omega)
        have e3 : (precS f + 1 + unitR f Q E - leastS f).toNat = t - unitB f (K - 255) + 2 := by omega
        rw [if_neg (by omega), e1, show (precS f + 1 - precS f).toNat = 1 by omega, Nat.pow_one, g1, Nat.mul_div_cancel_left _ (by decide), makeF_c f _ neg _ hf0 hf (by omega) (by omega), hp1, Nat.mod_self, e3, Nat.add_mul, Nat.add_zero]
theorem ref_flag (f m : Int) (aft neg : Bool) (Q : Nat) (E K : Int) (hf0 : 0 ≤ f) (hf : f < 4) (hQ : Q ≠ 0) (h0 : 0 ≤ E + K) (hK : 20000 ≤ K) (hK2 : precS f ≤ E + K) :
    refFl f m aft neg Q E = flagX f m aft neg (unitB f (K - 255)) (Q * 2 ^ (E + K).toNat) := by
  obtain ⟨f1, f2, f3, f4, f5, f6⟩ := fmt_bd f hf0 hf
  obtain ⟨m0, m1⟩ := emaxS_bd f
  have hB : (unitB f (K - 255) : Int) = 1 - emaxS f - precS f + 1 + K := by unfold unitB leastS; omega
  have ho := ref_over f m neg Q E K hf0 hf hQ h0 hK hK2
  have hu := unit_cut f Q E K hf0 hf hQ h0 hK
  obtain ⟨_, c2, _, _⟩ := code_cut (precS f).toNat (unitB f (K - 255)) m neg Q E K (unitR f Q E) (by omega) h0 hu
  have hown := own_code f m neg Q E K hf0 hf hQ h0 hK2 (unitB f (K - 255))
  have hb := cut_is _ Q E K hQ h0 rfl
  have hlo : leastS f = 1 - emaxS f := rfl
  have hX0 : Q * 2 ^ (E + K).toNat ≠ 0 := Nat.mul_ne_zero hQ (Nat.ne_of_gt (Nat.two_pow_pos _))
  have hfl : floorC (precS f).toNat (unitB f (K - 255)) (Q * 2 ^ (E + K).toNat) < 2 ^ ((precS f).toNat - 1) ↔ (blen Q : Int) - 1 + E < leastS f := by
    obtain ⟨b1, b2, b3⟩ := cut_bd (precS f).toNat (unitB f (K - 255)) (Q * 2 ^ (E + K).toNat) (by omega)
    have hup := Nat.two_pow_pos ((precS f).toNat - 1)
    constructor
    · intro h
      unfold floorC at h
      by_cases ht : cutAt (precS f).toNat (unitB f (K - 255)) (Q * 2 ^ (E + K).toNat) = unitB f (K - 255)
      · rw [ht, Nat.sub_self, Nat.zero_mul, Nat.zero_add] at h
        rw [Nat.div_lt_iff_lt_mul (Nat.two_pow_pos _), ← Nat.pow_add] at h
        have h1 := blen_le _ hX0
        have := (Nat.pow_lt_pow_iff_right (a := 2) (by decide)).1 (Nat.lt_of_le_of_lt h1 h)
        omega
      · have : 1 * 2 ^ ((precS f).toNat - 1) ≤ (cutAt (precS f).toNat (unitB f (K - 255)) (Q * 2 ^ (E + K).toNat) - unitB f (K - 255)) * 2 ^ ((precS f).toNat - 1) := Nat.mul_le_mul_right _ (by omega)
        omega
    · intro h
      have ht : cutAt (precS f).toNat (unitB f (K - 255)) (Q * 2 ^ (E + K).toNat) = unitB f (K - 255) := by unfold cutAt; omega
      unfold floorC
      rw [ht, Nat.sub_self, Nat.zero_mul, Nat.zero_add, Nat.div_lt_iff_lt_mul (Nat.two_pow_pos _), ← Nat.pow_add]
      exact Nat.lt_of_lt_of_le (blen_lt _) (Nat.pow_le_pow_right (by decide) (by omega))
  have htiny : tinyR f m aft neg Q E = tinyX (precS f).toNat (unitB f (K - 255)) m aft neg (Q * 2 ^ (E + K).toNat) := by
    unfold tinyR tinyX
    rw [decide_eq_decide.2 hfl]
    cases aft
    · simp
    · simp only [Bool.not_true, Bool.false_or, if_true]
      have hle : ownR f m neg Q E < leastS f → (blen Q : Int) - 1 + E < leastS f := fun h => by
        have hn : (precS f : Int) ≤ blen (cutR m neg Q (blen Q - precS f)) := by
          have hc : (cutAt (precS f).toNat 0 (Q * 2 ^ (E + K).toNat) : Int) = blen Q + (E + K) - precS f := by unfold cutAt; omega
          have hq := blen_ne Q hQ
          obtain ⟨_, _, d3, d4⟩ := code_cut (precS f).toNat 0 m neg Q E K (blen Q + E - precS f) (by omega) h0 (by omega)
          rw [show (blen Q : Int) + E - precS f - E = blen Q - precS f by omega] at d3 d4
          have hn : 2 ^ ((precS f).toNat - 1) ≤ cutR m neg Q (blen Q - precS f) := by
            rcases d4 with d4 | d4
            · omega
            · exact d4
          rcases blen_full (precS f).toNat _ (by omega) hn d3 with ⟨_, g2⟩ | ⟨_, g2⟩ <;> omega
        unfold ownR at h
        omega
      rw [← decide_eq_decide.2 hown]
      have e : decide (ownR f m neg Q E + K + 1 - precS f < unitB f (K - 255)) = decide (ownR f m neg Q E < leastS f) := by rw [decide_eq_decide]; omega
      rw [e]
      by_cases h : ownR f m neg Q E < leastS f
      · rw [decide_eq_true h, decide_eq_true (hle h)]; rfl
      · rw [decide_eq_false h, Bool.and_false]
  unfold refFl flagX
  rw [if_neg hQ, c2, htiny]
  by_cases hov : emaxS f < ownR f m neg Q E
  · rw [if_pos hov, if_pos (ho.1 hov)]
  · rw [if_neg hov, if_neg fun h => hov (ho.2 h)]
end Go.Proofs.YthbpbbbngablpaaDoor
namespace Go.Proofs.YthbpbbbngablpaaDoor
open Go.RowKit Go.Hb
theorem restR_bd (Q : Nat) (n : Int) : 0 ≤ restR Q n ∧ restR Q n ≤ 3 := by
  unfold restR
  split
  · omega
  · rw [restN_G]; exact restG_bd _ _
theorem dl_ne (d : Nat) (h : d ≠ 0) : (((dl d : Nat) : Int) == 0) = false := by rw [beq_eq_false_iff_ne]; have := dl_pos d h; omega
def GivesNI (n : Nat) (r : Int) (e : Ending) (w : World) : Prop := ∃ u, e = .returned (.tuple #[u, .int .i64 r]) ∧ RN w u n
theorem floorR_len (Q : Nat) (n : Int) (h : dl Q ≤ 50000) (h2 : -1000000 ≤ n) : dl (floorR Q n) ≤ 100000 := by
  unfold floorR
  split
  · have : Q * 2 ^ (-n).toNat < 2 ^ (32 * dl Q + (-n).toNat) := by rw [Nat.pow_add]; exact Nat.mul_lt_mul_of_pos_right (dl_lt Q) (Nat.two_pow_pos _)
    exact dl_of _ _ this (by omega)
  · exact Nat.le_trans (dl_mono (Nat.div_le_self _ _)) (by omega)
end Go.Proofs.YthbpbbbngablpaaDoor
namespace Go.Proofs.YthbpbbbngablpaaDoor
open Go.RowKit Go.Hb
end Go.Proofs.YthbpbbbngablpaaDoor
namespace Go.Proofs.YthbpbbbngablpaaDoor
open Go.RowKit Go.Hb
end Go.Proofs.YthbpbbbngablpaaDoor
