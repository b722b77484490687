/- The plain law of numbers made of integers: flags; whole; back. -/
import Derived.Test.YtkldkchkhblndaaGreatDoorRintN
import Derived.Test.YtkldkchkhblndaaGreatDoorFromint
set_option linter.unusedSimpArgs false
set_option linter.unusedVariables false
namespace Go.Proofs.YtkldkchkhblndaaGreatDoor
open Go.RowKit Go.Hb
theorem wide_one (n : Int) (h : 0 ≤ n) : cat4 n 0 0 0 = n.toNat := by
  unfold cat4
  have z : (0 : Int).toNat = 0 := rfl
  simp only [z, Nat.zero_mul, Nat.add_zero]
theorem val_norm (f : Int) (h0 : 0 ≤ f) (hf : f < 4) : valC (precS f).toNat (unitB f KK) (2 ^ ((precS f).toNat - 1)) < 2 ^ (255 + KK).toNat := by
  obtain ⟨p0, p1, p2⟩ := prec_emax f h0 hf
  obtain ⟨e0, e1⟩ := emaxS_bd f
  have hk : KK = 2199023255552 := rfl
  have hu := Nat.two_pow_pos ((precS f).toNat - 1)
  have he : (precS f).toNat - 1 + (1 - 1 + unitB f KK) < (255 + KK).toNat := by unfold unitB leastS; omega
  clear hk
  generalize unitB f KK = B at *
  generalize (255 + KK).toNat = S at *
  unfold valC
  rw [if_neg (Nat.lt_irrefl _), Nat.mod_self, Nat.div_self hu, Nat.add_zero, ← Nat.pow_add]
  exact Nat.pow_lt_pow_right (by decide) he
theorem norm_floor (p B S n : Nat) (hp : 1 ≤ p) (h3 : valC p B (2 ^ (p - 1)) < 2 ^ S) (hz : ¬ n = 0) : ¬ floorC p B (n * 2 ^ S) < 2 ^ (p - 1) := by
  intro hlt
  have hS := Nat.two_pow_pos S
  have hge : 2 ^ S ≤ n * 2 ^ S := Nat.le_mul_of_pos_left _ (by omega)
  have h1 := floorC_lt p B (n * 2 ^ S) hp
  have h2 := valC_le p B (show floorC p B (n * 2 ^ S) + 1 ≤ 2 ^ (p - 1) from hlt)
  omega
/-- Flags of an integer's number: no underflow. -/
theorem from_flag (f m : Int) (aft neg : Bool) (n : Nat) (h0 : 0 ≤ f) (hf : f < 4) (hm : m ≤ 4) (hn : n < 2 ^ 256) :
    resFl f m aft neg 255 n = 0 ∨ resFl f m aft neg 255 n = 16 ∨ resFl f m aft neg 255 n = 20 := by
  obtain ⟨p0, p1, p2⟩ := prec_emax f h0 hf
  rw [res_flag f m aft neg 255 n h0 hf hm hn, numX_255]
  unfold flagX
  split
  · exact Or.inr (Or.inr rfl)
  · by_cases hz : n = 0
    · left; rw [hz, Nat.zero_mul, restC_zero]; rfl
    · have hS := Nat.two_pow_pos (255 + KK).toNat
      have hge : 2 ^ (255 + KK).toNat ≤ n * 2 ^ (255 + KK).toNat := Nat.le_mul_of_pos_left _ (by omega)
      have ht : tinyX (precS f).toNat (unitB f KK) m aft neg (n * 2 ^ (255 + KK).toNat) = false := by
        unfold tinyX
        rw [Bool.and_eq_false_iff]
        left
        rw [decide_eq_false_iff_not]
        exact norm_floor _ _ _ _ (by omega) (val_norm f h0 hf) hz
      rw [ht]
      unfold flagsS
      split
      · right; left; rfl
      · left; rfl
theorem flag_zero (f m : Int) (aft neg : Bool) (B X : Nat) (hp : 1 ≤ (precS f).toNat) (hz : flagX f m aft neg B X = 0) :
    ¬ infC f ≤ codeX (precS f).toNat B m neg X ∧ codeX (precS f).toNat B m neg X = floorC (precS f).toNat B X ∧ X = valC (precS f).toNat B (floorC (precS f).toNat B X) := by
  unfold flagX at hz
  by_cases ho : infC f ≤ codeX (precS f).toNat B m neg X
  · rw [if_pos ho] at hz; exact absurd hz (by decide)
  rw [if_neg ho] at hz
  have hr : restC (precS f).toNat B X = 0 := by
    unfold flagsS at hz
    by_cases h : restC (precS f).toNat B X = 0
    · exact h
    · rw [if_pos (bne_iff_ne.2 h)] at hz
      split at hz <;> exact absurd hz (by decide)
  refine ⟨ho, ?_, ?_⟩
  · unfold codeX; rw [hr, next_zero, if_neg (show ¬ (false = true) by decide), Nat.add_zero]
  · rcases rest_zero _ _ _ hr with h | h
    · exact h
    · have := floorC_le (precS f).toNat B X hp; omega
theorem res_fin (f : Int) (neg : Bool) (c : Nat) (h0 : 0 ≤ f) (hf : f < 4) (ho : ¬ infC f ≤ c) : classF f (c + signN f neg) < 3 ∧ sgnF f (c + signN f neg) = neg ∧ codeF f (c + signN f neg) = c := by
  have hI := infC_lt f h0 hf
  have hu := Nat.two_pow_pos (precS f - 1).toNat
  have hlt : c < 2 ^ (widthS f - 1).toNat := by omega
  have hco := code_of f c neg h0 hf hlt
  exact ⟨(class_fin f _ h0 hf).2 (by rw [hco]; omega), (of_code f c neg h0 hf hlt).2.2, hco⟩
theorem res_X (f m : Int) (neg : Bool) (e : Int) (v : Nat) (X : Nat) (h0 : 0 ≤ f) (hf : f < 4) (hm : m ≤ 4) (hv : v < 2 ^ 256) (hX : numX KK e v = X) (ho : ¬ infC f ≤ codeX (precS f).toNat (unitB f KK) m neg X) : resB f m neg e v = codeX (precS f).toNat (unitB f KK) m neg X + signN f neg := by
  rw [res_code f m neg e v h0 hf hm hv]
  unfold codeR endC
  rw [hX, if_neg ho]
/-- Without flags: the code's value is the integer. -/
theorem from_exact (f m : Int) (aft neg : Bool) (n : Nat) (h0 : 0 ≤ f) (hf : f < 4) (hm : m ≤ 4) (hn : n < 2 ^ 256) (hz : resFl f m aft neg 255 n = 0) :
    classF f (resB f m neg 255 n) < 3 ∧ sgnF f (resB f m neg 255 n) = neg ∧ valC (precS f).toNat (unitB f KK) (codeF f (resB f m neg 255 n)) = n * 2 ^ (255 + KK).toNat := by
  obtain ⟨p0, p1, p2⟩ := prec_emax f h0 hf
  rw [res_flag f m aft neg 255 n h0 hf hm hn, numX_255] at hz
  obtain ⟨ho, hc, hv⟩ := flag_zero f m aft neg _ _ (by omega) hz
  have hB := res_X f m neg 255 n _ h0 hf hm hn (numX_255 n) ho
  rw [hB]
  obtain ⟨r1, r2, r3⟩ := res_fin f neg _ h0 hf ho
  refine ⟨r1, r2, ?_⟩
  rw [r3, hc, ← hv]
theorem lt_inf2 (p B I u S n c : Nat) (h2 : valC p B I = u * 2 ^ S) (hn : n < u) (hc : valC p B c = n * 2 ^ S) : c < I := by
  rcases Nat.lt_or_ge c I with h | h
  · exact h
  · have h1 := valC_le p B h
    have h3 := Nat.mul_lt_mul_of_pos_right hn (Nat.two_pow_pos S)
    omega
/-- An integer of few bits is exact. -/
theorem from_few (f m : Int) (aft neg : Bool) (n : Nat) (h0 : 1 ≤ f) (hf : f < 4) (hm : m ≤ 4) (hn : n < 2 ^ 64) (hp : 64 ≤ precS f ∨ n < 2 ^ (precS f).toNat) : resFl f m aft neg 255 n = 0 := by
  have h00 : 0 ≤ f := by omega
  obtain ⟨p0, p1, p2⟩ := prec_emax f h00 hf
  obtain ⟨e0, e1⟩ := emaxS_bd f
  have hk : KK = 2199023255552 := rfl
  have hn2 : n < 2 ^ (precS f).toNat := by
    rcases hp with h | h
    · exact Nat.lt_of_lt_of_le hn (Nat.pow_le_pow_right (by decide) (by omega))
    · exact h
  obtain ⟨c, hc⟩ := small_code (precS f).toNat (unitB f KK) n (255 + KK).toNat (by omega) hn2 (by unfold unitB leastS; omega)
  have hem : 127 ≤ emaxS f := by unfold emaxS; rw [if_neg (by omega)]; repeat' split <;> omega
  have hlt : c < infC f := by
    have h2 : n < 2 ^ (emaxS f + 1).toNat := Nat.lt_of_lt_of_le hn (Nat.pow_le_pow_right (by decide) (by omega))
    exact lt_inf2 _ _ _ _ _ _ _ (val_inf f h00 hf) h2 hc
  rw [res_flag f m aft neg 255 n h00 hf hm (Nat.lt_trans hn (by decide)), numX_255, ← hc]
  unfold flagX
  rw [codeX_self _ _ _ _ _ (by omega), if_neg (by omega), rest_self _ _ _ (by omega)]
  rfl
/-- A number made of an integer is whole, if it is finite. -/
theorem from_mul (f m : Int) (neg : Bool) (n : Nat) (h0 : 0 ≤ f) (hf : f < 4) : ∃ q, valC (precS f).toNat (unitB f KK) (codeX (precS f).toNat (unitB f KK) m neg (n * 2 ^ (255 + KK).toNat)) = q * 2 ^ (255 + KK).toNat := by
  obtain ⟨p0, p1, p2⟩ := prec_emax f h0 hf
  have hk : KK = 2199023255552 := rfl
  by_cases hs : n < 2 ^ (precS f).toNat
  · obtain ⟨c, hc⟩ := small_code (precS f).toNat (unitB f KK) n (255 + KK).toNat (by omega) hs (by unfold unitB leastS; omega)
    exact ⟨n, by rw [← hc, codeX_self _ _ _ _ _ (by omega)]⟩
  · have hz : n ≠ 0 := by have := Nat.two_pow_pos (precS f).toNat; omega
    have hb : (precS f).toNat < blen n := by
      have := blen_lt n
      rcases Nat.lt_or_ge (precS f).toNat (blen n) with h | h
      · exact h
      · have := Nat.pow_le_pow_right (show 0 < 2 by decide) h; omega
    have hcut : (255 + KK).toNat ≤ cutAt (precS f).toNat (unitB f KK) (n * 2 ^ (255 + KK).toNat) := by
      unfold cutAt
      rw [blen_up _ _ hz]
      omega
    have hsp : 2 ^ cutAt (precS f).toNat (unitB f KK) (n * 2 ^ (255 + KK).toNat) = 2 ^ (cutAt (precS f).toNat (unitB f KK) (n * 2 ^ (255 + KK).toNat) - (255 + KK).toNat) * 2 ^ (255 + KK).toNat := by
      rw [← Nat.pow_add]; congr 1; omega
    have h1 := floorC_val (precS f).toNat (unitB f KK) (n * 2 ^ (255 + KK).toNat) (by omega)
    have h2 := floorC_next (precS f).toNat (unitB f KK) (n * 2 ^ (255 + KK).toNat) (by omega)
    unfold codeX
    split
    · rw [h2, hsp, ← Nat.mul_assoc]; exact ⟨_, rfl⟩
    · rw [Nat.add_zero, h1, hsp, ← Nat.mul_assoc]; exact ⟨_, rfl⟩
end Go.Proofs.YtkldkchkhblndaaGreatDoor
