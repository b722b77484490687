/- A number made whole, in plain numbers: the rounding at the point, its order. No condition. -/
import Derived.Test.YtkpjeceofcfnkaaGreatDoorRdef
import Derived.Test.YtkpjeceofcfnkaaGreatDoorCodes4
import Derived.Test.YtkpjeceofcfnkaaGreatDoorTurn
import Derived.Test.YtkpjeceofcfnkaaGreatDoorMode
set_option linter.unusedSimpArgs false
set_option linter.unusedVariables false
namespace Go.Proofs.YtkpjeceofcfnkaaGreatDoor
open Go.RowKit Go.Hb
/-- The whole size of a number, and whether it is another one. -/
def whN (e m : Int) (neg : Bool) (v : Nat) : Nat := if e < 0 then cutS (jamS (v * 2 ^ 128) (-e - 1)) 0 m neg else cutS (v * 2 ^ 128) (e + 1) m neg
def whI (e : Int) (v : Nat) : Bool := if e < 0 then inexS (jamS (v * 2 ^ 128) (-e - 1)) 0 else inexS (v * 2 ^ 128) (e + 1)
def rndN (s : Nat) (m : Int) (neg : Bool) (X : Nat) : Nat := X / 2 ^ s + (if nextS m neg (X / 2 ^ s % 2 == 1) (restN X s) then 1 else 0)
theorem restN_bd (v s : Nat) : 0 ≤ restN v s ∧ restN v s ≤ 3 := by rw [restN_G]; exact restG_bd _ _
theorem rndN_mono (s : Nat) (m : Int) (neg : Bool) {X Y : Nat} (h : X ≤ Y) : rndN s m neg X ≤ rndN s m neg Y := by
  have h1 : X / 2 ^ s ≤ Y / 2 ^ s := Nat.div_le_div_right h
  unfold rndN
  rcases Nat.lt_or_eq_of_le h1 with h2 | h2
  · split <;> split <;> omega
  · rw [h2]
    have hr : restN X s ≤ restN Y s := by
      rw [restN_G, restN_G]
      apply restG_mono
      have a := Nat.div_add_mod X (2 ^ s)
      have b := Nat.div_add_mod Y (2 ^ s)
      rw [h2] at a
      omega
    have hb := (restN_bd Y s).2
    by_cases hn : nextS m neg (Y / 2 ^ s % 2 == 1) (restN X s) = true
    · rw [if_pos hn, if_pos (next_mono m neg _ hr hb hn)]; exact Nat.le_refl _
    · rw [if_neg hn]; omega
theorem rndN_up (s k : Nat) (m : Int) (neg : Bool) (v : Nat) (hs : 1 ≤ s) : rndN (s + k) m neg (v * 2 ^ k) = rndN s m neg v := by
  unfold rndN
  rw [floor_up, restN_up _ _ _ hs]
theorem whN_rnd (e m : Int) (neg : Bool) (v : Nat) (hv : v < 2 ^ 128) (e0 : -100000 ≤ e) (e1 : e ≤ 126) : whN e m neg v = rndN (255 + KK).toNat m neg (numX KK e (up128 v)) := by
  have hV : up128 v < 2 ^ 256 := up128_lt v hv
  have hk : KK = 2199023255552 := rfl
  have hf : farS e = e := by unfold farS; omega
  have hX : numX KK e (up128 v) = up128 v * 2 ^ (e + KK).toNat := by unfold numX; rw [hf]
  have hs : (255 + KK).toNat = (255 - e).toNat + (e + KK).toNat := by omega
  have hu : v * 2 ^ 128 = up128 v := rfl
  rw [hX, hs, rndN_up _ _ _ _ _ (by omega)]
  unfold whN
  rw [hu]
  split
  · rename_i hn
    rw [cutS_form _ _ _ _ (by decide) (by decide) (jamS_le _ _ hV), jamS_N, jam_floor _ _ _ (by decide), jam_rest _ _ _ (by decide)]
    unfold rndN
    rw [show (-e - 1).toNat + (256 - 0 : Int).toNat = (255 - e).toNat by omega]
  · rw [cutS_form _ _ _ _ (by omega) (by omega) hV, show (256 - (e + 1)).toNat = (255 - e).toNat by omega]
    rfl
theorem unE_low (f : Int) (v : Nat) (h0 : 0 ≤ f) : -100000 ≤ unE f v := by
  obtain ⟨e0, e1⟩ := emaxS_bd f
  obtain ⟨p0, p1⟩ := precS_bd f
  unfold unE
  repeat' split
  · omega
  · have := by128_bd (fracF f v) (Nat.lt_trans (fracF_lt f v h0) (by decide)); omega
  · omega
theorem code_div (f : Int) (v : Nat) (h0 : 0 ≤ f) (hf : f < 4) : codeF f v / 2 ^ (precS f - 1).toNat = expF f v := by
  unfold codeF
  rw [Nat.add_comm, Nat.add_mul_div_right _ _ (Nat.two_pow_pos _), Nat.div_eq_of_lt (frac_lt_p f v h0 hf), Nat.zero_add]
theorem unE_mono (f : Int) (a b : Nat) (h0 : 0 ≤ f) (hf : f < 4) (hc : codeF f a ≤ codeF f b) (hb : classF f b < 3) (he : unE f b ≤ 64) : classF f a < 3 ∧ unE f a ≤ 64 := by
  have ha : classF f a < 3 := (class_fin f a h0 hf).2 (Nat.lt_of_le_of_lt hc ((class_fin f b h0 hf).1 hb))
  refine ⟨ha, ?_⟩
  obtain ⟨a0, a1, a2, a3, a4⟩ := class_code f a h0 hf
  obtain ⟨b0, b1, b2, b3, b4⟩ := class_code f b h0 hf
  have hbd := classF_bd f a
  have hl := emax_lo f h0 hf
  have h3 : classF f a = 0 ∨ classF f a = 1 ∨ classF f a = 2 := by omega
  rcases h3 with h | h | h
  · unfold unE; rw [if_neg (by omega), if_neg (by omega)]; decide
  · have hs := sub_by f a h0 hf ((class_parts f a h0).1 h).2.2
    unfold unE; rw [if_neg (by omega), if_pos h]; omega
  · have h2 := a2.1 h
    have hb2 : classF f b = 2 := b2.2 ⟨by omega, (class_fin f b h0 hf).1 hb⟩
    have hx : expF f a ≤ expF f b := by rw [← code_div f a h0 hf, ← code_div f b h0 hf]; exact Nat.div_le_div_right hc
    unfold unE at he ⊢
    rw [if_pos hb2] at he
    rw [if_pos h]
    omega
theorem turn_parts (f : Int) (v : Nat) (h0 : 0 ≤ f) (hf : f < 4) : expF f (turnF f v) = expF f v ∧ fracF f (turnF f v) = fracF f v ∧ sgnF f (turnF f v) = !(sgnF f v) := by
  have hc := code_lt f v h0 hf
  obtain ⟨e1, e2, e3⟩ := of_code f (codeF f v) (!(sgnF f v)) h0 hf hc
  have hp := Nat.two_pow_pos (precS f - 1).toNat
  have hq := frac_lt_p f v h0 hf
  rw [turnF_c f v h0 hf]
  refine ⟨?_, ?_, e3⟩
  · rw [e1]
    unfold codeF
    rw [Nat.add_comm, Nat.add_mul_div_right _ _ hp, Nat.div_eq_of_lt hq, Nat.zero_add]
  · rw [e2]
    unfold codeF
    rw [Nat.add_comm, Nat.add_mul_mod_self_right, Nat.mod_eq_of_lt hq]
theorem turn_class (f : Int) (v : Nat) (h0 : 0 ≤ f) (hf : f < 4) : classF f (turnF f v) = classF f v ∧ unE f (turnF f v) = unE f v ∧ unS f (turnF f v) = unS f v := by
  obtain ⟨e1, e2, e3⟩ := turn_parts f v h0 hf
  have hc : classF f (turnF f v) = classF f v := by unfold classF; rw [e1, e2]
  refine ⟨hc, ?_, ?_⟩
  · unfold unE; rw [hc, e1, e2]
  · unfold unS nrm; rw [hc, e2]
theorem mir_mir (m : Int) : mirS (mirS m) = m := by unfold mirS; repeat' split <;> omega
theorem next_turn (m : Int) (s odd : Bool) (r : Int) : nextS (mirS m) (!s) odd r = nextS m s odd r := by
  cases s
  · exact next_mir m odd r
  · have := next_mir (mirS m) odd r
    rw [mir_mir] at this
    exact this.symm
theorem cut_turn (v : Nat) (keep m : Int) (s : Bool) : cutS v keep (mirS m) (!s) = cutS v keep m s := by
  unfold cutS; rw [next_turn]
theorem whN_turn (e m : Int) (s : Bool) (v : Nat) : whN e (mirS m) (!s) v = whN e m s v := by
  unfold whN; rw [cut_turn, cut_turn]
theorem whI_rnd (e : Int) (v : Nat) (hv : v < 2 ^ 128) (e0 : -100000 ≤ e) (e1 : e ≤ 126) : whI e v = (restN (numX KK e (up128 v)) (255 + KK).toNat != 0) := by
  have hV : up128 v < 2 ^ 256 := up128_lt v hv
  have hk : KK = 2199023255552 := rfl
  have hf : farS e = e := by unfold farS; omega
  have hX : numX KK e (up128 v) = up128 v * 2 ^ (e + KK).toNat := by unfold numX; rw [hf]
  have hs : (255 + KK).toNat = (255 - e).toNat + (e + KK).toNat := by omega
  have hu : v * 2 ^ 128 = up128 v := rfl
  rw [hX, hs, restN_up _ _ _ (by omega)]
  unfold whI
  rw [hu]
  split
  · rename_i hn
    rw [cutS_restN _ _ (by decide), jamS_N, jam_rest _ _ _ (by decide), show (-e - 1).toNat + (256 - 0 : Int).toNat = (255 - e).toNat by omega]
  · rw [cutS_restN _ _ (by omega), show (256 - (e + 1)).toNat = (255 - e).toNat by omega]
end Go.Proofs.YtkpjeceofcfnkaaGreatDoor
