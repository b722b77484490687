/- The plain laws of sums: a nought added, sums hang on no order, both signs turned, near numbers. No program in sight. -/
import Derived.Test.YtkldkchkhblndaaGreatDoorSumP
set_option linter.unusedSimpArgs false
set_option linter.unusedVariables false
namespace Go.Proofs.YtkldkchkhblndaaGreatDoor
open Go.RowKit Go.Hb
theorem nought_parts (f : Int) (neg : Bool) (h0 : 0 ≤ f) (hf : f < 4) : codeF f (signN f neg) = 0 ∧ sgnF f (signN f neg) = neg ∧ classF f (signN f neg) = 0 := by
  have h1 := code_of f 0 neg h0 hf (Nat.two_pow_pos _)
  have h2 := (of_code f 0 neg h0 hf (Nat.two_pow_pos _)).2.2
  rw [Nat.zero_add] at h1 h2
  exact ⟨h1, h2, (class_code f _ h0 hf).1.2 h1⟩
theorem flag_val (f m : Int) (aft g : Bool) (B e : Nat) (hp : 1 ≤ precS f) (he : e < infC f) : flagX f m aft g B (valC (precS f).toNat B e) = 0 := by
  unfold flagX
  rw [codeX_self _ _ _ _ _ (by omega), rest_self _ _ _ (by omega), if_neg (by omega)]
  rfl
theorem end_val (f m : Int) (g : Bool) (B e : Nat) (hp : 1 ≤ precS f) (he : e < infC f) : endC f m g (codeX (precS f).toNat B m g (valC (precS f).toNat B e)) = e := by
  rw [codeX_self _ _ _ _ _ (by omega)]
  unfold endC
  rw [if_neg (by omega)]
theorem inf_make (f : Int) (s : Bool) (h0 : 0 ≤ f) (hf : f < 4) : makeF f s (2 * emaxS f + 1) 0 = infC f + signN f s := by
  have := emax_lo f h0 hf
  rw [makeF_c f _ s 0 h0 hf (by omega) (Int.le_refl _), Nat.zero_mod, Nat.add_zero]
  rfl
theorem inf_parts (f : Int) (s : Bool) (h0 : 0 ≤ f) (hf : f < 4) : codeF f (infC f + signN f s) = infC f ∧ sgnF f (infC f + signN f s) = s ∧ classF f (infC f + signN f s) = 3 ∧ turnF f (infC f + signN f s) = infC f + signN f (!s) := by
  have hI := infC_lt f h0 hf
  have hu := Nat.two_pow_pos (precS f - 1).toNat
  have h1 := code_of f (infC f) s h0 hf (by omega)
  exact ⟨h1, (of_code f (infC f) s h0 hf (by omega)).2.2, (class_code f _ h0 hf).2.2.2.1.2 h1, turnF_of f (infC f) s h0 hf (by omega)⟩
/-- What is added of numbers that are no NaNs. -/
theorem addB_nn (f m : Int) (aft : Bool) (a b : Nat) (hf : f < 4) (hm : m ≤ 4) (ha : ¬ 4 ≤ classF f a) (hb : ¬ 4 ≤ classF f b) :
    (classF f a = 3 → classF f b = 3 → sgnF f b ≠ sgnF f a → addB f m a b = defF f ∧ addFl f m aft a b = 1) ∧ (classF f a = 3 → ¬ (classF f b = 3 ∧ sgnF f b ≠ sgnF f a) → addB f m a b = makeF f (sgnF f a) (2 * emaxS f + 1) 0 ∧ addFl f m aft a b = 0) ∧ (classF f a ≠ 3 → classF f b = 3 → addB f m a b = makeF f (sgnF f b) (2 * emaxS f + 1) 0 ∧ addFl f m aft a b = 0) := by
  have n1 : nanB f a = false := decide_eq_false ha
  have n2 : nanB f b = false := decide_eq_false hb
  have ff : ¬ (false = true) := by decide
  have e1 : addB f m a b = (if classF f a = 3 then (if classF f b = 3 ∧ sgnF f b ≠ sgnF f a then defF f else makeF f (sgnF f a) (2 * emaxS f + 1) 0) else if classF f b = 3 then makeF f (sgnF f b) (2 * emaxS f + 1) 0 else finB f m (sgnF f a) (sgnF f b) (unE f a) (up128 (unS f a)) (unE f b) (up128 (unS f b))) := by
    unfold addB; rw [if_pos ⟨hf, hm⟩, n1, if_neg ff, n2, if_neg ff]
  have e2 : addFl f m aft a b = (if classF f a = 3 then (if classF f b = 3 ∧ sgnF f b ≠ sgnF f a then 1 else 0) else if classF f b = 3 then 0 else finFl f m aft (sgnF f a) (sgnF f b) (unE f a) (up128 (unS f a)) (unE f b) (up128 (unS f b))) := by
    unfold addFl; rw [if_pos ⟨hf, hm⟩, n1, n2, Bool.or_false, if_neg ff]
  rw [e1, e2]
  refine ⟨fun h3 h4 hs => ?_, fun h3 hs => ?_, fun h3 h4 => ?_⟩
  · rw [if_pos h3, if_pos h3, if_pos ⟨h4, hs⟩, if_pos ⟨h4, hs⟩]; exact ⟨rfl, rfl⟩
  · rw [if_pos h3, if_pos h3, if_neg hs, if_neg hs]; exact ⟨rfl, rfl⟩
  · rw [if_neg h3, if_neg h3, if_pos h4, if_pos h4]; exact ⟨rfl, rfl⟩
/-- A nought added. -/
theorem add_nought (f m : Int) (aft : Bool) (a : Nat) (neg : Bool) (h0 : 0 ≤ f) (hf : f < 4) (hm : m ≤ 4) (hn : ¬ 4 ≤ classF f a) :
    addFl f m aft a (signN f neg) = 0 ∧ (classF f a = 0 → classF f (addB f m a (signN f neg)) = 0) ∧ (classF f a ≠ 0 → addB f m a (signN f neg) = lowN a (widthS f)) := by
  obtain ⟨z1, z2, z3⟩ := nought_parts f neg h0 hf
  have hbd := classF_bd f a
  have hp := prec_one f h0 hf
  by_cases h3 : classF f a = 3
  · obtain ⟨r1, r2⟩ := (addB_nn f m aft a (signN f neg) hf hm hn (by omega)).2.1 h3 (fun x => by have := x.1; omega)
    refine ⟨r2, fun h => by omega, fun _ => ?_⟩
    rw [r1, inf_make f _ h0 hf, cut_code f a h0 hf, (class_code f a h0 hf).2.2.2.1.1 h3]
  · have hfin : classF f a < 3 := by omega
    have hlt := (class_fin f a h0 hf).1 hfin
    obtain ⟨r1, r2⟩ := add_code f m aft a (signN f neg) h0 hf hm hfin (by omega)
    have hX : sumX f a (signN f neg) = valC (precS f).toNat (unitB f KK) (codeF f a) := by
      unfold sumX exactX
      rw [z1, valC_zero, Nat.add_zero, Nat.sub_zero, Nat.zero_sub, Nat.add_zero]
      split <;> rfl
    rw [hX] at r1 r2
    rw [flag_val f m aft _ _ _ hp hlt] at r2
    rw [end_val f m _ _ _ hp hlt] at r1
    refine ⟨r2, fun h => ?_, fun h => ?_⟩
    · rw [r1, (class_code f a h0 hf).1.1 h, Nat.zero_add]
      exact (nought_parts f _ h0 hf).2.2
    · have hc : codeF f a ≠ 0 := fun x => h ((class_code f a h0 hf).1.2 x)
      have hG : sumG f m a (signN f neg) = sgnF f a := by
        unfold sumG
        rw [hX, if_neg (fun x => hc ((valC_zero_iff _ _ _).1 x)), z1]
        split
        · rfl
        · rw [decide_eq_false (by omega)]; cases sgnF f a <;> rfl
      rw [r1, hG, cut_code f a h0 hf]
theorem addB_small (f m : Int) (a b : Nat) (h0 : 0 ≤ f) : addB f m a b < 2 ^ 128 := by
  unfold addB
  have hq : ∀ v, quietF f v < 2 ^ 128 := by
    intro v
    have hw : (widthS f).toNat ≤ 128 := by unfold widthS; repeat' split <;> omega
    have hp : (precS f - 2).toNat < 128 := by unfold precS; repeat' split <;> omega
    have hl : lowN v (widthS f) < 2 ^ 128 := Nat.lt_of_lt_of_le (Nat.mod_lt _ (Nat.two_pow_pos _)) (Nat.pow_le_pow_right (by decide) hw)
    have hb : lsh (cat 0 1) (precS f - 2) = 2 ^ (precS f - 2).toNat := by unfold lsh; rw [show cat 0 1 = 1 from rfl, Nat.one_mul]
    unfold quietF
    rw [hb]
    split
    · exact Nat.or_lt_two_pow hl (Nat.pow_lt_pow_right (by decide) hp)
    · exact hl
  have hd : defF f < 2 ^ 128 := makeF_lt _ _ _ _ h0
  split
  · split
    · exact hq a
    · split
      · exact hq b
      · split
        · split
          · exact hd
          · exact makeF_lt _ _ _ _ h0
        · split
          · exact makeF_lt _ _ _ _ h0
          · exact resB_lt f _ _ _ _ h0
  · exact Nat.two_pow_pos 128
theorem exact_comm (s t : Bool) (X Y : Nat) : exactX s t X Y = exactX t s Y X := by
  unfold exactX
  by_cases h : s = t
  · rw [if_pos h, if_pos h.symm, Nat.add_comm]
  · rw [if_neg h, if_neg (fun x => h x.symm), Nat.add_comm]
theorem sumX_comm (f : Int) (x y : Nat) : sumX f x y = sumX f y x := exact_comm _ _ _ _
theorem nou_comm (m : Int) (s t : Bool) : nouB m s t = nouB m t s := by
  unfold nouB
  cases s <;> cases t <;> rfl
theorem codes_ne (f : Int) (x y : Nat) (hs : ¬ sgnF f x = sgnF f y) (hz : ¬ sumX f x y = 0) : codeF f x ≠ codeF f y := by
  intro h
  apply hz
  unfold sumX exactX
  rw [if_neg hs, h, Nat.sub_self]
theorem sumG_comm (f m : Int) (x y : Nat) : sumG f m x y = sumG f m y x := by
  unfold sumG
  rw [sumX_comm f y x]
  by_cases hz : sumX f x y = 0
  · rw [if_pos hz, if_pos hz, nou_comm]
  · rw [if_neg hz, if_neg hz]
    by_cases hs : sgnF f x = sgnF f y
    · rw [if_pos hs, if_pos hs.symm, hs]
    · rw [if_neg hs, if_neg (fun h => hs h.symm)]
      have hc := codes_ne f x y hs hz
      by_cases hl : codeF f x < codeF f y
      · rw [decide_eq_true hl, decide_eq_false (by omega)]
        revert hs
        cases sgnF f x <;> cases sgnF f y <;> decide
      · rw [decide_eq_false hl, decide_eq_true (by omega)]
        revert hs
        cases sgnF f x <;> cases sgnF f y <;> decide
/-- Sums hang on no order. -/
theorem add_comm' (f m : Int) (aft : Bool) (a b : Nat) (h0 : 0 ≤ f) (hf : f < 4) (hm : m ≤ 4) (ha : ¬ 4 ≤ classF f a) (hb : ¬ 4 ≤ classF f b) : addB f m b a = addB f m a b ∧ addFl f m aft b a = addFl f m aft a b := by
  obtain ⟨p1, p2, p3⟩ := addB_nn f m aft a b hf hm ha hb
  obtain ⟨q1, q2, q3⟩ := addB_nn f m aft b a hf hm hb ha
  by_cases h3 : classF f a = 3
  · by_cases h4 : classF f b = 3
    · by_cases hs : sgnF f b = sgnF f a
      · rw [(p2 h3 (fun x => x.2 hs)).1, (p2 h3 (fun x => x.2 hs)).2, (q2 h4 (fun x => x.2 hs.symm)).1, (q2 h4 (fun x => x.2 hs.symm)).2, hs]
        exact ⟨rfl, rfl⟩
      · rw [(p1 h3 h4 hs).1, (p1 h3 h4 hs).2, (q1 h4 h3 (fun x => hs x.symm)).1, (q1 h4 h3 (fun x => hs x.symm)).2]
        exact ⟨rfl, rfl⟩
    · rw [(p2 h3 (fun x => h4 x.1)).1, (p2 h3 (fun x => h4 x.1)).2, (q3 h4 h3).1, (q3 h4 h3).2]
      exact ⟨rfl, rfl⟩
  · by_cases h4 : classF f b = 3
    · rw [(p3 h3 h4).1, (p3 h3 h4).2, (q2 h4 (fun x => h3 x.1)).1, (q2 h4 (fun x => h3 x.1)).2]
      exact ⟨rfl, rfl⟩
    · obtain ⟨r1, r2⟩ := add_code f m aft a b h0 hf hm (by omega) (by omega)
      obtain ⟨s1, s2⟩ := add_code f m aft b a h0 hf hm (by omega) (by omega)
      rw [r1, r2, s1, s2, sumX_comm f b a, sumG_comm f m b a]
      exact ⟨rfl, rfl⟩
theorem mir_code (p B : Nat) (m : Int) (g : Bool) (X : Nat) : codeX p B (mirS m) (!g) X = codeX p B m g X := by
  cases g
  · exact codeX_mir p B m X
  · have h := codeX_mir p B (mirS m) X
    rw [mir_mir] at h
    exact h.symm
theorem mir_end (f m : Int) (g : Bool) (c : Nat) : endC f (mirS m) (!g) c = endC f m g c := by
  cases g
  · exact endC_mir f m c
  · have h := endC_mir f (mirS m) c
    rw [mir_mir] at h
    exact h.symm
theorem mir_flag (f m : Int) (aft g : Bool) (B X : Nat) : flagX f (mirS m) aft (!g) B X = flagX f m aft g B X := by
  unfold flagX tinyX
  rw [mir_code, mir_code]
theorem flag_zero_X (f m : Int) (aft g : Bool) (B : Nat) : flagX f m aft g B 0 = 0 := by
  have := infC_pos f
  unfold flagX
  rw [codeX_zero, restC_zero, if_neg (by omega)]
  rfl
theorem def_nan (f : Int) (h0 : 0 ≤ f) (hf : f < 4) : nanB f (defF f) = true := by
  have h4 : f = 0 ∨ f = 1 ∨ f = 2 ∨ f = 3 := by omega
  rcases h4 with h | h | h | h <;> subst h <;> decide +kernel
theorem sumX_turn (f : Int) (a b : Nat) (h0 : 0 ≤ f) (hf : f < 4) : sumX f (turnF f a) (turnF f b) = sumX f a b := by
  obtain ⟨a1, a2, a3⟩ := turn_code f a h0 hf
  obtain ⟨b1, b2, b3⟩ := turn_code f b h0 hf
  unfold sumX exactX
  rw [a1, a2, b1, b2]
  cases sgnF f a <;> cases sgnF f b <;> rfl
theorem sumG_turn (f m : Int) (a b : Nat) (h0 : 0 ≤ f) (hf : f < 4) (hz : ¬ sumX f a b = 0) : sumG f (mirS m) (turnF f a) (turnF f b) = !(sumG f m a b) := by
  obtain ⟨a1, a2, a3⟩ := turn_code f a h0 hf
  obtain ⟨b1, b2, b3⟩ := turn_code f b h0 hf
  unfold sumG
  rw [sumX_turn f a b h0 hf, if_neg hz, if_neg hz, a1, a2, b1, b2]
  cases sgnF f a <;> cases sgnF f b <;> simp
/-- Both signs turned, by the mirrored mode. -/
theorem add_turn (f m : Int) (aft : Bool) (a b : Nat) (h0 : 0 ≤ f) (hf : f < 4) (hm : m ≤ 4) (ha : ¬ 4 ≤ classF f a) (hb : ¬ 4 ≤ classF f b) :
    addFl f (mirS m) aft (turnF f a) (turnF f b) = addFl f m aft a b ∧ (nanB f (addB f m a b) = true → addB f (mirS m) (turnF f a) (turnF f b) = addB f m a b) ∧
    (nanB f (addB f m a b) = false → (classF f (addB f m a b) = 0 → classF f (addB f (mirS m) (turnF f a) (turnF f b)) = 0) ∧ (¬ (classF f (addB f m a b) = 0 ∧ (m ≤ 1 ∨ m = 4)) → addB f (mirS m) (turnF f a) (turnF f b) = turnF f (addB f m a b))) := by
  obtain ⟨a1, a2, a3⟩ := turn_code f a h0 hf
  obtain ⟨b1, b2, b3⟩ := turn_code f b h0 hf
  have hm' := (mir_known m).2 hm
  obtain ⟨p1, p2, p3⟩ := addB_nn f m aft a b hf hm ha hb
  obtain ⟨q1, q2, q3⟩ := addB_nn f (mirS m) aft (turnF f a) (turnF f b) hf hm' (by rw [a3]; exact ha) (by rw [b3]; exact hb)
  rw [a3, b3, a2, b2] at q1 q2
  rw [a3, b3, b2] at q3
  have hbda := classF_bd f a
  have hbdb := classF_bd f b
  have inf : ∀ s, makeF f s (2 * emaxS f + 1) 0 = infC f + signN f s := fun s => inf_make f s h0 hf
  have key : ∀ s, (addB f m a b = makeF f s (2 * emaxS f + 1) 0 ∧ addFl f m aft a b = 0) → (addB f (mirS m) (turnF f a) (turnF f b) = makeF f (!s) (2 * emaxS f + 1) 0 ∧ addFl f (mirS m) aft (turnF f a) (turnF f b) = 0) → (addFl f (mirS m) aft (turnF f a) (turnF f b) = addFl f m aft a b ∧ (nanB f (addB f m a b) = true → addB f (mirS m) (turnF f a) (turnF f b) = addB f m a b) ∧
    (nanB f (addB f m a b) = false → (classF f (addB f m a b) = 0 → classF f (addB f (mirS m) (turnF f a) (turnF f b)) = 0) ∧ (¬ (classF f (addB f m a b) = 0 ∧ (m ≤ 1 ∨ m = 4)) → addB f (mirS m) (turnF f a) (turnF f b) = turnF f (addB f m a b)))) := by
    intro s hp hq
    obtain ⟨i1, i2, i3, i4⟩ := inf_parts f s h0 hf
    rw [hp.1, hp.2, hq.1, hq.2, inf s, inf (!s), i4]
    refine ⟨rfl, fun h => ?_, fun _ => ⟨fun h => ?_, fun _ => rfl⟩⟩
    · unfold nanB at h; rw [i3] at h; exact absurd h (by decide)
    · rw [i3] at h; exact absurd h (by decide)
  by_cases h3 : classF f a = 3
  · by_cases h4 : classF f b = 3 ∧ sgnF f b ≠ sgnF f a
    · have hs2 : (!(sgnF f b)) ≠ (!(sgnF f a)) := by
        have := h4.2
        revert this
        cases sgnF f a <;> cases sgnF f b <;> decide
      rw [(p1 h3 h4.1 h4.2).1, (p1 h3 h4.1 h4.2).2, (q1 h3 h4.1 hs2).1, (q1 h3 h4.1 hs2).2]
      refine ⟨rfl, fun _ => rfl, fun h => ?_⟩
      rw [def_nan f h0 hf] at h
      exact absurd h (by decide)
    · refine key _ (p2 h3 h4) (q2 h3 (fun x => h4 ⟨x.1, fun h => x.2 (by rw [h])⟩))
  · by_cases h4 : classF f b = 3
    · exact key _ (p3 h3 h4) (q3 h3 h4)
    · have fa : classF f a < 3 := by omega
      have fb : classF f b < 3 := by omega
      obtain ⟨r1, r2⟩ := add_code f m aft a b h0 hf hm fa fb
      obtain ⟨s1, s2⟩ := add_code f (mirS m) aft (turnF f a) (turnF f b) h0 hf hm' (by rw [a3]; exact fa) (by rw [b3]; exact fb)
      have hX := sumX_turn f a b h0 hf
      rw [hX] at s1 s2
      by_cases hz : sumX f a b = 0
      · have e1 : addB f m a b = signN f (sumG f m a b) := by rw [r1, hz, codeX_zero, (endC_zero f m _ 0 h0 hf).2 rfl, Nat.zero_add]
        have e2 : addB f (mirS m) (turnF f a) (turnF f b) = signN f (sumG f (mirS m) (turnF f a) (turnF f b)) := by rw [s1, hz, codeX_zero, (endC_zero f _ _ 0 h0 hf).2 rfl, Nat.zero_add]
        obtain ⟨z1, z2, z3⟩ := nought_parts f (sumG f m a b) h0 hf
        obtain ⟨y1, y2, y3⟩ := nought_parts f (sumG f (mirS m) (turnF f a) (turnF f b)) h0 hf
        rw [r2, s2, hz, flag_zero_X, flag_zero_X, e1, e2]
        refine ⟨rfl, fun h => ?_, fun _ => ⟨fun _ => y3, fun h => ?_⟩⟩
        · unfold nanB at h; rw [z3] at h; exact absurd h (by decide)
        · have hm2 : m = 2 ∨ m = 3 := by
            have := fun x => h ⟨z3, x⟩
            omega
          have hG : sumG f (mirS m) (turnF f a) (turnF f b) = !(sumG f m a b) := by
            unfold sumG
            rw [hX, if_pos hz, if_pos hz, a2, b2]
            rcases hm2 with h2 | h2 <;> subst h2 <;> cases sgnF f a <;> cases sgnF f b <;> rfl
          have ht := turnF_of f 0 (sumG f m a b) h0 hf (Nat.two_pow_pos _)
          rw [Nat.zero_add, Nat.zero_add] at ht
          rw [hG, ht]
      · have hG := sumG_turn f m a b h0 hf hz
        rw [hG, mir_end, mir_code] at s1
        rw [hG, mir_flag] at s2
        have hc := endC_lt f m (sumG f m a b) (codeX (precS f).toNat (unitB f KK) m (sumG f m a b) (sumX f a b)) h0 hf
        have ht : addB f (mirS m) (turnF f a) (turnF f b) = turnF f (addB f m a b) := by rw [s1, r1, turnF_of f _ _ h0 hf hc]
        refine ⟨by rw [r2, s2], fun h => ?_, fun _ => ⟨fun h => ?_, fun _ => ht⟩⟩
        · exfalso
          have h4 : 4 ≤ classF f (addB f m a b) := of_decide_eq_true h
          have h5 := (class_code f (addB f m a b) h0 hf).2.2.2.2.1 h4
          rw [(add_parts f m aft a b h0 hf hm fa fb).1] at h5
          have := endC_le f m (sumG f m a b) (codeX (precS f).toNat (unitB f KK) m (sumG f m a b) (sumX f a b))
          omega
        · rw [ht, (turn_code f _ h0 hf).2.2]; exact h
theorem rep (p B : Nat) : ∀ (n k : Nat), k < 2 * 2 ^ (p - 1) → ∃ e, valC p B e = k * 2 ^ (B + n)
  | 0, k, h => ⟨k, by
      have := valC_mk p B B k (Nat.le_refl _) (Nat.le_of_lt h) (Or.inl rfl)
      rw [Nat.sub_self, Nat.zero_mul, Nat.zero_add] at this
      exact this⟩
  | n + 1, k, h => by
    by_cases hu : 2 ^ (p - 1) ≤ k
    · exact ⟨_, valC_mk p B (B + (n + 1)) k (by omega) (by omega) (Or.inr hu)⟩
    · obtain ⟨e, he⟩ := rep p B n (2 * k) (by omega)
      exact ⟨e, by rw [he, ← Nat.add_assoc, Nat.pow_succ, Nat.mul_comm 2 k, Nat.mul_assoc, Nat.mul_comm 2]⟩
/-- The difference of near numbers is a number. -/
theorem near_exact (p B : Nat) {c d : Nat} (h : c ≤ d) (h2 : valC p B d ≤ valC p B c + valC p B c) : ∃ e, e ≤ c ∧ valC p B e = valC p B d - valC p B c := by
  obtain ⟨t, r, ht, hr, hc, ec⟩ := code_form p B c
  obtain ⟨t', r', ht', hr', hc', ed⟩ := code_form p B d
  have vc : valC p B c = r * 2 ^ t := by rw [ec]; exact valC_mk p B t r ht (Nat.le_of_lt hr) hc
  have vd : valC p B d = r' * 2 ^ t' := by rw [ed]; exact valC_mk p B t' r' ht' (Nat.le_of_lt hr') hc'
  have hu := Nat.two_pow_pos (p - 1)
  have htt : t ≤ t' := by
    rcases Nat.lt_or_ge t' t with hl | hl
    · exfalso
      rcases hc with h3 | h3
      · omega
      · have h4 := Nat.mul_le_mul_right (2 ^ (p - 1)) (show t' - B + 1 ≤ t - B by omega)
        rw [Nat.add_mul, Nat.one_mul] at h4
        omega
    · exact hl
  have e3 : r' * 2 ^ t' = r' * 2 ^ (t' - t) * 2 ^ t := by rw [Nat.mul_assoc, ← Nat.pow_add, Nat.sub_add_cancel htt]
  have hp2 := Nat.two_pow_pos t
  rw [vd, vc, e3, ← Nat.add_mul] at h2
  have h5 : r' * 2 ^ (t' - t) ≤ r + r := Nat.le_of_mul_le_mul_right h2 hp2
  obtain ⟨e, he⟩ := rep p B (t - B) (r' * 2 ^ (t' - t) - r) (by omega)
  rw [show B + (t - B) = t by omega] at he
  have hv : valC p B e = valC p B d - valC p B c := by rw [he, vd, vc, e3, Nat.sub_mul]
  refine ⟨e, ?_, hv⟩
  rcases Nat.lt_or_ge c e with hl | hl
  · exfalso
    have h6 := valC_lt p B hl
    have h7 : (r' * 2 ^ (t' - t) - r) * 2 ^ t ≤ r * 2 ^ t := Nat.mul_le_mul_right _ (by omega)
    omega
  · exact hl
/-- Sterbenz. -/
theorem sub_near (f m : Int) (aft : Bool) (a b : Nat) (h0 : 0 ≤ f) (hf : f < 4) (hm : m ≤ 4) (ha : classF f a < 3) (hb : classF f b < 3) (hs : sgnF f a = sgnF f b)
    (h : (codeF f a ≤ codeF f b ∧ valC (precS f).toNat (unitB f KK) (codeF f b) ≤ valC (precS f).toNat (unitB f KK) (codeF f a) + valC (precS f).toNat (unitB f KK) (codeF f a)) ∨ (codeF f b ≤ codeF f a ∧ valC (precS f).toNat (unitB f KK) (codeF f a) ≤ valC (precS f).toNat (unitB f KK) (codeF f b) + valC (precS f).toNat (unitB f KK) (codeF f b))) : addFl f m aft a (subN f b) = 0 := by
  obtain ⟨t1, t2, t3⟩ := turn_code f b h0 hf
  have la := (class_fin f a h0 hf).1 ha
  have lb := (class_fin f b h0 hf).1 hb
  have hp := prec_one f h0 hf
  rw [sub_fin f b hb, (add_parts f m aft a _ h0 hf hm ha (by rw [t3]; exact hb)).2.2]
  have hX : ∃ e, e < infC f ∧ sumX f a (turnF f b) = valC (precS f).toNat (unitB f KK) e := by
    have hne : ¬ sgnF f a = sgnF f (turnF f b) := by rw [t2, hs]; cases sgnF f b <;> decide
    unfold sumX exactX
    rw [if_neg hne, t1]
    rcases h with ⟨h1, h2⟩ | ⟨h1, h2⟩
    · obtain ⟨e, e1, e2⟩ := near_exact _ _ h1 h2
      have := valC_le (precS f).toNat (unitB f KK) h1
      exact ⟨e, by omega, by rw [e2, Nat.sub_eq_zero_of_le this, Nat.zero_add]⟩
    · obtain ⟨e, e1, e2⟩ := near_exact _ _ h1 h2
      have := valC_le (precS f).toNat (unitB f KK) h1
      exact ⟨e, by omega, by rw [e2, Nat.sub_eq_zero_of_le this, Nat.add_zero]⟩
  obtain ⟨e, e1, e2⟩ := hX
  rw [e2]
  exact flag_val f m aft _ _ e hp e1
/-- What is no greater than a number's double, made by Zero, is no greater than the double. -/
theorem twice_le (f : Int) (x y : Nat) (h0 : 0 ≤ f) (hf : f < 4) (hx : x < infC f) (h : y ≤ addB f 4 x x) : valC (precS f).toNat (unitB f KK) y ≤ valC (precS f).toNat (unitB f KK) x + valC (precS f).toNat (unitB f KK) x := by
  have hp := prec_one f h0 hf
  rw [(add_pos f 4 false x x h0 hf (by decide) hx hx).1] at h
  generalize hX : valC (precS f).toNat (unitB f KK) x + valC (precS f).toNat (unitB f KK) x = X at *
  have hn : ∀ odd r, nextS 4 false odd r = false := fun odd r => by unfold nextS ruleS; simp
  have hc : codeX (precS f).toNat (unitB f KK) 4 false X = floorC (precS f).toNat (unitB f KK) X := by unfold codeX; rw [hn]; rfl
  have he : endC f 4 false (codeX (precS f).toNat (unitB f KK) 4 false X) ≤ floorC (precS f).toNat (unitB f KK) X := by
    rw [hc]
    unfold endC
    rw [hn]
    split
    · rw [if_neg (by decide)]; omega
    · exact Nat.le_refl _
  exact Nat.le_trans (valC_le _ _ (Nat.le_trans h he)) (floorC_le _ _ _ (by omega))
end Go.Proofs.YtkldkchkhblndaaGreatDoor
