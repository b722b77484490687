/- The plain law of numbers made whole: how near they lie, their order; a sum with one. No program in sight. -/
import Derived.Test.YtkldkchkhblndaaGreatDoorRintP
import Derived.Test.YtkldkchkhblndaaGreatDoorSumX
import Derived.Test.YtkldkchkhblndaaGreatDoorComp2
set_option linter.unusedSimpArgs false
set_option linter.unusedVariables false
namespace Go.Proofs.YtkldkchkhblndaaGreatDoor
open Go.RowKit Go.Hb
theorem restG_zero (d g : Nat) : restG d g = 0 ↔ d = 0 := by
  unfold restG; repeat' split
  all_goals omega
theorem restN_zero (v s : Nat) : restN v s = 0 ↔ v % 2 ^ s = 0 := by rw [restN_G, restG_zero]
/-- How far a whole number lies from the number. -/
theorem rnd_near (s : Nat) (m : Int) (g : Bool) (X : Nat) : rndN s m g X * 2 ^ s ≤ X + 2 ^ s ∧ X ≤ rndN s m g X * 2 ^ s + 2 ^ s ∧ (m = 0 ∨ m = 1 → 2 * (rndN s m g X * 2 ^ s) ≤ 2 * X + 2 ^ s ∧ 2 * X ≤ 2 * (rndN s m g X * 2 ^ s) + 2 ^ s) := by
  have hd := Nat.div_add_mod X (2 ^ s)
  have hl := Nat.mod_lt X (Nat.two_pow_pos s)
  have hG := restN_G X s
  have hr := restN_bd X s
  rw [Nat.mul_comm] at hd
  unfold rndN
  generalize hR : restN X s = R at *
  generalize hq : X / 2 ^ s = q at *
  generalize X % 2 ^ s = r at *
  generalize 2 ^ s = u at *
  unfold restG at hG
  cases hn : nextS m g (q % 2 == 1) R
  · rw [if_neg (by decide), Nat.add_zero]
    refine ⟨by omega, by omega, fun hm => ⟨by omega, ?_⟩⟩
    have : ¬ (R = 3) := by
      intro h3
      rw [h3] at hn
      revert hn
      unfold nextS ruleS
      rcases hm with h | h <;> subst h <;> simp
    repeat' split at hG
    all_goals omega
  · rw [if_pos rfl, Nat.add_mul, Nat.one_mul]
    have h1 : 1 ≤ R := by
      unfold nextS at hn
      rw [Bool.and_eq_true, Bool.and_eq_true, decide_eq_true_eq] at hn
      exact hn.1.1
    refine ⟨by omega, by omega, fun hm => ⟨?_, by omega⟩⟩
    have : ¬ (R = 1) := by
      intro h3
      rw [h3] at hn
      revert hn
      unfold nextS ruleS
      rcases hm with h | h <;> subst h <;> simp
    repeat' split at hG
    all_goals omega
/-- The number of what rint makes. -/
theorem rint_rnd (f m : Int) (v : Nat) (h0 : 0 ≤ f) (hf : f < 4) (hm : m ≤ 4) (hfin : classF f v < 3) :
    classF f (rintB f m v) < 3 ∧ sgnF f (rintB f m v) = sgnF f v ∧ rintB f m v = codeF f (rintB f m v) + signN f (sgnF f v) ∧ valC (precS f).toNat (unitB f KK) (codeF f (rintB f m v)) = rndN (255 + KK).toNat m (sgnF f v) (valC (precS f).toNat (unitB f KK) (codeF f v)) * 2 ^ (255 + KK).toNat := by
  have hn : nanB f v = false := decide_eq_false (by omega)
  have hI := infC_lt f h0 hf
  have hu := Nat.two_pow_pos (precS f - 1).toNat
  have hlo := unE_low f v h0
  have hp := (prec_emax f h0 hf).2.2
  cases hk : keepB f v
  · have hb : rintB f m v = exB f (sgnF f v) 255 (whN (unE f v) m (sgnF f v) (unS f v)) := by
      unfold rintB; rw [if_pos ⟨hf, hm⟩, hn, hk]; rfl
    obtain ⟨c, l1, v1, b1, o1⟩ := exact_res f (sgnF f v) _ h0 hf (wh_small f m v h0 hf hk)
    have hlt : c < 2 ^ (widthS f - 1).toNat := by omega
    have hc := code_of f c (sgnF f v) h0 hf hlt
    have hs := (of_code f c (sgnF f v) h0 hf hlt).2.2
    have he : unE f v ≤ 126 := by
      unfold keepB at hk
      rw [Bool.or_eq_false_iff, decide_eq_false_iff_not] at hk
      omega
    rw [whN_rnd _ _ _ _ (unS_lt f v h0) hlo he, un_val f v h0 hf hfin] at v1 b1 hb
    rw [hb, b1, hc]
    exact ⟨(class_fin f _ h0 hf).2 (by rw [hc]; exact l1), hs, rfl, v1⟩
  · have hb : rintB f m v = lowN v (widthS f) := by unfold rintB; rw [if_pos ⟨hf, hm⟩, hn, hk]; rfl
    have hlt := code_lt f v h0 hf
    have hc : codeF f (lowN v (widthS f)) = codeF f v := by rw [cut_code f v h0 hf]; exact code_of f _ _ h0 hf hlt
    have hs : sgnF f (lowN v (widthS f)) = sgnF f v := by rw [cut_code f v h0 hf]; exact (of_code f _ _ h0 hf hlt).2.2
    obtain ⟨n, hv⟩ := keep_mul f v h0 hf hfin hk
    rw [hb, hc, hv, rnd_mul]
    exact ⟨(class_fin f _ h0 hf).2 (by rw [hc]; exact (class_fin f v h0 hf).1 hfin), hs, cut_code f v h0 hf, rfl⟩
/-- The flags of rint: whether the number is whole. -/
theorem rint_fl (f m : Int) (ex : Bool) (v : Nat) (h0 : 0 ≤ f) (hf : f < 4) (hm : m ≤ 4) (hfin : classF f v < 3) :
    rintFl f m ex v = (if restN (valC (precS f).toNat (unitB f KK) (codeF f v)) (255 + KK).toNat ≠ 0 ∧ ex = true then 16 else 0) := by
  have hn : nanB f v = false := decide_eq_false (by omega)
  have hlo := unE_low f v h0
  have hp := (prec_emax f h0 hf).2.2
  unfold rintFl
  rw [if_pos ⟨hf, hm⟩, hn, if_neg (by decide)]
  cases hk : keepB f v
  · have he : unE f v ≤ 126 := by
      unfold keepB at hk
      rw [Bool.or_eq_false_iff, decide_eq_false_iff_not] at hk
      omega
    rw [if_neg (by decide), whI_rnd _ _ (unS_lt f v h0) hlo he, un_val f v h0 hf hfin]
    generalize restN (valC (precS f).toNat (unitB f KK) (codeF f v)) (255 + KK).toNat = R
    cases ex
    · rw [Bool.and_false, if_neg (by decide), if_neg (fun h => absurd h.2 (by decide))]
    · rw [Bool.and_true]
      by_cases hR : R = 0
      · rw [if_neg (by rw [hR]; decide), if_neg (fun h => h.1 hR)]
      · rw [if_pos (bne_iff_ne.2 hR), if_pos ⟨hR, rfl⟩]
  · obtain ⟨n, hv⟩ := keep_mul f v h0 hf hfin hk
    rw [if_pos rfl, hv, rest_mul, if_neg (fun h => h.1 rfl)]
/-- The code of a power of two. -/
theorem val_pow (f e : Int) (h0 : 0 ≤ f) (hf : f < 4) (he : 1 ≤ e) (he2 : e ≤ 2 * emaxS f + 1) : valC (precS f).toNat (unitB f KK) (e.toNat * 2 ^ (precS f - 1).toNat) = 2 ^ (e - emaxS f + 255 + KK).toNat := by
  obtain ⟨p0, p1, p2⟩ := prec_emax f h0 hf
  obtain ⟨e0, e1⟩ := emaxS_bd f
  have hk : KK = 2199023255552 := rfl
  have hE : (precS f - 1).toNat + (e.toNat - 1 + unitB f KK) = (e - emaxS f + 255 + KK).toNat := by
    unfold unitB leastS; omega
  clear hk
  have hpp : (precS f - 1).toNat = (precS f).toNat - 1 := by omega
  have hm := valC_mk (precS f).toNat (unitB f KK) (e.toNat - 1 + unitB f KK) (2 ^ ((precS f).toNat - 1)) (Nat.le_add_left _ _) (by omega) (Or.inr (Nat.le_refl _))
  rw [← hE, Nat.pow_add, hpp]
  rw [Nat.add_sub_cancel] at hm
  rw [← hm]
  congr 1
  have : e.toNat = e.toNat - 1 + 1 := by omega
  generalize e.toNat - 1 = d at *
  rw [this, Nat.add_mul, Nat.one_mul]
theorem pow_code (f e : Int) (h0 : 0 ≤ f) (hf : f < 4) (he : 1 ≤ e) (he2 : e ≤ 2 * emaxS f) : makeF f false e 0 = e.toNat * 2 ^ (precS f - 1).toNat ∧ e.toNat * 2 ^ (precS f - 1).toNat < infC f := by
  constructor
  · rw [makeF_c f e false 0 h0 hf (by omega) (by omega), Nat.zero_mod]; rfl
  · unfold infC
    exact Nat.mul_lt_mul_of_pos_right (by omega) (Nat.two_pow_pos _)
theorem up_exact (f : Int) (v : Nat) (h0 : 0 ≤ f) (hf : f < 4) (hfin : classF f v < 3) (m : Int) (hm : m ≤ 4) : (restN (valC (precS f).toNat (unitB f KK) (codeF f v)) (255 + KK).toNat = 0 ↔ rintB f m v = lowN v (widthS f)) := by
  obtain ⟨r1, r2, r3, r4⟩ := rint_rnd f m v h0 hf hm hfin
  have hlow := code_lt f (rintB f m v) h0 hf
  have key : rintB f m v = lowN v (widthS f) ↔ codeF f (rintB f m v) = codeF f v := by
    rw [cut_code f v h0 hf]
    constructor
    · intro h; have := r3.symm.trans h; omega
    · intro h; rw [r3, h]
  rw [key, restN_zero]
  constructor
  · intro h
    have hv := Nat.div_add_mod (valC (precS f).toNat (unitB f KK) (codeF f v)) (2 ^ (255 + KK).toNat)
    rw [h, Nat.add_zero, Nat.mul_comm] at hv
    rw [← hv, rnd_mul, hv] at r4
    exact valC_inj _ _ r4
  · intro h
    rw [h] at r4
    rw [r4]
    exact Nat.mul_mod_left _ _
theorem pow_half (a b : Nat) (h : a + 1 = b) : 2 ^ b = 2 ^ a * 2 := by rw [← h, Nat.pow_succ]
/-- A difference of a number and the one made whole: by Zero. -/
theorem near_sub (f m : Int) (v : Nat) (h0 : 0 ≤ f) (hf : f < 4) (hm : m ≤ 4) (hfin : classF f v < 3) :
    codeF f (addB f 4 (rintB f m v) (subN f v)) ≤ (emaxS f).toNat * 2 ^ (precS f - 1).toNat ∧ (m ≤ 1 → 0 ≤ m → codeF f (addB f 4 (rintB f m v) (subN f v)) ≤ (emaxS f - 1).toNat * 2 ^ (precS f - 1).toNat) := by
  obtain ⟨r1, r2, r3, r4⟩ := rint_rnd f m v h0 hf hm hfin
  obtain ⟨t1, t2, t3⟩ := turn_code f v h0 hf
  have hp := prec_one f h0 hf
  have hem := emax_lo f h0 hf
  have hk : KK = 2199023255552 := rfl
  have hS : (254 + KK).toNat + 1 = (255 + KK).toNat := by omega
  clear hk
  have hy : classF f (subN f v) < 3 := by rw [sub_fin f v hfin, t3]; exact hfin
  obtain ⟨c1, c2, c3⟩ := add_parts f 4 false (rintB f m v) (subN f v) h0 hf (by decide) r1 hy
  have hn : ∀ g odd r, nextS 4 g odd r = false := fun g odd r => by unfold nextS ruleS; simp
  have hle : ∀ g c, endC f 4 g c ≤ c := fun g c => by
    unfold endC
    rw [hn]
    split
    · rw [if_neg (by decide)]; omega
    · exact Nat.le_refl _
  have hX : sumX f (rintB f m v) (subN f v) = (valC (precS f).toNat (unitB f KK) (codeF f (rintB f m v)) - valC (precS f).toNat (unitB f KK) (codeF f v)) + (valC (precS f).toNat (unitB f KK) (codeF f v) - valC (precS f).toNat (unitB f KK) (codeF f (rintB f m v))) := by
    have hne : ¬ sgnF f (rintB f m v) = sgnF f (turnF f v) := by rw [t2, r2]; cases sgnF f v <;> decide
    rw [sub_fin f v hfin]
    unfold sumX exactX
    rw [if_neg hne, t1]
  obtain ⟨d1, d2, d3⟩ := rnd_near (255 + KK).toNat m (sgnF f v) (valC (precS f).toNat (unitB f KK) (codeF f v))
  rw [← r4] at d1 d2 d3
  have hbd : ∀ c, sumX f (rintB f m v) (subN f v) ≤ valC (precS f).toNat (unitB f KK) c → codeF f (addB f 4 (rintB f m v) (subN f v)) ≤ c := by
    intro c hc
    have h1 := floorC_mono (precS f).toNat (unitB f KK) (by omega) hc
    rw [floorC_valC _ _ _ (by omega)] at h1
    rw [c1]
    refine Nat.le_trans (hle _ _) ?_
    unfold codeX
    rw [hn]
    exact h1
  constructor
  · refine hbd _ ?_
    rw [val_pow f (emaxS f) h0 hf (by omega) (by omega), Int.sub_self, Int.zero_add, hX]
    clear hS hbd d3 r4
    generalize 2 ^ (255 + KK).toNat = T at *
    omega
  · intro h1 h2
    obtain ⟨d4, d5⟩ := d3 (by omega)
    refine hbd _ ?_
    rw [val_pow f (emaxS f - 1) h0 hf (by omega) (by omega), show emaxS f - 1 - emaxS f + 255 + KK = 254 + KK by omega, hX]
    have hS2 := pow_half _ _ hS
    clear hS hbd d1 d2 d3 r4
    generalize 2 ^ (255 + KK).toNat = T at *
    generalize 2 ^ (254 + KK).toNat = u at *
    generalize valC (precS f).toNat (unitB f KK) (codeF f (rintB f m v)) = A at *
    generalize valC (precS f).toNat (unitB f KK) (codeF f v) = D at *
    omega
/-- Of two sizes the lesser one is not made the greater one. -/
theorem rint_mono (f m : Int) (x y : Nat) (h0 : 0 ≤ f) (hf : f < 4) (hm : m ≤ 4) (hxy : x ≤ y) (hy : y < infC f) : rintB f m x ≤ rintB f m y := by
  have hI := infC_lt f h0 hf
  have hu := Nat.two_pow_pos (precS f - 1).toNat
  obtain ⟨a1, a2⟩ := pos_parts f x h0 hf (by omega)
  obtain ⟨b1, b2⟩ := pos_parts f y h0 hf (by omega)
  obtain ⟨r1, r2, r3, r4⟩ := rint_rnd f m x h0 hf hm ((class_fin f x h0 hf).2 (by rw [a1]; omega))
  obtain ⟨s1, s2, s3, s4⟩ := rint_rnd f m y h0 hf hm ((class_fin f y h0 hf).2 (by rw [b1]; omega))
  have hz : signN f false = 0 := rfl
  rw [a2, hz, Nat.add_zero] at r3
  rw [b2, hz, Nat.add_zero] at s3
  rw [r3, s3]
  rcases Nat.lt_or_ge (codeF f (rintB f m y)) (codeF f (rintB f m x)) with h | h
  · exfalso
    have h1 := valC_lt (precS f).toNat (unitB f KK) h
    rw [r4, s4, a2, b2, a1, b1] at h1
    have h2 := Nat.mul_le_mul_right (2 ^ (255 + KK).toNat) (rndN_mono (255 + KK).toNat m false (valC_le (precS f).toNat (unitB f KK) hxy))
    omega
  · exact h
/-- Up and Down are neighbours. -/
theorem rint_next (f : Int) (x : Nat) (h0 : 0 ≤ f) (hf : f < 4) (hx : x < infC f) (hr : rintFl f 2 true x ≠ 0) :
    addB f 0 (rintB f 3 x) (makeF f false (emaxS f) 0) = rintB f 2 x ∧ addFl f 0 false (rintB f 3 x) (makeF f false (emaxS f) 0) = 0 := by
  have hI := infC_lt f h0 hf
  have hu := Nat.two_pow_pos (precS f - 1).toNat
  have hp := prec_one f h0 hf
  have hem := emax_lo f h0 hf
  obtain ⟨a1, a2⟩ := pos_parts f x h0 hf (by omega)
  have hfin := (class_fin f x h0 hf).2 (by rw [a1]; exact hx)
  obtain ⟨r1, r2, r3, r4⟩ := rint_rnd f 2 x h0 hf (by decide) hfin
  obtain ⟨s1, s2, s3, s4⟩ := rint_rnd f 3 x h0 hf (by decide) hfin
  have hz : signN f false = 0 := rfl
  rw [a2, hz, Nat.add_zero] at r3 s3
  rw [a2, a1] at r4 s4
  rw [rint_fl f 2 true x h0 hf (by decide) hfin, a1] at hr
  have hR : restN (valC (precS f).toNat (unitB f KK) x) (255 + KK).toNat ≠ 0 := by
    intro h
    rw [if_neg (fun y => y.1 h)] at hr
    exact hr rfl
  have hbd := restN_bd (valC (precS f).toNat (unitB f KK) x) (255 + KK).toNat
  have lr := (class_fin f _ h0 hf).1 r1
  have ls := (class_fin f _ h0 hf).1 s1
  obtain ⟨q1, q2⟩ := pow_code f (emaxS f) h0 hf (by omega) (by omega)
  obtain ⟨c1, c2⟩ := add_pos f 0 false (rintB f 3 x) (makeF f false (emaxS f) 0) h0 hf (by decide) (by rw [s3]; exact ls) (by rw [q1]; exact q2)
  have hX : valC (precS f).toNat (unitB f KK) (rintB f 3 x) + valC (precS f).toNat (unitB f KK) (makeF f false (emaxS f) 0) = valC (precS f).toNat (unitB f KK) (codeF f (rintB f 2 x)) := by
    rw [q1, val_pow f (emaxS f) h0 hf (by omega) (by omega), Int.sub_self, Int.zero_add, s3, s4, r4]
    unfold rndN
    rw [next_down, next_up false _ _ hbd.1 hbd.2, if_neg (by decide), if_pos (bne_iff_ne.2 hR), Nat.add_zero, Nat.add_mul, Nat.one_mul]
  rw [hX] at c1 c2
  rw [end_val f 0 false _ _ hp lr] at c1
  rw [flag_val f 0 false false _ _ hp lr] at c2
  exact ⟨by rw [c1, ← r3], c2⟩
theorem rint_same (f : Int) (x : Nat) (h0 : 0 ≤ f) (hf : f < 4) (hx : x < infC f) (hr : rintFl f 2 true x = 0) : rintB f 3 x = rintB f 2 x ∧ rintFl f 3 true x = 0 := by
  have hI := infC_lt f h0 hf
  have hu := Nat.two_pow_pos (precS f - 1).toNat
  obtain ⟨a1, a2⟩ := pos_parts f x h0 hf (by omega)
  have hfin := (class_fin f x h0 hf).2 (by rw [a1]; exact hx)
  have hR : restN (valC (precS f).toNat (unitB f KK) (codeF f x)) (255 + KK).toNat = 0 := by
    rw [rint_fl f 2 true x h0 hf (by decide) hfin] at hr
    rcases Classical.em (restN (valC (precS f).toNat (unitB f KK) (codeF f x)) (255 + KK).toNat = 0) with h | h
    · exact h
    · rw [if_pos ⟨h, rfl⟩] at hr; exact absurd hr (by decide)
  refine ⟨?_, ?_⟩
  · rw [(up_exact f x h0 hf hfin 3 (by decide)).1 hR, (up_exact f x h0 hf hfin 2 (by decide)).1 hR]
  · rw [rint_fl f 3 true x h0 hf (by decide) hfin, if_neg (fun y => y.1 hR)]
end Go.Proofs.YtkldkchkhblndaaGreatDoor
