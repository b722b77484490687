/- The plain law of order: of two numbers without signs the lesser one does not make the greater integer. -/
import Derived.Test.YtojcelokljghlaaDoorLaw26u
set_option linter.unusedSimpArgs false
set_option linter.unusedVariables false
namespace Go.Proofs.YtojcelokljghlaaDoor
open Go.RowKit Go.Hb
def rndN (s : Nat) (m : Int) (neg : Bool) (X : Nat) : Nat := X / 2 ^ s + (if nextS m neg (X / 2 ^ s % 2 == 1) (restN X s) then 1 else 0)
theorem restN_bd (v s : Nat) : 0 ≤ restN v s ∧ restN v s ≤ 3 := by rw [restN_G]; exact restG_bd _ _
theorem rndN_mono (s : Nat) (m : Int) (neg : Bool) {X Y : Nat} (h : X ≤ Y) : rndN s m neg X ≤ rndN s m neg Y := by
  have h1 : X / 2 ^ s ≤ Y / 2 ^ s := Nat.div_le_div_right h
  unfold rndN
  rcases Nat.lt_or_eq_of_le h1 with h2 | h2
  · split <;> split <;> omega
  · rw [h2]
    have hr : restN X s ≤ restN Y s := by
      rw [restN_G, restN_G]
      apply restG_mono
      have a := Nat.div_add_mod X (2 ^ s)
      have b := Nat.div_add_mod Y (2 ^ s)
      rw [h2] at a
      omega
    have hb := (restN_bd Y s).2
    by_cases hn : nextS m neg (Y / 2 ^ s % 2 == 1) (restN X s) = true
    · rw [if_pos hn, if_pos (next_mono m neg _ hr hb hn)]; exact Nat.le_refl _
    · rw [if_neg hn]; omega
theorem rndN_up (s k : Nat) (m : Int) (neg : Bool) (v : Nat) (hs : 1 ≤ s) : rndN (s + k) m neg (v * 2 ^ k) = rndN s m neg v := by
  unfold rndN
  rw [floor_up, restN_up _ _ _ hs]
theorem whN_rnd (e m : Int) (neg : Bool) (v : Nat) (hv : v < 2 ^ 128) (e0 : -100000 ≤ e) (e1 : e ≤ 64) : whN e m neg v = rndN (255 + KK).toNat m neg (numX KK e (up128 v)) := by
  have hV : up128 v < 2 ^ 256 := up128_lt v hv
  have hk : KK = 2199023255552 := rfl
  have hf : farS e = e := by unfold farS; omega
  have hX : numX KK e (up128 v) = up128 v * 2 ^ (e + KK).toNat := by unfold numX; rw [hf]
  have hs : (255 + KK).toNat = (255 - e).toNat + (e + KK).toNat := by omega
  have hu : v * 2 ^ 128 = up128 v := rfl
  rw [hX, hs, rndN_up _ _ _ _ _ (by omega)]
  unfold whN
  rw [hu]
  split
  · rename_i hn
    rw [cutS_form _ _ _ _ (by decide) (by decide) (jamS_le _ _ hV), jamS_N, jam_floor _ _ _ (by decide), jam_rest _ _ _ (by decide)]
    unfold rndN
    rw [show (-e - 1).toNat + (256 - 0 : Int).toNat = (255 - e).toNat by omega]
  · rw [cutS_form _ _ _ _ (by omega) (by omega) hV, show (256 - (e + 1)).toNat = (255 - e).toNat by omega]
    rfl
theorem num_rnd (f m : Int) (v : Nat) (h0 : 0 ≤ f) (hf : f < 4) (hfin : classF f v < 3) (he : unE f v ≤ 64) (hlo : -100000 ≤ unE f v) : numI f m v = rndN (255 + KK).toNat m (sgnF f v) (valC (precS f).toNat (unitB f KK) (codeF f v)) := by
  have hk : okW (classF f v) (unE f v) = true := (okW_iff _ _).2 (by omega)
  unfold numI whV
  rw [if_pos hk, whN_rnd _ _ _ _ (unS_lt f v h0) hlo he, un_val f v h0 hf hfin]
theorem unE_low (f : Int) (v : Nat) (h0 : 0 ≤ f) : -100000 ≤ unE f v := by
  obtain ⟨e0, e1⟩ := emaxS_bd f
  obtain ⟨p0, p1⟩ := precS_bd f
  unfold unE
  repeat' split
  · omega
  · have := by128_bd (fracF f v) (Nat.lt_trans (fracF_lt f v h0) (by decide)); omega
  · omega
theorem code_div (f : Int) (v : Nat) (h0 : 0 ≤ f) (hf : f < 4) : codeF f v / 2 ^ (precS f - 1).toNat = expF f v := by
  unfold codeF
  rw [Nat.add_comm, Nat.add_mul_div_right _ _ (Nat.two_pow_pos _), Nat.div_eq_of_lt (frac_lt_p f v h0 hf), Nat.zero_add]
theorem unE_mono (f : Int) (a b : Nat) (h0 : 0 ≤ f) (hf : f < 4) (hc : codeF f a ≤ codeF f b) (hb : classF f b < 3) (he : unE f b ≤ 64) : classF f a < 3 ∧ unE f a ≤ 64 := by
  have ha : classF f a < 3 := (class_fin f a h0 hf).2 (Nat.lt_of_le_of_lt hc ((class_fin f b h0 hf).1 hb))
  refine ⟨ha, ?_⟩
  obtain ⟨a0, a1, a2, a3, a4⟩ := class_code f a h0 hf
  obtain ⟨b0, b1, b2, b3, b4⟩ := class_code f b h0 hf
  have hbd := classF_bd f a
  have hl := emax_lo f h0 hf
  have h3 : classF f a = 0 ∨ classF f a = 1 ∨ classF f a = 2 := by omega
  rcases h3 with h | h | h
  · unfold unE; rw [if_neg (by omega), if_neg (by omega)]; decide
  · have hs := sub_by f a h0 hf ((class_parts f a h0).1 h).2.2
    unfold unE; rw [if_neg (by omega), if_pos h]; omega
  · have h2 := a2.1 h
    have hb2 : classF f b = 2 := b2.2 ⟨by omega, (class_fin f b h0 hf).1 hb⟩
    have hx : expF f a ≤ expF f b := by rw [← code_div f a h0 hf, ← code_div f b h0 hf]; exact Nat.div_le_div_right hc
    unfold unE at he ⊢
    rw [if_pos hb2] at he
    rw [if_pos h]
    omega
theorem siz_bd (f k m : Int) (v : Nat) : 0 ≤ sizI f k m v ∧ sizI f k m v ≤ mostX k (sgnF f v) := by
  have hm : ∀ s, 0 ≤ mostX k s := by intro s; unfold mostX leastK mostK; repeat' split <;> omega
  have := hm (sgnF f v)
  unfold sizI
  split
  · exact ⟨this, Int.le_refl _⟩
  · rename_i h
    unfold bigI at h
    simp only [Bool.or_eq_true, decide_eq_true_eq, not_or, Int.not_lt] at h
    exact ⟨by omega, h.2⟩
instance u64_intV (f k m : Int) (v : Nat) : U64 (intV f k m v) := by
  have h := siz_bd f k m v
  have hm : mostX k (sgnF f v) ≤ 18446744073709551615 := by unfold mostX leastK mostK; repeat' split <;> omega
  constructor <;> (unfold intV; repeat' split) <;> omega
theorem siz_mono (f k m : Int) (a b : Nat) (h0 : 0 ≤ f) (hf : f < 4) (sa : sgnF f a = false) (sb : sgnF f b = false) (ha : classF f a < 4) (hb : classF f b < 4) (h : codeF f a ≤ codeF f b) : sizI f k m a ≤ sizI f k m b := by
  have la := (siz_bd f k m a).2
  rw [sa] at la
  by_cases hg : bigI f k m b = true
  · have e : sizI f k m b = mostX k (sgnF f b) := by unfold sizI; rw [if_pos hg]
    rw [e, sb]; exact la
  · have e : sizI f k m b = (numI f m b : Int) := by unfold sizI; rw [if_neg hg]
    have hg' := hg
    unfold bigI at hg'
    simp only [Bool.or_eq_true, decide_eq_true_eq, not_or, Int.not_lt, Bool.not_eq_true', Bool.not_eq_false] at hg'
    obtain ⟨k1, k2⟩ := hg'
    have hk := (okW_iff _ _).1 k1
    have hb3 : classF f b < 3 := by omega
    obtain ⟨ha3, hae⟩ := unE_mono f a b h0 hf h hb3 (by omega)
    have hle : numI f m a ≤ numI f m b := by
      rw [num_rnd f m a h0 hf ha3 hae (unE_low f a h0), num_rnd f m b h0 hf hb3 (by omega) (unE_low f b h0), sa, sb]
      exact rndN_mono _ _ _ (valC_le _ _ h)
    rw [sb] at k2
    have hga : bigI f k m a = false := by
      unfold bigI
      rw [(okW_iff _ _).2 (by omega), sa, decide_eq_false (by omega)]
      rfl
    have e2 : sizI f k m a = (numI f m a : Int) := by unfold sizI; rw [hga]; rfl
    rw [e, e2]
    omega
theorem int_mono (f k m : Int) (a b : Nat) (h0 : 0 ≤ f) (sa : sgnF f a = false) (sb : sgnF f b = false) (ha : classF f a < 4) (hb : classF f b < 4) (h : codeF f a ≤ codeF f b) : intV f k m a ≤ intV f k m b := by
  unfold intV
  by_cases hk : f < 4 ∧ k < 4 ∧ m ≤ 4
  · rw [if_pos (show f < 4 ∧ k < 4 ∧ m ≤ 4 ∧ classF f a < 4 from ⟨hk.1, hk.2.1, hk.2.2, ha⟩), if_pos (show f < 4 ∧ k < 4 ∧ m ≤ 4 ∧ classF f b < 4 from ⟨hk.1, hk.2.1, hk.2.2, hb⟩), sa, sb]
    exact siz_mono f k m a b h0 hk.1 sa sb ha hb h
  · rw [if_neg (fun x => hk ⟨x.1, x.2.1, x.2.2.1⟩), if_neg (fun x => hk ⟨x.1, x.2.1, x.2.2.1⟩)]; exact Int.le_refl _
end Go.Proofs.YtojcelokljghlaaDoor
