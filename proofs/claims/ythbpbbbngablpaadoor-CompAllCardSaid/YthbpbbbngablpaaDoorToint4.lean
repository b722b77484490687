/- The contract of toint.Int, joined: for every input. Condition: the listed tables are laid. -/
import Derived.Test.YthbpbbbngablpaaDoorToint3
set_option linter.unusedSimpArgs false
set_option linter.unusedVariables false
namespace Go.Proofs.YthbpbbbngablpaaDoor
open Go.RowKit Go.Hb
instance u64_mostX (k : Int) (s : Bool) : U64 (mostX k s) := by
  cases s
  · exact u64_mostK k
  · exact u64_leastK k
theorem wrap_neg (x : Int) (h0 : 0 ≤ x) (h1 : x < 18446744073709551616) : IntKind.u64.wrap (-x) = if x = 0 then 0 else 18446744073709551616 - x := by
  rw [IntKind.wrap_u64]; split <;> omega
theorem cmp_mo (n : Nat) (mo : Int) (h : U64 mo) (hn : cat (hi n) (lo n) = n) : decide (0 < cmpN (cat (hi n) (lo n)) (cat 0 mo)) = decide (mo < (n : Int)) := by
  have h0 := h.ge
  rw [decide_eq_decide, hn]
  unfold cmpN cat
  have : (0 : Int).toNat = 0 := rfl
  rw [this]
  constructor
  · intro h2; split at h2
    · omega
    · split at h2 <;> omega
  · intro h2
    rw [if_neg (by omega), if_pos (by omega)]; decide
theorem whV_cat (c e m : Int) (neg : Bool) (v : Nat) (hv : v < 2 ^ 128) (he : -100000 ≤ e) : cat (hi (whV c e m neg v)) (lo (whV c e m neg v)) = whV c e m neg v := by
  have hu : v * 2 ^ 128 < 2 ^ 256 := up128_lt v hv
  by_cases hk : c = 3 ∨ 64 < e
  · have ho : okW c e = false := by rw [← Bool.not_eq_true, okW_iff]; exact fun hn => hn hk
    have hz : whV c e m neg v = 0 := by unfold whV; rw [ho, if_neg (by decide)]
    rw [hz]; rfl
  · by_cases hn : e < 0
    · rw [(wh_low c e m neg v hk hn).2.1]
      exact cutS_cat _ 0 m neg (by decide) (by decide) (jamS_le _ _ hu)
    · rw [(wh_top c e m neg v hk hn).2.1]
      exact cutS_cat _ (e + 1) m neg (by omega) (by omega) hu
theorem unE_lo (f : Int) (v : Nat) (h0 : 0 ≤ f) (hf : f < 4) : -100000 ≤ unE f v := by
  obtain ⟨e0, e1⟩ := emaxS_bd f
  obtain ⟨p0, p1⟩ := precS_bd f
  unfold unE
  split
  · omega
  · split
    · have hb : by128 (fracF f v) ≤ 128 := by unfold by128; split <;> omega
      omega
    · omega
theorem toint_Int (f k m h l : Int) [hU : U8 f] [hK : U8 k] [hM : U8 m] [U64 h] [U64 l] (w : World) [hLay : Laid w] [hLE : LaidE w] :
    Calls Tryd.prog 13 #[.int .u8 f, .int .u8 k, .int .u8 m, .agg #[.int .u64 (h), .int .u64 (l)]] w fun en w' => en = .returned (.agg #[.int .u64 (intV f k m (cat h l)), .int .u8 (intF f k m (cat h l))]) ∧ Below w.heap.size w w' := by
  by_cases hk : f < 4 ∧ k < 4 ∧ m ≤ 4
  case neg =>
    have e1 : intV f k m (cat h l) = 0 := by unfold intV; rw [if_neg (fun h => hk ⟨h.1, h.2.1, h.2.2.1⟩)]
    have e2 : intF f k m (cat h l) = 0 := by unfold intF; rw [if_neg hk]
    rw [e1, e2]
    exact int_none f k m h l w hk
  obtain ⟨hf, hk4, hm⟩ := hk
  have f0 := hU.ge
  have m0 := hM.ge
  by_cases hc : 4 ≤ classF f (cat h l)
  · have e1 : intV f k m (cat h l) = 0 := by unfold intV; rw [if_neg (fun h => by omega)]
    have e2 : intF f k m (cat h l) = 1 := by unfold intF; rw [if_pos ⟨hf, hk4, hm⟩, if_pos hc]
    rw [e1, e2]
    exact int_nan f k m h l _ w hf hk4 hm (Lib.hid rfl) hc
  have e1 : intV f k m (cat h l) = (if sgnF f (cat h l) then (if sizI f k m (cat h l) = 0 then 0 else 18446744073709551616 - sizI f k m (cat h l)) else sizI f k m (cat h l)) := by unfold intV; rw [if_pos ⟨hf, hk4, hm, by omega⟩]
  have e2 : intF f k m (cat h l) = (if bigI f k m (cat h l) then 1 else if whO (classF f (cat h l)) (unE f (cat h l)) (unS f (cat h l)) then 16 else 0) := by unfold intF; rw [if_pos ⟨hf, hk4, hm⟩, if_neg hc]
  have hun : cat (hi (unS f (cat h l))) (lo (unS f (cat h l))) = unS f (cat h l) := cat_small _ (unS_lt f _ f0)
  have hel := unE_lo f (cat h l) f0 hf
  have hN := whV_cat (classF f (cat h l)) (unE f (cat h l)) m (sgnF f (cat h l)) (unS f (cat h l)) (unS_lt f _ f0) hel
  rw [e1, e2]
  cases ho : okW (classF f (cat h l)) (unE f (cat h l))
  · have hb : bigI f k m (cat h l) = true := by unfold bigI; rw [ho]; rfl
    have hs : sizI f k m (cat h l) = mostX k (sgnF f (cat h l)) := by unfold sizI; rw [if_pos hb]
    have hz : whV (classF f (cat h l)) (unE f (cat h l)) m (sgnF f (cat h l)) (unS f (cat h l)) = 0 := by unfold whV; rw [ho, if_neg (by decide)]
    rw [hb, hs, if_pos rfl, ← wrap_neg _ (U64.ge (x := mostX k (sgnF f (cat h l)))) (U64.lt (x := mostX k (sgnF f (cat h l))))]
    exact int_far f k m h l _ _ _ _ _ _ _ w hf hk4 hm hel m0 (Lib.hid rfl) (Lib.hid rfl) (Lib.hid rfl) (Lib.hid rfl) (Lib.hid rfl) hc (Lib.hid (by rw [hun, hz]; rfl)) (Lib.hid (by rw [hun, hz]; rfl)) (Lib.hid rfl) (Lib.hid ho) rfl
  · have hcmp := cmp_mo (whV (classF f (cat h l)) (unE f (cat h l)) m (sgnF f (cat h l)) (unS f (cat h l))) (mostX k (sgnF f (cat h l))) inferInstance hN
    by_cases hg : mostX k (sgnF f (cat h l)) < (numI f m (cat h l) : Int)
    · have hb : bigI f k m (cat h l) = true := by unfold bigI; rw [decide_eq_true hg, Bool.or_true]
      have hs : sizI f k m (cat h l) = mostX k (sgnF f (cat h l)) := by unfold sizI; rw [if_pos hb]
      have hd := hcmp.trans (decide_eq_true hg)
      rw [hb, hs, if_pos rfl]
      cases hsg : sgnF f (cat h l)
      · rw [hsg] at hd
        rw [if_neg (by decide)]
        exact int_pgt f k m h l _ _ _ _ _ _ _ _ w hf hk4 hm hel m0 (Lib.hid hsg) (Lib.hid rfl) (Lib.hid rfl) (Lib.hid rfl) (Lib.hid rfl) hc (Lib.hid rfl) (Lib.hid rfl) (Lib.hid rfl) (Lib.hid ho) rfl (by rw [hun]; exact hd)
      · rw [hsg] at hd
        rw [if_pos rfl]
        rw [← wrap_neg _ (U64.ge (x := mostX k true)) (U64.lt (x := mostX k true))]
        exact int_ngt f k m h l _ _ _ _ _ _ _ _ _ w hf hk4 hm hel m0 (Lib.hid hsg) (Lib.hid rfl) (Lib.hid rfl) (Lib.hid rfl) (Lib.hid rfl) hc (Lib.hid rfl) (Lib.hid rfl) (Lib.hid rfl) (Lib.hid ho) rfl (by rw [hun]; exact hd) rfl
    · have hb : bigI f k m (cat h l) = false := by unfold bigI; rw [decide_eq_false hg, ho]; rfl
      have hs : sizI f k m (cat h l) = (numI f m (cat h l) : Int) := by unfold sizI; rw [if_neg (by rw [hb]; decide)]
      have hd := hcmp.trans (decide_eq_false hg)
      have hlt := U64.lt (x := mostX k (sgnF f (cat h l)))
      have hlo : (lo (whV (classF f (cat h l)) (unE f (cat h l)) m (sgnF f (cat h l)) (unS f (cat h l))) : Int) = (numI f m (cat h l) : Int) := by
        have : numI f m (cat h l) < 18446744073709551616 := by omega
        unfold numI at this ⊢
        unfold lo
        omega
      have hn0 : (0 : Int) ≤ (numI f m (cat h l) : Int) := by omega
      have hn1 : (numI f m (cat h l) : Int) < 18446744073709551616 := by omega
      rw [hb, hs, if_neg (by decide : ¬ false = true)]
      cases hio : whO (classF f (cat h l)) (unE f (cat h l)) (unS f (cat h l))
      · cases hsg : sgnF f (cat h l)
        · simp only [Bool.false_eq_true, if_true, if_false]
          rw [← hlo]
          rw [hsg] at hd ⊢
          exact int_pex f k m h l _ _ _ _ _ _ _ _ w hf hk4 hm hel m0 (Lib.hid hsg) (Lib.hid rfl) (Lib.hid rfl) (Lib.hid rfl) (Lib.hid rfl) hc (Lib.hid rfl) (Lib.hid (by rw [hun])) (Lib.hid rfl) (Lib.hid ho) rfl (by rw [hun]; exact hd) (by rw [hun]; exact hio)
        · simp only [Bool.false_eq_true, if_true, if_false]
          rw [← wrap_neg _ hn0 hn1, ← hlo]
          rw [hsg] at hd ⊢
          exact int_nex f k m h l _ _ _ _ _ _ _ _ _ w hf hk4 hm hel m0 (Lib.hid hsg) (Lib.hid rfl) (Lib.hid rfl) (Lib.hid rfl) (Lib.hid rfl) hc (Lib.hid rfl) (Lib.hid (by rw [hun])) (Lib.hid rfl) (Lib.hid ho) rfl (by rw [hun]; exact hd) (by rw [hun]; exact hio) rfl
      · cases hsg : sgnF f (cat h l)
        · simp only [Bool.false_eq_true, if_true, if_false]
          rw [← hlo]
          rw [hsg] at hd ⊢
          exact int_pin f k m h l _ _ _ _ _ _ _ _ w hf hk4 hm hel m0 (Lib.hid hsg) (Lib.hid rfl) (Lib.hid rfl) (Lib.hid rfl) (Lib.hid rfl) hc (Lib.hid rfl) (Lib.hid (by rw [hun])) (Lib.hid rfl) (Lib.hid ho) rfl (by rw [hun]; exact hd) (by rw [hun]; exact hio)
        · simp only [Bool.false_eq_true, if_true, if_false]
          rw [← wrap_neg _ hn0 hn1, ← hlo]
          rw [hsg] at hd ⊢
          exact int_nin f k m h l _ _ _ _ _ _ _ _ _ w hf hk4 hm hel m0 (Lib.hid hsg) (Lib.hid rfl) (Lib.hid rfl) (Lib.hid rfl) (Lib.hid rfl) hc (Lib.hid rfl) (Lib.hid (by rw [hun])) (Lib.hid rfl) (Lib.hid ho) rfl (by rw [hun]; exact hd) (by rw [hun]; exact hio) rfl
end Go.Proofs.YthbpbbbngablpaaDoor
