/- The contract of the reference's Round: for every number that is not too long. Condition: the listed table is laid. -/
import Derived.Test.YtgpedgppdggjmaaDoorRndA
import Derived.Test.YtgpedgppdggjmaaDoorRndB
import Derived.Test.YtgpedgppdggjmaaDoorRndC
set_option linter.unusedSimpArgs false
set_option linter.unusedVariables false
namespace Go.Proofs.YtgpedgppdggjmaaDoor
open Go.RowKit Go.Hb
def refR (f m : Int) (neg : Bool) (Q : Nat) (E : Int) : Nat := if f < 4 ∧ m ≤ 4 then refB f m neg Q E else 0
def refRF (f m : Int) (aft neg : Bool) (Q : Nat) (E : Int) : Int := if f < 4 ∧ m ≤ 4 then refFl f m aft neg Q E else 0
theorem cut_small (f m : Int) (neg : Bool) (Q : Nat) (E : Int) (h0 : 0 ≤ f) (hf : f < 4) (hQ : Q ≠ 0) :
    (precS f ≤ blen (cutR m neg Q (blen Q - precS f)) ∧ (blen (cutR m neg Q (blen Q - precS f)) : Int) ≤ precS f + 1) ∧ (blen (cutR m neg Q (unitR f Q E - E)) : Int) ≤ precS f + 1 := by
  obtain ⟨f1, f2, f3, f4, f5, f6⟩ := fmt_bd f h0 hf
  have hK : ∃ K : Int, 20000 ≤ K ∧ precS f ≤ E + K := ⟨20000 + E.natAbs, by omega, by omega⟩
  obtain ⟨K, k1, k2⟩ := hK
  have hb := cut_is _ Q E K hQ (by omega) rfl
  have hq := blen_ne Q hQ
  have hc : (cutAt (precS f).toNat 0 (Q * 2 ^ (E + K).toNat) : Int) = blen Q + (E + K) - precS f := by unfold cutAt; omega
  obtain ⟨_, _, d3, d4⟩ := code_cut (precS f).toNat 0 m neg Q E K (blen Q + E - precS f) (by omega) (by omega) (by omega)
  rw [show (blen Q : Int) + E - precS f - E = blen Q - precS f by omega] at d3 d4
  have hn : 2 ^ ((precS f).toNat - 1) ≤ cutR m neg Q (blen Q - precS f) := by
    rcases d4 with d4 | d4
    · omega
    · exact d4
  obtain ⟨_, _, c3, _⟩ := code_cut (precS f).toNat (unitB f (K - 255)) m neg Q E K (unitR f Q E) (by omega) (by omega) (unit_cut f Q E K h0 hf hQ (by omega) k1)
  have hl : (blen (cutR m neg Q (unitR f Q E - E)) : Int) ≤ precS f + 1 := by
    have h := blen_mono c3
    have e : 2 * 2 ^ ((precS f).toNat - 1) = 2 ^ (precS f).toNat := by rw [← Nat.pow_succ']; congr 1; omega
    have h2 : 2 ^ (precS f).toNat < 2 ^ ((precS f).toNat + 1) := Nat.pow_lt_pow_right (by decide) (by omega)
    rw [e] at h
    have h3 := blen_le_of _ _ h2
    omega
  refine ⟨?_, hl⟩
  rcases blen_full (precS f).toNat _ (by omega) hn d3 with ⟨_, g2⟩ | ⟨_, g2⟩ <;> omega
theorem dl_few (n : Nat) (p : Int) (h : (blen n : Int) ≤ p) (hp : p ≤ 900000) : dl n ≤ 30000 := by unfold dl; omega
theorem round_in (f m E : Int) (aft neg : Bool) (Q : Nat) (v : Value) [hU8 : U8 f] [hM8 : U8 m] (w : World) [hLay : Laid w] (hf : f < 4) (m1 : m ≤ 4) (hR_v : RN w v Q) (lq : dl Q ≤ 30000) (hQ : Q ≠ 0) (e0 : -4000000000000 ≤ E) (e1 : E ≤ 4000000000000) :
    Calls Tryd.prog 21 #[.int .u8 f, .agg #[.int .u8 m, .bool aft], .agg #[.bool neg, v, .int .i64 E, .bool false]] w fun en w' => en = .returned (.agg #[.int .u64 (hi (refB f m neg Q E)), .int .u64 (lo (refB f m neg Q E)), .int .u8 (refFl f m aft neg Q E)]) ∧ Below w.heap.size w w' := by
  obtain ⟨f1, f2, f3, f4, f5, f6⟩ := fmt_bd f U8.ge hf
  obtain ⟨mm0, mm1⟩ := emaxS_bd f
  obtain ⟨⟨p1, p2⟩, p3⟩ := cut_small f m neg Q E U8.ge hf hQ
  have m0 : 0 ≤ m := hM8.ge
  have bQ : (blen Q : Int) ≤ 960000 := by unfold dl at lq; omega
  have bQ1 := blen_ne Q hQ
  have hw1 : IntKind.i64.wrap ((blen Q : Int) - 1) = (blen Q : Int) - 1 := IntWalk.i64_in _ (by omega)
  have hE : IntKind.i64.wrap (IntKind.i64.wrap ((blen Q : Int) - 1) + E) = (blen Q : Int) - 1 + E := by rw [hw1]; exact IntWalk.i64_in _ (by omega)
  have hls : leastS f = 1 - emaxS f := rfl
  have how : ownR f m neg Q E = (blen (cutR m neg Q (blen Q - precS f)) : Int) + blen Q - 1 + E - precS f := rfl
  have hun : unitR f Q E = max ((blen Q : Int) - 1 + E) (1 - emaxS f) - (precS f - 1) := rfl
  have lF := dl_few _ _ p2 (by omega)
  have lN := dl_few _ _ p3 (by omega)
  by_cases hov : emaxS f < ownR f m neg Q E
  · have hk : f < 4 ∧ m ≤ 4 := ⟨hf, m1⟩
    have g1 : refB f m neg Q E = overO f m neg := by unfold refB overO; rw [if_neg hQ, if_pos hov, if_pos hk]
    have g2 : refFl f m aft neg Q E = 20 := by unfold refFl; rw [if_neg hQ, if_pos hov]
    rw [g1, g2]
    exact round_over f m E ((blen Q : Int) - 1 + E) (ownR f m neg Q E) _ _ aft neg Q _ v w hf m0 m1 hR_v lq hQ e0 e1 lF rfl hE rfl (by omega) (by omega) (by omega) (by omega) (by omega) hov rfl rfl (by unfold overFl; exact if_pos hk)
  · have g2 : refFl f m aft neg Q E = flagsS (restR Q (unitR f Q E - E) != 0) (tinyR f m aft neg Q E) := by unfold refFl; rw [if_neg hQ, if_neg hov]
    have hfg : Hid ((restR Q (unitR f Q E - E) = 0 ∧ refFl f m aft neg Q E = 0) ∨ ((restR Q (unitR f Q E - E) == 0) = false ∧ aft = false ∧ ((blen Q : Int) - 1 + E < 1 - emaxS f ∧ refFl f m aft neg Q E = 24 ∨ ¬ (blen Q : Int) - 1 + E < 1 - emaxS f ∧ refFl f m aft neg Q E = 16)) ∨ ((restR Q (unitR f Q E - E) == 0) = false ∧ aft = true ∧ (ownR f m neg Q E < 1 - emaxS f ∧ refFl f m aft neg Q E = 24 ∨ ¬ ownR f m neg Q E < 1 - emaxS f ∧ refFl f m aft neg Q E = 16))) := by
      rw [g2]
      show _ ∨ _
      by_cases hr : restR Q (unitR f Q E - E) = 0
      · exact Or.inl ⟨hr, by rw [hr]; rfl⟩
      · have hr1 : (restR Q (unitR f Q E - E) == 0) = false := by rw [beq_eq_false_iff_ne]; exact hr
        have hr2 : (restR Q (unitR f Q E - E) != 0) = true := by rw [bne, hr1]; rfl
        rw [hr2]
        right
        cases aft
        · left
          refine ⟨hr1, rfl, ?_⟩
          unfold tinyR
          by_cases ht : (blen Q : Int) - 1 + E < 1 - emaxS f
          · exact Or.inl ⟨ht, by rw [if_neg (by decide), hls, decide_eq_true ht]; rfl⟩
          · exact Or.inr ⟨ht, by rw [if_neg (by decide), hls, decide_eq_false ht]; rfl⟩
        · right
          refine ⟨hr1, rfl, ?_⟩
          unfold tinyR
          by_cases ht : ownR f m neg Q E < 1 - emaxS f
          · exact Or.inl ⟨ht, by rw [if_pos rfl, hls, decide_eq_true ht]; rfl⟩
          · exact Or.inr ⟨ht, by rw [if_pos rfl, hls, decide_eq_false ht]; rfl⟩
    have hlow : lowR f m neg Q E = cutR m neg Q (unitR f Q E - E) := rfl
    by_cases hn : (blen (cutR m neg Q (unitR f Q E - E)) : Int) < precS f
    · have g1 : refB f m neg Q E = makeF f neg 0 (cutR m neg Q (unitR f Q E - E)) := by unfold refB; rw [if_neg hQ, if_neg hov, hlow, if_pos hn]
      rw [g1]
      exact round_few f m E ((blen Q : Int) - 1 + E) (ownR f m neg Q E) (unitR f Q E) _ _ _ _ aft neg Q _ _ v w hf m0 m1 hR_v lq hQ e0 e1 lF lN rfl rfl rfl hE rfl (by omega) (by omega) (by omega) (by omega) (by omega) (by omega) (by omega) (by omega) hov (by omega) (by omega) hn rfl rfl hfg
    · have g1 : refB f m neg Q E = makeF f neg ((blen (cutR m neg Q (unitR f Q E - E)) : Int) + unitR f Q E - (1 - emaxS f)) (cutR m neg Q (unitR f Q E - E) / 2 ^ ((blen (cutR m neg Q (unitR f Q E - E)) : Int) - precS f).toNat) := by unfold refB; rw [if_neg hQ, if_neg hov, hlow, if_neg hn, hls]
      rw [g1]
      exact round_norm f m E ((blen Q : Int) - 1 + E) (ownR f m neg Q E) (unitR f Q E) _ _ _ _ aft neg Q _ _ v w hf m0 m1 hR_v lq hQ e0 e1 lF lN rfl rfl rfl hE rfl (by omega) (by omega) (by omega) (by omega) (by omega) (by omega) (by omega) (by omega) hov (by omega) (by omega) hn (by omega) (by omega) rfl rfl hfg
theorem ref_Round (f m E : Int) (aft neg : Bool) (Q : Nat) (v : Value) [hU8 : U8 f] [hM8 : U8 m] (w : World) [hLay : Laid w] (hR_v : RN w v Q) (lq : dl Q ≤ 30000) (e0 : -4000000000000 ≤ E) (e1 : E ≤ 4000000000000) :
    Calls Tryd.prog 21 #[.int .u8 f, .agg #[.int .u8 m, .bool aft], .agg #[.bool neg, v, .int .i64 E, .bool false]] w fun en w' => en = .returned (.agg #[.int .u64 (hi (refR f m neg Q E)), .int .u64 (lo (refR f m neg Q E)), .int .u8 (refRF f m aft neg Q E)]) ∧ Below w.heap.size w w' := by
  unfold refR refRF
  by_cases hk : f < 4 ∧ m ≤ 4
  · rw [if_pos hk, if_pos hk]
    by_cases hQ : Q = 0
    · subst hQ
      have g1 : refB f m neg 0 E = makeF f neg 0 0 := by unfold refB; rw [if_pos rfl]
      have g2 : refFl f m aft neg 0 E = 0 := by unfold refFl; rw [if_pos rfl]
      rw [g1, g2]
      exact round_zero f m E _ _ aft neg v w hk.1 hM8.ge hk.2 hR_v rfl rfl
    · exact round_in f m E aft neg Q v w hk.1 hk.2 hR_v lq hQ e0 e1
  · rw [if_neg hk, if_neg hk]
    exact round_none f m E aft neg v w hk
end Go.Proofs.YtgpedgppdggjmaaDoor
