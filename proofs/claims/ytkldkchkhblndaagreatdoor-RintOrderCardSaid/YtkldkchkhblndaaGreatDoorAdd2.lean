/- The contracts of addsub.finite, addsub.Add, addsub.Sub, joined: for every input. Condition: the listed table is laid. -/
import Derived.Test.YtkldkchkhblndaaGreatDoorSum1
import Derived.Test.YtkldkchkhblndaaGreatDoorAdd1
set_option linter.unusedSimpArgs false
set_option linter.unusedVariables false
namespace Go.Proofs.YtkldkchkhblndaaGreatDoor
open Go.RowKit Go.Hb
def finE (s t : Bool) (e : Int) (a : Nat) (e' : Int) (b : Nat) : Int := if s = t then sumE e a e' b else difE e a e' b
def finV (s t : Bool) (e : Int) (a : Nat) (e' : Int) (b : Nat) : Nat := if s = t then sumV e a e' b else difV e a e' b
def finS (m : Int) (s t : Bool) (e : Int) (a : Nat) (e' : Int) (b : Nat) : Bool := if finV s t e a e' b = 0 then nouB m s t else if s = t then s else (s != difL e a e' b)
def finB (f m : Int) (s t : Bool) (e : Int) (a : Nat) (e' : Int) (b : Nat) : Nat := resB f m (finS m s t e a e' b) (finE s t e a e' b) (finV s t e a e' b)
def finFl (f m : Int) (aft : Bool) (s t : Bool) (e : Int) (a : Nat) (e' : Int) (b : Nat) : Int := resFl f m aft (finS m s t e a e' b) (finE s t e a e' b) (finV s t e a e' b)
theorem dif_bd (e : Int) (a : Nat) (e' : Int) (b : Nat) (ha : a < 2 ^ 256) (hb : b < 2 ^ 256) : difV e a e' b < 2 ^ 256 := by
  have h1 := jamS_le a (difE e a e' b - e) ha
  have h2 := jamS_le b (difE e a e' b - e') hb
  unfold difV
  split <;> omega
theorem fin_e (f m c e h l c' e' h' l' : Int) (aft s : Bool) [hU : U8 f] [hM : U8 m] [U64 h] [U64 l] [U64 h'] [U64 l'] (w : World) [hLay : Laid w] (he : -1000000 ≤ e) (he2 : e ≤ 1000000) (hf : -1000000 ≤ e') (hf2 : e' ≤ 1000000) :
    Calls Tryz.prog 49 #[.int .u8 f, .agg #[.int .u8 m, .bool aft], .agg #[.bool s, .int .u8 c, .int .i64 e, .int .u64 h, .int .u64 l], .agg #[.bool s, .int .u8 c', .int .i64 e', .int .u64 h', .int .u64 l']] w fun en w' => en = .returned (.agg #[.int .u64 (hi (finB f m s s e (cat4 0 0 l h) e' (cat4 0 0 l' h'))), .int .u64 (lo (finB f m s s e (cat4 0 0 l h) e' (cat4 0 0 l' h'))), .int .u8 (finFl f m aft s s e (cat4 0 0 l h) e' (cat4 0 0 l' h'))]) ∧ Below w.heap.size w w' := by
  have ha : cat4 0 0 l h < 2 ^ 256 := by rw [two256]; exact cat4_lt 0 0 l h
  have hb : cat4 0 0 l' h' < 2 ^ 256 := by rw [two256]; exact cat4_lt 0 0 l' h'
  have hE : finE s s e (cat4 0 0 l h) e' (cat4 0 0 l' h') = sumE e (cat4 0 0 l h) e' (cat4 0 0 l' h') := by unfold finE; rw [if_pos rfl]
  have hV : finV s s e (cat4 0 0 l h) e' (cat4 0 0 l' h') = sumV e (cat4 0 0 l h) e' (cat4 0 0 l' h') := by unfold finV; rw [if_pos rfl]
  have hq := w4 _ (sum_bd e (cat4 0 0 l h) e' (cat4 0 0 l' h') ha hb)
  unfold finB finFl
  rw [hE, hV]
  by_cases hz : sumV e (cat4 0 0 l h) e' (cat4 0 0 l' h') = 0
  · have hS : finS m s s e (cat4 0 0 l h) e' (cat4 0 0 l' h') = nouB m s s := by unfold finS; rw [hV, if_pos hz]
    rw [hS]
    exact fin_e_z f m c e h l c' e' h' l' _ _ _ _ _ _ _ _ aft s _ w (fun W hW => mag_Sum_all e e' 0 0 l h 0 0 l' h' W he he2 hf hf2) (Lib.hid (by rw [hq]; exact decide_eq_true hz)) rfl (Lib.hid (by rw [hq])) (Lib.hid (by rw [hq])) (Lib.hid (by rw [hq]))
  · have hS : finS m s s e (cat4 0 0 l h) e' (cat4 0 0 l' h') = s := by unfold finS; rw [hV, if_neg hz, if_pos rfl]
    rw [hS]
    exact fin_e_p f m c e h l c' e' h' l' _ _ _ _ _ _ _ _ aft s _ w (fun W hW => mag_Sum_all e e' 0 0 l h 0 0 l' h' W he he2 hf hf2) (Lib.hid (by rw [hq]; exact decide_eq_false hz)) rfl (Lib.hid (by rw [hq])) (Lib.hid (by rw [hq])) (Lib.hid (by rw [hq]))
theorem fin_n (f m c e h l c' e' h' l' : Int) (aft s : Bool) [hU : U8 f] [hM : U8 m] [U64 h] [U64 l] [U64 h'] [U64 l'] (w : World) [hLay : Laid w] (he : -1000000 ≤ e) (he2 : e ≤ 1000000) (hf : -1000000 ≤ e') (hf2 : e' ≤ 1000000) :
    Calls Tryz.prog 49 #[.int .u8 f, .agg #[.int .u8 m, .bool aft], .agg #[.bool s, .int .u8 c, .int .i64 e, .int .u64 h, .int .u64 l], .agg #[.bool (!s), .int .u8 c', .int .i64 e', .int .u64 h', .int .u64 l']] w fun en w' => en = .returned (.agg #[.int .u64 (hi (finB f m s (!s) e (cat4 0 0 l h) e' (cat4 0 0 l' h'))), .int .u64 (lo (finB f m s (!s) e (cat4 0 0 l h) e' (cat4 0 0 l' h'))), .int .u8 (finFl f m aft s (!s) e (cat4 0 0 l h) e' (cat4 0 0 l' h'))]) ∧ Below w.heap.size w w' := by
  have ha : cat4 0 0 l h < 2 ^ 256 := by rw [two256]; exact cat4_lt 0 0 l h
  have hb : cat4 0 0 l' h' < 2 ^ 256 := by rw [two256]; exact cat4_lt 0 0 l' h'
  have hst : ¬ s = !s := by cases s <;> decide
  have hE : finE s (!s) e (cat4 0 0 l h) e' (cat4 0 0 l' h') = difE e (cat4 0 0 l h) e' (cat4 0 0 l' h') := by unfold finE; rw [if_neg hst]
  have hV : finV s (!s) e (cat4 0 0 l h) e' (cat4 0 0 l' h') = difV e (cat4 0 0 l h) e' (cat4 0 0 l' h') := by unfold finV; rw [if_neg hst]
  have hq := w4 _ (dif_bd e (cat4 0 0 l h) e' (cat4 0 0 l' h') ha hb)
  unfold finB finFl
  rw [hE, hV]
  by_cases hz : difV e (cat4 0 0 l h) e' (cat4 0 0 l' h') = 0
  · have hS : finS m s (!s) e (cat4 0 0 l h) e' (cat4 0 0 l' h') = nouB m s (!s) := by unfold finS; rw [hV, if_pos hz]
    rw [hS]
    exact fin_n_z f m c e h l c' e' h' l' _ _ _ _ _ _ _ _ aft s _ _ _ w (fun W hW => mag_Diff_all e e' 0 0 l h 0 0 l' h' W he he2 hf hf2) rfl (Lib.hid (by rw [hq]; exact decide_eq_true hz)) rfl (Lib.hid (by rw [hq])) (Lib.hid (by rw [hq])) (Lib.hid (by rw [hq]))
  · have hS : finS m s (!s) e (cat4 0 0 l h) e' (cat4 0 0 l' h') = (s != difL e (cat4 0 0 l h) e' (cat4 0 0 l' h')) := by unfold finS; rw [hV, if_neg hz, if_neg hst]
    rw [hS]
    exact fin_n_p f m c e h l c' e' h' l' _ _ _ _ _ _ _ _ aft s _ _ _ w (fun W hW => mag_Diff_all e e' 0 0 l h 0 0 l' h' W he he2 hf hf2) rfl (Lib.hid (by rw [hq]; exact decide_eq_false hz)) rfl (Lib.hid (by rw [hq])) (Lib.hid (by rw [hq])) (Lib.hid (by rw [hq]))
theorem addsub_finite (f m c e h l c' e' h' l' : Int) (aft s t : Bool) [hU : U8 f] [hM : U8 m] [U64 h] [U64 l] [U64 h'] [U64 l'] (w : World) [hLay : Laid w] (he : -1000000 ≤ e) (he2 : e ≤ 1000000) (hf : -1000000 ≤ e') (hf2 : e' ≤ 1000000) :
    Calls Tryz.prog 49 #[.int .u8 f, .agg #[.int .u8 m, .bool aft], .agg #[.bool s, .int .u8 c, .int .i64 e, .int .u64 h, .int .u64 l], .agg #[.bool t, .int .u8 c', .int .i64 e', .int .u64 h', .int .u64 l']] w fun en w' => en = .returned (.agg #[.int .u64 (hi (finB f m s t e (cat4 0 0 l h) e' (cat4 0 0 l' h'))), .int .u64 (lo (finB f m s t e (cat4 0 0 l h) e' (cat4 0 0 l' h'))), .int .u8 (finFl f m aft s t e (cat4 0 0 l h) e' (cat4 0 0 l' h'))]) ∧ Below w.heap.size w w' := by
  by_cases hst : t = s
  · subst hst; exact fin_e f m c e h l c' e' h' l' aft t w he he2 hf hf2
  · have : t = !s := by cases s <;> cases t <;> simp_all
    subst this; exact fin_n f m c e h l c' e' h' l' aft s w he he2 hf hf2
/-- What addsub.Add answers. -/
def addB (f m : Int) (a b : Nat) : Nat :=
  if f < 4 ∧ m ≤ 4 then (if nanB f a then quietF f a else if nanB f b then quietF f b else
    if classF f a = 3 then (if classF f b = 3 ∧ sgnF f b ≠ sgnF f a then defF f else makeF f (sgnF f a) (2 * emaxS f + 1) 0)
    else if classF f b = 3 then makeF f (sgnF f b) (2 * emaxS f + 1) 0
    else finB f m (sgnF f a) (sgnF f b) (unE f a) (up128 (unS f a)) (unE f b) (up128 (unS f b))) else 0
def addFl (f m : Int) (aft : Bool) (a b : Nat) : Int :=
  if f < 4 ∧ m ≤ 4 then (if nanB f a || nanB f b then (if sigB f a || sigB f b then 1 else 0) else
    if classF f a = 3 then (if classF f b = 3 ∧ sgnF f b ≠ sgnF f a then 1 else 0)
    else if classF f b = 3 then 0
    else finFl f m aft (sgnF f a) (sgnF f b) (unE f a) (up128 (unS f a)) (unE f b) (up128 (unS f b))) else 0
theorem un_bd (f : Int) (v : Nat) (h0 : 0 ≤ f) : -1000000 ≤ unE f v ∧ unE f v ≤ 1000000 := by
  obtain ⟨e0, e1⟩ := emaxS_bd f
  obtain ⟨p0, p1⟩ := precS_bd f
  have hl := unE_low f v h0
  refine ⟨by omega, ?_⟩
  unfold unE
  split
  · have hx : expF f v ≤ 32767 := by
      unfold expF
      split
      · omega
      · have hw : (widthS f - precS f).toNat ≤ 15 := by unfold widthS precS; repeat' split <;> omega
        have := Nat.mod_lt (v / 2 ^ (precS f - 1).toNat) (Nat.two_pow_pos (widthS f - precS f).toNat)
        have h2 : 2 ^ (widthS f - precS f).toNat ≤ 2 ^ 15 := Nat.pow_le_pow_right (by decide) hw
        have h3 : (2 : Nat) ^ 15 = 32768 := by decide
        omega
    omega
  · split
    · have := by128_bd (fracF f v) (Nat.lt_trans (fracF_lt f v h0) (by decide)); omega
    · omega
theorem nan_false {f : Int} {v : Nat} (h : ¬ 4 ≤ classF f v) : nanB f v = false := decide_eq_false h
theorem addsub_Add (f m h l h' l' : Int) (aft : Bool) [hU : U8 f] [hM : U8 m] [U64 h] [U64 l] [U64 h'] [U64 l'] (w : World) [hLay : Laid w] :
    Calls Tryz.prog 18 #[.int .u8 f, .agg #[.int .u8 m, .bool aft], .agg #[.int .u64 (h), .int .u64 (l)], .agg #[.int .u64 (h'), .int .u64 (l')]] w fun en w' => en = .returned (.agg #[.int .u64 (hi (addB f m (cat h l) (cat h' l'))), .int .u64 (lo (addB f m (cat h l) (cat h' l'))), .int .u8 (addFl f m aft (cat h l) (cat h' l'))]) ∧ Below w.heap.size w w' := by
  have z0 : hi 0 = 0 := rfl
  have z1 : lo 0 = 0 := rfl
  by_cases hf : f < 4
  case neg =>
    have e1 : addB f m (cat h l) (cat h' l') = 0 := by unfold addB; rw [if_neg (fun x => hf x.1)]
    have e2 : addFl f m aft (cat h l) (cat h' l') = 0 := by unfold addFl; rw [if_neg (fun x => hf x.1)]
    rw [e1, e2, z0, z1]; exact add_nf f m h l h' l' aft w hf
  by_cases hm : m ≤ 4
  case neg =>
    have e1 : addB f m (cat h l) (cat h' l') = 0 := by unfold addB; rw [if_neg (fun x => hm x.2)]
    have e2 : addFl f m aft (cat h l) (cat h' l') = 0 := by unfold addFl; rw [if_neg (fun x => hm x.2)]
    rw [e1, e2, z0, z1]; exact add_nm f m h l h' l' aft w hf hm
  have hk : f < 4 ∧ m ≤ 4 := ⟨hf, hm⟩
  have f0 := hU.ge
  have kb : ∀ v (x : Int), classF f v ≠ x → (classF f v == x) = false := fun v x hn => beq_eq_false_iff_ne.2 hn
  by_cases hn1 : 4 ≤ classF f (cat h l)
  · have n1 : nanB f (cat h l) = true := decide_eq_true hn1
    have e1 : addB f m (cat h l) (cat h' l') = quietF f (cat h l) := by unfold addB; rw [if_pos hk, n1, if_pos rfl]
    have e2 : addFl f m aft (cat h l) (cat h' l') = (if sigB f (cat h l) || sigB f (cat h' l') then 1 else 0) := by unfold addFl; rw [if_pos hk, n1, Bool.true_or, if_pos rfl]
    rw [e1, e2]
    cases hs : (sigB f (cat h l) || sigB f (cat h' l'))
    · rw [if_neg (by decide)]
      exact add_w1 f m h l h' l' _ _ _ _ _ _ _ _ _ _ 0 aft _ _ w hf hm (Lib.hid rfl) (Lib.hid rfl) (Lib.hid rfl) (Lib.hid rfl) (Lib.hid rfl) (Lib.hid rfl) (Lib.hid rfl) (Lib.hid rfl) (Lib.hid rfl) (Lib.hid rfl) (kb _ _ (by omega)) (fun W b hW c0 c1 c2 c3 => pick2_a_q f h l h' l' _ _ b W c0 c1 c2 c3 hf (Lib.hid n1) (Lib.hid rfl) (Lib.hid rfl) (Lib.hid hs))
    · rw [if_pos rfl]
      exact add_w1 f m h l h' l' _ _ _ _ _ _ _ _ _ _ 1 aft _ _ w hf hm (Lib.hid rfl) (Lib.hid rfl) (Lib.hid rfl) (Lib.hid rfl) (Lib.hid rfl) (Lib.hid rfl) (Lib.hid rfl) (Lib.hid rfl) (Lib.hid rfl) (Lib.hid rfl) (kb _ _ (by omega)) (fun W b hW c0 c1 c2 c3 => pick2_a_s f h l h' l' _ _ b W c0 c1 c2 c3 hf (Lib.hid n1) (Lib.hid rfl) (Lib.hid rfl) (Lib.hid hs))
  have n1 : nanB f (cat h l) = false := nan_false hn1
  have ff : ¬ (false = true) := by decide
  by_cases hn2 : 4 ≤ classF f (cat h' l')
  · have n2 : nanB f (cat h' l') = true := decide_eq_true hn2
    have e1 : addB f m (cat h l) (cat h' l') = quietF f (cat h' l') := by unfold addB; rw [if_pos hk, n1, if_neg ff, n2, if_pos rfl]
    have e2 : addFl f m aft (cat h l) (cat h' l') = (if sigB f (cat h l) || sigB f (cat h' l') then 1 else 0) := by unfold addFl; rw [if_pos hk, n1, n2, Bool.or_true, if_pos rfl]
    rw [e1, e2]
    cases hs : (sigB f (cat h l) || sigB f (cat h' l'))
    · rw [if_neg (by decide)]
      by_cases h3 : classF f (cat h l) = 3
      · exact add_w2 f m h l h' l' _ _ _ _ _ _ _ _ _ _ 0 aft _ _ w hf hm (Lib.hid rfl) (Lib.hid rfl) (Lib.hid rfl) (Lib.hid rfl) (Lib.hid rfl) (Lib.hid rfl) (Lib.hid rfl) (Lib.hid rfl) (Lib.hid rfl) (Lib.hid rfl) (beq_iff_eq.2 h3) (kb _ _ (by omega)) (fun W b hW c0 c1 c2 c3 => pick2_b_q f h l h' l' _ _ b W c0 c1 c2 c3 hf (Lib.hid n1) (Lib.hid n2) (Lib.hid rfl) (Lib.hid rfl) (Lib.hid hs))
      · exact add_w1 f m h l h' l' _ _ _ _ _ _ _ _ _ _ 0 aft _ _ w hf hm (Lib.hid rfl) (Lib.hid rfl) (Lib.hid rfl) (Lib.hid rfl) (Lib.hid rfl) (Lib.hid rfl) (Lib.hid rfl) (Lib.hid rfl) (Lib.hid rfl) (Lib.hid rfl) (kb _ _ h3) (fun W b hW c0 c1 c2 c3 => pick2_b_q f h l h' l' _ _ b W c0 c1 c2 c3 hf (Lib.hid n1) (Lib.hid n2) (Lib.hid rfl) (Lib.hid rfl) (Lib.hid hs))
    · rw [if_pos rfl]
      by_cases h3 : classF f (cat h l) = 3
      · exact add_w2 f m h l h' l' _ _ _ _ _ _ _ _ _ _ 1 aft _ _ w hf hm (Lib.hid rfl) (Lib.hid rfl) (Lib.hid rfl) (Lib.hid rfl) (Lib.hid rfl) (Lib.hid rfl) (Lib.hid rfl) (Lib.hid rfl) (Lib.hid rfl) (Lib.hid rfl) (beq_iff_eq.2 h3) (kb _ _ (by omega)) (fun W b hW c0 c1 c2 c3 => pick2_b_s f h l h' l' _ _ b W c0 c1 c2 c3 hf (Lib.hid n1) (Lib.hid n2) (Lib.hid rfl) (Lib.hid rfl) (Lib.hid hs))
      · exact add_w1 f m h l h' l' _ _ _ _ _ _ _ _ _ _ 1 aft _ _ w hf hm (Lib.hid rfl) (Lib.hid rfl) (Lib.hid rfl) (Lib.hid rfl) (Lib.hid rfl) (Lib.hid rfl) (Lib.hid rfl) (Lib.hid rfl) (Lib.hid rfl) (Lib.hid rfl) (kb _ _ h3) (fun W b hW c0 c1 c2 c3 => pick2_b_s f h l h' l' _ _ b W c0 c1 c2 c3 hf (Lib.hid n1) (Lib.hid n2) (Lib.hid rfl) (Lib.hid rfl) (Lib.hid hs))
  have n2 : nanB f (cat h' l') = false := nan_false hn2
  have HP : ∀ (W : World) (b : Nat), Laid W → W.cell? ⟨b, 0, none⟩ = some (.int .u64 h) → W.cell? ⟨b, 1, none⟩ = some (.int .u64 l) → W.cell? ⟨b, 2, none⟩ = some (.int .u64 h') → W.cell? ⟨b, 3, none⟩ = some (.int .u64 l') → Calls Tryz.prog 47 #[.int .u8 f, .bool false, .slice (some ⟨b, 0, none⟩) 2 2] W fun en w' => en = .returned (.tuple #[.agg #[.int .u64 0, .int .u64 0, .int .u8 0], .bool false]) ∧ Below W.heap.size W w' :=
    fun W b hW c0 c1 c2 c3 => pick2_no f h l h' l' b W c0 c1 c2 c3 hf (Lib.hid n1) (Lib.hid n2)
  by_cases h3 : classF f (cat h l) = 3
  · by_cases h4 : classF f (cat h' l') = 3
    · by_cases hst : sgnF f (cat h' l') = sgnF f (cat h l)
      · have e1 : addB f m (cat h l) (cat h' l') = makeF f (sgnF f (cat h l)) (2 * emaxS f + 1) 0 := by unfold addB; rw [if_pos hk, n1, if_neg ff, n2, if_neg ff, if_pos h3, if_neg (fun x => x.2 hst)]
        have e2 : addFl f m aft (cat h l) (cat h' l') = 0 := by unfold addFl; rw [if_pos hk, n1, n2, Bool.or_false, if_neg ff, if_pos h3, if_neg (fun x => x.2 hst)]
        rw [e1, e2]
        exact add_w5 f m h l h' l' _ _ _ _ _ _ _ _ _ _ 0 aft _ w hf hm (Lib.hid rfl) (Lib.hid rfl) (Lib.hid rfl) (Lib.hid rfl) (Lib.hid rfl) (Lib.hid hst) (Lib.hid rfl) (Lib.hid rfl) (Lib.hid rfl) (Lib.hid rfl) (beq_iff_eq.2 h3) (beq_iff_eq.2 h4) HP (Lib.hid rfl) (Lib.hid rfl)
      · have e1 : addB f m (cat h l) (cat h' l') = defF f := by unfold addB; rw [if_pos hk, n1, if_neg ff, n2, if_neg ff, if_pos h3, if_pos ⟨h4, hst⟩]
        have e2 : addFl f m aft (cat h l) (cat h' l') = 1 := by unfold addFl; rw [if_pos hk, n1, n2, Bool.or_false, if_neg ff, if_pos h3, if_pos ⟨h4, hst⟩]
        have hst2 : sgnF f (cat h' l') = !(sgnF f (cat h l)) := by
          revert hst
          cases sgnF f (cat h' l') <;> cases sgnF f (cat h l) <;> decide
        rw [e1, e2]
        exact add_w3 f m h l h' l' _ _ _ _ _ _ _ _ _ _ 1 aft _ w hf hm (Lib.hid rfl) (Lib.hid rfl) (Lib.hid rfl) (Lib.hid rfl) (Lib.hid rfl) (Lib.hid hst2) (Lib.hid rfl) (Lib.hid rfl) (Lib.hid rfl) (Lib.hid rfl) (beq_iff_eq.2 h3) (beq_iff_eq.2 h4) (fun W b hW c0 c1 c2 c3 => pick2_inv f h l h' l' _ _ b W c0 c1 c2 c3 hf (Lib.hid n1) (Lib.hid n2) (Lib.hid rfl) (Lib.hid rfl))
    · have e1 : addB f m (cat h l) (cat h' l') = makeF f (sgnF f (cat h l)) (2 * emaxS f + 1) 0 := by unfold addB; rw [if_pos hk, n1, if_neg ff, n2, if_neg ff, if_pos h3, if_neg (fun x => h4 x.1)]
      have e2 : addFl f m aft (cat h l) (cat h' l') = 0 := by unfold addFl; rw [if_pos hk, n1, n2, Bool.or_false, if_neg ff, if_pos h3, if_neg (fun x => h4 x.1)]
      rw [e1, e2]
      exact add_w4 f m h l h' l' _ _ _ _ _ _ _ _ _ _ 0 aft _ _ w hf hm (Lib.hid rfl) (Lib.hid rfl) (Lib.hid rfl) (Lib.hid rfl) (Lib.hid rfl) (Lib.hid rfl) (Lib.hid rfl) (Lib.hid rfl) (Lib.hid rfl) (Lib.hid rfl) (beq_iff_eq.2 h3) (kb _ _ h4) HP (Lib.hid rfl) (Lib.hid rfl)
  · by_cases h4 : classF f (cat h' l') = 3
    · have e1 : addB f m (cat h l) (cat h' l') = makeF f (sgnF f (cat h' l')) (2 * emaxS f + 1) 0 := by unfold addB; rw [if_pos hk, n1, if_neg ff, n2, if_neg ff, if_neg h3, if_pos h4]
      have e2 : addFl f m aft (cat h l) (cat h' l') = 0 := by unfold addFl; rw [if_pos hk, n1, n2, Bool.or_false, if_neg ff, if_neg h3, if_pos h4]
      rw [e1, e2]
      exact add_w6 f m h l h' l' _ _ _ _ _ _ _ _ _ _ 0 aft _ _ w hf hm (Lib.hid rfl) (Lib.hid rfl) (Lib.hid rfl) (Lib.hid rfl) (Lib.hid rfl) (Lib.hid rfl) (Lib.hid rfl) (Lib.hid rfl) (Lib.hid rfl) (Lib.hid rfl) (kb _ _ h3) (beq_iff_eq.2 h4) HP (Lib.hid rfl) (Lib.hid rfl)
    · have e1 : addB f m (cat h l) (cat h' l') = finB f m (sgnF f (cat h l)) (sgnF f (cat h' l')) (unE f (cat h l)) (up128 (unS f (cat h l))) (unE f (cat h' l')) (up128 (unS f (cat h' l'))) := by unfold addB; rw [if_pos hk, n1, if_neg ff, n2, if_neg ff, if_neg h3, if_neg h4]
      have e2 : addFl f m aft (cat h l) (cat h' l') = finFl f m aft (sgnF f (cat h l)) (sgnF f (cat h' l')) (unE f (cat h l)) (up128 (unS f (cat h l))) (unE f (cat h' l')) (up128 (unS f (cat h' l'))) := by unfold addFl; rw [if_pos hk, n1, n2, Bool.or_false, if_neg ff, if_neg h3, if_neg h4]
      have j1 : cat4 0 0 (lo (unS f (cat h l))) (hi (unS f (cat h l))) = up128 (unS f (cat h l)) := by rw [cat4_join, cat_small _ (unS_lt f _ f0)]; rfl
      have j2 : cat4 0 0 (lo (unS f (cat h' l'))) (hi (unS f (cat h' l'))) = up128 (unS f (cat h' l')) := by rw [cat4_join, cat_small _ (unS_lt f _ f0)]; rfl
      obtain ⟨b1, b2⟩ := un_bd f (cat h l) f0
      obtain ⟨b3, b4⟩ := un_bd f (cat h' l') f0
      rw [e1, e2, ← j1, ← j2]
      exact add_w7 f m h l h' l' _ _ _ _ _ _ _ _ _ _ _ aft _ _ w hf hm (Lib.hid rfl) (Lib.hid rfl) (Lib.hid rfl) (Lib.hid rfl) (Lib.hid rfl) (Lib.hid rfl) (Lib.hid rfl) (Lib.hid rfl) (Lib.hid rfl) (Lib.hid rfl) (kb _ _ h3) (kb _ _ h4) HP (fun W hW => addsub_finite f m _ _ _ _ _ _ _ _ aft _ _ W b1 b2 b3 b4)
/-- What addsub.Sub adds. -/
def subN (f : Int) (b : Nat) : Nat := if nanB f b then b else turnF f b
theorem addsub_Sub (f m h l h' l' : Int) (aft : Bool) [hU : U8 f] [hM : U8 m] [U64 h] [U64 l] [U64 h'] [U64 l'] (w : World) [hLay : Laid w] :
    Calls Tryz.prog 20 #[.int .u8 f, .agg #[.int .u8 m, .bool aft], .agg #[.int .u64 (h), .int .u64 (l)], .agg #[.int .u64 (h'), .int .u64 (l')]] w fun en w' => en = .returned (.agg #[.int .u64 (hi (addB f m (cat h l) (subN f (cat h' l')))), .int .u64 (lo (addB f m (cat h l) (subN f (cat h' l')))), .int .u8 (addFl f m aft (cat h l) (subN f (cat h' l')))]) ∧ Below w.heap.size w w' := by
  cases hn : nanB f (cat h' l')
  · have e : subN f (cat h' l') = turnF f (cat h' l') := by unfold subN; rw [hn, if_neg (by decide)]
    have ht := cat_small (turnF f (cat h' l')) (makeF_lt _ _ _ _ hU.ge)
    rw [e, ← ht]
    exact sub_num f m h l h' l' _ _ _ _ _ aft w (Lib.hid hn) (Lib.hid rfl) (Lib.hid rfl) (fun W hW => addsub_Add f m h l _ _ aft W)
  · have e : subN f (cat h' l') = cat h' l' := by unfold subN; rw [hn, if_pos rfl]
    rw [e]
    exact sub_nan f m h l h' l' _ _ _ aft w (Lib.hid hn) (fun W hW => addsub_Add f m h l h' l' aft W)
end Go.Proofs.YtkldkchkhblndaaGreatDoor
