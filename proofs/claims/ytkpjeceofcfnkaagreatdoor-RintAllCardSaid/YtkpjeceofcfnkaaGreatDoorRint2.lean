/- The contracts of rint.Rint and rint.Whole, joined: for every input. Condition: the listed table is laid. -/
import Derived.Test.YtkpjeceofcfnkaaGreatDoorRint2w
set_option linter.unusedSimpArgs false
set_option linter.unusedVariables false
namespace Go.Proofs.YtkpjeceofcfnkaaGreatDoor
open Go.RowKit Go.Hb
theorem wh_cat (f m : Int) (v : Nat) (h0 : 0 ≤ f) (hf : f < 4) (hk : keepB f v = false) : whN (unE f v) m (sgnF f v) (unS f v) < 2 ^ 128 ∧ unE f v ≤ 126 := by
  obtain ⟨p0, p1⟩ := precS_bd f
  unfold keepB at hk
  rw [Bool.or_eq_false_iff, decide_eq_false_iff_not] at hk
  have he : unE f v ≤ 126 := by omega
  refine ⟨?_, he⟩
  have hV : up128 (unS f v) < 2 ^ 256 := up128_lt _ (unS_lt f v h0)
  have hu : unS f v * 2 ^ 128 = up128 (unS f v) := rfl
  unfold whN
  rw [hu]
  split
  · have := cutS_le (jamS (up128 (unS f v)) (-unE f v - 1)) 0 m (sgnF f v) (by decide) (by decide) (jamS_le _ _ hV)
    have h1 : (2 : Nat) ^ (0 : Int).toNat = 1 := rfl
    rw [h1] at this
    exact Nat.lt_of_le_of_lt this (by decide)
  · have := cutS_le (up128 (unS f v)) (unE f v + 1) m (sgnF f v) (by omega) (by omega) hV
    refine Nat.lt_of_le_of_lt this (Nat.lt_of_le_of_lt (Nat.pow_le_pow_right (by decide) (show (unE f v + 1).toNat ≤ 127 by omega)) (by decide))
theorem cat4_two (n : Nat) (h : n < 2 ^ 128) : cat4 (lo n) (hi n) 0 0 = n := by
  have e : cat4 (lo n) (hi n) 0 0 = cat (hi n) (lo n) := by
    unfold cat4 cat
    have z : (0 : Int).toNat = 0 := rfl
    rw [z]
    omega
  rw [e, cat_small n h]
theorem rint_Rint (f m h l : Int) (ex : Bool) [hU : U8 f] [hM : U8 m] [U64 h] [U64 l] (w : World) [hLay : Laid w] :
    Calls Tryz.prog 8 #[.int .u8 f, .int .u8 m, .bool ex, .agg #[.int .u64 (h), .int .u64 (l)]] w fun en w' => en = .returned (.agg #[.int .u64 (hi (rintB f m (cat h l))), .int .u64 (lo (rintB f m (cat h l))), .int .u8 (rintFl f m ex (cat h l))]) ∧ Below w.heap.size w w' := by
  have h0 : hi 0 = 0 := rfl
  have l0 : lo 0 = 0 := rfl
  by_cases hf : f < 4
  case neg =>
    have e1 : rintB f m (cat h l) = 0 := by unfold rintB; rw [if_neg (fun x => hf x.1)]
    have e2 : rintFl f m ex (cat h l) = 0 := by unfold rintFl; rw [if_neg (fun x => hf x.1)]
    rw [e1, e2, h0, l0]; exact rint_nf f m h l ex w hf
  by_cases hm : m ≤ 4
  case neg =>
    have e1 : rintB f m (cat h l) = 0 := by unfold rintB; rw [if_neg (fun x => hm x.2)]
    have e2 : rintFl f m ex (cat h l) = 0 := by unfold rintFl; rw [if_neg (fun x => hm x.2)]
    rw [e1, e2, h0, l0]; exact rint_nm f m h l ex w hf hm
  have a1 : rintB f m (cat h l) = (if nanB f (cat h l) then quietF f (cat h l) else if keepB f (cat h l) then lowN (cat h l) (widthS f) else exB f (sgnF f (cat h l)) 255 (whN (unE f (cat h l)) m (sgnF f (cat h l)) (unS f (cat h l)))) := by unfold rintB; rw [if_pos (show f < 4 ∧ m ≤ 4 from ⟨hf, hm⟩)]
  have a2 : rintFl f m ex (cat h l) = (if nanB f (cat h l) then (if sigB f (cat h l) then 1 else 0) else if keepB f (cat h l) then 0 else if whI (unE f (cat h l)) (unS f (cat h l)) && ex then 16 else 0) := by unfold rintFl; rw [if_pos (show f < 4 ∧ m ≤ 4 from ⟨hf, hm⟩)]
  rw [a1, a2]
  clear a1 a2
  cases hn : nanB f (cat h l)
  case true =>
    rw [if_pos (show true = true from rfl), if_pos (show true = true from rfl)]
    cases hs : sigB f (cat h l)
    · rw [if_neg (show ¬ (false = true) by decide)]; exact rint_nan f m h l _ _ 0 ex w hf hm (fun W b hW c0 c1 => pick1_q f h l _ _ b W c0 c1 hf (Lib.hid hn) (Lib.hid rfl) (Lib.hid rfl) (Lib.hid hs))
    · rw [if_pos (show true = true from rfl)]; exact rint_nan f m h l _ _ 1 ex w hf hm (fun W b hW c0 c1 => pick1_s f h l _ _ b W c0 c1 hf (Lib.hid hn) (Lib.hid rfl) (Lib.hid rfl) (Lib.hid hs))
  rw [if_neg (show ¬ (false = true) by decide), if_neg (show ¬ (false = true) by decide)]
  cases hk : keepB f (cat h l)
  case true =>
    rw [if_pos (show true = true from rfl), if_pos (show true = true from rfl)]
    unfold keepB at hk
    cases g1 : (classF f (cat h l) == 0)
    case true => exact rint_in f m h l _ _ _ _ (hi 0) (lo 0) _ _ _ ex _ false false w hf hm (Lib.hid hn) (Lib.hid rfl) (Lib.hid rfl) (Lib.hid rfl) (Lib.hid rfl) (Lib.hid rfl) (Or.inl ⟨g1, rfl, rfl, rfl⟩)
    cases g2 : (classF f (cat h l) == 3)
    case true => exact rint_in f m h l _ _ _ _ (hi 0) (lo 0) _ _ _ ex _ false false w hf hm (Lib.hid hn) (Lib.hid rfl) (Lib.hid rfl) (Lib.hid rfl) (Lib.hid rfl) (Lib.hid rfl) (Or.inr (Or.inl ⟨g1, g2, rfl, rfl, rfl⟩))
    rw [g1, g2] at hk
    exact rint_in f m h l _ _ _ _ (hi 0) (lo 0) _ _ _ ex _ false false w hf hm (Lib.hid hn) (Lib.hid rfl) (Lib.hid rfl) (Lib.hid rfl) (Lib.hid rfl) (Lib.hid rfl) (Or.inr (Or.inr (Or.inl ⟨g1, g2, hk, rfl, rfl, rfl⟩)))
  rw [if_neg (show ¬ (false = true) by decide), if_neg (show ¬ (false = true) by decide)]
  obtain ⟨hw, he2⟩ := wh_cat f m (cat h l) hU.ge hf hk
  have he := unE_low f (cat h l) hU.ge
  have hS := cat_small _ (unS_lt f (cat h l) hU.ge)
  have hW := cat4_two _ hw
  unfold keepB at hk
  rw [Bool.or_eq_false_iff, Bool.or_eq_false_iff] at hk
  obtain ⟨⟨g1, g2⟩, g3⟩ := hk
  cases hI : whI (unE f (cat h l)) (unS f (cat h l))
  · rw [Bool.false_and, if_neg (show ¬ (false = true) by decide)]
    exact rint_in f m h l _ _ _ _ (hi (whN (unE f (cat h l)) m (sgnF f (cat h l)) (unS f (cat h l)))) (lo (whN (unE f (cat h l)) m (sgnF f (cat h l)) (unS f (cat h l)))) _ _ _ ex _ false _ w hf hm (Lib.hid hn) (Lib.hid rfl) (Lib.hid rfl) (Lib.hid rfl) (Lib.hid rfl) (Lib.hid rfl) (Or.inr (Or.inr (Or.inr ⟨g1, g2, g3, he, he2, by rw [hS], by rw [hS], by rw [hS]; exact hI, by rw [hW], by rw [hW], rfl, Or.inr (Or.inr ⟨rfl, rfl⟩)⟩)))
  · cases ex
    · rw [Bool.and_false, if_neg (show ¬ (false = true) by decide)]
      exact rint_in f m h l _ _ _ _ (hi (whN (unE f (cat h l)) m (sgnF f (cat h l)) (unS f (cat h l)))) (lo (whN (unE f (cat h l)) m (sgnF f (cat h l)) (unS f (cat h l)))) _ _ _ false _ true _ w hf hm (Lib.hid hn) (Lib.hid rfl) (Lib.hid rfl) (Lib.hid rfl) (Lib.hid rfl) (Lib.hid rfl) (Or.inr (Or.inr (Or.inr ⟨g1, g2, g3, he, he2, by rw [hS], by rw [hS], by rw [hS]; exact hI, by rw [hW], by rw [hW], rfl, Or.inr (Or.inl ⟨rfl, rfl, rfl⟩)⟩)))
    · rw [Bool.and_true, if_pos (show true = true from rfl)]
      exact rint_in f m h l _ _ _ _ (hi (whN (unE f (cat h l)) m (sgnF f (cat h l)) (unS f (cat h l)))) (lo (whN (unE f (cat h l)) m (sgnF f (cat h l)) (unS f (cat h l)))) _ _ _ true _ true _ w hf hm (Lib.hid hn) (Lib.hid rfl) (Lib.hid rfl) (Lib.hid rfl) (Lib.hid rfl) (Lib.hid rfl) (Or.inr (Or.inr (Or.inr ⟨g1, g2, g3, he, he2, by rw [hS], by rw [hS], by rw [hS]; exact hI, by rw [hW], by rw [hW], rfl, Or.inl ⟨rfl, rfl, rfl⟩⟩)))
def wholeB (f : Int) (v : Nat) : Bool := decide (f < 4) && (decide (classF f v < 3) && (rintFl f 4 true v == 0))
set_option maxRecDepth 100000 in
set_option maxHeartbeats 4000000 in
theorem whole_nf (f h l c : Int) [hU : U8 f] [U64 h] [U64 l] (w : World) [hLay : Laid w] (hf : ¬ f < 4) (u2 : Hid (classF f (cat h l) = c))  :
    Calls Tryz.prog 10 #[.int .u8 f, .agg #[.int .u64 (h), .int .u64 (l)]] w fun en w' => en = .returned (.bool false) ∧ Below w.heap.size w w' := by
  have hfd : decide (f < 4) = false := decide_eq_false hf
  clear hf
  go_enter Tryz.func10, Tryz.ntmps10
  skip
  (go_wp2_with fail; refine (fields_Unpack _ _ _ _).mono ?_; rw [u2.out]; rintro en v1 ⟨rfl, hB_v1⟩; have lay_v1 := laid_after hB_v1; have cc1 := cl hB_v1 (show World.cell? _ ⟨w.heap.size, 0, none⟩ = some (.int .u64 h) by go_simp); have cc2 := cl hB_v1 (show World.cell? _ ⟨w.heap.size, 1, none⟩ = some (.int .u64 l) by go_simp); have hs_v1 := hB_v1.size; (try simp only [World.size_alloc, World.size_setCell, World.size_drew] at hs_v1); have hBW : Below w.heap.size w v1 := below_after (w := w) (by go_grown) hB_v1; have hn_v1 := nl cc1; clear hB_v1)
  (go_wp2_with fail; refine (format_Known_b _ _).mono ?_; rintro en v2 ⟨rfl, hB_v2⟩; have lay_v2 := laid_after hB_v2; have hG := cell_grown cc1 (by go_grown) hB_v2; replace cc1 := cl hG cc1; replace cc2 := cl hG cc2; have cc3 := cl hB_v2 (show World.cell? _ ⟨v1.heap.size, 0, none⟩ = some (.bool (sgnF f (cat h l))) by go_simp); have cc4 := cl hB_v2 (show World.cell? _ ⟨v1.heap.size, 1, none⟩ = some (.int .u8 c) by go_simp); have cc5 := cl hB_v2 (show World.cell? _ ⟨v1.heap.size, 2, none⟩ = some (.int .i64 (unE f (cat h l))) by go_simp); have cc6 := cl hB_v2 (show World.cell? _ ⟨v1.heap.size, 3, none⟩ = some (.int .u64 (hi (unS f (cat h l)))) by go_simp); have cc7 := cl hB_v2 (show World.cell? _ ⟨v1.heap.size, 4, none⟩ = some (.int .u64 (lo (unS f (cat h l)))) by go_simp); have hs_v2 := hG.size; clear hG; replace hBW : Below w.heap.size w v2 := below_after (w := w) (by go_grown) hB_v2; have hn_v2 := an (nl cc1) (nl cc3); clear hB_v2)
  go_wp2_with fail
  go_returns
  exact ⟨rfl, by go_grown⟩
set_option maxRecDepth 100000 in
set_option maxHeartbeats 4000000 in
theorem whole_no (f h l c : Int) [hU : U8 f] [U64 h] [U64 l] (w : World) [hLay : Laid w] (hf : f < 4) (u2 : Hid (classF f (cat h l) = c)) (g : decide (c < 3) = false) :
    Calls Tryz.prog 10 #[.int .u8 f, .agg #[.int .u64 (h), .int .u64 (l)]] w fun en w' => en = .returned (.bool false) ∧ Below w.heap.size w w' := by
  have hfd : decide (f < 4) = true := decide_eq_true hf
  clear hf
  go_enter Tryz.func10, Tryz.ntmps10
  skip
  (go_wp2_with fail; refine (fields_Unpack _ _ _ _).mono ?_; rw [u2.out]; rintro en v1 ⟨rfl, hB_v1⟩; have lay_v1 := laid_after hB_v1; have cc1 := cl hB_v1 (show World.cell? _ ⟨w.heap.size, 0, none⟩ = some (.int .u64 h) by go_simp); have cc2 := cl hB_v1 (show World.cell? _ ⟨w.heap.size, 1, none⟩ = some (.int .u64 l) by go_simp); have hs_v1 := hB_v1.size; (try simp only [World.size_alloc, World.size_setCell, World.size_drew] at hs_v1); have hBW : Below w.heap.size w v1 := below_after (w := w) (by go_grown) hB_v1; have hn_v1 := nl cc1; clear hB_v1)
  (go_wp2_with fail; refine (format_Known_b _ _).mono ?_; rintro en v2 ⟨rfl, hB_v2⟩; have lay_v2 := laid_after hB_v2; have hG := cell_grown cc1 (by go_grown) hB_v2; replace cc1 := cl hG cc1; replace cc2 := cl hG cc2; have cc3 := cl hB_v2 (show World.cell? _ ⟨v1.heap.size, 0, none⟩ = some (.bool (sgnF f (cat h l))) by go_simp); have cc4 := cl hB_v2 (show World.cell? _ ⟨v1.heap.size, 1, none⟩ = some (.int .u8 c) by go_simp); have cc5 := cl hB_v2 (show World.cell? _ ⟨v1.heap.size, 2, none⟩ = some (.int .i64 (unE f (cat h l))) by go_simp); have cc6 := cl hB_v2 (show World.cell? _ ⟨v1.heap.size, 3, none⟩ = some (.int .u64 (hi (unS f (cat h l)))) by go_simp); have cc7 := cl hB_v2 (show World.cell? _ ⟨v1.heap.size, 4, none⟩ = some (.int .u64 (lo (unS f (cat h l)))) by go_simp); have hs_v2 := hG.size; clear hG; replace hBW : Below w.heap.size w v2 := below_after (w := w) (by go_grown) hB_v2; have hn_v2 := an (nl cc1) (nl cc3); clear hB_v2)
  go_wp2_with fail
  go_returns
  exact ⟨rfl, by go_grown⟩
set_option maxRecDepth 100000 in
set_option maxHeartbeats 4000000 in
theorem whole_go (f h l c x : Int) [hU : U8 f] [U64 h] [U64 l] (w : World) [hLay : Laid w] (hf : f < 4) (u2 : Hid (classF f (cat h l) = c)) (g : decide (c < 3) = true) (r0 : Hid (rintFl f 4 true (cat h l) = x)) (z : Bool) (hz : (x == 0) = z) :
    Calls Tryz.prog 10 #[.int .u8 f, .agg #[.int .u64 (h), .int .u64 (l)]] w fun en w' => en = .returned (.bool z) ∧ Below w.heap.size w w' := by
  have hfd : decide (f < 4) = true := decide_eq_true hf
  clear hf
  go_enter Tryz.func10, Tryz.ntmps10
  skip
  (go_wp2_with fail; refine (fields_Unpack _ _ _ _).mono ?_; rw [u2.out]; rintro en v1 ⟨rfl, hB_v1⟩; have lay_v1 := laid_after hB_v1; have cc1 := cl hB_v1 (show World.cell? _ ⟨w.heap.size, 0, none⟩ = some (.int .u64 h) by go_simp); have cc2 := cl hB_v1 (show World.cell? _ ⟨w.heap.size, 1, none⟩ = some (.int .u64 l) by go_simp); have hs_v1 := hB_v1.size; (try simp only [World.size_alloc, World.size_setCell, World.size_drew] at hs_v1); have hBW : Below w.heap.size w v1 := below_after (w := w) (by go_grown) hB_v1; have hn_v1 := nl cc1; clear hB_v1)
  (go_wp2_with fail; refine (format_Known_b _ _).mono ?_; rintro en v2 ⟨rfl, hB_v2⟩; have lay_v2 := laid_after hB_v2; have hG := cell_grown cc1 (by go_grown) hB_v2; replace cc1 := cl hG cc1; replace cc2 := cl hG cc2; have cc3 := cl hB_v2 (show World.cell? _ ⟨v1.heap.size, 0, none⟩ = some (.bool (sgnF f (cat h l))) by go_simp); have cc4 := cl hB_v2 (show World.cell? _ ⟨v1.heap.size, 1, none⟩ = some (.int .u8 c) by go_simp); have cc5 := cl hB_v2 (show World.cell? _ ⟨v1.heap.size, 2, none⟩ = some (.int .i64 (unE f (cat h l))) by go_simp); have cc6 := cl hB_v2 (show World.cell? _ ⟨v1.heap.size, 3, none⟩ = some (.int .u64 (hi (unS f (cat h l)))) by go_simp); have cc7 := cl hB_v2 (show World.cell? _ ⟨v1.heap.size, 4, none⟩ = some (.int .u64 (lo (unS f (cat h l)))) by go_simp); have hs_v2 := hG.size; clear hG; replace hBW : Below w.heap.size w v2 := below_after (w := w) (by go_grown) hB_v2; have hn_v2 := an (nl cc1) (nl cc3); clear hB_v2)
  (go_wp2_with fail; refine (rint_Rint _ _ _ _ _ _).mono ?_; rw [r0.out]; rintro en v3 ⟨rfl, hB_v3⟩; have lay_v3 := laid_after hB_v3; have hG := cell_grown cc1 (by go_grown) hB_v3; replace cc1 := cl hG cc1; replace cc2 := cl hG cc2; replace cc3 := cl hG cc3; replace cc4 := cl hG cc4; replace cc5 := cl hG cc5; replace cc6 := cl hG cc6; replace cc7 := cl hG cc7; have hs_v3 := hG.size; clear hG; replace hBW : Below w.heap.size w v3 := below_after (w := w) (by go_grown) hB_v3; have hn_v3 := an (nl cc1) (nl cc3); clear hB_v3)
  go_wp2_with fail
  go_returns
  exact ⟨rfl, by go_grown⟩
theorem rint_Whole (f h l : Int) [hU : U8 f] [U64 h] [U64 l] (w : World) [hLay : Laid w] :
    Calls Tryz.prog 10 #[.int .u8 f, .agg #[.int .u64 (h), .int .u64 (l)]] w fun en w' => en = .returned (.bool (wholeB f (cat h l))) ∧ Below w.heap.size w w' := by
  unfold wholeB
  by_cases hf : f < 4
  · rw [decide_eq_true hf, Bool.true_and]
    by_cases hc : classF f (cat h l) < 3
    · rw [decide_eq_true hc, Bool.true_and]
      exact whole_go f h l _ _ w hf (Lib.hid rfl) (decide_eq_true hc) (Lib.hid rfl) _ rfl
    · rw [decide_eq_false hc, Bool.false_and]
      exact whole_no f h l _ w hf (Lib.hid rfl) (decide_eq_false hc)
  · rw [decide_eq_false hf, Bool.false_and]
    exact whole_nf f h l _ w hf (Lib.hid rfl)
end Go.Proofs.YtkpjeceofcfnkaaGreatDoor
