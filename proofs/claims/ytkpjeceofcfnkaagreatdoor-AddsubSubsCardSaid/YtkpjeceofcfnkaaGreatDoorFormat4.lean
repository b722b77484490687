/- The contracts of package format: Make, Inf: for every input. -/
import Derived.Test.YtkpjeceofcfnkaaGreatDoorFormat3
set_option maxRecDepth 100000
set_option maxHeartbeats 2000000
set_option linter.unusedSimpArgs false
set_option linter.unusedVariables false
namespace Go.Proofs.YtkpjeceofcfnkaaGreatDoor
open Go.RowKit Go.Hb
theorem makeF_neg (f e : Int) (neg : Bool) (x : Nat) (h : e < 0) : makeF f neg e x = makeF f neg 0 x := by
  have h1 : (if e < 0 ∨ 1048576 < e then 0 else e.toNat) = 0 := if_pos (Or.inl h)
  have h2 : (if (0 : Int) < 0 ∨ 1048576 < (0 : Int) then 0 else (0 : Int).toNat) = 0 := by decide
  unfold makeF
  rw [h1, h2]
theorem makeF_big (f e : Int) (neg : Bool) (x : Nat) (h : 1048576 < e) : makeF f neg e x = makeF f neg 0 x := by
  have h1 : (if e < 0 ∨ 1048576 < e then 0 else e.toNat) = 0 := if_pos (Or.inr h)
  have h2 : (if (0 : Int) < 0 ∨ 1048576 < (0 : Int) then 0 else (0 : Int).toNat) = 0 := by decide
  unfold makeF
  rw [h1, h2]
theorem make_any (f e n h l : Int) (neg : Bool) [hU : U8 f] [U64 h] [U64 l] (w : World) [Laid w] (hf : f < 4) (n0 : 0 ≤ n) (n1 : n ≤ 1048576)
    (hq : (decide (e < 0) = false ∧ decide (e > 1048576) = false ∧ e = n) ∨ (decide (e < 0) = true ∧ 0 = n) ∨ (decide (e < 0) = false ∧ decide (e > 1048576) = true ∧ 0 = n)) :
    Calls Tryz.prog 54 #[.int .u8 f, .bool neg, .int .i64 e, .agg #[.int .u64 (h), .int .u64 (l)]] w fun en w' => en = .returned (.agg #[.int .u64 (hi (makeF f neg n (cat h l))), .int .u64 (lo (makeF f neg n (cat h l)))]) ∧ Below w.heap.size w w' := by
  haveI : U64 n := ⟨n0, by omega⟩
  have hwe : IntKind.u64.wrap n = n := IntWalk.u64_in _ (by omega)
  have hx := cat_hl (lowN (cat 0 n) (widthS f - precS f)) (Nat.lt_of_le_of_lt (lowN_le _ _) (cat_lt 0 n))
  have hz := mk_z f n hU.ge hf
  have hfr := cat_hl (lowN (cat h l) (precS f - 1)) (Nat.lt_of_le_of_lt (lowN_le _ _) (cat_lt h l))
  have hsum := mk_sum f n (cat h l) hU.ge hf
  have hone := mk_one f hU.ge hf
  cases neg
  · rw [makeF_f f n _ hf n0 n1]
    exact mk_f f e n h l _ _ _ _ _ _ _ _ w hf hwe hq (Lib.hid rfl) (Lib.hid rfl) (Lib.hid (by rw [hx])) (Lib.hid (by rw [hx])) (Lib.hid rfl) (Lib.hid rfl) (Lib.hid (by rw [hz, hfr])) (Lib.hid (by rw [hz, hfr]))
  · rw [makeF_t f n _ hf n0 n1]
    exact mk_t f e n h l _ _ _ _ _ _ _ _ _ _ _ _ w hf hwe hq (Lib.hid rfl) (Lib.hid rfl) (Lib.hid (by rw [hx])) (Lib.hid (by rw [hx])) (Lib.hid rfl) (Lib.hid rfl) (Lib.hid (by rw [hz, hfr])) (Lib.hid (by rw [hz, hfr])) (Lib.hid rfl) (Lib.hid rfl) (Lib.hid (by rw [hsum, hone])) (Lib.hid (by rw [hsum, hone]))
theorem format_Make (f e h l : Int) (neg : Bool) [hU : U8 f] [U64 h] [U64 l] (w : World) [Laid w] :
    Calls Tryz.prog 54 #[.int .u8 f, .bool neg, .int .i64 e, .agg #[.int .u64 (h), .int .u64 (l)]] w fun en w' => en = .returned (.agg #[.int .u64 (hi (makeF f neg e (cat h l))), .int .u64 (lo (makeF f neg e (cat h l)))]) ∧ Below w.heap.size w w' := by
  by_cases hf : f < 4
  · by_cases he : 0 ≤ e ∧ e ≤ 1048576
    · exact make_any f e e h l neg w hf he.1 he.2 (Or.inl ⟨decide_eq_false (by omega), decide_eq_false (by omega), rfl⟩)
    · by_cases hn : e < 0
      · rw [makeF_neg f e neg (cat h l) hn]
        exact make_any f e 0 h l neg w hf (by omega) (by omega) (Or.inr (Or.inl ⟨decide_eq_true hn, rfl⟩))
      · rw [makeF_big f e neg (cat h l) (by omega)]
        exact make_any f e 0 h l neg w hf (by omega) (by omega) (Or.inr (Or.inr ⟨decide_eq_false hn, decide_eq_true (by omega), rfl⟩))
  · obtain ⟨e1, e2, e3⟩ := fmt_none f (by omega)
    have hs : makeF f neg e (cat h l) = 0 := by simp [makeF]; omega
    rw [hs]
    clear hs hf
    go_enter Tryz.func54, Tryz.ntmps54
    (go_wp2_with fail; refine (format_of _ _).mono ?_; rintro en w1 ⟨rfl, hB_w1⟩; have lay_w1 := laid_after hB_w1; (obtain ⟨hc_w1, hf_w1⟩ := bcell hB_w1; have hz_w1 := hB_w1.size; (try simp only [World.size_alloc, World.size_setCell, World.size_drew] at hz_w1 hc_w1 hf_w1); have k0_w1 := fun o => hc_w1 (w.heap.size) o (by omega); have l0_w1 := fun o => hf_w1 (w.heap.size) o (by omega); have k1_w1 := fun o => hc_w1 (w.heap.size + 1) o (by omega); have l1_w1 := fun o => hf_w1 (w.heap.size + 1) o (by omega); have z_w1 : w.heap.size < w1.heap.size ∧ w.heap.size ≤ w1.heap.size ∧ w.heap.size ≤ w1.heap.size + 1 ∧ w.heap.size ≤ w1.heap.size + 1 + 1 ∧ w.heap.size + 1 < w1.heap.size ∧ w.heap.size + 1 ≤ w1.heap.size ∧ w.heap.size + 1 ≤ w1.heap.size + 1 ∧ w.heap.size + 1 ≤ w1.heap.size + 1 + 1 := (by omega); clear hc_w1 hf_w1; have n_w1 : w.heap.size ≠ w1.heap.size ∧ w1.heap.size ≠ w.heap.size ∧ w.heap.size ≠ w1.heap.size + 1 ∧ w1.heap.size + 1 ≠ w.heap.size ∧ w.heap.size + 1 ≠ w1.heap.size ∧ w1.heap.size ≠ w.heap.size + 1 ∧ w.heap.size + 1 ≠ w1.heap.size + 1 ∧ w1.heap.size + 1 ≠ w.heap.size + 1 := (by omega); have hW_w1 : Below w.heap.size w w1 := below_after (by go_grown) hB_w1))
    go_wp2_with fail
    refine bodyPost_ret (by simp [results, Tryz.results54, go_sem, k1_w1, z_w1, e1]; try rfl) rfl ?_
    exact ⟨rfl, by go_grown⟩
theorem format_Inf (f : Int) (neg : Bool) [hU : U8 f] (w : World) [Laid w] :
    Calls Tryz.prog 40 #[.int .u8 f, .bool neg] w fun en w' => en = .returned (.agg #[.int .u64 (hi (makeF f neg (2 * emaxS f + 1) 0)), .int .u64 (lo (makeF f neg (2 * emaxS f + 1) 0))]) ∧ Below w.heap.size w w' := by
  obtain ⟨em0, em1⟩ := emaxS_bd f
  have c0 : cat 0 0 = 0 := rfl
  have hw1 : IntKind.i64.wrap (2 * emaxS f) = 2 * emaxS f := IntWalk.i64_in _ (by omega)
  have hw2 : IntKind.i64.wrap (2 * emaxS f + 1) = 2 * emaxS f + 1 := IntWalk.i64_in _ (by omega)
  go_enter Tryz.func40, Tryz.ntmps40
  (go_wp2_with fail; refine (format_Emax _ _).mono ?_; rintro en w1 ⟨rfl, hB_w1⟩; have lay_w1 := laid_after hB_w1; (obtain ⟨hc_w1, hf_w1⟩ := bcell hB_w1; have hz_w1 := hB_w1.size; (try simp only [World.size_alloc, World.size_setCell, World.size_drew] at hz_w1 hc_w1 hf_w1); have k0_w1 := fun o => hc_w1 (w.heap.size) o (by omega); have l0_w1 := fun o => hf_w1 (w.heap.size) o (by omega); have z_w1 : w.heap.size < w1.heap.size ∧ w.heap.size ≤ w1.heap.size ∧ w.heap.size ≤ w1.heap.size + 1 ∧ w.heap.size ≤ w1.heap.size + 1 + 1 := (by omega); clear hc_w1 hf_w1; have n_w1 : w.heap.size ≠ w1.heap.size ∧ w1.heap.size ≠ w.heap.size ∧ w.heap.size ≠ w1.heap.size + 1 ∧ w1.heap.size + 1 ≠ w.heap.size := (by omega); have hW_w1 : Below w.heap.size w w1 := below_after (by go_grown) hB_w1))
  (go_wp2_with fail; refine (format_Make _ _ _ _ _ _).mono ?_; rintro en w2 ⟨rfl, hB_w2⟩; (obtain ⟨hc_w2, hf_w2⟩ := bcell hB_w2; have hz_w2 := hB_w2.size; (try simp only [World.size_alloc, World.size_setCell, World.size_drew] at hz_w2 hc_w2 hf_w2); have k0_w2 := fun o => hc_w2 (w.heap.size) o (by omega); have l0_w2 := fun o => hf_w2 (w.heap.size) o (by omega); have z_w2 : w.heap.size < w2.heap.size ∧ w.heap.size ≤ w2.heap.size ∧ w.heap.size ≤ w2.heap.size + 1 ∧ w.heap.size ≤ w2.heap.size + 1 + 1 := (by omega); clear hc_w2 hf_w2; have hW_w2 : Below w.heap.size w w2 := below_after (by go_grown) hB_w2))
  go_wp2_with fail
  refine bodyPost_ret (by simp [results, Tryz.results40, go_sem, k0_w2, k0_w1, z_w2, z_w1, n_w1, c0]; try rfl) rfl ?_
  exact ⟨rfl, by go_grown⟩
end Go.Proofs.YtkpjeceofcfnkaaGreatDoor
