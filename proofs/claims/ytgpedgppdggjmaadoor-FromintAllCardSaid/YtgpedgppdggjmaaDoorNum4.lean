/- The contracts of the reference's shifts: for every number that is not too long. (Printed by nums.py.) -/
import Derived.Test.YtgpedgppdggjmaaDoorNum2
set_option linter.unusedSimpArgs false
set_option linter.unusedVariables false
namespace Go.Proofs.YtgpedgppdggjmaaDoor
open Go.RowKit Go.Hb
set_option maxRecDepth 100000 in
set_option maxHeartbeats 1000000 in
theorem num_Shl_L (a A n : Nat) (va : Value) (w : World) (ha : RL w va A a) (xa : a < 2 ^ (32 * A)) (la : A ≤ 100000) (hn : n ≤ 1000000) : Calls Tryd.prog 108 #[va, .int .i64 n] w fun en w' => GivesN (a * 2 ^ n) en w' ∧ Below w.heap.size w w' := by
  obtain ⟨i0, hi, hz0, hz1, hz2⟩ := info_parts info_u32
  obtain ⟨qa, ca, rfl, hca, ha⟩ := ha
  have hq : (n : Int).tdiv 32 = (n / 32 : Nat) := by rw [Int.tdiv_eq_ediv_of_nonneg (by omega)]; omega
  have hm : (n : Int).tmod 32 = (n % 32 : Nat) := by rw [Int.tmod_eq_emod_of_nonneg (by omega)]; omega
  go_enter Tryd.func108, Tryd.ntmps108
  go_wp2_with (at_make; go_loud (refine wpList_make_full _ rfl _ _ 43 rfl w.heap.size 141 i0 (.int .u32 0) 1 Tryd.underlying43 hi hz0 hz1 _ _ _ _ (n / 32) rfl rfl (by omega) (by omega) (by rw [hz2]; omega) (by unfold maxLen; omega) (Nat.le_refl _) ?_))
  intro w0 hown0 hgrow0
  replace hown0 := own_zeros (N := a * 2 ^ n) hown0 (toList_madeCells_one _ _) (fun i hi => shl_low a n i hi)
  go_wp2_with fail
  go_loopw [5, 6, 7] (fun out c i wr => ∃ k : Nat, k ≤ A ∧ i = .int .i64 k ∧ c = .int .u64 (carL a (n % 32) k : Nat) ∧ wr.ownsRow w.heap.size 141 1 out (n / 32 + k) (digs (n / 32 + k) (a * 2 ^ n)) ∧ Below w.heap.size w wr) (fun _ _ i _ => A - (intOf i).toNat)
  case atStart => exact ⟨0, by omega, rfl, by rw [carL_zero]; rfl, hown0, (Below.refl _ _).grown hgrow0 (Nat.le_refl _) (fun k h => by cases h)⟩
  case round =>
    obtain ⟨k, hk, rfl, rfl, hown, hnx⟩ := hrel
    have cl1 := carL_lt a (n % 32) k
    have cs := carL_step a (n % 32) k
    have cd := shl_dig a n k
    have hr : n % 32 < 32 := Nat.mod_lt _ (by decide)
    have hp1 : 2 ^ (n % 32) ≤ 2147483648 := Nat.pow_le_pow_right (by decide) (show n % 32 ≤ 31 by omega)
    have da := d32_lt a k
    by_cases hkm : k < A
    case pos =>
      rcases ha with h | ⟨b, off, rfl, ha⟩
      · omega
      have hc := cell_later hnx (ha k hkm)
      have hcl : carL a (n % 32) k < 4294967296 := by omega
      have hmul : d32 a k * 2 ^ (n % 32) ≤ 4294967295 * 2147483648 := Nat.mul_le_mul (by omega) hp1
      have hor := or_shift (carL a (n % 32) k) (d32 a k) (n % 32) cl1 (by omega) (by omega)
      go_wp2_with (at_builtin; refine wpList_append_own _ rfl _ _ 43 rfl w.heap.size 141 i0 (.int .u32 0) 1 4 Tryd.underlying43 hi hz0 hz1 hz2 rfl (by decide) _ _ _ rfl (hown.alloc _) ⟨wr.heap.size, 0, none⟩ 1 1 [.int .u32 _] rfl rfl (one_new _ _ _) (one_cell _) (by unfold maxLen; omega) (by omega) (by have := hnx.size; simp; omega) ?_)
      intro v' w1 hown' hgrow _
      have hb1 : Below w.heap.size w w1 := (hnx.alloc hnx.size _).grown hgrow (by simp; have := hnx.size; omega) (fun j hj => (hown.lt j hj).1)
      replace hown' := own_digit hown' (by have := cast_mul (d32 a k) (n % 32); omega)
      clear hown hgrow
      go_wp2
      go_roundw
      case rel => exact ⟨k + 1, by omega, by go_num, by congr 1; have := cast_mul (d32 a k) (n % 32); omega, hown', hb1⟩
      case measure => simp [intOf]; omega
    case neg =>
      have ek : k = A := by omega
      obtain ⟨ce, cf⟩ := shl_end a n k (ek ▸ xa)
      have hk9 : k ≤ 100000 := by omega
      clear cs cd ek
      go_wp2_with (at_builtin; refine wpList_append_own _ rfl _ _ 43 rfl w.heap.size 141 i0 (.int .u32 0) 1 4 Tryd.underlying43 hi hz0 hz1 hz2 rfl (by decide) _ _ _ rfl (hown.alloc _) ⟨wr.heap.size, 0, none⟩ 1 1 [.int .u32 _] rfl rfl (one_new _ _ _) (one_cell _) (by unfold maxLen; omega) (by omega) (by have := hnx.size; simp; omega) ?_)
      intro v' w1 hown' hgrow _
      have hb1 : Below w.heap.size w w1 := (hnx.alloc hnx.size _).grown hgrow (by simp; have := hnx.size; omega) (fun j hj => (hown.lt j hj).1)
      replace hown' := own_digit hown' (by omega)
      clear hown hgrow
      go_wp2_with fail
      refine (num_Trim (a * 2 ^ n) (n / 32 + k + 1) _ _ (RL.owns hown') cf (by omega)).mono ?_
      rintro en w2 ⟨⟨u, rfl, hu⟩, rfl⟩
      go_wp2_with fail
      go_returns
      exact ⟨⟨_, rfl, hu⟩, hb1⟩
/-- A number, times 2^n. -/
theorem num_Shl (a n : Nat) (va : Value) (w : World) (ha : RN w va a) (la : dl a ≤ 100000) (hn : n ≤ 1000000) : Calls Tryd.prog 108 #[va, .int .i64 n] w fun en w' => GivesN (a * 2 ^ n) en w' ∧ Below w.heap.size w w' :=
  num_Shl_L a _ n va w ha (dl_lt a) la hn
set_option maxRecDepth 100000 in
set_option maxHeartbeats 1000000 in
theorem num_Shr_L (a A n : Nat) (va : Value) (w : World) (ha : RL w va A a) (xa : a < 2 ^ (32 * A)) (la : A ≤ 100000) (hn : n ≤ 1000000) (hl : a / 2 ^ n < 2 ^ (32 * (A - n / 32))) : Calls Tryd.prog 70 #[va, .int .i64 n] w fun en w' => GivesN (a / 2 ^ n) en w' ∧ Below w.heap.size w w' := by
  obtain ⟨i0, hi, hz0, hz1, hz2⟩ := info_parts info_u32
  have ha' := ha
  obtain ⟨qa, ca, rfl, hca, ha⟩ := ha
  have hq : (n : Int).tdiv 32 = (n / 32 : Nat) := by rw [Int.tdiv_eq_ediv_of_nonneg (by omega)]; omega
  have hm : (n : Int).tmod 32 = (n % 32 : Nat) := by rw [Int.tmod_eq_emod_of_nonneg (by omega)]; omega
  go_enter Tryd.func70, Tryd.ntmps70
  go_wp2_with fail
  go_loopw [5, 6] (fun out i wr => ∃ k : Nat, (k = 0 ∨ n / 32 + k ≤ A) ∧ i = .int .i64 (n / 32 + k : Nat) ∧ wr.ownsRow w.heap.size 141 1 out k (digs k (a / 2 ^ n)) ∧ Below w.heap.size w wr) (fun _ i _ => A - (intOf i).toNat)
  case atStart => exact ⟨0, Or.inl rfl, by go_num, World.ownsRow_nil _ _ _ _, Below.refl _ _⟩
  case round =>
    obtain ⟨k, hk, rfl, hown, hnx⟩ := hrel
    have cd := shr_dig a n k
    by_cases hkm : n / 32 + k < A
    case pos =>
      rcases ha with h | ⟨b, off, rfl, ha⟩
      · omega
      have hc := cell_later hnx (ha (n / 32 + k) hkm)
      have ha2 := ha'.later hnx
      have d1 := d32_lt a (n / 32 + k)
      have d2 := d32_lt a (n / 32 + k + 1)
      generalize hz : n / 32 + k = z at *
      have hzw : IntKind.i64.wrap ((z : Int) + 1) = (z : Int) + 1 := IntWalk.i64_in _ (by omega)
      clear ha ha'
      go_upto_region 5 with fail
      go_region_held3 (fun w' => w'.cell? ⟨b, off + z, none⟩ = some (.int .u32 (d32 a z : Nat))) (first | assumption | go_simp) ((go_at_call 119; refine (num_digit_at a A (z + 1) _ _ _ (ha2.later (by go_grown)) xa (by omega) (by omega)).mono ?_; rintro en x ⟨rfl, rfl⟩))
      go_wp2_with (at_builtin; refine wpList_append_own _ rfl _ _ 43 rfl w.heap.size 141 i0 (.int .u32 0) 1 4 Tryd.underlying43 hi hz0 hz1 hz2 rfl (by decide) _ _ _ rfl (hown.drew.alloc _) ⟨wr.heap.size, 0, none⟩ 1 1 [.int .u32 _] rfl rfl (one_new _ _ _) (one_cell _) (by unfold maxLen; omega) (by omega) (by have := hnx.size; simp; omega) ?_)
      intro v' w1 hown' hgrow _
      have hb1 : Below w.heap.size w w1 := ((hnx.alloc hnx.size _).drew).grown hgrow (by simp; have := hnx.size; omega) (fun j hj => (hown.lt j hj).1)
      rw [shr_form _ _ _ d1 d2, ← cd] at hown'
      rw [← digs_succ] at hown'
      clear hown hgrow
      go_wp2
      go_roundw
      case rel => exact ⟨k + 1, Or.inr (by omega), by congr 1; omega, hown', hb1⟩
      case measure => simp [intOf]; omega
    case neg =>
      have cf : a / 2 ^ n < 2 ^ (32 * k) := Nat.lt_of_lt_of_le hl (Nat.pow_le_pow_right (by decide) (by omega))
      have hown' := hown
      have hk9 : k ≤ 100000 := by omega
      clear hown cd
      go_wp2_with fail
      refine (num_Trim (a / 2 ^ n) (k) _ _ (RL.owns hown') cf (by omega)).mono ?_
      rintro en w2 ⟨⟨u, rfl, hu⟩, rfl⟩
      go_wp2_with fail
      go_returns
      exact ⟨⟨_, rfl, hu⟩, hnx⟩
/-- A number by 2^n, its floor. -/
theorem num_Shr (a n : Nat) (va : Value) (w : World) (ha : RN w va a) (la : dl a ≤ 100000) (hn : n ≤ 1000000) : Calls Tryd.prog 70 #[va, .int .i64 n] w fun en w' => GivesN (a / 2 ^ n) en w' ∧ Below w.heap.size w w' :=
  num_Shr_L a _ n va w ha (dl_lt a) la hn (shr_len a n)
end Go.Proofs.YtgpedgppdggjmaaDoor
