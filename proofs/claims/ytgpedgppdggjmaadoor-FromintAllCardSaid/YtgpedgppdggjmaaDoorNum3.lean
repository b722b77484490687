/- The contracts of the reference's sum and difference: for every two numbers that are not too long. (Printed by nums.py.) -/
import Derived.Test.YtgpedgppdggjmaaDoorNum2
set_option linter.unusedSimpArgs false
set_option linter.unusedVariables false
namespace Go.Proofs.YtgpedgppdggjmaaDoor
open Go.RowKit Go.Hb
set_option maxRecDepth 100000 in
set_option maxHeartbeats 1000000 in
theorem num_Add_L (a b A B : Nat) (va vb : Value) (w : World) (ha : RL w va A a) (hb : RL w vb B b) (xa : a < 2 ^ (32 * A)) (xb : b < 2 ^ (32 * B)) (la : A ≤ 100000) (lb : B ≤ 100000) : Calls Tryd.prog 107 #[va, vb] w fun en w' => GivesN (a + b) en w' ∧ Below w.heap.size w w' := by
  obtain ⟨i0, hi, hz0, hz1, hz2⟩ := info_parts info_u32
  have ha' := ha
  have hb' := hb
  obtain ⟨qa, ca, rfl, _, _⟩ := ha
  obtain ⟨qb, cb, rfl, _, _⟩ := hb
  go_enter Tryd.func107, Tryd.ntmps107
  go_wp2_with fail
  go_loopw [5, 6, 7] (fun out c i wr => ∃ k : Nat, k ≤ max A B ∧ i = .int .i64 k ∧ c = .int .u64 (carA a b k : Nat) ∧ wr.ownsRow w.heap.size 141 1 out k (digs k (a + b)) ∧ Below w.heap.size w wr) (fun _ _ i _ => max A B - (intOf i).toNat)
  case atStart => exact ⟨0, by omega, rfl, by rw [carA_zero]; rfl, World.ownsRow_nil _ _ _ _, Below.refl _ _⟩
  case round =>
    obtain ⟨k, hk, rfl, rfl, hown, hnx⟩ := hrel
    have cl1 := carA_le a b k
    have cd := carA_dig a b k
    have cs := carA_step a b k
    have da := d32_lt a k
    have db := d32_lt b k
    have e32 : Value.int .u32 (((carA a b k : Nat) + (d32 a k : Nat) + (d32 b k : Nat)) % 4294967296) = .int .u32 (d32 (a + b) k : Nat) := by rw [cd]; congr 1
    by_cases hkm : k < max A B
    case pos =>
      by_cases hka : k < A
      all_goals (
      go_wp2_with fail
      refine (num_digit a A k (.slice qa A ca) wr (ha'.later hnx) xa (by omega)).mono ?_
      rintro en w1 ⟨rfl, rfl⟩
      go_wp2_with fail
      refine (num_digit b B k (.slice qb B cb) wr (hb'.later hnx) xb (by omega)).mono ?_
      rintro en w1 ⟨rfl, rfl⟩
      go_wp2_with (at_builtin; refine wpList_append_own _ rfl _ _ 43 rfl w.heap.size 141 i0 (.int .u32 0) 1 4 Tryd.underlying43 hi hz0 hz1 hz2 rfl (by decide) _ _ _ rfl (hown.alloc _) ⟨wr.heap.size, 0, none⟩ 1 1 [.int .u32 _] rfl rfl (one_new _ _ _) (one_cell _) (by unfold maxLen; omega) (by omega) (by have := hnx.size; simp; omega) ?_)
      intro v' w1 hown' hgrow _
      have hb1 : Below w.heap.size w w1 := (hnx.alloc hnx.size _).grown hgrow (by simp; have := hnx.size; omega) (fun j hj => (hown.lt j hj).1)
      replace hown' := own_digit hown' (by omega)
      clear hown hgrow
      go_wp2
      go_roundw
      case rel => exact ⟨k + 1, by omega, by go_num, by rw [cs]; go_num, hown', hb1⟩
      case measure => simp [intOf]; omega)
    case neg =>
      have ek : k = max A B := by omega
      have hA2 : a < 2 ^ (32 * k) := Nat.lt_of_lt_of_le xa (Nat.pow_le_pow_right (by decide) (by omega))
      have hB2 : b < 2 ^ (32 * k) := Nat.lt_of_lt_of_le xb (Nat.pow_le_pow_right (by decide) (by omega))
      obtain ⟨ce, cf⟩ := carA_end a b k hA2 hB2
      have e33 : ((carA a b k : Nat) : Int) % 4294967296 = (d32 (a + b) k : Nat) := by omega
      have hkA : ¬ k < A := by omega
      have hkB : ¬ k < B := by omega
      have hk9 : k ≤ 100000 := by omega
      clear e32 e33 cs cd da db hA2 hB2 ek
      go_wp2_with (at_builtin; refine wpList_append_own _ rfl _ _ 43 rfl w.heap.size 141 i0 (.int .u32 0) 1 4 Tryd.underlying43 hi hz0 hz1 hz2 rfl (by decide) _ _ _ rfl (hown.alloc _) ⟨wr.heap.size, 0, none⟩ 1 1 [.int .u32 _] rfl rfl (one_new _ _ _) (one_cell _) (by unfold maxLen; omega) (by omega) (by have := hnx.size; simp; omega) ?_)
      intro v' w1 hown' hgrow _
      have hb1 : Below w.heap.size w w1 := (hnx.alloc hnx.size _).grown hgrow (by simp; have := hnx.size; omega) (fun j hj => (hown.lt j hj).1)
      replace hown' := own_digit hown' (by omega)
      clear hown hgrow
      go_wp2_with fail
      refine (num_Trim (a + b) (k + 1) _ _ (RL.owns hown') cf (by omega)).mono ?_
      rintro en w2 ⟨⟨u, rfl, hu⟩, rfl⟩
      go_wp2_with fail
      go_returns
      exact ⟨⟨_, rfl, hu⟩, hb1⟩
/-- A sum. -/
theorem num_Add (a b : Nat) (va vb : Value) (w : World) (ha : RN w va a) (hb : RN w vb b) (la : dl a ≤ 100000) (lb : dl b ≤ 100000) : Calls Tryd.prog 107 #[va, vb] w fun en w' => GivesN (a + b) en w' ∧ Below w.heap.size w w' :=
  num_Add_L a b _ _ va vb w ha hb (dl_lt a) (dl_lt b) la lb
set_option maxRecDepth 100000 in
set_option maxHeartbeats 1000000 in
theorem num_Sub_L (a b A B : Nat) (va vb : Value) (w : World) (ha : RL w va A a) (hb : RL w vb B b) (xa : a < 2 ^ (32 * A)) (xb : b < 2 ^ (32 * B)) (la : A ≤ 100000) (hba : b ≤ a) : Calls Tryd.prog 75 #[va, vb] w fun en w' => GivesN (a - b) en w' ∧ Below w.heap.size w w' := by
  obtain ⟨i0, hi, hz0, hz1, hz2⟩ := info_parts info_u32
  have ha' := ha
  have hb' := hb
  obtain ⟨qa, ca, rfl, _, _⟩ := ha
  obtain ⟨qb, cb, rfl, _, _⟩ := hb
  go_enter Tryd.func75, Tryd.ntmps75
  go_wp2_with fail
  go_loopw [5, 6, 7] (fun out c i wr => ∃ k : Nat, k ≤ A ∧ i = .int .i64 k ∧ c = .int .u64 (borS a b k : Nat) ∧ wr.ownsRow w.heap.size 141 1 out k (digs k (a - b)) ∧ Below w.heap.size w wr) (fun _ _ i _ => A - (intOf i).toNat)
  case atStart => exact ⟨0, by omega, rfl, by rw [borS_zero]; rfl, World.ownsRow_nil _ _ _ _, Below.refl _ _⟩
  case round =>
    obtain ⟨k, hk, rfl, rfl, hown, hnx⟩ := hrel
    have cl1 := borS_le a b k
    have cd := borS_dig a b k hba
    have cs := borS_step a b k
    have da := d32_lt a k
    have db := d32_lt b k
    by_cases hkm : k < A
    case pos =>
      go_wp2_with fail
      refine (num_digit a A k (.slice qa A ca) wr (ha'.later hnx) xa (by omega)).mono ?_
      rintro en w1 ⟨rfl, rfl⟩
      go_wp2_with fail
      refine (num_digit b B k (.slice qb B cb) wr (hb'.later hnx) xb (by omega)).mono ?_
      rintro en w1 ⟨rfl, rfl⟩
      go_wp2_with (at_builtin; refine wpList_append_own _ rfl _ _ 43 rfl w.heap.size 141 i0 (.int .u32 0) 1 4 Tryd.underlying43 hi hz0 hz1 hz2 rfl (by decide) _ _ _ rfl (hown.alloc _) ⟨wr.heap.size, 0, none⟩ 1 1 [.int .u32 _] rfl rfl (one_new _ _ _) (one_cell _) (by unfold maxLen; omega) (by omega) (by have := hnx.size; simp; omega) ?_)
      intro v' w1 hown' hgrow _
      have hb1 : Below w.heap.size w w1 := (hnx.alloc hnx.size _).grown hgrow (by simp; have := hnx.size; omega) (fun j hj => (hown.lt j hj).1)
      replace hown' := own_digit hown' (by omega)
      clear hown hgrow
      go_wp2
      go_roundw
      case rel => exact ⟨k + 1, by omega, by go_num, by congr 1; omega, hown', hb1⟩
      case measure => simp [intOf]; omega
    case neg =>
      have ek : k = A := by omega
      have cf : a - b < 2 ^ (32 * k) := Nat.lt_of_le_of_lt (Nat.sub_le _ _) (ek ▸ xa)
      have hown' := hown
      clear hown cs cd da db
      go_wp2_with fail
      refine (num_Trim (a - b) (k) _ _ (RL.owns hown') cf (by omega)).mono ?_
      rintro en w2 ⟨⟨u, rfl, hu⟩, rfl⟩
      go_wp2_with fail
      go_returns
      exact ⟨⟨_, rfl, hu⟩, hnx⟩
/-- A difference. -/
theorem num_Sub (a b : Nat) (va vb : Value) (w : World) (ha : RN w va a) (hb : RN w vb b) (la : dl a ≤ 100000) (hba : b ≤ a) : Calls Tryd.prog 75 #[va, vb] w fun en w' => GivesN (a - b) en w' ∧ Below w.heap.size w w' :=
  num_Sub_L a b _ _ va vb w ha hb (dl_lt a) (dl_lt b) la hba
end Go.Proofs.YtgpedgppdggjmaaDoor
