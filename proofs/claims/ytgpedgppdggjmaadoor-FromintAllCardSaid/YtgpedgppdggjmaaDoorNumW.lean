/- The contract of the reference's Wide: 256 bits as a number: for every four words. -/
import Derived.Test.YtgpedgppdggjmaaDoorNum5
import Derived.Deep.RegionLaw
set_option linter.unusedSimpArgs false
set_option linter.unusedVariables false
namespace Go.Proofs.YtgpedgppdggjmaaDoor
open Go.RowKit Go.Hb
def xw (x0 x1 x2 x3 : Int) (j : Nat) : Int := if j = 0 then x0 else if j = 1 then x1 else if j = 2 then x2 else x3
theorem d32_4 (n : Nat) : d32 n 4 = n / 340282366920938463463374607431768211456 % 4294967296 := by unfold d32; rfl
theorem d32_5 (n : Nat) : d32 n 5 = n / 1461501637330902918203684832716283019655932542976 % 4294967296 := by unfold d32; rfl
theorem d32_6 (n : Nat) : d32 n 6 = n / 6277101735386680763835789423207666416102355444464034512896 % 4294967296 := by unfold d32; rfl
theorem d32_7 (n : Nat) : d32 n 7 = n / 26959946667150639794667015087019630673637144422540572481103610249216 % 4294967296 := by unfold d32; rfl
theorem xw_dig (x0 x1 x2 x3 : Int) [h0 : U64 x0] [h1 : U64 x1] [h2 : U64 x2] [h3 : U64 x3] (j : Nat) (hj : j < 4) :
    xw x0 x1 x2 x3 j % 4294967296 = (d32 (cat4 x0 x1 x2 x3) (2 * j) : Nat) ∧ xw x0 x1 x2 x3 j / 4294967296 = (d32 (cat4 x0 x1 x2 x3) (2 * j + 1) : Nat) ∧ 0 ≤ xw x0 x1 x2 x3 j ∧ xw x0 x1 x2 x3 j < 18446744073709551616 := by
  have a0 := h0.ge
  have b0 := h0.lt
  have a1 := h1.ge
  have b1 := h1.lt
  have a2 := h2.ge
  have b2 := h2.lt
  have a3 := h3.ge
  have b3 := h3.lt
  have : j = 0 ∨ j = 1 ∨ j = 2 ∨ j = 3 := by omega
  rcases this with rfl | rfl | rfl | rfl
  · simp only [Nat.mul_zero, Nat.zero_add, d32_0, d32_1]; unfold xw cat4; simp only [if_true]; omega
  · simp only [show 2 * 1 = 2 from rfl, show 2 + 1 = 3 from rfl, d32_2, d32_3]; unfold xw cat4; simp only [Nat.one_ne_zero, if_true, if_false]; omega
  · simp only [show 2 * 2 = 4 from rfl, show 4 + 1 = 5 from rfl, d32_4, d32_5]; unfold xw cat4; simp only [show (2 : Nat) ≠ 0 by decide, show (2 : Nat) ≠ 1 by decide, if_true, if_false]; omega
  · simp only [show 2 * 3 = 6 from rfl, show 6 + 1 = 7 from rfl, d32_6, d32_7]; unfold xw cat4; simp only [show (3 : Nat) ≠ 0 by decide, show (3 : Nat) ≠ 1 by decide, show (3 : Nat) ≠ 2 by decide, if_false]; omega
theorem step_of {c : Bool} {A B : Prop} (hc : c = true) (h : A) : if c = true then A else B := by rw [if_pos hc]; exact h
theorem two_new (w : World) (u v : Value) (e : TypeId) : ∀ j x, [u, v][j]? = some x → (w.alloc (.cells #[u, v] e)).cell? ((⟨w.heap.size, 0, none⟩ : Addr).add j) = some x := by
  intro j x hx
  match j, hx with
  | 0, hx => simp at hx; subst hx; rw [Addr.add_zero']; go_simp
  | 1, hx => simp at hx; subst hx; rw [Addr.add_lit]; go_simp
theorem two_cell (n m : Int) : ∀ x ∈ [Value.int .u32 n, Value.int .u32 m], x.oneCell' = true := by
  intro u hu
  simp at hu
  rcases hu with rfl | rfl <;> rfl
theorem own_two {w : World} {base e L N : Nat} {v : Value} {x y : Int} (h : w.ownsRow base e 1 v (L + 2) (digs L N ++ [.int .u32 x, .int .u32 y])) (hx : x = (d32 N L : Nat)) (hy : y = (d32 N (L + 1) : Nat)) : w.ownsRow base e 1 v (L + 2) (digs (L + 2) N) := by
  rw [digs_succ, digs_succ, ← hx, ← hy, List.append_assoc]; exact h
set_option maxRecDepth 100000 in
set_option maxHeartbeats 4000000 in
theorem wide_walk (N : Nat) (x0 x1 x2 x3 : Int) (w : World) (hN : N < 2 ^ (32 * 8)) (hd : ∀ j, j < 4 → xw x0 x1 x2 x3 j % 4294967296 = (d32 N (2 * j) : Nat) ∧ xw x0 x1 x2 x3 j / 4294967296 = (d32 N (2 * j + 1) : Nat) ∧ 0 ≤ xw x0 x1 x2 x3 j ∧ xw x0 x1 x2 x3 j < 18446744073709551616) :
    Calls Tryd.prog 71 #[.agg #[.int .u64 (x0), .int .u64 (x1), .int .u64 (x2), .int .u64 (x3)]] w fun en w' => GivesN N en w' ∧ Below w.heap.size w w' := by
  obtain ⟨i0, hi, hz0, hz1, hz2⟩ := info_parts info_u32
  go_enter Tryd.func71, Tryd.ntmps71
  go_wp2_with fail
  go_loopw [3, 4] (fun out i wr => ∃ k : Nat, k ≤ 4 ∧ i = .int .i64 k ∧ (∀ j, j < 4 → wr.cell? ⟨w.heap.size, j, none⟩ = some (.int .u64 (xw x0 x1 x2 x3 j))) ∧ wr.ownsRow (w.heap.size + 1) 141 1 out (2 * k) (digs (2 * k) N) ∧ Below w.heap.size w wr ∧ w.heap.size + 1 ≤ wr.heap.size) (fun _ i _ => 4 - (intOf i).toNat)
  case atStart =>
    refine ⟨0, by omega, rfl, fun j hj => ?_, World.ownsRow_nil _ _ _ _, by go_grown, by simp⟩
    have : j = 0 ∨ j = 1 ∨ j = 2 ∨ j = 3 := by omega
    rcases this with rfl | rfl | rfl | rfl <;> (unfold xw; go_simp)
  case round =>
    obtain ⟨k, hk, rfl, hc, hown, hnx, hsz⟩ := hrel
    by_cases hk4 : k < 4
    case pos =>
      have hck := hc k hk4
      obtain ⟨d0, d1, r0, r1⟩ := hd k hk4
      generalize hx : xw x0 x1 x2 x3 k = x at hck d0 d1 r0 r1
      go_upto_region 5 with fail
      go_region_law (refine step_of rfl ?_; refine wp_append_own _ _ _ 43 rfl (w.heap.size + 1) 141 i0 (.int .u32 0) 1 4 Tryd.underlying43 hi hz0 hz1 hz2 rfl (by decide) _ _ _ rfl (hown.drew.alloc _) ⟨wr.heap.size, 0, none⟩ 2 2 [.int .u32 _, .int .u32 _] rfl rfl (two_new _ _ _ _) (two_cell _ _) (by unfold maxLen; omega) (by omega) (by simp; omega) ?_; intro v' w1 hown' hgrow _)
      all_goals (
        have hb1 : Below w.heap.size w w1 := ((hnx.alloc hnx.size _).drew).grown hgrow (by simp; omega) (fun j hj => by have := (hown.lt j hj).1; omega)
        have hc1 : ∀ j, j < 4 → w1.cell? ⟨w.heap.size, j, none⟩ = some (.int .u64 (xw x0 x1 x2 x3 j)) := fun j hj => hgrow.cell (cell_later (w := wr) (by go_grown) (hc j hj)) (fun hh => by have := (hown.lt _ hh.symm).1; simp at this; omega)
        have hz1 : w.heap.size + 1 ≤ w1.heap.size := Nat.le_trans (by simp; omega) hgrow.size
        replace hown' := own_two hown' (by rw [IntKind.wrap_u32]; omega) (by rw [IntKind.wrap_u32]; have := d32_lt N (2 * k + 1); omega)
        clear hown hgrow hc hck
        go_wp2
        go_roundw
        case rel => exact ⟨k + 1, by omega, by go_num, hc1, hown', hb1, hz1⟩
        case measure => simp [intOf]; omega)
    case neg =>
      have ek : k = 4 := by omega
      subst ek
      clear hc hd
      go_wp2_with fail
      refine (num_Trim N 8 _ _ (RL.owns hown) hN (by omega)).mono ?_
      rintro en w2 ⟨⟨u, rfl, hu⟩, rfl⟩
      go_wp2_with fail
      go_returns
      exact ⟨⟨_, rfl, hu⟩, hnx⟩
/-- 256 bits. -/
theorem num_Wide (x0 x1 x2 x3 : Int) [U64 x0] [U64 x1] [U64 x2] [U64 x3] (w : World) :
    Calls Tryd.prog 71 #[.agg #[.int .u64 (x0), .int .u64 (x1), .int .u64 (x2), .int .u64 (x3)]] w fun en w' => GivesN (cat4 x0 x1 x2 x3) en w' ∧ Below w.heap.size w w' :=
  wide_walk (cat4 x0 x1 x2 x3) x0 x1 x2 x3 w (cat4_lt _ _ _ _) (fun j hj => xw_dig x0 x1 x2 x3 j hj)
end Go.Proofs.YtgpedgppdggjmaaDoor
