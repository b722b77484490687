/- The contracts of package count: lengths: for every input. The contracts of package count: WideRaise: for every input. -/
import Derived.Test.YtkpjeceofcfnkaaGreatDoorLen64
import Derived.Test.YtkpjeceofcfnkaaGreatDoorMath
import Derived.Lib.Strings
import Derived.Lib.Slices
import Derived.Lib.Small
import Derived.Lib.Walk
import Derived.Lib.BitFns
import Derived.Test.YtkpjeceofcfnkaaGreatDoorShift
import Derived.Test.YtkpjeceofcfnkaaGreatDoorShift6
import Derived.Test.YtkpjeceofcfnkaaGreatDoorFormat
set_option maxRecDepth 100000
set_option maxHeartbeats 4000000
set_option linter.unusedSimpArgs false
set_option linter.unusedVariables false

namespace Go.Hb
theorem libBitLen (x : Nat) (h : x < 18446744073709551616) : Lib.bitLen x = blen x := by
  have key : ∀ f x : Nat, x < 2 ^ f → Lib.bitLenAux f x = blen x := by
    intro f
    induction f with
    | zero => intro x hx; have : x = 0 := by omega
              subst this; rfl
    | succ f ih =>
      intro x hx
      unfold Lib.bitLenAux
      split
      · rename_i h; subst h; rfl
      · rename_i h
        rw [ih (x / 2) (by rw [Nat.pow_succ] at hx; omega)]
        symm
        apply blen_unique
        · have := blen_lt (x / 2)
          rw [Nat.add_comm, Nat.pow_succ]; omega
        · right
          by_cases h2 : x / 2 = 0
          · rw [h2]; simp [blen]; omega
          · have := blen_le (x / 2) h2
            have hb : 1 ≤ blen (x / 2) := by rw [blen_pos _ h2]; omega
            rw [show 1 + blen (x / 2) - 1 = (blen (x / 2) - 1) + 1 by omega, Nat.pow_succ]; omega
  exact key 64 x h
theorem blen_cat (hi lo k : Nat) (hl : lo < 2 ^ k) (hh : hi ≠ 0) : blen (hi * 2 ^ k + lo) = k + blen hi := by
  apply blen_unique
  · have h1 := blen_lt hi
    rw [Nat.pow_add, Nat.mul_comm (2 ^ k)]
    have : (hi + 1) * 2 ^ k ≤ 2 ^ blen hi * 2 ^ k := Nat.mul_le_mul_right _ h1
    rw [Nat.add_mul] at this; omega
  · right
    have h1 := blen_le hi hh
    have hb : 1 ≤ blen hi := by rw [blen_pos _ hh]; omega
    rw [show k + blen hi - 1 = (blen hi - 1) + k by omega, Nat.pow_add]
    have := Nat.mul_le_mul_right (2 ^ k) h1
    omega
theorem blen_c4_1 (a b : Int) [ha : U64 a] (hb : b.toNat ≠ 0) : blen (cat4 a b 0 0) = 64 + blen b.toNat := by
  have := ha.ge; have := ha.lt
  rw [show cat4 a b 0 0 = b.toNat * 2 ^ 64 + a.toNat by unfold cat4; omega]
  exact blen_cat _ _ 64 (by omega) hb
theorem two128 : (2 : Nat) ^ 128 = 340282366920938463463374607431768211456 := by rfl
theorem two192 : (2 : Nat) ^ 192 = 6277101735386680763835789423207666416102355444464034512896 := by rfl
theorem two256 : (2 : Nat) ^ 256 = 115792089237316195423570985008687907853269984665640564039457584007913129639936 := by rfl
theorem blen_c4_2 (a b c : Int) [ha : U64 a] [hb : U64 b] (hc : c.toNat ≠ 0) : blen (cat4 a b c 0) = 128 + blen c.toNat := by
  have := ha.ge; have := ha.lt; have := hb.ge; have := hb.lt
  have e := blen_cat c.toNat (a.toNat + b.toNat * 18446744073709551616) 128 (by rw [two128]; omega) hc
  rw [two128] at e
  exact (congrArg blen (by unfold cat4; simp [Nat.add_comm])).trans e
theorem blen_c4_3 (a b c d : Int) [ha : U64 a] [hb : U64 b] [hc : U64 c] (hd : d.toNat ≠ 0) : blen (cat4 a b c d) = 192 + blen d.toNat := by
  have := ha.ge; have := ha.lt; have := hb.ge; have := hb.lt; have := hc.ge; have := hc.lt
  have e := blen_cat d.toNat (a.toNat + b.toNat * 18446744073709551616 + c.toNat * 340282366920938463463374607431768211456) 192 (by rw [two192]; omega) hd
  rw [two192] at e
  exact (congrArg blen (by unfold cat4; exact Nat.add_comm _ _)).trans e
end Go.Hb
namespace Go.Proofs.YtkpjeceofcfnkaaGreatDoor
open Go.RowKit Go.Hb
theorem len64n (x : Int) [hx : U64 x] (w : World) :
    Calls Tryz.prog 148 #[.int .u64 x] w fun e w' => e = .returned (.int .i64 (blen x.toNat)) ∧ w = w' :=
  (len64 x w hx.ge (by have := hx.lt; omega)).mono fun e w' ⟨h1, h2⟩ => ⟨by rw [h1, libBitLen _ (by have := hx.ge; have := hx.lt; omega)], h2.symm⟩
theorem blen_le64 (x : Int) [hx : U64 x] : blen x.toNat ≤ 64 := by
  have := hx.ge; have := hx.lt
  by_cases h : x.toNat = 0
  · rw [h]; simp [blen]
  · rw [blen_pos _ h]
    have := (Nat.log2_lt h).2 (show x.toNat < 2 ^ 64 by omega)
    omega
theorem count_length (b c : Nat) (x0 x1 x2 x3 : Int) [U64 x0] [U64 x1] [U64 x2] [U64 x3] (w : World) (h0 : w.cell? ⟨b, 0, none⟩ = some (.int .u64 x0)) (h1 : w.cell? ⟨b, 1, none⟩ = some (.int .u64 x1)) (h2 : w.cell? ⟨b, 2, none⟩ = some (.int .u64 x2)) (h3 : w.cell? ⟨b, 3, none⟩ = some (.int .u64 x3)) :
    Calls Tryz.prog 131 #[.slice (some ⟨b, 0, none⟩) 4 c] w fun e w' => e = .returned (.int .i64 (blen (cat4 x0 x1 x2 x3))) ∧ w = w' := by
  have b0 := blen_le64 x0; have b1 := blen_le64 x1; have b2 := blen_le64 x2; have b3 := blen_le64 x3
  have i0 := U64.ge (x := x0); have i1 := U64.ge (x := x1); have i2 := U64.ge (x := x2); have i3 := U64.ge (x := x3)
  by_cases e3 : x3 = 0
  · subst e3
    by_cases e2 : x2 = 0
    · subst e2
      by_cases e1 : x1 = 0
      · subst e1
        by_cases e0 : x0 = 0
        · subst e0
          go_enter Tryz.func131, Tryz.ntmps131
          go_wp2
          refine wp_loop_rounds 5 ?_
          (repeat rw [rounds_succ]; go_wp2)
          go_returns
          exact ⟨ret_int (by simp [cat4, blen]), rfl⟩
        · go_enter Tryz.func131, Tryz.ntmps131
          go_wp2
          refine wp_loop_rounds 5 ?_
          (repeat rw [rounds_succ]; go_wp2_with (go_at_call 148; refine (len64n _ _).mono ?_; rintro e w' ⟨rfl, rfl⟩))
          go_returns
          exact ⟨ret_int (by simp [cat4]), rfl⟩
      · go_enter Tryz.func131, Tryz.ntmps131
        go_wp2
        refine wp_loop_rounds 5 ?_
        (repeat rw [rounds_succ]; go_wp2_with (go_at_call 148; refine (len64n _ _).mono ?_; rintro e w' ⟨rfl, rfl⟩))
        go_returns
        refine ⟨ret_int ?_, rfl⟩
        rw [blen_c4_1 x0 x1 (by omega)]; simp
    · go_enter Tryz.func131, Tryz.ntmps131
      go_wp2
      refine wp_loop_rounds 5 ?_
      (repeat rw [rounds_succ]; go_wp2_with (go_at_call 148; refine (len64n _ _).mono ?_; rintro e w' ⟨rfl, rfl⟩))
      go_returns
      refine ⟨ret_int ?_, rfl⟩
      rw [blen_c4_2 x0 x1 x2 (by omega)]; simp
  · go_enter Tryz.func131, Tryz.ntmps131
    go_wp2
    refine wp_loop_rounds 5 ?_
    (repeat rw [rounds_succ]; go_wp2_with (go_at_call 148; refine (len64n _ _).mono ?_; rintro e w' ⟨rfl, rfl⟩))
    go_returns
    refine ⟨ret_int ?_, rfl⟩
    rw [blen_c4_3 x0 x1 x2 x3 (by omega)]; simp
theorem count_WideLen (x0 x1 x2 x3 : Int) [U64 x0] [U64 x1] [U64 x2] [U64 x3] (w : World) :
    Calls Tryz.prog 107 #[.agg #[.int .u64 (x0), .int .u64 (x1), .int .u64 (x2), .int .u64 (x3)]] w fun e w' => e = .returned (.int .i64 (blen (cat4 x0 x1 x2 x3))) ∧ Below w.heap.size w w' := by
  go_enter Tryz.func107, Tryz.ntmps107
  go_wp2_with fail
  refine (count_length w.heap.size 4 x0 x1 x2 x3 _ (by go_simp) (by go_simp) (by go_simp) (by go_simp)).mono ?_
  rintro e w' ⟨rfl, rfl⟩
  go_wp2_with fail
  go_returns
  exact ⟨rfl, by go_grown⟩
end Go.Proofs.YtkpjeceofcfnkaaGreatDoor

namespace Go.Hb
/-- How far a number is raised, of 256 bits. -/
def byS (v : Nat) : Int := if v = 0 then 0 else 256 - (blen v : Int)
def raiseS (v : Nat) : Nat := lsh v (byS v)
theorem blen_256 (v : Nat) (h : v < 115792089237316195423570985008687907853269984665640564039457584007913129639936) : blen v ≤ 256 := by
  by_cases h0 : v = 0
  · subst h0; simp [blen]
  · rw [blen_pos _ h0]
    have := (Nat.log2_lt h0).2 (show v < 2 ^ 256 by rw [two256]; exact h)
    omega
theorem ret_wide_int {a b c d a' b' c' d' n m : Int} (h : a = a' ∧ b = b' ∧ c = c' ∧ d = d') (hn : n = m) : Ending.returned (.tuple #[.agg #[.int .u64 (a), .int .u64 (b), .int .u64 (c), .int .u64 (d)], .int .i64 n]) = Ending.returned (.tuple #[.agg #[.int .u64 (a'), .int .u64 (b'), .int .u64 (c'), .int .u64 (d')], .int .i64 m]) := by rw [h.1, h.2.1, h.2.2.1, h.2.2.2, hn]
end Go.Hb
namespace Go.Proofs.YtkpjeceofcfnkaaGreatDoor
open Go.RowKit Go.Hb
theorem count_raised (x0 x1 x2 x3 : Int) [U64 x0] [U64 x1] [U64 x2] [U64 x3] (w : World) :
    Calls Tryz.prog 105 #[.agg #[.int .u64 (x0), .int .u64 (x1), .int .u64 (x2), .int .u64 (x3)], .int .i64 256, .func (.func 107) #[] #[], .func (.func 108) #[] #[]] w fun en w' =>
      en = .returned (.tuple #[.agg #[.int .u64 (lo (raiseS (cat4 x0 x1 x2 x3))), .int .u64 (w1 (raiseS (cat4 x0 x1 x2 x3))), .int .u64 (w2 (raiseS (cat4 x0 x1 x2 x3))), .int .u64 (w3 (raiseS (cat4 x0 x1 x2 x3)))], .int .i64 (byS (cat4 x0 x1 x2 x3))]) ∧ Below w.heap.size w w' := by
  have hb := blen_256 _ (cat4_lt x0 x1 x2 x3)
  have hp := Lib.hid (parts_cat4 x0 x1 x2 x3)
  by_cases h0 : cat4 x0 x1 x2 x3 = 0
  · have hl : blen (cat4 x0 x1 x2 x3) = 0 := by rw [h0]; rfl
    have hr : raiseS (cat4 x0 x1 x2 x3) = cat4 x0 x1 x2 x3 := by rw [h0]; rfl
    have hy : byS (cat4 x0 x1 x2 x3) = 0 := by rw [h0]; rfl
    rw [hr, hy]
    have h0' := Lib.hid h0
    have hl' := Lib.hid hl
    clear hr hy hb h0 hl
    go_enter Tryz.func105, Tryz.ntmps105
    go_wp2_with fail
    refine (count_WideLen x0 x1 x2 x3 _).mono ?_
    rw [hl'.out]
    rintro en w1 ⟨rfl, hB⟩
    (obtain ⟨hc_w1, hf_w1⟩ := bcell hB; have hz_w1 := hB.size; (try simp only [World.size_alloc, World.size_setCell, World.size_drew] at hz_w1 hc_w1 hf_w1); have k0_w1 := fun o => hc_w1 (w.heap.size) o (by omega); have l0_w1 := fun o => hf_w1 (w.heap.size) o (by omega); have k1_w1 := fun o => hc_w1 (w.heap.size + 1) o (by omega); have l1_w1 := fun o => hf_w1 (w.heap.size + 1) o (by omega); have z_w1 : w.heap.size < w1.heap.size ∧ w.heap.size ≤ w1.heap.size ∧ w.heap.size ≤ w1.heap.size + 1 ∧ w.heap.size ≤ w1.heap.size + 1 + 1 ∧ w.heap.size + 1 < w1.heap.size ∧ w.heap.size + 1 ≤ w1.heap.size ∧ w.heap.size + 1 ≤ w1.heap.size + 1 ∧ w.heap.size + 1 ≤ w1.heap.size + 1 + 1 := (by omega); clear hc_w1 hf_w1; have hW_w1 : Below w.heap.size w w1 := below_after (by go_grown) hB)
    go_wp2_with fail
    refine bodyPost_ret (by simp [results, Tryz.results105, go_sem, k1_w1, k0_w1]; try rfl) rfl ?_
    refine ⟨ret_wide_int ?_ rfl, by go_grown⟩
    exact ⟨hp.out.1.symm, hp.out.2.1.symm, hp.out.2.2.1.symm, hp.out.2.2.2.symm⟩
  · have h1 := blen_ne _ h0
    have hy : byS (cat4 x0 x1 x2 x3) = 256 - (blen (cat4 x0 x1 x2 x3) : Int) := by unfold byS; rw [if_neg h0]
    have hy' := Lib.hid hy
    have hne : ((blen (cat4 x0 x1 x2 x3) : Int) == 0) = false := by simp; omega
    clear hy h0
    go_enter Tryz.func105, Tryz.ntmps105
    go_wp2_with fail
    refine (count_WideLen x0 x1 x2 x3 _).mono ?_
    rintro en w1 ⟨rfl, hB⟩
    (obtain ⟨hc_w1, hf_w1⟩ := bcell hB; have hz_w1 := hB.size; (try simp only [World.size_alloc, World.size_setCell, World.size_drew] at hz_w1 hc_w1 hf_w1); have k0_w1 := fun o => hc_w1 (w.heap.size) o (by omega); have l0_w1 := fun o => hf_w1 (w.heap.size) o (by omega); have k1_w1 := fun o => hc_w1 (w.heap.size + 1) o (by omega); have l1_w1 := fun o => hf_w1 (w.heap.size + 1) o (by omega); have z_w1 : w.heap.size < w1.heap.size ∧ w.heap.size ≤ w1.heap.size ∧ w.heap.size ≤ w1.heap.size + 1 ∧ w.heap.size ≤ w1.heap.size + 1 + 1 ∧ w.heap.size + 1 < w1.heap.size ∧ w.heap.size + 1 ≤ w1.heap.size ∧ w.heap.size + 1 ≤ w1.heap.size + 1 ∧ w.heap.size + 1 ≤ w1.heap.size + 1 + 1 := (by omega); clear hc_w1 hf_w1; have hW_w1 : Below w.heap.size w w1 := below_after (by go_grown) hB)
    go_wp2_with fail
    refine (shift_WideLeft x0 x1 x2 x3 _ _).mono ?_
    rw [← hy'.out]
    rintro en w2 ⟨rfl, hB2⟩
    (obtain ⟨hc_w2, hf_w2⟩ := bcell hB2; have hz_w2 := hB2.size; (try simp only [World.size_alloc, World.size_setCell, World.size_drew] at hz_w2 hc_w2 hf_w2); have k0_w2 := fun o => hc_w2 (w.heap.size) o (by omega); have l0_w2 := fun o => hf_w2 (w.heap.size) o (by omega); have k1_w2 := fun o => hc_w2 (w.heap.size + 1) o (by omega); have l1_w2 := fun o => hf_w2 (w.heap.size + 1) o (by omega); have z_w2 : w.heap.size < w2.heap.size ∧ w.heap.size ≤ w2.heap.size ∧ w.heap.size ≤ w2.heap.size + 1 ∧ w.heap.size ≤ w2.heap.size + 1 + 1 ∧ w.heap.size + 1 < w2.heap.size ∧ w.heap.size + 1 ≤ w2.heap.size ∧ w.heap.size + 1 ≤ w2.heap.size + 1 ∧ w.heap.size + 1 ≤ w2.heap.size + 1 + 1 := (by omega); clear hc_w2 hf_w2; have hW_w2 : Below w.heap.size w w2 := below_after (by go_grown) hB2)
    go_wp2_with fail
    refine bodyPost_ret (by simp [results, Tryz.results105, go_sem, k1_w2, k1_w1]; try rfl) rfl ?_
    refine ⟨ret_wide_int ⟨rfl, rfl, rfl, rfl⟩ hy'.out.symm, by go_grown⟩
theorem count_WideRaise (x0 x1 x2 x3 : Int) [U64 x0] [U64 x1] [U64 x2] [U64 x3] (w : World) :
    Calls Tryz.prog 137 #[.agg #[.int .u64 (x0), .int .u64 (x1), .int .u64 (x2), .int .u64 (x3)]] w fun en w' =>
      en = .returned (.tuple #[.agg #[.int .u64 (lo (raiseS (cat4 x0 x1 x2 x3))), .int .u64 (w1 (raiseS (cat4 x0 x1 x2 x3))), .int .u64 (w2 (raiseS (cat4 x0 x1 x2 x3))), .int .u64 (w3 (raiseS (cat4 x0 x1 x2 x3)))], .int .i64 (byS (cat4 x0 x1 x2 x3))]) ∧ Below w.heap.size w w' := by
  go_enter Tryz.func137, Tryz.ntmps137
  go_wp2_with fail
  refine (count_raised x0 x1 x2 x3 _).mono ?_
  rintro en w1 ⟨rfl, hB⟩
  (obtain ⟨hc_w1, hf_w1⟩ := bcell hB; have hz_w1 := hB.size; (try simp only [World.size_alloc, World.size_setCell, World.size_drew] at hz_w1 hc_w1 hf_w1); have k0_w1 := fun o => hc_w1 (w.heap.size) o (by omega); have l0_w1 := fun o => hf_w1 (w.heap.size) o (by omega); have k1_w1 := fun o => hc_w1 (w.heap.size + 1) o (by omega); have l1_w1 := fun o => hf_w1 (w.heap.size + 1) o (by omega); have z_w1 : w.heap.size < w1.heap.size ∧ w.heap.size ≤ w1.heap.size ∧ w.heap.size ≤ w1.heap.size + 1 ∧ w.heap.size ≤ w1.heap.size + 1 + 1 ∧ w.heap.size + 1 < w1.heap.size ∧ w.heap.size + 1 ≤ w1.heap.size ∧ w.heap.size + 1 ≤ w1.heap.size + 1 ∧ w.heap.size + 1 ≤ w1.heap.size + 1 + 1 := (by omega); clear hc_w1 hf_w1; have hW_w1 : Below w.heap.size w w1 := below_after (by go_grown) hB)
  go_wp2_with fail
  refine bodyPost_ret (by simp [results, Tryz.results137, go_sem, k1_w1]; try rfl) rfl ?_
  exact ⟨rfl, by go_grown⟩
end Go.Proofs.YtkpjeceofcfnkaaGreatDoor
