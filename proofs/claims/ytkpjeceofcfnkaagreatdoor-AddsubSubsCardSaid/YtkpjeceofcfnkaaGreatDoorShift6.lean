/- The contracts of package shift: Right, WideLeft, WideRight, Lost, Jam, WideJam: for every input. The contracts of package shift: Lost, Jam, WideJam: for every input. Rests and jams of natural numbers. -/
import Derived.Test.YtkpjeceofcfnkaaGreatDoorShift
import Derived.Test.YtkpjeceofcfnkaaGreatDoorShift5
import Derived.Test.YtkpjeceofcfnkaaGreatDoorWide
set_option maxRecDepth 100000
set_option maxHeartbeats 2000000
set_option linter.unusedSimpArgs false
set_option linter.unusedVariables false
namespace Go.Hb
/-- Up, down; by 0, if n is negative. -/
def lsh (v : Nat) (n : Int) : Nat := v * 2 ^ n.toNat
def rsh (v : Nat) (n : Int) : Nat := v / 2 ^ n.toNat
theorem shI_lsh (v : Nat) (n : Int) : shI v (max n 0) = lsh v n := by
  unfold shI lsh
  rw [if_pos (by omega), show (max n 0).toNat = n.toNat by omega]
theorem shI_rsh (v : Nat) (n k : Int) (hk : 0 ≤ k) (hv : v < 2 ^ k.toNat) : shI v (-min (max n 0) k) = rsh v n := by
  unfold shI rsh
  split
  · rename_i h
    rcases Int.le_total n 0 with hn | hn
    · rw [show (-min (max n 0) k).toNat = 0 by omega, show n.toNat = 0 by omega]; simp
    · have : k = 0 ∨ n = 0 := by omega
      rcases this with rfl | rfl
      · have : v = 0 := by simpa using hv
        subst this; simp
      · rw [show (-min (max 0 0) k).toNat = 0 by omega]; simp
  · rcases Int.le_total n k with hn | hn
    · rw [show (- -min (max n 0) k).toNat = n.toNat by omega]
    · rw [show (- -min (max n 0) k).toNat = k.toNat by omega, Nat.div_eq_of_lt hv, Nat.div_eq_of_lt (Nat.lt_of_lt_of_le hv (Nat.pow_le_pow_right (by omega) (by omega)))]
def lostS (v : Nat) (n : Int) : Bool := decide (v % 2 ^ n.toNat ≠ 0)
end Go.Hb
namespace Go.Proofs.YtkpjeceofcfnkaaGreatDoor
open Go.RowKit Go.Hb
theorem shift_Left' (ah al n : Int) [U64 ah] [U64 al] (w : World) :
    Calls Tryz.prog 69 #[.agg #[.int .u64 (ah), .int .u64 (al)], .int .i64 n] w fun e w' => e = .returned (.agg #[.int .u64 (hi (lsh (cat ah al) n)), .int .u64 (lo (lsh (cat ah al) n))]) ∧ Below w.heap.size w w' :=
  (shift_Left ah al n w).mono fun _ _ ⟨h1, h2⟩ => ⟨by rw [h1, shI_lsh], h2⟩
theorem shift_Right (ah al n : Int) [U64 ah] [U64 al] (w : World) :
    Calls Tryz.prog 96 #[.agg #[.int .u64 (ah), .int .u64 (al)], .int .i64 n] w fun e w' => e = .returned (.agg #[.int .u64 (hi (rsh (cat ah al) n)), .int .u64 (lo (rsh (cat ah al) n))]) ∧ Below w.heap.size w w' := by
  have hsp := Lib.hid (shI_rsh (cat ah al) n 128 (by omega) (cat_lt ah al))
  rw [← hsp.out]
  clear hsp
  have : n < 0 ∨ n = 0 ∨ (0 < n ∧ n < 128) ∨ n = 128 ∨ 128 < n := by omega
  rcases this with hn | rfl | ⟨hn1, hn2⟩ | rfl | hn
  · rw [show -min (max n 0) 128 = 0 by omega]
    go_enter Tryz.func96, Tryz.ntmps96
    go_wp2_with fail
    refine (shift_parts _ _ _).mono ?_
    rintro e w1 ⟨b, rfl, hb, h0, h1, hlt, hB⟩
    (obtain ⟨hc_w1, hf_w1⟩ := bcell hB; have hz_w1 := hB.size; (try simp only [World.size_alloc, World.size_setCell, World.size_drew] at hz_w1 hc_w1 hf_w1); have k0_w1 := fun o => hc_w1 (w.heap.size) o (by omega); have l0_w1 := fun o => hf_w1 (w.heap.size) o (by omega); have k1_w1 := fun o => hc_w1 (w.heap.size + 1) o (by omega); have l1_w1 := fun o => hf_w1 (w.heap.size + 1) o (by omega); clear hc_w1 hf_w1; have hW_w1 : Below w.heap.size w w1 := below_after (by go_grown) hB)
    go_wp2_with fail
    refine (moved2 b _ _ _ _ _ h0 h1).mono ?_
    rintro e w2 ⟨rfl, hB2⟩
    (obtain ⟨hc_w2, hf_w2⟩ := bcell hB2; have hz_w2 := hB2.size; (try simp only [World.size_alloc, World.size_setCell, World.size_drew] at hz_w2 hc_w2 hf_w2); have k0_w2 := fun o => hc_w2 (w.heap.size) o (by omega); have l0_w2 := fun o => hf_w2 (w.heap.size) o (by omega); have k1_w2 := fun o => hc_w2 (w.heap.size + 1) o (by omega); have l1_w2 := fun o => hf_w2 (w.heap.size + 1) o (by omega); clear hc_w2 hf_w2; have hW_w2 : Below w.heap.size w w2 := below_after (by go_grown) hB2)
    go_wp2_with fail
    refine bodyPost_ret (by simp [results, Tryz.results96, go_sem, k1_w2, k1_w1]; try rfl) rfl ?_
    exact ⟨rfl, by go_grown⟩
  · rw [show -min (max 0 0) (128 : Int) = 0 by omega]
    go_enter Tryz.func96, Tryz.ntmps96
    go_wp2_with fail
    refine (shift_parts _ _ _).mono ?_
    rintro e w1 ⟨b, rfl, hb, h0, h1, hlt, hB⟩
    (obtain ⟨hc_w1, hf_w1⟩ := bcell hB; have hz_w1 := hB.size; (try simp only [World.size_alloc, World.size_setCell, World.size_drew] at hz_w1 hc_w1 hf_w1); have k0_w1 := fun o => hc_w1 (w.heap.size) o (by omega); have l0_w1 := fun o => hf_w1 (w.heap.size) o (by omega); have k1_w1 := fun o => hc_w1 (w.heap.size + 1) o (by omega); have l1_w1 := fun o => hf_w1 (w.heap.size + 1) o (by omega); clear hc_w1 hf_w1; have hW_w1 : Below w.heap.size w w1 := below_after (by go_grown) hB)
    go_wp2_with fail
    refine (moved2 b _ _ _ _ _ h0 h1).mono ?_
    rintro e w2 ⟨rfl, hB2⟩
    (obtain ⟨hc_w2, hf_w2⟩ := bcell hB2; have hz_w2 := hB2.size; (try simp only [World.size_alloc, World.size_setCell, World.size_drew] at hz_w2 hc_w2 hf_w2); have k0_w2 := fun o => hc_w2 (w.heap.size) o (by omega); have l0_w2 := fun o => hf_w2 (w.heap.size) o (by omega); have k1_w2 := fun o => hc_w2 (w.heap.size + 1) o (by omega); have l1_w2 := fun o => hf_w2 (w.heap.size + 1) o (by omega); clear hc_w2 hf_w2; have hW_w2 : Below w.heap.size w w2 := below_after (by go_grown) hB2)
    go_wp2_with fail
    refine bodyPost_ret (by simp [results, Tryz.results96, go_sem, k1_w2, k1_w1]; try rfl) rfl ?_
    exact ⟨rfl, by go_grown⟩
  · rw [show -min (max n 0) 128 = -n by omega]
    go_enter Tryz.func96, Tryz.ntmps96
    go_wp2_with fail
    refine (shift_parts _ _ _).mono ?_
    rintro e w1 ⟨b, rfl, hb, h0, h1, hlt, hB⟩
    (obtain ⟨hc_w1, hf_w1⟩ := bcell hB; have hz_w1 := hB.size; (try simp only [World.size_alloc, World.size_setCell, World.size_drew] at hz_w1 hc_w1 hf_w1); have k0_w1 := fun o => hc_w1 (w.heap.size) o (by omega); have l0_w1 := fun o => hf_w1 (w.heap.size) o (by omega); have k1_w1 := fun o => hc_w1 (w.heap.size + 1) o (by omega); have l1_w1 := fun o => hf_w1 (w.heap.size + 1) o (by omega); clear hc_w1 hf_w1; have hW_w1 : Below w.heap.size w w1 := below_after (by go_grown) hB)
    go_wp2_with fail
    refine (moved2 b _ _ _ _ _ h0 h1).mono ?_
    rintro e w2 ⟨rfl, hB2⟩
    (obtain ⟨hc_w2, hf_w2⟩ := bcell hB2; have hz_w2 := hB2.size; (try simp only [World.size_alloc, World.size_setCell, World.size_drew] at hz_w2 hc_w2 hf_w2); have k0_w2 := fun o => hc_w2 (w.heap.size) o (by omega); have l0_w2 := fun o => hf_w2 (w.heap.size) o (by omega); have k1_w2 := fun o => hc_w2 (w.heap.size + 1) o (by omega); have l1_w2 := fun o => hf_w2 (w.heap.size + 1) o (by omega); clear hc_w2 hf_w2; have hW_w2 : Below w.heap.size w w2 := below_after (by go_grown) hB2)
    go_wp2_with fail
    refine bodyPost_ret (by simp [results, Tryz.results96, go_sem, k1_w2, k1_w1]; try rfl) rfl ?_
    exact ⟨rfl, by go_grown⟩
  · rw [show -min (max 128 0) (128 : Int) = -128 by omega]
    go_enter Tryz.func96, Tryz.ntmps96
    go_wp2_with fail
    refine (shift_parts _ _ _).mono ?_
    rintro e w1 ⟨b, rfl, hb, h0, h1, hlt, hB⟩
    (obtain ⟨hc_w1, hf_w1⟩ := bcell hB; have hz_w1 := hB.size; (try simp only [World.size_alloc, World.size_setCell, World.size_drew] at hz_w1 hc_w1 hf_w1); have k0_w1 := fun o => hc_w1 (w.heap.size) o (by omega); have l0_w1 := fun o => hf_w1 (w.heap.size) o (by omega); have k1_w1 := fun o => hc_w1 (w.heap.size + 1) o (by omega); have l1_w1 := fun o => hf_w1 (w.heap.size + 1) o (by omega); clear hc_w1 hf_w1; have hW_w1 : Below w.heap.size w w1 := below_after (by go_grown) hB)
    go_wp2_with fail
    refine (moved2 b _ _ _ _ _ h0 h1).mono ?_
    rintro e w2 ⟨rfl, hB2⟩
    (obtain ⟨hc_w2, hf_w2⟩ := bcell hB2; have hz_w2 := hB2.size; (try simp only [World.size_alloc, World.size_setCell, World.size_drew] at hz_w2 hc_w2 hf_w2); have k0_w2 := fun o => hc_w2 (w.heap.size) o (by omega); have l0_w2 := fun o => hf_w2 (w.heap.size) o (by omega); have k1_w2 := fun o => hc_w2 (w.heap.size + 1) o (by omega); have l1_w2 := fun o => hf_w2 (w.heap.size + 1) o (by omega); clear hc_w2 hf_w2; have hW_w2 : Below w.heap.size w w2 := below_after (by go_grown) hB2)
    go_wp2_with fail
    refine bodyPost_ret (by simp [results, Tryz.results96, go_sem, k1_w2, k1_w1]; try rfl) rfl ?_
    exact ⟨rfl, by go_grown⟩
  · rw [show -min (max n 0) 128 = -128 by omega]
    go_enter Tryz.func96, Tryz.ntmps96
    go_wp2_with fail
    refine (shift_parts _ _ _).mono ?_
    rintro e w1 ⟨b, rfl, hb, h0, h1, hlt, hB⟩
    (obtain ⟨hc_w1, hf_w1⟩ := bcell hB; have hz_w1 := hB.size; (try simp only [World.size_alloc, World.size_setCell, World.size_drew] at hz_w1 hc_w1 hf_w1); have k0_w1 := fun o => hc_w1 (w.heap.size) o (by omega); have l0_w1 := fun o => hf_w1 (w.heap.size) o (by omega); have k1_w1 := fun o => hc_w1 (w.heap.size + 1) o (by omega); have l1_w1 := fun o => hf_w1 (w.heap.size + 1) o (by omega); clear hc_w1 hf_w1; have hW_w1 : Below w.heap.size w w1 := below_after (by go_grown) hB)
    go_wp2_with fail
    refine (moved2 b _ _ _ _ _ h0 h1).mono ?_
    rintro e w2 ⟨rfl, hB2⟩
    (obtain ⟨hc_w2, hf_w2⟩ := bcell hB2; have hz_w2 := hB2.size; (try simp only [World.size_alloc, World.size_setCell, World.size_drew] at hz_w2 hc_w2 hf_w2); have k0_w2 := fun o => hc_w2 (w.heap.size) o (by omega); have l0_w2 := fun o => hf_w2 (w.heap.size) o (by omega); have k1_w2 := fun o => hc_w2 (w.heap.size + 1) o (by omega); have l1_w2 := fun o => hf_w2 (w.heap.size + 1) o (by omega); clear hc_w2 hf_w2; have hW_w2 : Below w.heap.size w w2 := below_after (by go_grown) hB2)
    go_wp2_with fail
    refine bodyPost_ret (by simp [results, Tryz.results96, go_sem, k1_w2, k1_w1]; try rfl) rfl ?_
    exact ⟨rfl, by go_grown⟩
theorem shift_WideLeft (x0 x1 x2 x3 n : Int) [U64 x0] [U64 x1] [U64 x2] [U64 x3] (w : World) :
    Calls Tryz.prog 108 #[.agg #[.int .u64 (x0), .int .u64 (x1), .int .u64 (x2), .int .u64 (x3)], .int .i64 n] w fun e w' => e = .returned (.agg #[.int .u64 (lo (lsh (cat4 x0 x1 x2 x3) n)), .int .u64 (w1 (lsh (cat4 x0 x1 x2 x3) n)), .int .u64 (w2 (lsh (cat4 x0 x1 x2 x3) n)), .int .u64 (w3 (lsh (cat4 x0 x1 x2 x3) n))]) ∧ Below w.heap.size w w' := by
  rw [← shI_lsh]
  by_cases hn : n < 0
  · rw [show max n 0 = 0 by omega]
    go_enter Tryz.func108, Tryz.ntmps108
    go_wp2_with fail
    refine (moved4 w.heap.size _ x0 x1 x2 x3 _ _ (by go_simp) (by go_simp) (by go_simp) (by go_simp)).mono ?_
    rintro e w1 ⟨rfl, hB⟩
    (obtain ⟨hc_w1, hf_w1⟩ := bcell hB; have hz_w1 := hB.size; (try simp only [World.size_alloc, World.size_setCell, World.size_drew] at hz_w1 hc_w1 hf_w1); have k0_w1 := fun o => hc_w1 (w.heap.size) o (by omega); have l0_w1 := fun o => hf_w1 (w.heap.size) o (by omega); have k1_w1 := fun o => hc_w1 (w.heap.size + 1) o (by omega); have l1_w1 := fun o => hf_w1 (w.heap.size + 1) o (by omega); clear hc_w1 hf_w1; have hW_w1 : Below w.heap.size w w1 := below_after (by go_grown) hB)
    go_wp2_with fail
    refine bodyPost_ret (by simp [results, Tryz.results108, go_sem, k1_w1]; try rfl) rfl ?_
    exact ⟨rfl, by go_grown⟩
  · rw [show max n 0 = n by omega]
    go_enter Tryz.func108, Tryz.ntmps108
    go_wp2_with fail
    refine (moved4 w.heap.size _ x0 x1 x2 x3 _ _ (by go_simp) (by go_simp) (by go_simp) (by go_simp)).mono ?_
    rintro e w1 ⟨rfl, hB⟩
    (obtain ⟨hc_w1, hf_w1⟩ := bcell hB; have hz_w1 := hB.size; (try simp only [World.size_alloc, World.size_setCell, World.size_drew] at hz_w1 hc_w1 hf_w1); have k0_w1 := fun o => hc_w1 (w.heap.size) o (by omega); have l0_w1 := fun o => hf_w1 (w.heap.size) o (by omega); have k1_w1 := fun o => hc_w1 (w.heap.size + 1) o (by omega); have l1_w1 := fun o => hf_w1 (w.heap.size + 1) o (by omega); clear hc_w1 hf_w1; have hW_w1 : Below w.heap.size w w1 := below_after (by go_grown) hB)
    go_wp2_with fail
    refine bodyPost_ret (by simp [results, Tryz.results108, go_sem, k1_w1]; try rfl) rfl ?_
    exact ⟨rfl, by go_grown⟩
theorem shift_WideRight (x0 x1 x2 x3 n : Int) [U64 x0] [U64 x1] [U64 x2] [U64 x3] (w : World) :
    Calls Tryz.prog 110 #[.agg #[.int .u64 (x0), .int .u64 (x1), .int .u64 (x2), .int .u64 (x3)], .int .i64 n] w fun e w' => e = .returned (.agg #[.int .u64 (lo (rsh (cat4 x0 x1 x2 x3) n)), .int .u64 (w1 (rsh (cat4 x0 x1 x2 x3) n)), .int .u64 (w2 (rsh (cat4 x0 x1 x2 x3) n)), .int .u64 (w3 (rsh (cat4 x0 x1 x2 x3) n))]) ∧ Below w.heap.size w w' := by
  have hsp := Lib.hid (shI_rsh (cat4 x0 x1 x2 x3) n 256 (by omega) (cat4_lt x0 x1 x2 x3))
  rw [← hsp.out]
  clear hsp
  have : n < 0 ∨ n = 0 ∨ (0 < n ∧ n < 256) ∨ n = 256 ∨ 256 < n := by omega
  rcases this with hn | rfl | ⟨hn1, hn2⟩ | rfl | hn
  · rw [show -min (max n 0) (256 : Int) = 0 by omega]
    go_enter Tryz.func110, Tryz.ntmps110
    go_wp2_with fail
    refine (moved4 w.heap.size _ x0 x1 x2 x3 _ _ (by go_simp) (by go_simp) (by go_simp) (by go_simp)).mono ?_
    rintro e w1 ⟨rfl, hB⟩
    (obtain ⟨hc_w1, hf_w1⟩ := bcell hB; have hz_w1 := hB.size; (try simp only [World.size_alloc, World.size_setCell, World.size_drew] at hz_w1 hc_w1 hf_w1); have k0_w1 := fun o => hc_w1 (w.heap.size) o (by omega); have l0_w1 := fun o => hf_w1 (w.heap.size) o (by omega); have k1_w1 := fun o => hc_w1 (w.heap.size + 1) o (by omega); have l1_w1 := fun o => hf_w1 (w.heap.size + 1) o (by omega); clear hc_w1 hf_w1; have hW_w1 : Below w.heap.size w w1 := below_after (by go_grown) hB)
    go_wp2_with fail
    refine bodyPost_ret (by simp [results, Tryz.results110, go_sem, k1_w1]; try rfl) rfl ?_
    exact ⟨rfl, by go_grown⟩
  · rw [show -min (max 0 0) (256 : Int) = 0 by omega]
    go_enter Tryz.func110, Tryz.ntmps110
    go_wp2_with fail
    refine (moved4 w.heap.size _ x0 x1 x2 x3 _ _ (by go_simp) (by go_simp) (by go_simp) (by go_simp)).mono ?_
    rintro e w1 ⟨rfl, hB⟩
    (obtain ⟨hc_w1, hf_w1⟩ := bcell hB; have hz_w1 := hB.size; (try simp only [World.size_alloc, World.size_setCell, World.size_drew] at hz_w1 hc_w1 hf_w1); have k0_w1 := fun o => hc_w1 (w.heap.size) o (by omega); have l0_w1 := fun o => hf_w1 (w.heap.size) o (by omega); have k1_w1 := fun o => hc_w1 (w.heap.size + 1) o (by omega); have l1_w1 := fun o => hf_w1 (w.heap.size + 1) o (by omega); clear hc_w1 hf_w1; have hW_w1 : Below w.heap.size w w1 := below_after (by go_grown) hB)
    go_wp2_with fail
    refine bodyPost_ret (by simp [results, Tryz.results110, go_sem, k1_w1]; try rfl) rfl ?_
    exact ⟨rfl, by go_grown⟩
  · rw [show -min (max n 0) (256 : Int) = -n by omega]
    go_enter Tryz.func110, Tryz.ntmps110
    go_wp2_with fail
    refine (moved4 w.heap.size _ x0 x1 x2 x3 _ _ (by go_simp) (by go_simp) (by go_simp) (by go_simp)).mono ?_
    rintro e w1 ⟨rfl, hB⟩
    (obtain ⟨hc_w1, hf_w1⟩ := bcell hB; have hz_w1 := hB.size; (try simp only [World.size_alloc, World.size_setCell, World.size_drew] at hz_w1 hc_w1 hf_w1); have k0_w1 := fun o => hc_w1 (w.heap.size) o (by omega); have l0_w1 := fun o => hf_w1 (w.heap.size) o (by omega); have k1_w1 := fun o => hc_w1 (w.heap.size + 1) o (by omega); have l1_w1 := fun o => hf_w1 (w.heap.size + 1) o (by omega); clear hc_w1 hf_w1; have hW_w1 : Below w.heap.size w w1 := below_after (by go_grown) hB)
    go_wp2_with fail
    refine bodyPost_ret (by simp [results, Tryz.results110, go_sem, k1_w1]; try rfl) rfl ?_
    exact ⟨rfl, by go_grown⟩
  · rw [show -min (max 256 0) (256 : Int) = -256 by omega]
    go_enter Tryz.func110, Tryz.ntmps110
    go_wp2_with fail
    refine (moved4 w.heap.size _ x0 x1 x2 x3 _ _ (by go_simp) (by go_simp) (by go_simp) (by go_simp)).mono ?_
    rintro e w1 ⟨rfl, hB⟩
    (obtain ⟨hc_w1, hf_w1⟩ := bcell hB; have hz_w1 := hB.size; (try simp only [World.size_alloc, World.size_setCell, World.size_drew] at hz_w1 hc_w1 hf_w1); have k0_w1 := fun o => hc_w1 (w.heap.size) o (by omega); have l0_w1 := fun o => hf_w1 (w.heap.size) o (by omega); have k1_w1 := fun o => hc_w1 (w.heap.size + 1) o (by omega); have l1_w1 := fun o => hf_w1 (w.heap.size + 1) o (by omega); clear hc_w1 hf_w1; have hW_w1 : Below w.heap.size w w1 := below_after (by go_grown) hB)
    go_wp2_with fail
    refine bodyPost_ret (by simp [results, Tryz.results110, go_sem, k1_w1]; try rfl) rfl ?_
    exact ⟨rfl, by go_grown⟩
  · rw [show -min (max n 0) (256 : Int) = -256 by omega]
    go_enter Tryz.func110, Tryz.ntmps110
    go_wp2_with fail
    refine (moved4 w.heap.size _ x0 x1 x2 x3 _ _ (by go_simp) (by go_simp) (by go_simp) (by go_simp)).mono ?_
    rintro e w1 ⟨rfl, hB⟩
    (obtain ⟨hc_w1, hf_w1⟩ := bcell hB; have hz_w1 := hB.size; (try simp only [World.size_alloc, World.size_setCell, World.size_drew] at hz_w1 hc_w1 hf_w1); have k0_w1 := fun o => hc_w1 (w.heap.size) o (by omega); have l0_w1 := fun o => hf_w1 (w.heap.size) o (by omega); have k1_w1 := fun o => hc_w1 (w.heap.size + 1) o (by omega); have l1_w1 := fun o => hf_w1 (w.heap.size + 1) o (by omega); clear hc_w1 hf_w1; have hW_w1 : Below w.heap.size w w1 := below_after (by go_grown) hB)
    go_wp2_with fail
    refine bodyPost_ret (by simp [results, Tryz.results110, go_sem, k1_w1]; try rfl) rfl ?_
    exact ⟨rfl, by go_grown⟩
end Go.Proofs.YtkpjeceofcfnkaaGreatDoor

namespace Go.Hb
theorem or_one (x : Nat) : x ||| 1 = 2 * (x / 2) + 1 := by
  apply Nat.eq_of_testBit_eq
  intro i
  rw [Nat.testBit_or]
  cases i with
  | zero => simp
  | succ i =>
    rw [Nat.testBit_succ, Nat.testBit_succ, Nat.testBit_succ, show (2 * (x / 2) + 1) / 2 = x / 2 by omega]
    simp
theorem or_one_parts (x : Nat) : Go.bits BinOp.or IntKind.u64 (lo x) 1 = lo (x ||| 1) ∧ w1 x = w1 (x ||| 1) ∧ w2 x = w2 (x ||| 1) ∧ w3 x = w3 (x ||| 1) := by
  have e := (bits_nat .u64 64 (by decide) (fun n h1 h2 => by rw [IntKind.wrap_u64]; omega) (x % 18446744073709551616) 1 (by omega) (by decide)).2
  refine ⟨?_, ?_, ?_, ?_⟩
  · show Go.bits BinOp.or IntKind.u64 ((x % 18446744073709551616 : Nat) : Int) ((1 : Nat) : Int) = _
    rw [e, or_one, or_one]; unfold lo; omega
  · rw [or_one]; unfold w1; omega
  · rw [or_one]; unfold w2; omega
  · rw [or_one]; unfold w3; omega
end Go.Hb
namespace Go.Proofs.YtkpjeceofcfnkaaGreatDoor
open Go.RowKit Go.Hb
theorem lost_key (v : Nat) (n : Int) (hlt : v < 115792089237316195423570985008687907853269984665640564039457584007913129639936) :
    (lo (lsh (rsh v n) n) = lo v ∧ w1 (lsh (rsh v n) n) = w1 v ∧ w2 (lsh (rsh v n) n) = w2 v ∧ w3 (lsh (rsh v n) n) = w3 v) ↔ v % 2 ^ n.toNat = 0 := by
  have hle : lsh (rsh v n) n ≤ v := Nat.div_mul_le_self v _
  have e3 : v % 2 ^ n.toNat + lsh (rsh v n) n = v := by
    have := Nat.mod_add_div v (2 ^ n.toNat)
    rw [Nat.mul_comm] at this; exact this
  constructor
  · rintro ⟨h0, h1, h2, h3⟩
    have e1 := cat4_parts (lsh (rsh v n) n) (Nat.lt_of_le_of_lt hle hlt)
    have e2 := cat4_parts v hlt
    rw [h0, h1, h2, h3, e2] at e1
    clear hlt e2 h0 h1 h2 h3
    omega
  · intro h
    have : lsh (rsh v n) n = v := by clear hlt; omega
    rw [this]; exact ⟨rfl, rfl, rfl, rfl⟩
theorem lost_eq (x0 x1 x2 x3 n : Int) [U64 x0] [U64 x1] [U64 x2] [U64 x3] :
    (!decide (lo (lsh (rsh (cat4 x0 x1 x2 x3) n) n) = x0 ∧ w1 (lsh (rsh (cat4 x0 x1 x2 x3) n) n) = x1 ∧ w2 (lsh (rsh (cat4 x0 x1 x2 x3) n) n) = x2 ∧ w3 (lsh (rsh (cat4 x0 x1 x2 x3) n) n) = x3)) = lostS (cat4 x0 x1 x2 x3) n := by
  have hk := lost_key (cat4 x0 x1 x2 x3) n (cat4_lt x0 x1 x2 x3)
  have hp := parts_cat4 x0 x1 x2 x3
  rw [hp.1, hp.2.1, hp.2.2.1, hp.2.2.2] at hk
  unfold lostS
  rw [Bool.eq_iff_iff, Bool.not_eq_true', decide_eq_false_iff_not, decide_eq_true_iff, hk]
theorem shift_Lost (x0 x1 x2 x3 n : Int) [U64 x0] [U64 x1] [U64 x2] [U64 x3] (w : World) :
    Calls Tryz.prog 111 #[.agg #[.int .u64 (x0), .int .u64 (x1), .int .u64 (x2), .int .u64 (x3)], .int .i64 n] w fun e w' => e = .returned (.bool (lostS (cat4 x0 x1 x2 x3) n)) ∧ Below w.heap.size w w' := by
  have he := fun W => run_neq_wide W (lo (lsh (rsh (cat4 x0 x1 x2 x3) n) n)) (w1 (lsh (rsh (cat4 x0 x1 x2 x3) n) n)) (w2 (lsh (rsh (cat4 x0 x1 x2 x3) n) n)) (w3 (lsh (rsh (cat4 x0 x1 x2 x3) n) n)) x0 x1 x2 x3
  rw [← lost_eq]
  have hc := Lib.hid (cat4_parts (rsh (cat4 x0 x1 x2 x3) n) (Nat.lt_of_le_of_lt (Nat.div_le_self _ _) (cat4_lt x0 x1 x2 x3)))
  go_enter Tryz.func111, Tryz.ntmps111
  go_wp2_with fail
  go_region_held3 (fun w' => w'.cell? ⟨w.heap.size, 0, none⟩ = some (.int .u64 x0) ∧ w'.cell? ⟨w.heap.size, 1, none⟩ = some (.int .u64 x1) ∧ w'.cell? ⟨w.heap.size, 2, none⟩ = some (.int .u64 x2) ∧ w'.cell? ⟨w.heap.size, 3, none⟩ = some (.int .u64 x3))
    (first | go_keep | (go_split_ands; exact ⟨cell_later hB2 (by assumption), cell_later hB2 (by assumption), cell_later hB2 (by assumption), cell_later hB2 (by assumption)⟩) | (go_split_ands; exact ⟨cell_later hB1 (by assumption), cell_later hB1 (by assumption), cell_later hB1 (by assumption), cell_later hB1 (by assumption)⟩))
    (first | (go_at_call 110; refine (shift_WideRight _ _ _ _ _ _).mono ?_; rintro e w1 ⟨rfl, hB1⟩) | (go_at_call 108; refine (shift_WideLeft _ _ _ _ _ _).mono ?_; rw [hc.out]; rintro e w2 ⟨rfl, hB2⟩))
  go_wp2
  go_returns
  refine ⟨ret_bool (by simp [Bool.decide_and]), below_after (below_after (by go_grown) hB1) hB2⟩
/-- Down, the lowest bit 1 if something fell off. -/
def jamS (v : Nat) (n : Int) : Nat := if lostS v n then rsh v n ||| 1 else rsh v n
theorem shift_WideJam (x0 x1 x2 x3 n : Int) [U64 x0] [U64 x1] [U64 x2] [U64 x3] (w : World) :
    Calls Tryz.prog 77 #[.agg #[.int .u64 (x0), .int .u64 (x1), .int .u64 (x2), .int .u64 (x3)], .int .i64 n] w fun e w' => e = .returned (.agg #[.int .u64 (lo (jamS (cat4 x0 x1 x2 x3) n)), .int .u64 (w1 (jamS (cat4 x0 x1 x2 x3) n)), .int .u64 (w2 (jamS (cat4 x0 x1 x2 x3) n)), .int .u64 (w3 (jamS (cat4 x0 x1 x2 x3) n))]) ∧ Below w.heap.size w w' := by
  cases hl : lostS (cat4 x0 x1 x2 x3) n
  · have hj : jamS (cat4 x0 x1 x2 x3) n = rsh (cat4 x0 x1 x2 x3) n := by simp [jamS, hl]
    rw [hj]
    clear hj
    go_enter Tryz.func77, Tryz.ntmps77
    (go_wp2_with fail; refine (shift_WideRight x0 x1 x2 x3 _ _).mono ?_; rintro en w1 ⟨rfl, hB_w1⟩; (obtain ⟨hc_w1, hf_w1⟩ := bcell hB_w1; have hz_w1 := hB_w1.size; (try simp only [World.size_alloc, World.size_setCell, World.size_drew] at hz_w1 hc_w1 hf_w1); have k0_w1 := fun o => hc_w1 (w.heap.size) o (by omega); have l0_w1 := fun o => hf_w1 (w.heap.size) o (by omega); have k1_w1 := fun o => hc_w1 (w.heap.size + 1) o (by omega); have l1_w1 := fun o => hf_w1 (w.heap.size + 1) o (by omega); have z_w1 : w.heap.size < w1.heap.size ∧ w.heap.size ≤ w1.heap.size ∧ w.heap.size ≤ w1.heap.size + 1 ∧ w.heap.size ≤ w1.heap.size + 1 + 1 ∧ w.heap.size + 1 < w1.heap.size ∧ w.heap.size + 1 ≤ w1.heap.size ∧ w.heap.size + 1 ≤ w1.heap.size + 1 ∧ w.heap.size + 1 ≤ w1.heap.size + 1 + 1 := (by omega); clear hc_w1 hf_w1; have hW_w1 : Below w.heap.size w w1 := below_after (by go_grown) hB_w1))
    (go_wp2_with fail; refine (shift_Lost x0 x1 x2 x3 _ _).mono ?_; rintro en w2 ⟨rfl, hB_w2⟩; (obtain ⟨hc_w2, hf_w2⟩ := bcell hB_w2; have hz_w2 := hB_w2.size; (try simp only [World.size_alloc, World.size_setCell, World.size_drew] at hz_w2 hc_w2 hf_w2); have k0_w2 := fun o => hc_w2 (w.heap.size) o (by omega); have l0_w2 := fun o => hf_w2 (w.heap.size) o (by omega); have k1_w2 := fun o => hc_w2 (w.heap.size + 1) o (by omega); have l1_w2 := fun o => hf_w2 (w.heap.size + 1) o (by omega); have kw1_0_w2 := fun o => hc_w2 (w1.heap.size) o (by omega); have lw1_0_w2 := fun o => hf_w2 (w1.heap.size) o (by omega); have z_w2 : w.heap.size < w2.heap.size ∧ w.heap.size ≤ w2.heap.size ∧ w.heap.size ≤ w2.heap.size + 1 ∧ w.heap.size ≤ w2.heap.size + 1 + 1 ∧ w.heap.size + 1 < w2.heap.size ∧ w.heap.size + 1 ≤ w2.heap.size ∧ w.heap.size + 1 ≤ w2.heap.size + 1 ∧ w.heap.size + 1 ≤ w2.heap.size + 1 + 1 ∧ w1.heap.size < w2.heap.size ∧ w1.heap.size ≤ w2.heap.size ∧ w1.heap.size ≤ w2.heap.size + 1 ∧ w1.heap.size ≤ w2.heap.size + 1 + 1 := (by omega); clear hc_w2 hf_w2; have hW_w2 : Below w.heap.size w w2 := below_after (by go_grown) hB_w2))
    go_wp2_with fail
    refine bodyPost_ret (by simp [results, Tryz.results77, go_sem, k1_w2, k1_w1, kw1_0_w2, z_w1]; try rfl) rfl ?_
    exact ⟨rfl, by go_grown⟩
  · have hj : jamS (cat4 x0 x1 x2 x3) n = rsh (cat4 x0 x1 x2 x3) n ||| 1 := by simp [jamS, hl]
    rw [hj]
    clear hj
    go_enter Tryz.func77, Tryz.ntmps77
    (go_wp2_with fail; refine (shift_WideRight x0 x1 x2 x3 _ _).mono ?_; rintro en w1 ⟨rfl, hB_w1⟩; (obtain ⟨hc_w1, hf_w1⟩ := bcell hB_w1; have hz_w1 := hB_w1.size; (try simp only [World.size_alloc, World.size_setCell, World.size_drew] at hz_w1 hc_w1 hf_w1); have k0_w1 := fun o => hc_w1 (w.heap.size) o (by omega); have l0_w1 := fun o => hf_w1 (w.heap.size) o (by omega); have k1_w1 := fun o => hc_w1 (w.heap.size + 1) o (by omega); have l1_w1 := fun o => hf_w1 (w.heap.size + 1) o (by omega); have z_w1 : w.heap.size < w1.heap.size ∧ w.heap.size ≤ w1.heap.size ∧ w.heap.size ≤ w1.heap.size + 1 ∧ w.heap.size ≤ w1.heap.size + 1 + 1 ∧ w.heap.size + 1 < w1.heap.size ∧ w.heap.size + 1 ≤ w1.heap.size ∧ w.heap.size + 1 ≤ w1.heap.size + 1 ∧ w.heap.size + 1 ≤ w1.heap.size + 1 + 1 := (by omega); clear hc_w1 hf_w1; have hW_w1 : Below w.heap.size w w1 := below_after (by go_grown) hB_w1))
    (go_wp2_with fail; refine (shift_Lost x0 x1 x2 x3 _ _).mono ?_; rintro en w2 ⟨rfl, hB_w2⟩; (obtain ⟨hc_w2, hf_w2⟩ := bcell hB_w2; have hz_w2 := hB_w2.size; (try simp only [World.size_alloc, World.size_setCell, World.size_drew] at hz_w2 hc_w2 hf_w2); have k0_w2 := fun o => hc_w2 (w.heap.size) o (by omega); have l0_w2 := fun o => hf_w2 (w.heap.size) o (by omega); have k1_w2 := fun o => hc_w2 (w.heap.size + 1) o (by omega); have l1_w2 := fun o => hf_w2 (w.heap.size + 1) o (by omega); have kw1_0_w2 := fun o => hc_w2 (w1.heap.size) o (by omega); have lw1_0_w2 := fun o => hf_w2 (w1.heap.size) o (by omega); have z_w2 : w.heap.size < w2.heap.size ∧ w.heap.size ≤ w2.heap.size ∧ w.heap.size ≤ w2.heap.size + 1 ∧ w.heap.size ≤ w2.heap.size + 1 + 1 ∧ w.heap.size + 1 < w2.heap.size ∧ w.heap.size + 1 ≤ w2.heap.size ∧ w.heap.size + 1 ≤ w2.heap.size + 1 ∧ w.heap.size + 1 ≤ w2.heap.size + 1 + 1 ∧ w1.heap.size < w2.heap.size ∧ w1.heap.size ≤ w2.heap.size ∧ w1.heap.size ≤ w2.heap.size + 1 ∧ w1.heap.size ≤ w2.heap.size + 1 + 1 := (by omega); clear hc_w2 hf_w2; have hW_w2 : Below w.heap.size w w2 := below_after (by go_grown) hB_w2))
    go_wp2_with fail
    refine bodyPost_ret (by simp [results, Tryz.results77, go_sem, k1_w2, k1_w1, kw1_0_w2, z_w1]; try rfl) rfl ?_
    exact ⟨ret_wide (or_one_parts _), by go_grown⟩
end Go.Proofs.YtkpjeceofcfnkaaGreatDoor

namespace Go.Hb
/-- The rest of a number beyond its s lowest bits' floor: 0 none, 1 less than a half, 2 a half, 3 more. -/
def restN (v s : Nat) : Int := if s = 0 then 0 else if v.testBit (s - 1) then (if v % 2 ^ (s - 1) = 0 then 2 else 3) else (if v % 2 ^ (s - 1) = 0 then 0 else 1)
def jamN (v k : Nat) : Nat := if v % 2 ^ k = 0 then v / 2 ^ k else v / 2 ^ k ||| 1
theorem or_one' (x : Nat) : x ||| 1 = 2 * (x / 2) + 1 := or_one x
theorem jamN_half (v k : Nat) : jamN v k / 2 = v / 2 ^ k / 2 := by
  unfold jamN; split
  · rfl
  · rw [or_one']; omega
theorem jam_floor (v k s : Nat) (hs : 1 ≤ s) : jamN v k / 2 ^ s = v / 2 ^ (k + s) := by
  have e : 2 ^ s = 2 * 2 ^ (s - 1) := by rw [← Nat.pow_succ']; congr 1; omega
  rw [e, ← Nat.div_div_eq_div_mul, jamN_half, Nat.div_div_eq_div_mul, Nat.div_div_eq_div_mul, ← e, ← Nat.pow_add]
theorem jam_bit (v k j : Nat) (hj : 1 ≤ j) : (jamN v k).testBit j = v.testBit (k + j) := by
  obtain ⟨i, rfl⟩ : ∃ i, j = i + 1 := ⟨j - 1, by omega⟩
  rw [Nat.testBit_succ, jamN_half, ← Nat.testBit_succ, ← Nat.shiftRight_eq_div_pow, Nat.testBit_shiftRight]
theorem jam_low (v k j : Nat) (hj : 1 ≤ j) : jamN v k % 2 ^ j = 0 ↔ v % 2 ^ (k + j) = 0 := by
  have hp : v % 2 ^ (k + j) = v % 2 ^ k + 2 ^ k * (v / 2 ^ k % 2 ^ j) := by rw [Nat.pow_add, Nat.mod_mul]
  have hk : 0 < 2 ^ k := Nat.two_pow_pos k
  unfold jamN; split
  · rename_i h
    rw [hp, h, Nat.zero_add]
    constructor
    · intro h2; rw [h2, Nat.mul_zero]
    · intro h2; exact (Nat.mul_eq_zero.1 h2).resolve_left (by omega)
  · rename_i h
    constructor
    · intro h2
      exfalso
      have : (v / 2 ^ k ||| 1) % 2 = 0 := by
        have hd : 2 ∣ 2 ^ j := ⟨2 ^ (j - 1), by rw [← Nat.pow_succ']; congr 1; omega⟩
        exact Nat.mod_eq_zero_of_dvd (Nat.dvd_trans hd (Nat.dvd_of_mod_eq_zero h2))
      rw [or_one'] at this; omega
    · intro h2; rw [hp] at h2; omega
theorem jam_rest (v k s : Nat) (hs : 2 ≤ s) : restN (jamN v k) s = restN v (k + s) := by
  have h0 : ¬ s = 0 := by omega
  have h1 : ¬ k + s = 0 := by omega
  unfold restN
  rw [if_neg h0, if_neg h1, jam_bit _ _ _ (by omega), show k + (s - 1) = k + s - 1 by omega]
  have := jam_low v k (s - 1) (by omega)
  rw [show k + (s - 1) = k + s - 1 by omega] at this
  by_cases h : v % 2 ^ (k + s - 1) = 0
  · rw [if_pos (this.2 h), if_pos (this.2 h), if_pos h, if_pos h]
  · rw [if_neg (fun e => h (this.1 e)), if_neg (fun e => h (this.1 e)), if_neg h, if_neg h]
/-- Raised numbers: the bits that come in below are noughts. -/
theorem restN_up (v k s : Nat) (hs : 1 ≤ s) : restN (v * 2 ^ k) (s + k) = restN v s := by
  have h0 : ¬ s = 0 := by omega
  have h1' : ¬ s + k = 0 := by omega
  unfold restN
  rw [if_neg h1', if_neg h0, ← Nat.shiftLeft_eq, Nat.testBit_shiftLeft, Nat.shiftLeft_eq, show s + k - 1 - k = s - 1 by omega, show s + k - 1 = (s - 1) + k by omega, Nat.pow_add, Nat.mul_mod_mul_right]
  have h1 : decide (s - 1 + k ≥ k) = true := by simp
  rw [h1, Bool.true_and]
  have h2 : v % 2 ^ (s - 1) * 2 ^ k = 0 ↔ v % 2 ^ (s - 1) = 0 := by
    have := Nat.two_pow_pos k
    constructor
    · intro h; exact (Nat.mul_eq_zero.1 h).resolve_right (by omega)
    · intro h; rw [h, Nat.zero_mul]
  simp only [h2]
theorem floor_up (v k s : Nat) : v * 2 ^ k / 2 ^ (s + k) = v / 2 ^ s := by
  rw [Nat.pow_add, Nat.mul_div_mul_right _ _ (Nat.two_pow_pos k)]
end Go.Hb
