/- The contracts of package shift: Right, WideLeft, WideRight, Lost, Jam, WideJam: for every input. -/
import Derived.Test.YtgdbdbjegiaifaaDoorShift1
import Derived.Test.YtgdbdbjegiaifaaDoorShift5
import Derived.Test.YtgdbdbjegiaifaaDoorWide
set_option linter.unusedSimpArgs false
set_option linter.unusedVariables false
namespace Go.Hb
/-- Up, down; by 0, if n is negative. -/
def lsh (v : Nat) (n : Int) : Nat := v * 2 ^ n.toNat
def rsh (v : Nat) (n : Int) : Nat := v / 2 ^ n.toNat
theorem shI_lsh (v : Nat) (n : Int) : shI v (max n 0) = lsh v n := by
  unfold shI lsh
  rw [if_pos (by omega), show (max n 0).toNat = n.toNat by omega]
theorem shI_rsh (v : Nat) (n k : Int) (hk : 0 ≤ k) (hv : v < 2 ^ k.toNat) : shI v (-min (max n 0) k) = rsh v n := by
  unfold shI rsh
  split
  · rename_i h
    rcases Int.le_total n 0 with hn | hn
    · rw [show (-min (max n 0) k).toNat = 0 by omega, show n.toNat = 0 by omega]; simp
    · have : k = 0 ∨ n = 0 := by omega
      rcases this with rfl | rfl
      · have : v = 0 := by simpa using hv
        subst this; simp
      · rw [show (-min (max 0 0) k).toNat = 0 by omega]; simp
  · rcases Int.le_total n k with hn | hn
    · rw [show (- -min (max n 0) k).toNat = n.toNat by omega]
    · rw [show (- -min (max n 0) k).toNat = k.toNat by omega, Nat.div_eq_of_lt hv, Nat.div_eq_of_lt (Nat.lt_of_lt_of_le hv (Nat.pow_le_pow_right (by omega) (by omega)))]
def lostS (v : Nat) (n : Int) : Bool := decide (v % 2 ^ n.toNat ≠ 0)
end Go.Hb
namespace Go.Proofs.YtgdbdbjegiaifaaDoor
open Go.RowKit Go.Hb
theorem shift_Left' (ah al n : Int) [U64 ah] [U64 al] (w : World) :
    Calls Tryd.prog 55 #[.agg #[.int .u64 (ah), .int .u64 (al)], .int .i64 n] w fun e w' => e = .returned (.agg #[.int .u64 (hi (lsh (cat ah al) n)), .int .u64 (lo (lsh (cat ah al) n))]) ∧ Below w.heap.size w w' :=
  (shift_Left ah al n w).mono fun _ _ ⟨h1, h2⟩ => ⟨by rw [h1, shI_lsh], h2⟩
set_option maxHeartbeats 1000000 in
theorem shift_Right (ah al n : Int) [U64 ah] [U64 al] (w : World) :
    Calls Tryd.prog 93 #[.agg #[.int .u64 (ah), .int .u64 (al)], .int .i64 n] w fun e w' => e = .returned (.agg #[.int .u64 (hi (rsh (cat ah al) n)), .int .u64 (lo (rsh (cat ah al) n))]) ∧ Below w.heap.size w w' := by
  have hsp := Lib.hid (shI_rsh (cat ah al) n 128 (by omega) (cat_lt ah al))
  rw [← hsp.out]
  clear hsp
  have : n < 0 ∨ n = 0 ∨ (0 < n ∧ n < 128) ∨ n = 128 ∨ 128 < n := by omega
  rcases this with hn | rfl | ⟨hn1, hn2⟩ | rfl | hn
  · rw [show -min (max n 0) 128 = 0 by omega]
    go_enter Tryd.func93, Tryd.ntmps93
    go_wp2_with fail
    refine (shift_parts _ _ _).mono ?_
    rintro e w1 ⟨b, rfl, hb, h0, h1, hlt, hB⟩
    (obtain ⟨hc_w1, hf_w1⟩ := bcell hB; have hz_w1 := hB.size; (try simp only [World.size_alloc, World.size_setCell, World.size_drew] at hz_w1 hc_w1 hf_w1); have k0_w1 := fun o => hc_w1 (w.heap.size) o (by omega); have l0_w1 := fun o => hf_w1 (w.heap.size) o (by omega); have k1_w1 := fun o => hc_w1 (w.heap.size + 1) o (by omega); have l1_w1 := fun o => hf_w1 (w.heap.size + 1) o (by omega); clear hc_w1 hf_w1; have hW_w1 : Below w.heap.size w w1 := below_after (by go_grown) hB)
    go_wp2_with fail
    refine (moved2 b _ _ _ _ _ h0 h1).mono ?_
    rintro e w2 ⟨rfl, hB2⟩
    (obtain ⟨hc_w2, hf_w2⟩ := bcell hB2; have hz_w2 := hB2.size; (try simp only [World.size_alloc, World.size_setCell, World.size_drew] at hz_w2 hc_w2 hf_w2); have k0_w2 := fun o => hc_w2 (w.heap.size) o (by omega); have l0_w2 := fun o => hf_w2 (w.heap.size) o (by omega); have k1_w2 := fun o => hc_w2 (w.heap.size + 1) o (by omega); have l1_w2 := fun o => hf_w2 (w.heap.size + 1) o (by omega); clear hc_w2 hf_w2; have hW_w2 : Below w.heap.size w w2 := below_after (by go_grown) hB2)
    go_wp2_with fail
    refine bodyPost_ret (by simp [results, Tryd.results93, go_sem, k1_w2, k1_w1]; try rfl) rfl ?_
    exact ⟨rfl, by go_grown⟩
  · rw [show -min (max 0 0) (128 : Int) = 0 by omega]
    go_enter Tryd.func93, Tryd.ntmps93
    go_wp2_with fail
    refine (shift_parts _ _ _).mono ?_
    rintro e w1 ⟨b, rfl, hb, h0, h1, hlt, hB⟩
    (obtain ⟨hc_w1, hf_w1⟩ := bcell hB; have hz_w1 := hB.size; (try simp only [World.size_alloc, World.size_setCell, World.size_drew] at hz_w1 hc_w1 hf_w1); have k0_w1 := fun o => hc_w1 (w.heap.size) o (by omega); have l0_w1 := fun o => hf_w1 (w.heap.size) o (by omega); have k1_w1 := fun o => hc_w1 (w.heap.size + 1) o (by omega); have l1_w1 := fun o => hf_w1 (w.heap.size + 1) o (by omega); clear hc_w1 hf_w1; have hW_w1 : Below w.heap.size w w1 := below_after (by go_grown) hB)
    go_wp2_with fail
    refine (moved2 b _ _ _ _ _ h0 h1).mono ?_
    rintro e w2 ⟨rfl, hB2⟩
    (obtain ⟨hc_w2, hf_w2⟩ := bcell hB2; have hz_w2 := hB2.size; (try simp only [World.size_alloc, World.size_setCell, World.size_drew] at hz_w2 hc_w2 hf_w2); have k0_w2 := fun o => hc_w2 (w.heap.size) o (by omega); have l0_w2 := fun o => hf_w2 (w.heap.size) o (by omega); have k1_w2 := fun o => hc_w2 (w.heap.size + 1) o (by omega); have l1_w2 := fun o => hf_w2 (w.heap.size + 1) o (by omega); clear hc_w2 hf_w2; have hW_w2 : Below w.heap.size w w2 := below_after (by go_grown) hB2)
    go_wp2_with fail
    refine bodyPost_ret (by simp [results, Tryd.results93, go_sem, k1_w2, k1_w1]; try rfl) rfl ?_
    exact ⟨rfl, by go_grown⟩
  · rw [show -min (max n 0) 128 = -n by omega]
    go_enter Tryd.func93, Tryd.ntmps93
    go_wp2_with fail
    refine (shift_parts _ _ _).mono ?_
    rintro e w1 ⟨b, rfl, hb, h0, h1, hlt, hB⟩
    (obtain ⟨hc_w1, hf_w1⟩ := bcell hB; have hz_w1 := hB.size; (try simp only [World.size_alloc, World.size_setCell, World.size_drew] at hz_w1 hc_w1 hf_w1); have k0_w1 := fun o => hc_w1 (w.heap.size) o (by omega); have l0_w1 := fun o => hf_w1 (w.heap.size) o (by omega); have k1_w1 := fun o => hc_w1 (w.heap.size + 1) o (by omega); have l1_w1 := fun o => hf_w1 (w.heap.size + 1) o (by omega); clear hc_w1 hf_w1; have hW_w1 : Below w.heap.size w w1 := below_after (by go_grown) hB)
    go_wp2_with fail
    refine (moved2 b _ _ _ _ _ h0 h1).mono ?_
    rintro e w2 ⟨rfl, hB2⟩
    (obtain ⟨hc_w2, hf_w2⟩ := bcell hB2; have hz_w2 := hB2.size; (try simp only [World.size_alloc, World.size_setCell, World.size_drew] at hz_w2 hc_w2 hf_w2); have k0_w2 := fun o => hc_w2 (w.heap.size) o (by omega); have l0_w2 := fun o => hf_w2 (w.heap.size) o (by omega); have k1_w2 := fun o => hc_w2 (w.heap.size + 1) o (by omega); have l1_w2 := fun o => hf_w2 (w.heap.size + 1) o (by omega); clear hc_w2 hf_w2; have hW_w2 : Below w.heap.size w w2 := below_after (by go_grown) hB2)
    go_wp2_with fail
    refine bodyPost_ret (by simp [results, Tryd.results93, go_sem, k1_w2, k1_w1]; try rfl) rfl ?_
    exact ⟨rfl, by go_grown⟩
  · rw [show -min (max 128 0) (128 : Int) = -128 by omega]
    go_enter Tryd.func93, Tryd.ntmps93
    go_wp2_with fail
    refine (shift_parts _ _ _).mono ?_
    rintro e w1 ⟨b, rfl, hb, h0, h1, hlt, hB⟩
    (obtain ⟨hc_w1, hf_w1⟩ := bcell hB; have hz_w1 := hB.size; (try simp only [World.size_alloc, World.size_setCell, World.size_drew] at hz_w1 hc_w1 hf_w1); have k0_w1 := fun o => hc_w1 (w.heap.size) o (by omega); have l0_w1 := fun o => hf_w1 (w.heap.size) o (by omega); have k1_w1 := fun o => hc_w1 (w.heap.size + 1) o (by omega); have l1_w1 := fun o => hf_w1 (w.heap.size + 1) o (by omega); clear hc_w1 hf_w1; have hW_w1 : Below w.heap.size w w1 := below_after (by go_grown) hB)
    go_wp2_with fail
    refine (moved2 b _ _ _ _ _ h0 h1).mono ?_
    rintro e w2 ⟨rfl, hB2⟩
    (obtain ⟨hc_w2, hf_w2⟩ := bcell hB2; have hz_w2 := hB2.size; (try simp only [World.size_alloc, World.size_setCell, World.size_drew] at hz_w2 hc_w2 hf_w2); have k0_w2 := fun o => hc_w2 (w.heap.size) o (by omega); have l0_w2 := fun o => hf_w2 (w.heap.size) o (by omega); have k1_w2 := fun o => hc_w2 (w.heap.size + 1) o (by omega); have l1_w2 := fun o => hf_w2 (w.heap.size + 1) o (by omega); clear hc_w2 hf_w2; have hW_w2 : Below w.heap.size w w2 := below_after (by go_grown) hB2)
    go_wp2_with fail
    refine bodyPost_ret (by simp [results, Tryd.results93, go_sem, k1_w2, k1_w1]; try rfl) rfl ?_
    exact ⟨rfl, by go_grown⟩
  · rw [show -min (max n 0) 128 = -128 by omega]
    go_enter Tryd.func93, Tryd.ntmps93
    go_wp2_with fail
    refine (shift_parts _ _ _).mono ?_
    rintro e w1 ⟨b, rfl, hb, h0, h1, hlt, hB⟩
    (obtain ⟨hc_w1, hf_w1⟩ := bcell hB; have hz_w1 := hB.size; (try simp only [World.size_alloc, World.size_setCell, World.size_drew] at hz_w1 hc_w1 hf_w1); have k0_w1 := fun o => hc_w1 (w.heap.size) o (by omega); have l0_w1 := fun o => hf_w1 (w.heap.size) o (by omega); have k1_w1 := fun o => hc_w1 (w.heap.size + 1) o (by omega); have l1_w1 := fun o => hf_w1 (w.heap.size + 1) o (by omega); clear hc_w1 hf_w1; have hW_w1 : Below w.heap.size w w1 := below_after (by go_grown) hB)
    go_wp2_with fail
    refine (moved2 b _ _ _ _ _ h0 h1).mono ?_
    rintro e w2 ⟨rfl, hB2⟩
    (obtain ⟨hc_w2, hf_w2⟩ := bcell hB2; have hz_w2 := hB2.size; (try simp only [World.size_alloc, World.size_setCell, World.size_drew] at hz_w2 hc_w2 hf_w2); have k0_w2 := fun o => hc_w2 (w.heap.size) o (by omega); have l0_w2 := fun o => hf_w2 (w.heap.size) o (by omega); have k1_w2 := fun o => hc_w2 (w.heap.size + 1) o (by omega); have l1_w2 := fun o => hf_w2 (w.heap.size + 1) o (by omega); clear hc_w2 hf_w2; have hW_w2 : Below w.heap.size w w2 := below_after (by go_grown) hB2)
    go_wp2_with fail
    refine bodyPost_ret (by simp [results, Tryd.results93, go_sem, k1_w2, k1_w1]; try rfl) rfl ?_
    exact ⟨rfl, by go_grown⟩
set_option maxRecDepth 100000 in
set_option maxHeartbeats 1000000 in
theorem shift_WideLeft (x0 x1 x2 x3 n : Int) [U64 x0] [U64 x1] [U64 x2] [U64 x3] (w : World) :
    Calls Tryd.prog 92 #[.agg #[.int .u64 (x0), .int .u64 (x1), .int .u64 (x2), .int .u64 (x3)], .int .i64 n] w fun e w' => e = .returned (.agg #[.int .u64 (lo (lsh (cat4 x0 x1 x2 x3) n)), .int .u64 (w1 (lsh (cat4 x0 x1 x2 x3) n)), .int .u64 (w2 (lsh (cat4 x0 x1 x2 x3) n)), .int .u64 (w3 (lsh (cat4 x0 x1 x2 x3) n))]) ∧ Below w.heap.size w w' := by
  rw [← shI_lsh]
  by_cases hn : n < 0
  · rw [show max n 0 = 0 by omega]
    go_enter Tryd.func92, Tryd.ntmps92
    go_wp2_with fail
    refine (moved4 w.heap.size _ x0 x1 x2 x3 _ _ (by go_simp) (by go_simp) (by go_simp) (by go_simp)).mono ?_
    rintro e w1 ⟨rfl, hB⟩
    (obtain ⟨hc_w1, hf_w1⟩ := bcell hB; have hz_w1 := hB.size; (try simp only [World.size_alloc, World.size_setCell, World.size_drew] at hz_w1 hc_w1 hf_w1); have k0_w1 := fun o => hc_w1 (w.heap.size) o (by omega); have l0_w1 := fun o => hf_w1 (w.heap.size) o (by omega); have k1_w1 := fun o => hc_w1 (w.heap.size + 1) o (by omega); have l1_w1 := fun o => hf_w1 (w.heap.size + 1) o (by omega); clear hc_w1 hf_w1; have hW_w1 : Below w.heap.size w w1 := below_after (by go_grown) hB)
    go_wp2_with fail
    refine bodyPost_ret (by simp [results, Tryd.results92, go_sem, k1_w1]; try rfl) rfl ?_
    exact ⟨rfl, by go_grown⟩
  · rw [show max n 0 = n by omega]
    go_enter Tryd.func92, Tryd.ntmps92
    go_wp2_with fail
    refine (moved4 w.heap.size _ x0 x1 x2 x3 _ _ (by go_simp) (by go_simp) (by go_simp) (by go_simp)).mono ?_
    rintro e w1 ⟨rfl, hB⟩
    (obtain ⟨hc_w1, hf_w1⟩ := bcell hB; have hz_w1 := hB.size; (try simp only [World.size_alloc, World.size_setCell, World.size_drew] at hz_w1 hc_w1 hf_w1); have k0_w1 := fun o => hc_w1 (w.heap.size) o (by omega); have l0_w1 := fun o => hf_w1 (w.heap.size) o (by omega); have k1_w1 := fun o => hc_w1 (w.heap.size + 1) o (by omega); have l1_w1 := fun o => hf_w1 (w.heap.size + 1) o (by omega); clear hc_w1 hf_w1; have hW_w1 : Below w.heap.size w w1 := below_after (by go_grown) hB)
    go_wp2_with fail
    refine bodyPost_ret (by simp [results, Tryd.results92, go_sem, k1_w1]; try rfl) rfl ?_
    exact ⟨rfl, by go_grown⟩
set_option maxRecDepth 100000 in
set_option maxHeartbeats 1000000 in
theorem shift_WideRight (x0 x1 x2 x3 n : Int) [U64 x0] [U64 x1] [U64 x2] [U64 x3] (w : World) :
    Calls Tryd.prog 49 #[.agg #[.int .u64 (x0), .int .u64 (x1), .int .u64 (x2), .int .u64 (x3)], .int .i64 n] w fun e w' => e = .returned (.agg #[.int .u64 (lo (rsh (cat4 x0 x1 x2 x3) n)), .int .u64 (w1 (rsh (cat4 x0 x1 x2 x3) n)), .int .u64 (w2 (rsh (cat4 x0 x1 x2 x3) n)), .int .u64 (w3 (rsh (cat4 x0 x1 x2 x3) n))]) ∧ Below w.heap.size w w' := by
  have hsp := Lib.hid (shI_rsh (cat4 x0 x1 x2 x3) n 256 (by omega) (cat4_lt x0 x1 x2 x3))
  rw [← hsp.out]
  clear hsp
  have : n < 0 ∨ n = 0 ∨ (0 < n ∧ n < 256) ∨ n = 256 ∨ 256 < n := by omega
  rcases this with hn | rfl | ⟨hn1, hn2⟩ | rfl | hn
  · rw [show -min (max n 0) (256 : Int) = 0 by omega]
    go_enter Tryd.func49, Tryd.ntmps49
    go_wp2_with fail
    refine (moved4 w.heap.size _ x0 x1 x2 x3 _ _ (by go_simp) (by go_simp) (by go_simp) (by go_simp)).mono ?_
    rintro e w1 ⟨rfl, hB⟩
    (obtain ⟨hc_w1, hf_w1⟩ := bcell hB; have hz_w1 := hB.size; (try simp only [World.size_alloc, World.size_setCell, World.size_drew] at hz_w1 hc_w1 hf_w1); have k0_w1 := fun o => hc_w1 (w.heap.size) o (by omega); have l0_w1 := fun o => hf_w1 (w.heap.size) o (by omega); have k1_w1 := fun o => hc_w1 (w.heap.size + 1) o (by omega); have l1_w1 := fun o => hf_w1 (w.heap.size + 1) o (by omega); clear hc_w1 hf_w1; have hW_w1 : Below w.heap.size w w1 := below_after (by go_grown) hB)
    go_wp2_with fail
    refine bodyPost_ret (by simp [results, Tryd.results49, go_sem, k1_w1]; try rfl) rfl ?_
    exact ⟨rfl, by go_grown⟩
  · rw [show -min (max 0 0) (256 : Int) = 0 by omega]
    go_enter Tryd.func49, Tryd.ntmps49
    go_wp2_with fail
    refine (moved4 w.heap.size _ x0 x1 x2 x3 _ _ (by go_simp) (by go_simp) (by go_simp) (by go_simp)).mono ?_
    rintro e w1 ⟨rfl, hB⟩
    (obtain ⟨hc_w1, hf_w1⟩ := bcell hB; have hz_w1 := hB.size; (try simp only [World.size_alloc, World.size_setCell, World.size_drew] at hz_w1 hc_w1 hf_w1); have k0_w1 := fun o => hc_w1 (w.heap.size) o (by omega); have l0_w1 := fun o => hf_w1 (w.heap.size) o (by omega); have k1_w1 := fun o => hc_w1 (w.heap.size + 1) o (by omega); have l1_w1 := fun o => hf_w1 (w.heap.size + 1) o (by omega); clear hc_w1 hf_w1; have hW_w1 : Below w.heap.size w w1 := below_after (by go_grown) hB)
    go_wp2_with fail
    refine bodyPost_ret (by simp [results, Tryd.results49, go_sem, k1_w1]; try rfl) rfl ?_
    exact ⟨rfl, by go_grown⟩
  · rw [show -min (max n 0) (256 : Int) = -n by omega]
    go_enter Tryd.func49, Tryd.ntmps49
    go_wp2_with fail
    refine (moved4 w.heap.size _ x0 x1 x2 x3 _ _ (by go_simp) (by go_simp) (by go_simp) (by go_simp)).mono ?_
    rintro e w1 ⟨rfl, hB⟩
    (obtain ⟨hc_w1, hf_w1⟩ := bcell hB; have hz_w1 := hB.size; (try simp only [World.size_alloc, World.size_setCell, World.size_drew] at hz_w1 hc_w1 hf_w1); have k0_w1 := fun o => hc_w1 (w.heap.size) o (by omega); have l0_w1 := fun o => hf_w1 (w.heap.size) o (by omega); have k1_w1 := fun o => hc_w1 (w.heap.size + 1) o (by omega); have l1_w1 := fun o => hf_w1 (w.heap.size + 1) o (by omega); clear hc_w1 hf_w1; have hW_w1 : Below w.heap.size w w1 := below_after (by go_grown) hB)
    go_wp2_with fail
    refine bodyPost_ret (by simp [results, Tryd.results49, go_sem, k1_w1]; try rfl) rfl ?_
    exact ⟨rfl, by go_grown⟩
  · rw [show -min (max 256 0) (256 : Int) = -256 by omega]
    go_enter Tryd.func49, Tryd.ntmps49
    go_wp2_with fail
    refine (moved4 w.heap.size _ x0 x1 x2 x3 _ _ (by go_simp) (by go_simp) (by go_simp) (by go_simp)).mono ?_
    rintro e w1 ⟨rfl, hB⟩
    (obtain ⟨hc_w1, hf_w1⟩ := bcell hB; have hz_w1 := hB.size; (try simp only [World.size_alloc, World.size_setCell, World.size_drew] at hz_w1 hc_w1 hf_w1); have k0_w1 := fun o => hc_w1 (w.heap.size) o (by omega); have l0_w1 := fun o => hf_w1 (w.heap.size) o (by omega); have k1_w1 := fun o => hc_w1 (w.heap.size + 1) o (by omega); have l1_w1 := fun o => hf_w1 (w.heap.size + 1) o (by omega); clear hc_w1 hf_w1; have hW_w1 : Below w.heap.size w w1 := below_after (by go_grown) hB)
    go_wp2_with fail
    refine bodyPost_ret (by simp [results, Tryd.results49, go_sem, k1_w1]; try rfl) rfl ?_
    exact ⟨rfl, by go_grown⟩
  · rw [show -min (max n 0) (256 : Int) = -256 by omega]
    go_enter Tryd.func49, Tryd.ntmps49
    go_wp2_with fail
    refine (moved4 w.heap.size _ x0 x1 x2 x3 _ _ (by go_simp) (by go_simp) (by go_simp) (by go_simp)).mono ?_
    rintro e w1 ⟨rfl, hB⟩
    (obtain ⟨hc_w1, hf_w1⟩ := bcell hB; have hz_w1 := hB.size; (try simp only [World.size_alloc, World.size_setCell, World.size_drew] at hz_w1 hc_w1 hf_w1); have k0_w1 := fun o => hc_w1 (w.heap.size) o (by omega); have l0_w1 := fun o => hf_w1 (w.heap.size) o (by omega); have k1_w1 := fun o => hc_w1 (w.heap.size + 1) o (by omega); have l1_w1 := fun o => hf_w1 (w.heap.size + 1) o (by omega); clear hc_w1 hf_w1; have hW_w1 : Below w.heap.size w w1 := below_after (by go_grown) hB)
    go_wp2_with fail
    refine bodyPost_ret (by simp [results, Tryd.results49, go_sem, k1_w1]; try rfl) rfl ?_
    exact ⟨rfl, by go_grown⟩
end Go.Proofs.YtgdbdbjegiaifaaDoor
