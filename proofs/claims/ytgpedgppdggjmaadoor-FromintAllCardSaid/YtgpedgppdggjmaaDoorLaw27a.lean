/- The walk of FromintAll: for every input. Condition: the listed table is laid. -/
import Derived.Test.YtgpedgppdggjmaaDoorLaw16r
import Derived.Test.YtgpedgppdggjmaaDoorCodes4
import Derived.Test.YtgpedgppdggjmaaDoorFromint
set_option linter.unusedSimpArgs false
set_option linter.unusedVariables false
namespace Go.Proofs.YtgpedgppdggjmaaDoor
open Go.RowKit Go.Hb
theorem cat4_one (n : Int) (h : 0 ≤ n) : cat4 n 0 0 0 = n.toNat := by
  unfold cat4; simp
def GivesNB (n : Nat) (b : Bool) (e : Ending) (w : World) : Prop := ∃ u, e = .returned (.tuple #[u, .bool b]) ∧ RN w u n
theorem size_nat (k b : Int) [hb : U64 b] :
    (k = 0 → negK k b = true → (sizeK k b).toNat = 2 ^ 32 - b.toNat % 2 ^ 32) ∧ (k = 0 → negK k b = false → (sizeK k b).toNat = b.toNat % 2 ^ 32) ∧ (k = 0 → (b.toNat % 2 ^ 32).testBit 31 = negK k b) ∧
    (k = 1 → negK k b = false ∧ (sizeK k b).toNat = b.toNat % 2 ^ 32) ∧
    (k = 2 → negK k b = true → (sizeK k b).toNat = 2 ^ 64 - b.toNat % 2 ^ 64) ∧ (k = 2 → negK k b = false → (sizeK k b).toNat = b.toNat % 2 ^ 64) ∧ (k = 2 → (b.toNat % 2 ^ 64).testBit 63 = negK k b) ∧
    (k ≠ 0 → k ≠ 1 → k ≠ 2 → negK k b = false ∧ (sizeK k b).toNat = b.toNat % 2 ^ 64) := by
  have h0 := hb.ge
  have h1 := hb.lt
  refine ⟨?_, ?_, ?_, ?_, ?_, ?_, ?_, ?_⟩
  · rintro rfl hn
    unfold sizeK; rw [if_pos hn]
    unfold negK kindV at hn
    unfold kindV
    simp at hn ⊢
    split at hn <;> (split <;> omega)
  · rintro rfl hn
    unfold sizeK; rw [if_neg (by rw [hn]; decide)]
    unfold negK kindV at hn
    unfold kindV
    simp at hn ⊢
    split at hn <;> (split <;> omega)
  · rintro rfl
    unfold negK kindV
    rw [bit_div]
    simp
    split <;> omega
  · rintro rfl
    have hn : negK 1 b = false := by unfold negK; simp
    refine ⟨hn, ?_⟩
    unfold sizeK; rw [if_neg (by rw [hn]; decide)]
    unfold kindV; simp; omega
  · rintro rfl hn
    unfold sizeK; rw [if_pos hn]
    unfold kindV; simp; omega
  · rintro rfl hn
    unfold sizeK; rw [if_neg (by rw [hn]; decide)]
    unfold kindV; simp; omega
  · rintro rfl
    unfold negK kindV
    rw [bit_div]
    simp
    omega
  · intro k0 k1 k2
    have hn : negK k b = false := by unfold negK; simp [k0, k2]
    refine ⟨hn, ?_⟩
    unfold sizeK; rw [if_neg (by rw [hn]; decide)]
    unfold kindV; simp [k0, k1]; omega
set_option maxRecDepth 100000 in
set_option maxHeartbeats 4000000 in
theorem of_0_p (b : Int) (n : Nat) [hb : U64 b] (w : World) [hLay : Laid w] (ht : (b.toNat % 2 ^ 32).testBit 31 = false) (hn : b.toNat % 2 ^ 32 = n) :
    Calls Tryd.prog 25 #[.int .u8 0, .int .u64 b] w fun en w' => GivesNB n false en w' ∧ Below w.heap.size w w' := by
  have lb : dl b.toNat ≤ 100000 := dl_of _ 64 (by have := hb.lt; omega) (by omega)
  have lc : dl (b.toNat % 2 ^ 32) ≤ 100000 := Nat.le_trans (dl_mono (Nat.mod_le _ _)) lb
  go_enter Tryd.func25, Tryd.ntmps25
  skip
  (go_wp2_with fail; refine (num_Of b _).mono ?_; rintro en v1 ⟨⟨u1, rfl, hR_u1⟩, hB_v1⟩; have lay_v1 := laid_after hB_v1; have hs_v1 := hB_v1.size; (try simp only [World.size_alloc, World.size_setCell, World.size_drew] at hs_v1); have hBW : Below w.heap.size w v1 := below_after (w := w) (by go_grown) hB_v1; clear hB_v1)
  (go_wp2_with fail; refine (num_Cut_at b.toNat 32 _ u1 _ rfl hR_u1 lb (by omega)).mono ?_; rintro en v2 ⟨⟨u2, rfl, hR_u2⟩, hB_v2⟩; have lay_v2 := laid_after hB_v2; replace hR_u1 := RN.later hR_u1 (below_after (by go_grown) hB_v2); have hs_v2 := hB_v2.size; (try simp only [World.size_alloc, World.size_setCell, World.size_drew] at hs_v2); replace hBW : Below w.heap.size w v2 := below_after (w := w) (by go_grown) hB_v2; clear hB_v2)
  (go_wp2_with fail; refine (num_Bit_at _ 31 _ u2 _ rfl hR_u2 (by omega)).mono ?_; rw [ht]; rintro en _ ⟨rfl, rfl⟩)
  go_wp2_with fail
  go_returns
  exact ⟨⟨_, rfl, hn ▸ hR_u2⟩, by go_grown⟩
set_option maxRecDepth 100000 in
set_option maxHeartbeats 4000000 in
theorem of_0_n (b : Int) (n : Nat) [hb : U64 b] (w : World) [hLay : Laid w] (ht : (b.toNat % 2 ^ 32).testBit 31 = true) (hn : 2 ^ 32 - b.toNat % 2 ^ 32 = n) :
    Calls Tryd.prog 25 #[.int .u8 0, .int .u64 b] w fun en w' => GivesNB n true en w' ∧ Below w.heap.size w w' := by
  have lb : dl b.toNat ≤ 100000 := dl_of _ 64 (by have := hb.lt; omega) (by omega)
  have lc : dl (b.toNat % 2 ^ 32) ≤ 100000 := Nat.le_trans (dl_mono (Nat.mod_le _ _)) lb
  go_enter Tryd.func25, Tryd.ntmps25
  skip
  (go_wp2_with fail; refine (num_Of b _).mono ?_; rintro en v1 ⟨⟨u1, rfl, hR_u1⟩, hB_v1⟩; have lay_v1 := laid_after hB_v1; have hs_v1 := hB_v1.size; (try simp only [World.size_alloc, World.size_setCell, World.size_drew] at hs_v1); have hBW : Below w.heap.size w v1 := below_after (w := w) (by go_grown) hB_v1; clear hB_v1)
  (go_wp2_with fail; refine (num_Cut_at b.toNat 32 _ u1 _ rfl hR_u1 lb (by omega)).mono ?_; rintro en v2 ⟨⟨u2, rfl, hR_u2⟩, hB_v2⟩; have lay_v2 := laid_after hB_v2; replace hR_u1 := RN.later hR_u1 (below_after (by go_grown) hB_v2); have hs_v2 := hB_v2.size; (try simp only [World.size_alloc, World.size_setCell, World.size_drew] at hs_v2); replace hBW : Below w.heap.size w v2 := below_after (w := w) (by go_grown) hB_v2; clear hB_v2)
  (go_wp2_with fail; refine (num_Bit_at _ 31 _ u2 _ rfl hR_u2 (by omega)).mono ?_; rw [ht]; rintro en _ ⟨rfl, rfl⟩)
  (go_wp2_with fail; refine (num_Full_at 32 _ _ rfl (by omega)).mono ?_; rintro en v3 ⟨⟨u3, rfl, hR_u3⟩, hB_v3⟩; have lay_v3 := laid_after hB_v3; replace hR_u1 := RN.later hR_u1 (below_after (by go_grown) hB_v3); replace hR_u2 := RN.later hR_u2 (below_after (by go_grown) hB_v3); have hs_v3 := hB_v3.size; (try simp only [World.size_alloc, World.size_setCell, World.size_drew] at hs_v3); replace hBW : Below w.heap.size w v3 := below_after (w := w) (by go_grown) hB_v3; clear hB_v3)
  (go_wp2_with fail; refine (num_Sub _ _ u3 u2 _ hR_u3 hR_u2 (dl_of _ 33 (by decide) (by omega)) (Nat.le_of_lt (Nat.mod_lt _ (by decide)))).mono ?_; rintro en v4 ⟨⟨u4, rfl, hR_u4⟩, hB_v4⟩; have lay_v4 := laid_after hB_v4; replace hR_u1 := RN.later hR_u1 (below_after (by go_grown) hB_v4); replace hR_u2 := RN.later hR_u2 (below_after (by go_grown) hB_v4); replace hR_u3 := RN.later hR_u3 (below_after (by go_grown) hB_v4); have hs_v4 := hB_v4.size; (try simp only [World.size_alloc, World.size_setCell, World.size_drew] at hs_v4); replace hBW : Below w.heap.size w v4 := below_after (w := w) (by go_grown) hB_v4; clear hB_v4)
  go_wp2_with fail
  go_returns
  exact ⟨⟨_, rfl, hn ▸ hR_u4⟩, by go_grown⟩
set_option maxRecDepth 100000 in
set_option maxHeartbeats 4000000 in
theorem of_2_p (b : Int) (n : Nat) [hb : U64 b] (w : World) [hLay : Laid w] (ht : (b.toNat % 2 ^ 64).testBit 63 = false) (hn : b.toNat % 2 ^ 64 = n) :
    Calls Tryd.prog 25 #[.int .u8 2, .int .u64 b] w fun en w' => GivesNB n false en w' ∧ Below w.heap.size w w' := by
  have lb : dl b.toNat ≤ 100000 := dl_of _ 64 (by have := hb.lt; omega) (by omega)
  have lc : dl (b.toNat % 2 ^ 64) ≤ 100000 := Nat.le_trans (dl_mono (Nat.mod_le _ _)) lb
  go_enter Tryd.func25, Tryd.ntmps25
  skip
  (go_wp2_with fail; refine (num_Of b _).mono ?_; rintro en v1 ⟨⟨u1, rfl, hR_u1⟩, hB_v1⟩; have lay_v1 := laid_after hB_v1; have hs_v1 := hB_v1.size; (try simp only [World.size_alloc, World.size_setCell, World.size_drew] at hs_v1); have hBW : Below w.heap.size w v1 := below_after (w := w) (by go_grown) hB_v1; clear hB_v1)
  (go_wp2_with fail; refine (num_Cut_at b.toNat 64 _ u1 _ rfl hR_u1 lb (by omega)).mono ?_; rintro en v2 ⟨⟨u2, rfl, hR_u2⟩, hB_v2⟩; have lay_v2 := laid_after hB_v2; replace hR_u1 := RN.later hR_u1 (below_after (by go_grown) hB_v2); have hs_v2 := hB_v2.size; (try simp only [World.size_alloc, World.size_setCell, World.size_drew] at hs_v2); replace hBW : Below w.heap.size w v2 := below_after (w := w) (by go_grown) hB_v2; clear hB_v2)
  (go_wp2_with fail; refine (num_Bit_at _ 63 _ u2 _ rfl hR_u2 (by omega)).mono ?_; rw [ht]; rintro en _ ⟨rfl, rfl⟩)
  go_wp2_with fail
  go_returns
  exact ⟨⟨_, rfl, hn ▸ hR_u2⟩, by go_grown⟩
set_option maxRecDepth 100000 in
set_option maxHeartbeats 4000000 in
theorem of_2_n (b : Int) (n : Nat) [hb : U64 b] (w : World) [hLay : Laid w] (ht : (b.toNat % 2 ^ 64).testBit 63 = true) (hn : 2 ^ 64 - b.toNat % 2 ^ 64 = n) :
    Calls Tryd.prog 25 #[.int .u8 2, .int .u64 b] w fun en w' => GivesNB n true en w' ∧ Below w.heap.size w w' := by
  have lb : dl b.toNat ≤ 100000 := dl_of _ 64 (by have := hb.lt; omega) (by omega)
  have lc : dl (b.toNat % 2 ^ 64) ≤ 100000 := Nat.le_trans (dl_mono (Nat.mod_le _ _)) lb
  go_enter Tryd.func25, Tryd.ntmps25
  skip
  (go_wp2_with fail; refine (num_Of b _).mono ?_; rintro en v1 ⟨⟨u1, rfl, hR_u1⟩, hB_v1⟩; have lay_v1 := laid_after hB_v1; have hs_v1 := hB_v1.size; (try simp only [World.size_alloc, World.size_setCell, World.size_drew] at hs_v1); have hBW : Below w.heap.size w v1 := below_after (w := w) (by go_grown) hB_v1; clear hB_v1)
  (go_wp2_with fail; refine (num_Cut_at b.toNat 64 _ u1 _ rfl hR_u1 lb (by omega)).mono ?_; rintro en v2 ⟨⟨u2, rfl, hR_u2⟩, hB_v2⟩; have lay_v2 := laid_after hB_v2; replace hR_u1 := RN.later hR_u1 (below_after (by go_grown) hB_v2); have hs_v2 := hB_v2.size; (try simp only [World.size_alloc, World.size_setCell, World.size_drew] at hs_v2); replace hBW : Below w.heap.size w v2 := below_after (w := w) (by go_grown) hB_v2; clear hB_v2)
  (go_wp2_with fail; refine (num_Bit_at _ 63 _ u2 _ rfl hR_u2 (by omega)).mono ?_; rw [ht]; rintro en _ ⟨rfl, rfl⟩)
  (go_wp2_with fail; refine (num_Full_at 64 _ _ rfl (by omega)).mono ?_; rintro en v3 ⟨⟨u3, rfl, hR_u3⟩, hB_v3⟩; have lay_v3 := laid_after hB_v3; replace hR_u1 := RN.later hR_u1 (below_after (by go_grown) hB_v3); replace hR_u2 := RN.later hR_u2 (below_after (by go_grown) hB_v3); have hs_v3 := hB_v3.size; (try simp only [World.size_alloc, World.size_setCell, World.size_drew] at hs_v3); replace hBW : Below w.heap.size w v3 := below_after (w := w) (by go_grown) hB_v3; clear hB_v3)
  (go_wp2_with fail; refine (num_Sub _ _ u3 u2 _ hR_u3 hR_u2 (dl_of _ 65 (by decide) (by omega)) (Nat.le_of_lt (Nat.mod_lt _ (by decide)))).mono ?_; rintro en v4 ⟨⟨u4, rfl, hR_u4⟩, hB_v4⟩; have lay_v4 := laid_after hB_v4; replace hR_u1 := RN.later hR_u1 (below_after (by go_grown) hB_v4); replace hR_u2 := RN.later hR_u2 (below_after (by go_grown) hB_v4); replace hR_u3 := RN.later hR_u3 (below_after (by go_grown) hB_v4); have hs_v4 := hB_v4.size; (try simp only [World.size_alloc, World.size_setCell, World.size_drew] at hs_v4); replace hBW : Below w.heap.size w v4 := below_after (w := w) (by go_grown) hB_v4; clear hB_v4)
  go_wp2_with fail
  go_returns
  exact ⟨⟨_, rfl, hn ▸ hR_u4⟩, by go_grown⟩
set_option maxRecDepth 100000 in
set_option maxHeartbeats 4000000 in
theorem of_1 (b : Int) (n : Nat) [hb : U64 b] (w : World) [hLay : Laid w] (hn : b.toNat % 2 ^ 32 = n) :
    Calls Tryd.prog 25 #[.int .u8 1, .int .u64 b] w fun en w' => GivesNB n false en w' ∧ Below w.heap.size w w' := by
  have lb : dl b.toNat ≤ 100000 := dl_of _ 64 (by have := hb.lt; omega) (by omega)
  have lc : dl (b.toNat % 2 ^ 32) ≤ 100000 := Nat.le_trans (dl_mono (Nat.mod_le _ _)) lb
  go_enter Tryd.func25, Tryd.ntmps25
  skip
  (go_wp2_with fail; refine (num_Of b _).mono ?_; rintro en v1 ⟨⟨u1, rfl, hR_u1⟩, hB_v1⟩; have lay_v1 := laid_after hB_v1; have hs_v1 := hB_v1.size; (try simp only [World.size_alloc, World.size_setCell, World.size_drew] at hs_v1); have hBW : Below w.heap.size w v1 := below_after (w := w) (by go_grown) hB_v1; clear hB_v1)
  (go_wp2_with fail; refine (num_Cut_at b.toNat 32 _ u1 _ rfl hR_u1 lb (by omega)).mono ?_; rintro en v2 ⟨⟨u2, rfl, hR_u2⟩, hB_v2⟩; have lay_v2 := laid_after hB_v2; replace hR_u1 := RN.later hR_u1 (below_after (by go_grown) hB_v2); have hs_v2 := hB_v2.size; (try simp only [World.size_alloc, World.size_setCell, World.size_drew] at hs_v2); replace hBW : Below w.heap.size w v2 := below_after (w := w) (by go_grown) hB_v2; clear hB_v2)
  go_wp2_with fail
  go_returns
  exact ⟨⟨_, rfl, hn ▸ hR_u2⟩, by go_grown⟩
set_option maxRecDepth 100000 in
set_option maxHeartbeats 4000000 in
theorem of_k (k b : Int) (n : Nat) [hb : U64 b] (w : World) [hLay : Laid w] [hK : U8 k] (k0 : (k == 0) = false) (k1 : (k == 1) = false) (k2 : (k == 2) = false) (hn : b.toNat % 2 ^ 64 = n) :
    Calls Tryd.prog 25 #[.int .u8 k, .int .u64 b] w fun en w' => GivesNB n false en w' ∧ Below w.heap.size w w' := by
  have lb : dl b.toNat ≤ 100000 := dl_of _ 64 (by have := hb.lt; omega) (by omega)
  have lc : dl (b.toNat % 2 ^ 64) ≤ 100000 := Nat.le_trans (dl_mono (Nat.mod_le _ _)) lb
  go_enter Tryd.func25, Tryd.ntmps25
  skip
  (go_wp2_with fail; refine (num_Of b _).mono ?_; rintro en v1 ⟨⟨u1, rfl, hR_u1⟩, hB_v1⟩; have lay_v1 := laid_after hB_v1; have hs_v1 := hB_v1.size; (try simp only [World.size_alloc, World.size_setCell, World.size_drew] at hs_v1); have hBW : Below w.heap.size w v1 := below_after (w := w) (by go_grown) hB_v1; clear hB_v1)
  (go_wp2_with fail; refine (num_Cut_at b.toNat 64 _ u1 _ rfl hR_u1 lb (by omega)).mono ?_; rintro en v2 ⟨⟨u2, rfl, hR_u2⟩, hB_v2⟩; have lay_v2 := laid_after hB_v2; replace hR_u1 := RN.later hR_u1 (below_after (by go_grown) hB_v2); have hs_v2 := hB_v2.size; (try simp only [World.size_alloc, World.size_setCell, World.size_drew] at hs_v2); replace hBW : Below w.heap.size w v2 := below_after (w := w) (by go_grown) hB_v2; clear hB_v2)
  go_wp2_with fail
  go_returns
  exact ⟨⟨_, rfl, hn ▸ hR_u2⟩, by go_grown⟩
theorem ref27_Of (k b : Int) [hK : U8 k] [hb : U64 b] (w : World) [hLay : Laid w] :
    Calls Tryd.prog 25 #[.int .u8 k, .int .u64 b] w fun en w' => GivesNB (sizeK k b).toNat (negK k b) en w' ∧ Below w.heap.size w w' := by
  obtain ⟨a1, a2, a3, a4, a5, a6, a7, a8⟩ := size_nat k b
  by_cases h0 : k = 0
  · cases hn : negK k b
    · subst h0
      exact of_0_p b _ w (by rw [a3 rfl, hn]) (a2 rfl hn).symm
    · subst h0
      exact of_0_n b _ w (by rw [a3 rfl, hn]) (a1 rfl hn).symm
  · by_cases h1 : k = 1
    · obtain ⟨g1, g2⟩ := a4 h1
      subst h1
      rw [g1]
      exact of_1 b _ w g2.symm
    · by_cases h2 : k = 2
      · cases hn : negK k b
        · subst h2
          exact of_2_p b _ w (by rw [a7 rfl, hn]) (a6 rfl hn).symm
        · subst h2
          exact of_2_n b _ w (by rw [a7 rfl, hn]) (a5 rfl hn).symm
      · obtain ⟨g1, g2⟩ := a8 h0 h1 h2
        rw [g1]
        exact of_k k b _ w (by rw [beq_eq_false_iff_ne]; exact h0) (by rw [beq_eq_false_iff_ne]; exact h1) (by rw [beq_eq_false_iff_ne]; exact h2) g2.symm
set_option maxRecDepth 100000 in
set_option maxHeartbeats 4000000 in
theorem ref26_Signed (n : Nat) (neg : Bool) (x : Int) (v : Value) (w : World) [hLay : Laid w] (hR_v : RN w v n) (hn : n ≤ 2 ^ 64) (hx : Hid (lo (if neg then 2 ^ 64 - n else n) = x)) :
    Calls Tryd.prog 26 #[v, .bool neg] w fun en w' => en = .returned (.int .u64 x) ∧ Below w.heap.size w w' := by
  cases neg
  · go_enter Tryd.func26, Tryd.ntmps26
    skip
    skip
    (go_wp2_with fail; refine (num_Bits n v _ hR_v).mono ?_; rw [show lo n = x from hx.out]; rintro en v1 ⟨rfl, hB_v1⟩; have lay_v1 := laid_after hB_v1; replace hR_v := RN.later hR_v (below_after (by go_grown) hB_v1); have hs_v1 := hB_v1.size; (try simp only [World.size_alloc, World.size_setCell, World.size_drew] at hs_v1); have hBW : Below w.heap.size w v1 := below_after (w := w) (by go_grown) hB_v1; clear hB_v1)
    go_wp2_with fail
    go_returns
    exact ⟨rfl, by go_grown⟩
  · go_enter Tryd.func26, Tryd.ntmps26
    skip
    skip
    (go_wp2_with fail; refine (num_Full_at 64 _ _ rfl (by omega)).mono ?_; rintro en v3 ⟨⟨u3, rfl, hR_u3⟩, hB_v3⟩; have lay_v3 := laid_after hB_v3; replace hR_v := RN.later hR_v (below_after (by go_grown) hB_v3); have hs_v3 := hB_v3.size; (try simp only [World.size_alloc, World.size_setCell, World.size_drew] at hs_v3); have hBW : Below w.heap.size w v3 := below_after (w := w) (by go_grown) hB_v3; clear hB_v3)
    (go_wp2_with fail; refine (num_Sub (2 ^ 64) n u3 v _ hR_u3 hR_v (dl_of _ 65 (by decide) (by omega)) hn).mono ?_; rintro en v4 ⟨⟨u4, rfl, hR_u4⟩, hB_v4⟩; have lay_v4 := laid_after hB_v4; replace hR_v := RN.later hR_v (below_after (by go_grown) hB_v4); replace hR_u3 := RN.later hR_u3 (below_after (by go_grown) hB_v4); have hs_v4 := hB_v4.size; (try simp only [World.size_alloc, World.size_setCell, World.size_drew] at hs_v4); replace hBW : Below w.heap.size w v4 := below_after (w := w) (by go_grown) hB_v4; clear hB_v4)
    (go_wp2_with fail; refine (num_Bits (2 ^ 64 - n) u4 _ hR_u4).mono ?_; rw [show lo (2 ^ 64 - n) = x from hx.out]; rintro en v1 ⟨rfl, hB_v1⟩; have lay_v1 := laid_after hB_v1; replace hR_v := RN.later hR_v (below_after (by go_grown) hB_v1); replace hR_u3 := RN.later hR_u3 (below_after (by go_grown) hB_v1); replace hR_u4 := RN.later hR_u4 (below_after (by go_grown) hB_v1); have hs_v1 := hB_v1.size; (try simp only [World.size_alloc, World.size_setCell, World.size_drew] at hs_v1); replace hBW : Below w.heap.size w v1 := below_after (w := w) (by go_grown) hB_v1; clear hB_v1)
    go_wp2_with fail
    go_returns
    exact ⟨rfl, by go_grown⟩
theorem size_less (k b : Int) [hb : U64 b] : (sizeK k b).toNat ≤ 2 ^ 64 ∧ lo (if negK k b then 2 ^ 64 - (sizeK k b).toNat else (sizeK k b).toNat) = kindV k b ∧ dl (sizeK k b).toNat ≤ 30000 := by
  have h2 := U64.ge (x := kindV k b)
  have h3 := U64.lt (x := kindV k b)
  have h4 := U64.ge (x := sizeK k b)
  have h5 := U64.lt (x := sizeK k b)
  refine ⟨by omega, ?_, Nat.le_trans (dl_le _ 2 (by omega)) (by omega)⟩
  unfold sizeK
  by_cases hn : negK k b = true
  · have hk : 9223372036854775808 ≤ kindV k b := by
      unfold negK at hn
      rw [Bool.and_eq_true] at hn
      exact of_decide_eq_true hn.2
    rw [if_pos hn, if_pos hn]
    unfold lo; omega
  · rw [if_neg hn, if_neg hn]
    unfold lo; omega
theorem from_ref (k f m b : Int) (aft : Bool) [hb : U64 b] (h0 : 0 ≤ f) (hk : k < 4) : refR f m (negK k b) (sizeK k b).toNat 0 = fromB k f m b ∧ refRF f m aft (negK k b) (sizeK k b).toNat 0 = fromFl k f m aft b := by
  have h4 := U64.ge (x := sizeK k b)
  have h5 := U64.lt (x := sizeK k b)
  have hw := cat4_one (sizeK k b) h4
  obtain ⟨k1, _, _, k4, _⟩ := kk_far 255
  have hE : (200 : Int) ≤ 0 + (255 + KK) := by unfold KK; omega
  have hf : farS 255 = 255 := by unfold farS; omega
  have hX : (sizeK k b).toNat * 2 ^ ((0 : Int) + (255 + KK)).toNat = numX KK 255 (cat4 (sizeK k b) 0 0 0) := by
    unfold numX
    rw [hw, hf, Int.zero_add]
  unfold fromB fromFl
  rw [if_pos hk, if_pos hk]
  exact ref_res f m 255 0 aft (negK k b) (sizeK k b).toNat (cat4 (sizeK k b) 0 0 0) h0 (by rw [two256]; exact cat4_lt _ _ _ _) (by rw [hw]) hE hX
set_option maxRecDepth 100000 in
set_option maxHeartbeats 4000000 in
theorem ref27_in (k f m b r0 r1 rf : Int) (aft : Bool) [hK : U8 k] [hU : U8 f] [hM : U8 m] [hb : U64 b] (w : World) [hLay : Laid w] (hk : k < 4) (hf : f < 4) (hm : m ≤ 4)
    (b0 : Hid (hi (refR f m (negK k b) (sizeK k b).toNat 0) = r0)) (b1 : Hid (lo (refR f m (negK k b) (sizeK k b).toNat 0) = r1)) (b2 : Hid (refRF f m aft (negK k b) (sizeK k b).toNat 0 = rf)) :
    Calls Tryd.prog 28 #[.int .u8 k, .int .u8 f, .agg #[.int .u8 m, .bool aft], .int .u64 b] w fun en w' => en = .returned (.agg #[.int .u64 r0, .int .u64 r1, .int .u8 rf]) ∧ Below w.heap.size w w' := by
  have q1 : decide (k > 3) = false := decide_eq_false (by omega)
  have q2 : decide (f > 3) = false := decide_eq_false (by omega)
  have q3 : decide (m > 4) = false := decide_eq_false (by omega)
  obtain ⟨_, _, lq⟩ := size_less k b
  clear hk hf hm
  go_enter Tryd.func28, Tryd.ntmps28
  skip
  (go_wp2_with fail; refine (ref27_Of k b _).mono ?_; rintro en v1 ⟨⟨u1, rfl, hR_u1⟩, hB_v1⟩; have lay_v1 := laid_after hB_v1; have cc1 := cl hB_v1 (show World.cell? _ ⟨w.heap.size, 0, none⟩ = some (.int .u8 m) by go_simp); have cc2 := cl hB_v1 (show World.cell? _ ⟨w.heap.size, 1, none⟩ = some (.bool aft) by go_simp); obtain ⟨cc3, fcc3⟩ := pf hB_v1 (show World.cell? _ ⟨w.heap.size + 1, 0, none⟩ = some (.int .u64 0) by go_simp) (by go_simp); obtain ⟨cc4, fcc4⟩ := pf hB_v1 (show World.cell? _ ⟨w.heap.size + 1, 1, none⟩ = some (.int .u64 0) by go_simp) (by go_simp); obtain ⟨cc5, fcc5⟩ := pf hB_v1 (show World.cell? _ ⟨w.heap.size + 1, 2, none⟩ = some (.int .u8 0) by go_simp) (by go_simp); have hs_v1 := hB_v1.size; (try simp only [World.size_alloc, World.size_setCell, World.size_drew] at hs_v1); have hBW : Below w.heap.size w v1 := below_after (w := w) (by go_grown) hB_v1; have hn_v1 := an (nl cc1) (nl cc3); clear hB_v1)
  obtain ⟨qu, cu, rfl, _, _⟩ := id hR_u1
  (go_wp2_with fail; refine (ref_Round f m 0 aft (negK k b) _ _ _ hR_u1 lq (by omega) (by omega)).mono ?_; rw [b0.out, b1.out, b2.out]; rintro en v2 ⟨rfl, hB_v2⟩; have lay_v2 := laid_after hB_v2; replace hR_u1 := RN.later hR_u1 (below_after (by go_grown) hB_v2); have hG := cell_grown cc1 (by go_grown) hB_v2; replace cc1 := cl hG cc1; replace cc2 := cl hG cc2; replace fcc3 := fl hG fcc3 cc3; replace cc3 := cl hG cc3; replace fcc4 := fl hG fcc4 cc4; replace cc4 := cl hG cc4; replace fcc5 := fl hG fcc5 cc5; replace cc5 := cl hG cc5; have hs_v2 := hG.size; clear hG; replace hBW : Below w.heap.size w v2 := below_after (w := w) (by go_grown) hB_v2; have hn_v2 := an (nl cc1) (nl cc3); clear hB_v2)
  go_wp2_with fail
  refine bodyPost_ret (by simp [results, Tryd.results28, go_sem, cc3, cc4, cc5]; try rfl) rfl ?_
  exact ⟨rfl, by go_grown⟩
set_option maxRecDepth 100000 in
set_option maxHeartbeats 4000000 in
theorem ref27_none (k f m b : Int) (aft : Bool) [hK : U8 k] [hU : U8 f] [hM : U8 m] (w : World) (h : decide (k > 3) = true ∨ (decide (k > 3) = false ∧ decide (f > 3) = true) ∨ (decide (k > 3) = false ∧ decide (f > 3) = false ∧ decide (m > 4) = true)) :
    Calls Tryd.prog 28 #[.int .u8 k, .int .u8 f, .agg #[.int .u8 m, .bool aft], .int .u64 b] w fun en w' => en = .returned (.agg #[.int .u64 0, .int .u64 0, .int .u8 0]) ∧ Below w.heap.size w w' := by
  rcases h with q1 | ⟨q1, q2⟩ | ⟨q1, q2, q3⟩
  all_goals (
    go_enter Tryd.func28, Tryd.ntmps28
    go_wp2_with fail
    refine bodyPost_ret (by simp [results, Tryd.results28, go_sem]; try rfl) rfl ?_
    exact ⟨rfl, by go_grown⟩)
theorem ref27_From (k f m b : Int) (aft : Bool) [hK : U8 k] [hU : U8 f] [hM : U8 m] [hb : U64 b] (w : World) [hLay : Laid w] :
    Calls Tryd.prog 28 #[.int .u8 k, .int .u8 f, .agg #[.int .u8 m, .bool aft], .int .u64 b] w fun en w' => en = .returned (.agg #[.int .u64 (hi (fromB k f m b)), .int .u64 (lo (fromB k f m b)), .int .u8 (fromFl k f m aft b)]) ∧ Below w.heap.size w w' := by
  by_cases hk : k < 4
  · obtain ⟨h1, h2⟩ := from_ref k f m b aft hU.ge hk
    by_cases hfm : f < 4 ∧ m ≤ 4
    · rw [← h1, ← h2]
      exact ref27_in k f m b _ _ _ aft w hk hfm.1 hfm.2 rfl rfl rfl
    · have e1 : fromB k f m b = 0 := by unfold fromB; rw [if_pos hk, res_none _ _ _ _ _ hfm]
      have e2 : fromFl k f m aft b = 0 := by unfold fromFl; rw [if_pos hk, resFl_none _ _ _ _ _ _ hfm]
      rw [e1, e2]
      refine ref27_none k f m b aft w (Or.inr ?_)
      by_cases hf : f < 4
      · exact Or.inr ⟨decide_eq_false (by omega), decide_eq_false (by omega), decide_eq_true (by omega)⟩
      · exact Or.inl ⟨decide_eq_false (by omega), decide_eq_true (by omega)⟩
  · have e1 : fromB k f m b = 0 := by unfold fromB; rw [if_neg hk]
    have e2 : fromFl k f m aft b = 0 := by unfold fromFl; rw [if_neg hk]
    rw [e1, e2]
    exact ref27_none k f m b aft w (Or.inl (decide_eq_true (by omega)))
set_option maxRecDepth 100000 in
set_option maxHeartbeats 4000000 in
theorem all27_walk (k f m b r0 r1 rf kv : Int) (aft has : Bool) [hK : U8 k] [hU : U8 f] [hM : U8 m] [hb : U64 b] (w : World) [hLay : Laid w]
    (b0 : Hid (hi (fromB k f m b) = r0)) (b1 : Hid (lo (fromB k f m b) = r1)) (b2 : Hid (fromFl k f m aft b = rf)) (b3 : Hid (hasB k b = has)) (b4 : Hid (lo (if negK k b then 2 ^ 64 - (sizeK k b).toNat else (sizeK k b).toNat) = kv)) (hsz : (sizeK k b).toNat ≤ 2 ^ 64)
    (hq : (decide (k < 4) = true ∧ (kv == b) = has) ∨ (decide (k < 4) = false ∧ has = false)) :
    Calls Tryd.prog 6 #[.int .u8 k, .int .u8 f, .agg #[.int .u8 m, .bool aft], .int .u64 b] w fun en w' => en = .returned (.bool true) ∧ Below w.heap.size w w' := by
  have he := fun W => eql_res_same W r0 r1 rf
  rcases hq with ⟨q1, q2⟩ | ⟨q1, rfl⟩
  · go_enter Tryd.func6, Tryd.ntmps6
    skip
    (go_wp2_with fail; refine (ref27_Of k b _).mono ?_; rintro en v1 ⟨⟨u1, rfl, hR_u1⟩, hB_v1⟩; have lay_v1 := laid_after hB_v1; have cc1 := cl hB_v1 (show World.cell? _ ⟨w.heap.size, 0, none⟩ = some (.int .u8 m) by go_simp); have cc2 := cl hB_v1 (show World.cell? _ ⟨w.heap.size, 1, none⟩ = some (.bool aft) by go_simp); have hs_v1 := hB_v1.size; (try simp only [World.size_alloc, World.size_setCell, World.size_drew] at hs_v1); have hBW : Below w.heap.size w v1 := below_after (w := w) (by go_grown) hB_v1; have hn_v1 := nl cc1; clear hB_v1)
    (go_wp2_with fail; refine (ref26_Signed _ (negK k b) kv u1 _ hR_u1 hsz b4).mono ?_; rintro en v2 ⟨rfl, hB_v2⟩; have lay_v2 := laid_after hB_v2; replace hR_u1 := RN.later hR_u1 (below_after (by go_grown) hB_v2); have hG := cell_grown cc1 (by go_grown) hB_v2; replace cc1 := cl hG cc1; replace cc2 := cl hG cc2; have hs_v2 := hG.size; clear hG; replace hBW : Below w.heap.size w v2 := below_after (w := w) (by go_grown) hB_v2; have hn_v2 := nl cc1; clear hB_v2)
    clear hR_u1
    go_upto_region 3 with fail
    ((first | refine wp_rename ?_ | refine goal_rename ?_); intro W3 hw_W3; have hG := named cc1 W3 (by rw [hw_W3]; first | with_reducible exact drewN_below (Below.refl _ _) _ | go_grown); replace cc1 := cl hG cc1; replace cc2 := cl hG cc2; replace hBW := below_after hBW hG; have hs_W3 := hG.size; clear hG; have hn_W3 := nl cc1; have lay_W3 : Laid W3 := Laid.below (w := w) (by assumption) hBW; clear hw_W3)
    refine Lin.wp_region_lin (by kernel_rfl) (by intro _ _ d _ _ h; cases d <;> exact h) (by kernel_rfl) (fun w' => Below W3.heap.size W3 w' ∧ w'.cell? ⟨w.heap.size, 0, none⟩ = some (.int .u8 m) ∧ w'.cell? ⟨w.heap.size, 1, none⟩ = some (.bool aft)) ⟨(Below.refl _ _).drew, by go_simp, by go_simp⟩ ?_
    simp only [List.length_cons, List.length_nil, Nat.reduceAdd]
    refine Lin.Blk.out ?_
    iterate 4 (refine Lin.bl_val rfl rfl rfl ?_; apply Exists.intro; refine ⟨fun w' hw' => ?_, ?_⟩; (focus (have hBw := hw'.1; have hSw := hw'.2; clear hw'; (try dsimp only at hBw hSw); go_simp; first | with_reducible exact Lin.lin_value | with_reducible exact Lin.lin_skip)); (try simp only [Act.put, List.setIfInBounds_toArray, List.set_cons_zero, List.set_cons_succ]))
    (refine Lin.bl_val rfl rfl rfl ?_; apply Exists.intro; refine ⟨fun w' hw' => ?_, ?_⟩; (focus (have hBw := hw'.1; have hSw := hw'.2; clear hw'; (try dsimp only at hBw hSw); have lay' : Laid w' := Laid.below lay_W3 hBw; go_simp; first | exact Lin.lin_ret (fromint_From k f m b aft _) (by rw [b0.out, b1.out, b2.out]) | exact Lin.lin_ret (ref27_From k f m b aft _) (by rw [b0.out, b1.out, b2.out]) | exact Lin.lin_ret (fromint_Has k b _) (by rw [b3.out]) | exact Lin.lin_ret (law27_goes _) rfl)); (try simp only [Act.put, List.setIfInBounds_toArray, List.set_cons_zero, List.set_cons_succ]))
    iterate 4 (refine Lin.bl_val rfl rfl rfl ?_; apply Exists.intro; refine ⟨fun w' hw' => ?_, ?_⟩; (focus (have hBw := hw'.1; have hSw := hw'.2; clear hw'; (try dsimp only at hBw hSw); go_simp; first | with_reducible exact Lin.lin_value | with_reducible exact Lin.lin_skip)); (try simp only [Act.put, List.setIfInBounds_toArray, List.set_cons_zero, List.set_cons_succ]))
    (refine Lin.bl_val rfl rfl rfl ?_; apply Exists.intro; refine ⟨fun w' hw' => ?_, ?_⟩; (focus (have hBw := hw'.1; have hSw := hw'.2; clear hw'; (try dsimp only at hBw hSw); have lay' : Laid w' := Laid.below lay_W3 hBw; go_simp; first | exact Lin.lin_ret (fromint_From k f m b aft _) (by rw [b0.out, b1.out, b2.out]) | exact Lin.lin_ret (ref27_From k f m b aft _) (by rw [b0.out, b1.out, b2.out]) | exact Lin.lin_ret (fromint_Has k b _) (by rw [b3.out]) | exact Lin.lin_ret (law27_goes _) rfl)); (try simp only [Act.put, List.setIfInBounds_toArray, List.set_cons_zero, List.set_cons_succ]))
    iterate 2 (refine Lin.bl_val rfl rfl rfl ?_; apply Exists.intro; refine ⟨fun w' hw' => ?_, ?_⟩; (focus (have hBw := hw'.1; have hSw := hw'.2; clear hw'; (try dsimp only at hBw hSw); go_simp; first | with_reducible exact Lin.lin_value | with_reducible exact Lin.lin_skip)); (try simp only [Act.put, List.setIfInBounds_toArray, List.set_cons_zero, List.set_cons_succ]))
    iterate 2 (refine Lin.bl_val rfl rfl (by kernel_rfl) ?_; apply Exists.intro; refine ⟨fun w' hw' => ?_, ?_⟩; (focus (have hBw := hw'.1; have hSw := hw'.2; clear hw'; (try dsimp only at hBw hSw); go_simp; first | with_reducible exact Lin.lin_value | with_reducible exact Lin.lin_skip)); (try simp only [Act.put, List.setIfInBounds_toArray, List.set_cons_zero, List.set_cons_succ]))
    (refine Lin.bl_val rfl rfl (by kernel_rfl) ?_; apply Exists.intro; refine ⟨fun w' hw' => ?_, ?_⟩; (focus (have hBw := hw'.1; have hSw := hw'.2; clear hw'; (try dsimp only at hBw hSw); have lay' : Laid w' := Laid.below lay_W3 hBw; go_simp; first | exact Lin.lin_ret (fromint_From k f m b aft _) (by rw [b0.out, b1.out, b2.out]) | exact Lin.lin_ret (ref27_From k f m b aft _) (by rw [b0.out, b1.out, b2.out]) | exact Lin.lin_ret (fromint_Has k b _) (by rw [b3.out]) | exact Lin.lin_ret (law27_goes _) rfl)); (try simp only [Act.put, List.setIfInBounds_toArray, List.set_cons_zero, List.set_cons_succ]))
    iterate 2 (refine Lin.bl_val rfl rfl (by kernel_rfl) ?_; apply Exists.intro; refine ⟨fun w' hw' => ?_, ?_⟩; (focus (have hBw := hw'.1; have hSw := hw'.2; clear hw'; (try dsimp only at hBw hSw); go_simp; first | with_reducible exact Lin.lin_value | with_reducible exact Lin.lin_skip)); (try simp only [Act.put, List.setIfInBounds_toArray, List.set_cons_zero, List.set_cons_succ]))
    iterate 2 (refine Lin.bl_val rfl rfl rfl ?_; apply Exists.intro; refine ⟨fun w' hw' => ?_, ?_⟩; (focus (have hBw := hw'.1; have hSw := hw'.2; clear hw'; (try dsimp only at hBw hSw); go_simp; first | with_reducible exact Lin.lin_value | with_reducible exact Lin.lin_skip)); (try simp only [Act.put, List.setIfInBounds_toArray, List.set_cons_zero, List.set_cons_succ]))
    (refine Lin.bl_val rfl rfl (by kernel_rfl) ?_; apply Exists.intro; refine ⟨fun w' hw' => ?_, ?_⟩; (focus (have hBw := hw'.1; have hSw := hw'.2; clear hw'; (try dsimp only at hBw hSw); have lay' : Laid w' := Laid.below lay_W3 hBw; go_simp; first | exact Lin.lin_ret (fromint_From k f m b aft _) (by rw [b0.out, b1.out, b2.out]) | exact Lin.lin_ret (ref27_From k f m b aft _) (by rw [b0.out, b1.out, b2.out]) | exact Lin.lin_ret (fromint_Has k b _) (by rw [b3.out]) | exact Lin.lin_ret (law27_goes _) rfl)); (try simp only [Act.put, List.setIfInBounds_toArray, List.set_cons_zero, List.set_cons_succ]))
    (refine Lin.bl_val rfl rfl rfl ?_; apply Exists.intro; refine ⟨fun w' hw' => ?_, ?_⟩; (focus (have hBw := hw'.1; have hSw := hw'.2; clear hw'; (try dsimp only at hBw hSw); go_simp; first | with_reducible exact Lin.lin_value | with_reducible exact Lin.lin_skip)); (try simp only [Act.put, List.setIfInBounds_toArray, List.set_cons_zero, List.set_cons_succ]))
    refine Lin.bl_rest rfl ?_
    refine Lin.bl_end ?_
    refine Lin.fin0 (fun wa wb hc hb => ⟨hc.1.trans (hb.mono hc.1.size), cell_later hb hc.2.1, cell_later hb hc.2.2⟩) (by kernel_rfl) ?_
    intro X hw_X
    have hb_X := hw_X.1; clear hw_X
    have lay_X : Laid X := Laid.below lay_W3 hb_X
    (replace cc1 := cl hb_X cc1; replace cc2 := cl hb_X cc2; replace hBW := below_after hBW hb_X; have hsb_X := hb_X.size; have hn_X := nl cc1)
    (refine wpAny_ready (rs := [21]) (by kernel_rfl) (by simp) ?_; refine AllReady.cons rfl (fun K hK => ?_) AllReady.nil; go_simp; refine hK _ _ ?_; clear hK K)
    refine wpAny_done (by kernel_rfl) ?_ _
    apply_assumption
    (first | refine wp_rename ?_ | refine goal_rename ?_); intro X_ hw_X; subst hw_X
    go_wp2_with fail
    go_returns
    exact ⟨rfl, by go_grown⟩
  · go_enter Tryd.func6, Tryd.ntmps6
    skip
    (go_wp2_with fail; refine (ref27_Of k b _).mono ?_; rintro en v1 ⟨⟨u1, rfl, hR_u1⟩, hB_v1⟩; have lay_v1 := laid_after hB_v1; have cc1 := cl hB_v1 (show World.cell? _ ⟨w.heap.size, 0, none⟩ = some (.int .u8 m) by go_simp); have cc2 := cl hB_v1 (show World.cell? _ ⟨w.heap.size, 1, none⟩ = some (.bool aft) by go_simp); have hs_v1 := hB_v1.size; (try simp only [World.size_alloc, World.size_setCell, World.size_drew] at hs_v1); have hBW : Below w.heap.size w v1 := below_after (w := w) (by go_grown) hB_v1; have hn_v1 := nl cc1; clear hB_v1)
    clear hR_u1
    go_upto_region 3 with fail
    ((first | refine wp_rename ?_ | refine goal_rename ?_); intro W3 hw_W3; have hG := named cc1 W3 (by rw [hw_W3]; first | with_reducible exact drewN_below (Below.refl _ _) _ | go_grown); replace cc1 := cl hG cc1; replace cc2 := cl hG cc2; replace hBW := below_after hBW hG; have hs_W3 := hG.size; clear hG; have hn_W3 := nl cc1; have lay_W3 : Laid W3 := Laid.below (w := w) (by assumption) hBW; clear hw_W3)
    refine Lin.wp_region_lin (by kernel_rfl) (by intro _ _ d _ _ h; cases d <;> exact h) (by kernel_rfl) (fun w' => Below W3.heap.size W3 w' ∧ w'.cell? ⟨w.heap.size, 0, none⟩ = some (.int .u8 m) ∧ w'.cell? ⟨w.heap.size, 1, none⟩ = some (.bool aft)) ⟨(Below.refl _ _).drew, by go_simp, by go_simp⟩ ?_
    simp only [List.length_cons, List.length_nil, Nat.reduceAdd]
    refine Lin.Blk.out ?_
    iterate 4 (refine Lin.bl_val rfl rfl rfl ?_; apply Exists.intro; refine ⟨fun w' hw' => ?_, ?_⟩; (focus (have hBw := hw'.1; have hSw := hw'.2; clear hw'; (try dsimp only at hBw hSw); go_simp; first | with_reducible exact Lin.lin_value | with_reducible exact Lin.lin_skip)); (try simp only [Act.put, List.setIfInBounds_toArray, List.set_cons_zero, List.set_cons_succ]))
    (refine Lin.bl_val rfl rfl rfl ?_; apply Exists.intro; refine ⟨fun w' hw' => ?_, ?_⟩; (focus (have hBw := hw'.1; have hSw := hw'.2; clear hw'; (try dsimp only at hBw hSw); have lay' : Laid w' := Laid.below lay_W3 hBw; go_simp; first | exact Lin.lin_ret (fromint_From k f m b aft _) (by rw [b0.out, b1.out, b2.out]) | exact Lin.lin_ret (ref27_From k f m b aft _) (by rw [b0.out, b1.out, b2.out]) | exact Lin.lin_ret (fromint_Has k b _) (by rw [b3.out]) | exact Lin.lin_ret (law27_goes _) rfl)); (try simp only [Act.put, List.setIfInBounds_toArray, List.set_cons_zero, List.set_cons_succ]))
    iterate 4 (refine Lin.bl_val rfl rfl rfl ?_; apply Exists.intro; refine ⟨fun w' hw' => ?_, ?_⟩; (focus (have hBw := hw'.1; have hSw := hw'.2; clear hw'; (try dsimp only at hBw hSw); go_simp; first | with_reducible exact Lin.lin_value | with_reducible exact Lin.lin_skip)); (try simp only [Act.put, List.setIfInBounds_toArray, List.set_cons_zero, List.set_cons_succ]))
    (refine Lin.bl_val rfl rfl rfl ?_; apply Exists.intro; refine ⟨fun w' hw' => ?_, ?_⟩; (focus (have hBw := hw'.1; have hSw := hw'.2; clear hw'; (try dsimp only at hBw hSw); have lay' : Laid w' := Laid.below lay_W3 hBw; go_simp; first | exact Lin.lin_ret (fromint_From k f m b aft _) (by rw [b0.out, b1.out, b2.out]) | exact Lin.lin_ret (ref27_From k f m b aft _) (by rw [b0.out, b1.out, b2.out]) | exact Lin.lin_ret (fromint_Has k b _) (by rw [b3.out]) | exact Lin.lin_ret (law27_goes _) rfl)); (try simp only [Act.put, List.setIfInBounds_toArray, List.set_cons_zero, List.set_cons_succ]))
    iterate 2 (refine Lin.bl_val rfl rfl rfl ?_; apply Exists.intro; refine ⟨fun w' hw' => ?_, ?_⟩; (focus (have hBw := hw'.1; have hSw := hw'.2; clear hw'; (try dsimp only at hBw hSw); go_simp; first | with_reducible exact Lin.lin_value | with_reducible exact Lin.lin_skip)); (try simp only [Act.put, List.setIfInBounds_toArray, List.set_cons_zero, List.set_cons_succ]))
    iterate 2 (refine Lin.bl_val rfl rfl (by kernel_rfl) ?_; apply Exists.intro; refine ⟨fun w' hw' => ?_, ?_⟩; (focus (have hBw := hw'.1; have hSw := hw'.2; clear hw'; (try dsimp only at hBw hSw); go_simp; first | with_reducible exact Lin.lin_value | with_reducible exact Lin.lin_skip)); (try simp only [Act.put, List.setIfInBounds_toArray, List.set_cons_zero, List.set_cons_succ]))
    (refine Lin.bl_val rfl rfl (by kernel_rfl) ?_; apply Exists.intro; refine ⟨fun w' hw' => ?_, ?_⟩; (focus (have hBw := hw'.1; have hSw := hw'.2; clear hw'; (try dsimp only at hBw hSw); have lay' : Laid w' := Laid.below lay_W3 hBw; go_simp; first | exact Lin.lin_ret (fromint_From k f m b aft _) (by rw [b0.out, b1.out, b2.out]) | exact Lin.lin_ret (ref27_From k f m b aft _) (by rw [b0.out, b1.out, b2.out]) | exact Lin.lin_ret (fromint_Has k b _) (by rw [b3.out]) | exact Lin.lin_ret (law27_goes _) rfl)); (try simp only [Act.put, List.setIfInBounds_toArray, List.set_cons_zero, List.set_cons_succ]))
    iterate 2 (refine Lin.bl_val rfl rfl (by kernel_rfl) ?_; apply Exists.intro; refine ⟨fun w' hw' => ?_, ?_⟩; (focus (have hBw := hw'.1; have hSw := hw'.2; clear hw'; (try dsimp only at hBw hSw); go_simp; first | with_reducible exact Lin.lin_value | with_reducible exact Lin.lin_skip)); (try simp only [Act.put, List.setIfInBounds_toArray, List.set_cons_zero, List.set_cons_succ]))
    iterate 2 (refine Lin.bl_val rfl rfl rfl ?_; apply Exists.intro; refine ⟨fun w' hw' => ?_, ?_⟩; (focus (have hBw := hw'.1; have hSw := hw'.2; clear hw'; (try dsimp only at hBw hSw); go_simp; first | with_reducible exact Lin.lin_value | with_reducible exact Lin.lin_skip)); (try simp only [Act.put, List.setIfInBounds_toArray, List.set_cons_zero, List.set_cons_succ]))
    (refine Lin.bl_val rfl rfl (by kernel_rfl) ?_; apply Exists.intro; refine ⟨fun w' hw' => ?_, ?_⟩; (focus (have hBw := hw'.1; have hSw := hw'.2; clear hw'; (try dsimp only at hBw hSw); have lay' : Laid w' := Laid.below lay_W3 hBw; go_simp; first | exact Lin.lin_ret (fromint_From k f m b aft _) (by rw [b0.out, b1.out, b2.out]) | exact Lin.lin_ret (ref27_From k f m b aft _) (by rw [b0.out, b1.out, b2.out]) | exact Lin.lin_ret (fromint_Has k b _) (by rw [b3.out]) | exact Lin.lin_ret (law27_goes _) rfl)); (try simp only [Act.put, List.setIfInBounds_toArray, List.set_cons_zero, List.set_cons_succ]))
    (refine Lin.bl_val rfl rfl rfl ?_; apply Exists.intro; refine ⟨fun w' hw' => ?_, ?_⟩; (focus (have hBw := hw'.1; have hSw := hw'.2; clear hw'; (try dsimp only at hBw hSw); go_simp; first | with_reducible exact Lin.lin_value | with_reducible exact Lin.lin_skip)); (try simp only [Act.put, List.setIfInBounds_toArray, List.set_cons_zero, List.set_cons_succ]))
    refine Lin.bl_rest rfl ?_
    refine Lin.bl_end ?_
    refine Lin.fin0 (fun wa wb hc hb => ⟨hc.1.trans (hb.mono hc.1.size), cell_later hb hc.2.1, cell_later hb hc.2.2⟩) (by kernel_rfl) ?_
    intro X hw_X
    have hb_X := hw_X.1; clear hw_X
    have lay_X : Laid X := Laid.below lay_W3 hb_X
    (replace cc1 := cl hb_X cc1; replace cc2 := cl hb_X cc2; replace hBW := below_after hBW hb_X; have hsb_X := hb_X.size; have hn_X := nl cc1)
    (refine wpAny_ready (rs := [21]) (by kernel_rfl) (by simp) ?_; refine AllReady.cons rfl (fun K hK => ?_) AllReady.nil; go_simp; refine hK _ _ ?_; clear hK K)
    refine wpAny_done (by kernel_rfl) ?_ _
    apply_assumption
    (first | refine wp_rename ?_ | refine goal_rename ?_); intro X_ hw_X; subst hw_X
    go_wp2_with fail
    go_returns
    exact ⟨rfl, by go_grown⟩
theorem walk_FromintAll (k f m : Int) (aft : Bool) (b : Int) [hK : U8 k] [hU : U8 f] [hM : U8 m] [hb : U64 b] (w : World) [hLay : Laid w] :
    Calls Tryd.prog 6 #[.int .u8 k, .int .u8 f, .agg #[.int .u8 m, .bool aft], .int .u64 b] w fun en w' => en = .returned (.bool true) ∧ Below w.heap.size w w' := by
  obtain ⟨h1, h2, _⟩ := size_less k b
  refine all27_walk k f m b _ _ _ _ aft _ w rfl rfl rfl rfl rfl h1 ?_
  rw [h2]
  unfold hasB
  by_cases hk : k < 4
  · exact Or.inl ⟨decide_eq_true hk, by rw [decide_eq_true hk, Bool.true_and]⟩
  · exact Or.inr ⟨decide_eq_false hk, by rw [decide_eq_false hk, Bool.false_and]⟩
end Go.Proofs.YtgpedgppdggjmaaDoor
