/- The contracts of package shift: for every input. The contracts of package shift: left and right, 128 bits: for every input. The contracts of package shift: shifts of 256 bits: for every input. -/
import Derived.Test.YtkpjeceofcfnkaaGreatDoorWord
set_option maxRecDepth 100000
set_option maxHeartbeats 4000000
set_option linter.unusedSimpArgs false
set_option linter.unusedVariables false
namespace Go.Proofs.YtkpjeceofcfnkaaGreatDoor
open Go.RowKit Go.Hb

theorem shift_parts (ah al : Int) (w : World) :
    Calls Tryz.prog 103 #[.agg #[.int .u64 (ah), .int .u64 (al)]] w fun e w' => ∃ b : Nat, e = .returned (.slice (some ⟨b, 0, none⟩) 2 2) ∧ w.heap.size ≤ b ∧ w'.cell? ⟨b, 0, none⟩ = some (.int .u64 al) ∧ w'.cell? ⟨b, 1, none⟩ = some (.int .u64 ah) ∧ b < w'.heap.size ∧ Below w.heap.size w w' := by
  go_enter Tryz.func103, Tryz.ntmps103
  go_wp2
  go_returns
  refine ⟨_, rfl, by simp, ?_, ?_, ?_, by go_grown⟩
  all_goals simp
theorem shift_two (b c : Nat) (x y : Int) (w : World) (h0 : w.cell? ⟨b, 0, none⟩ = some (.int .u64 x)) (h1 : w.cell? ⟨b, 1, none⟩ = some (.int .u64 y)) :
    Calls Tryz.prog 104 #[.slice (some ⟨b, 0, none⟩) 2 c] w fun e w' => e = .returned (.agg #[.int .u64 (y), .int .u64 (x)]) ∧ Below w.heap.size w w' := by
  have hb : b < w.heap.size := World.block_lt_of_cell? w _ h0
  go_enter Tryz.func104, Tryz.ntmps104
  go_wp2
  go_region
  all_goals go_wp2
  all_goals go_returns
  all_goals exact ⟨rfl, by go_grown⟩
theorem shift_two_new (n c : Nat) (x y : Int) (t : TypeId) (w : World) (hn : n = w.heap.size) :
    Calls Tryz.prog 104 #[.slice (some ⟨n, 0, none⟩) 2 c] (w.alloc (.cells #[.int .u64 x, .int .u64 y] t)) fun e w' => e = .returned (.agg #[.int .u64 (y), .int .u64 (x)]) ∧ Below (w.alloc (.cells #[.int .u64 x, .int .u64 y] t)).heap.size (w.alloc (.cells #[.int .u64 x, .int .u64 y] t)) w' :=
  shift_two n c x y _ (World.cell?_alloc_at _ _ _ _ hn) (World.cell?_alloc_at _ _ _ _ hn)
theorem part2 (bl b c : Nat) (x y i : Int) [U64 x] [U64 y] (w : World) (hl : w.cell? ⟨bl, 0, none⟩ = some (.slice (some ⟨b, 0, none⟩) 2 c)) (h0 : w.cell? ⟨b, 0, none⟩ = some (.int .u64 x)) (h1 : w.cell? ⟨b, 1, none⟩ = some (.int .u64 y)) :
    Calls Tryz.prog 130 #[.int .i64 i, .pointer (some ⟨bl, 0, none⟩)] w fun e w' => e = .returned (.int .u64 (dig (cat y x) i)) ∧ w = w' := by
  have ge0 := U64.ge (x := x); have ge1 := U64.ge (x := y); have lt0 := U64.lt (x := x); have lt1 := U64.lt (x := y)
  have hL := Lib.hid (cat_lt y x)
  have : i < 0 ∨ 2 ≤ i ∨ i = 0 ∨ i = 1 := by omega
  rcases this with hi | hi | rfl | rfl
  · go_enter Tryz.func130, Tryz.ntmps130
    go_wp2
    go_returns
    exact ⟨ret_int (dig_neg _ _ hi).symm, rfl⟩
  · go_enter Tryz.func130, Tryz.ntmps130
    go_wp2
    go_returns
    exact ⟨ret_int (dig_big _ _ 2 hL.out (by omega)).symm, rfl⟩
  · go_enter Tryz.func130, Tryz.ntmps130
    go_wp2
    go_returns
    refine ⟨ret_int ?_, rfl⟩
    unfold dig cat; simp; omega
  · go_enter Tryz.func130, Tryz.ntmps130
    go_wp2
    go_returns
    refine ⟨ret_int ?_, rfl⟩
    unfold dig cat; simp; omega
theorem moved2 (b c : Nat) (x y n : Int) [U64 x] [U64 y] (w : World) (h0 : w.cell? ⟨b, 0, none⟩ = some (.int .u64 x)) (h1 : w.cell? ⟨b, 1, none⟩ = some (.int .u64 y)) :
    Calls Tryz.prog 102 #[.slice (some ⟨b, 0, none⟩) 2 c, .int .i64 n, .func (.func 104) #[] #[]] w fun e w' => e = .returned (.agg #[.int .u64 (hi (shI (cat y x) n)), .int .u64 (lo (shI (cat y x) n))]) ∧ Below w.heap.size w w' := by
  have hb : b < w.heap.size := World.block_lt_of_cell? w _ h0
  have hmk : ∀ w, (Instr.makeSlice 138 (.int .i64 2) (.int .i64 2)).run Tryz.prog w = .ok (.slice (some ⟨w.heap.size, 0, none⟩) 2 2) (w.alloc (.cells #[.int .u64 0, .int .u64 0] 24)) := fun _ => by kernel_rfl
  by_cases hn : -128 < n ∧ n < 128
  · obtain ⟨hn, hn2⟩ := hn
    have hr := and_i64_63 n
    have r0 : 0 ≤ n % 64 := by omega
    have r1 : n % 64 ≤ 63 := by omega
    have q0 : -2 ≤ n / 64 := by omega
    have q1 : n / 64 ≤ 1 := by omega
    go_enter Tryz.func102, Tryz.ntmps102
    go_wp2_with fail
    refine wp_loop_rounds 3 ?_
    rw [rounds_succ]
    go_wp2_with (go_at_call 130; refine (part2 _ b c x y _ _ (by go_simp) (cell_later (by go_grown) h0) (cell_later (by go_grown) h1)).mono ?_; rintro e w' ⟨rfl, rfl⟩)
    rw [rounds_succ]
    go_wp2_with (go_at_call 130; refine (part2 _ b c x y _ _ (by go_simp) (cell_later (by go_grown) h0) (cell_later (by go_grown) h1)).mono ?_; rintro e w' ⟨rfl, rfl⟩)
    rw [rounds_succ]
    go_wp2_with fail
    refine (shift_two_new _ _ _ _ _ _ (by simp)).mono ?_
    rintro e w1 ⟨rfl, hB⟩
    (obtain ⟨hc_w1, hf_w1⟩ := bcell hB; have hz_w1 := hB.size; (try simp only [World.size_alloc, World.size_setCell, World.size_drew] at hz_w1 hc_w1 hf_w1); have k0_w1 := fun o => hc_w1 (w.heap.size) o (by omega); have l0_w1 := fun o => hf_w1 (w.heap.size) o (by omega); have k1_w1 := fun o => hc_w1 (w.heap.size + 1) o (by omega); have l1_w1 := fun o => hf_w1 (w.heap.size + 1) o (by omega); clear hc_w1 hf_w1; have hW_w1 : Below w.heap.size w w1 := below_after (by go_grown) hB)
    go_wp2
    refine bodyPost_ret (by simp [results, Tryz.results102, go_sem, k1_w1]; try rfl) rfl ?_
    refine ⟨ret_bits ⟨?_, ?_⟩, ?_⟩
    · have := mvd_eq (cat y x) n 1 (by omega)
      rw [hi_w1, ← dig1, ← this]; rfl
    · have := mvd_eq (cat y x) n 0 (by omega)
      rw [← dig0, ← this]; simp [mvd]
    · go_grown
  · have : n ≤ -128 ∨ n = 128 ∨ 128 < n := by omega
    clear hn
    have hL := Lib.hid (cat_lt y x)
    rcases this with hn | rfl | hn
    · have c63 : bits BinOp.and IntKind.i64 (-128) 63 = 0 := by rw [and_i64_63]; rfl
      go_enter Tryz.func102, Tryz.ntmps102
      go_wp2_with fail
      refine wp_loop_rounds 3 ?_
      rw [rounds_succ]
      go_wp2_with (go_at_call 130; refine (part2 _ b c x y _ _ (by go_simp) (cell_later (by go_grown) h0) (cell_later (by go_grown) h1)).mono ?_; rintro e w' ⟨rfl, rfl⟩)
      rw [rounds_succ]
      go_wp2_with (go_at_call 130; refine (part2 _ b c x y _ _ (by go_simp) (cell_later (by go_grown) h0) (cell_later (by go_grown) h1)).mono ?_; rintro e w' ⟨rfl, rfl⟩)
      rw [rounds_succ]
      go_wp2_with fail
      refine (shift_two_new _ _ _ _ _ _ (by simp)).mono ?_
      rintro e w1 ⟨rfl, hB⟩
      (obtain ⟨hc_w1, hf_w1⟩ := bcell hB; have hz_w1 := hB.size; (try simp only [World.size_alloc, World.size_setCell, World.size_drew] at hz_w1 hc_w1 hf_w1); have k0_w1 := fun o => hc_w1 (w.heap.size) o (by omega); have l0_w1 := fun o => hf_w1 (w.heap.size) o (by omega); have k1_w1 := fun o => hc_w1 (w.heap.size + 1) o (by omega); have l1_w1 := fun o => hf_w1 (w.heap.size + 1) o (by omega); clear hc_w1 hf_w1; have hW_w1 : Below w.heap.size w w1 := below_after (by go_grown) hB)
      go_wp2
      refine bodyPost_ret (by simp [results, Tryz.results102, go_sem, k1_w1]; try rfl) rfl ?_
      refine ⟨ret_bits ⟨?_, ?_⟩, ?_⟩
      · rw [hi_w1, ← dig1, ← mvd_down (cat y x) n 1 2 (by omega) hL.out (by omega)]; simp [mvd]
      · rw [← dig0, ← mvd_down (cat y x) n 0 2 (by omega) hL.out (by omega)]; simp [mvd]
      · go_grown
    · have c63 : bits BinOp.and IntKind.i64 (128) 63 = 0 := by rw [and_i64_63]; rfl
      go_enter Tryz.func102, Tryz.ntmps102
      go_wp2_with fail
      refine wp_loop_rounds 3 ?_
      rw [rounds_succ]
      go_wp2_with (go_at_call 130; refine (part2 _ b c x y _ _ (by go_simp) (cell_later (by go_grown) h0) (cell_later (by go_grown) h1)).mono ?_; rintro e w' ⟨rfl, rfl⟩)
      rw [rounds_succ]
      go_wp2_with (go_at_call 130; refine (part2 _ b c x y _ _ (by go_simp) (cell_later (by go_grown) h0) (cell_later (by go_grown) h1)).mono ?_; rintro e w' ⟨rfl, rfl⟩)
      rw [rounds_succ]
      go_wp2_with fail
      refine (shift_two_new _ _ _ _ _ _ (by simp)).mono ?_
      rintro e w1 ⟨rfl, hB⟩
      (obtain ⟨hc_w1, hf_w1⟩ := bcell hB; have hz_w1 := hB.size; (try simp only [World.size_alloc, World.size_setCell, World.size_drew] at hz_w1 hc_w1 hf_w1); have k0_w1 := fun o => hc_w1 (w.heap.size) o (by omega); have l0_w1 := fun o => hf_w1 (w.heap.size) o (by omega); have k1_w1 := fun o => hc_w1 (w.heap.size + 1) o (by omega); have l1_w1 := fun o => hf_w1 (w.heap.size + 1) o (by omega); clear hc_w1 hf_w1; have hW_w1 : Below w.heap.size w w1 := below_after (by go_grown) hB)
      go_wp2
      refine bodyPost_ret (by simp [results, Tryz.results102, go_sem, k1_w1]; try rfl) rfl ?_
      refine ⟨ret_bits ⟨?_, ?_⟩, ?_⟩
      · rw [hi_w1, ← dig1, ← mvd_up (cat y x) 128 1 2 (by omega) (by omega) (by omega)]; simp [mvd]
      · rw [← dig0, ← mvd_up (cat y x) 128 0 2 (by omega) (by omega) (by omega)]; simp [mvd]
      · go_grown
    · have c63 : bits BinOp.and IntKind.i64 (128) 63 = 0 := by rw [and_i64_63]; rfl
      go_enter Tryz.func102, Tryz.ntmps102
      go_wp2_with fail
      refine wp_loop_rounds 3 ?_
      rw [rounds_succ]
      go_wp2_with (go_at_call 130; refine (part2 _ b c x y _ _ (by go_simp) (cell_later (by go_grown) h0) (cell_later (by go_grown) h1)).mono ?_; rintro e w' ⟨rfl, rfl⟩)
      rw [rounds_succ]
      go_wp2_with (go_at_call 130; refine (part2 _ b c x y _ _ (by go_simp) (cell_later (by go_grown) h0) (cell_later (by go_grown) h1)).mono ?_; rintro e w' ⟨rfl, rfl⟩)
      rw [rounds_succ]
      go_wp2_with fail
      refine (shift_two_new _ _ _ _ _ _ (by simp)).mono ?_
      rintro e w1 ⟨rfl, hB⟩
      (obtain ⟨hc_w1, hf_w1⟩ := bcell hB; have hz_w1 := hB.size; (try simp only [World.size_alloc, World.size_setCell, World.size_drew] at hz_w1 hc_w1 hf_w1); have k0_w1 := fun o => hc_w1 (w.heap.size) o (by omega); have l0_w1 := fun o => hf_w1 (w.heap.size) o (by omega); have k1_w1 := fun o => hc_w1 (w.heap.size + 1) o (by omega); have l1_w1 := fun o => hf_w1 (w.heap.size + 1) o (by omega); clear hc_w1 hf_w1; have hW_w1 : Below w.heap.size w w1 := below_after (by go_grown) hB)
      go_wp2
      refine bodyPost_ret (by simp [results, Tryz.results102, go_sem, k1_w1]; try rfl) rfl ?_
      refine ⟨ret_bits ⟨?_, ?_⟩, ?_⟩
      · rw [hi_w1, ← dig1, ← mvd_up (cat y x) n 1 2 (by omega) (by omega) (by omega)]; simp [mvd]
      · rw [← dig0, ← mvd_up (cat y x) n 0 2 (by omega) (by omega) (by omega)]; simp [mvd]
      · go_grown
end Go.Proofs.YtkpjeceofcfnkaaGreatDoor

namespace Go.Proofs.YtkpjeceofcfnkaaGreatDoor
open Go.RowKit Go.Hb

theorem shift_Left (ah al n : Int) [U64 ah] [U64 al] (w : World) :
    Calls Tryz.prog 69 #[.agg #[.int .u64 (ah), .int .u64 (al)], .int .i64 n] w fun e w' => e = .returned (.agg #[.int .u64 (hi (shI (cat ah al) (max n 0))), .int .u64 (lo (shI (cat ah al) (max n 0)))]) ∧ Below w.heap.size w w' := by
  by_cases hn : n < 0
  · rw [show max n 0 = 0 by omega]
    go_enter Tryz.func69, Tryz.ntmps69
    go_wp2_with fail
    refine (shift_parts _ _ _).mono ?_
    rintro e w1 ⟨b, rfl, hb, h0, h1, hlt, hB⟩
    (obtain ⟨hc_w1, hf_w1⟩ := bcell hB; have hz_w1 := hB.size; (try simp only [World.size_alloc, World.size_setCell, World.size_drew] at hz_w1 hc_w1 hf_w1); have k0_w1 := fun o => hc_w1 (w.heap.size) o (by omega); have l0_w1 := fun o => hf_w1 (w.heap.size) o (by omega); have k1_w1 := fun o => hc_w1 (w.heap.size + 1) o (by omega); have l1_w1 := fun o => hf_w1 (w.heap.size + 1) o (by omega); clear hc_w1 hf_w1; have hW_w1 : Below w.heap.size w w1 := below_after (by go_grown) hB)
    go_wp2_with fail
    refine (moved2 b _ _ _ _ _ h0 h1).mono ?_
    rintro e w2 ⟨rfl, hB2⟩
    (obtain ⟨hc_w2, hf_w2⟩ := bcell hB2; have hz_w2 := hB2.size; (try simp only [World.size_alloc, World.size_setCell, World.size_drew] at hz_w2 hc_w2 hf_w2); have k0_w2 := fun o => hc_w2 (w.heap.size) o (by omega); have l0_w2 := fun o => hf_w2 (w.heap.size) o (by omega); have k1_w2 := fun o => hc_w2 (w.heap.size + 1) o (by omega); have l1_w2 := fun o => hf_w2 (w.heap.size + 1) o (by omega); clear hc_w2 hf_w2; have hW_w2 : Below w.heap.size w w2 := below_after (by go_grown) hB2)
    go_wp2_with fail
    refine bodyPost_ret (by simp [results, Tryz.results69, go_sem, k1_w2, k1_w1]; try rfl) rfl ?_
    exact ⟨rfl, by go_grown⟩
  · rw [show max n 0 = n by omega]
    go_enter Tryz.func69, Tryz.ntmps69
    go_wp2_with fail
    refine (shift_parts _ _ _).mono ?_
    rintro e w1 ⟨b, rfl, hb, h0, h1, hlt, hB⟩
    (obtain ⟨hc_w1, hf_w1⟩ := bcell hB; have hz_w1 := hB.size; (try simp only [World.size_alloc, World.size_setCell, World.size_drew] at hz_w1 hc_w1 hf_w1); have k0_w1 := fun o => hc_w1 (w.heap.size) o (by omega); have l0_w1 := fun o => hf_w1 (w.heap.size) o (by omega); have k1_w1 := fun o => hc_w1 (w.heap.size + 1) o (by omega); have l1_w1 := fun o => hf_w1 (w.heap.size + 1) o (by omega); clear hc_w1 hf_w1; have hW_w1 : Below w.heap.size w w1 := below_after (by go_grown) hB)
    go_wp2_with fail
    refine (moved2 b _ _ _ _ _ h0 h1).mono ?_
    rintro e w2 ⟨rfl, hB2⟩
    (obtain ⟨hc_w2, hf_w2⟩ := bcell hB2; have hz_w2 := hB2.size; (try simp only [World.size_alloc, World.size_setCell, World.size_drew] at hz_w2 hc_w2 hf_w2); have k0_w2 := fun o => hc_w2 (w.heap.size) o (by omega); have l0_w2 := fun o => hf_w2 (w.heap.size) o (by omega); have k1_w2 := fun o => hc_w2 (w.heap.size + 1) o (by omega); have l1_w2 := fun o => hf_w2 (w.heap.size + 1) o (by omega); clear hc_w2 hf_w2; have hW_w2 : Below w.heap.size w w2 := below_after (by go_grown) hB2)
    go_wp2_with fail
    refine bodyPost_ret (by simp [results, Tryz.results69, go_sem, k1_w2, k1_w1]; try rfl) rfl ?_
    exact ⟨rfl, by go_grown⟩
end Go.Proofs.YtkpjeceofcfnkaaGreatDoor

namespace Go.Proofs.YtkpjeceofcfnkaaGreatDoor
open Go.RowKit Go.Hb
theorem shift_four (b c : Nat) (x0 x1 x2 x3 : Int) (w : World) (h0 : w.cell? ⟨b, 0, none⟩ = some (.int .u64 x0)) (h1 : w.cell? ⟨b, 1, none⟩ = some (.int .u64 x1)) (h2 : w.cell? ⟨b, 2, none⟩ = some (.int .u64 x2)) (h3 : w.cell? ⟨b, 3, none⟩ = some (.int .u64 x3)) :
    Calls Tryz.prog 133 #[.slice (some ⟨b, 0, none⟩) 4 c] w fun e w' => e = .returned (.agg #[.int .u64 (x0), .int .u64 (x1), .int .u64 (x2), .int .u64 (x3)]) ∧ Below w.heap.size w w' := by
  have hb : b < w.heap.size := World.block_lt_of_cell? w _ h0
  have har : ∀ W, (Instr.arrayAt 72 (Value.slice (some ⟨b, 0, none⟩) 4 c)).run Tryz.prog W = .ok (.pointer (some ⟨b, 0, none⟩)) W := fun W => by kernel_rfl
  go_enter Tryz.func133, Tryz.ntmps133
  go_wp2
  go_returns
  exact ⟨rfl, by go_grown⟩
theorem part4 (bl b c : Nat) (x0 x1 x2 x3 i : Int) [U64 x0] [U64 x1] [U64 x2] [U64 x3] (w : World) (hl : w.cell? ⟨bl, 0, none⟩ = some (.slice (some ⟨b, 0, none⟩) 4 c)) (h0 : w.cell? ⟨b, 0, none⟩ = some (.int .u64 x0)) (h1 : w.cell? ⟨b, 1, none⟩ = some (.int .u64 x1)) (h2 : w.cell? ⟨b, 2, none⟩ = some (.int .u64 x2)) (h3 : w.cell? ⟨b, 3, none⟩ = some (.int .u64 x3)) :
    Calls Tryz.prog 149 #[.int .i64 i, .pointer (some ⟨bl, 0, none⟩)] w fun e w' => e = .returned (.int .u64 (dig (cat4 x0 x1 x2 x3) i)) ∧ w = w' := by
  have hL := Lib.hid (cat4_lt x0 x1 x2 x3)
  have hP := Lib.hid (parts_cat4 x0 x1 x2 x3)
  have : i < 0 ∨ 4 ≤ i ∨ i = 0 ∨ i = 1 ∨ i = 2 ∨ i = 3 := by omega
  rcases this with hi | hi | rfl | rfl | rfl | rfl
  · go_enter Tryz.func149, Tryz.ntmps149
    go_wp2
    go_returns
    exact ⟨ret_int (dig_neg _ _ hi).symm, rfl⟩
  · go_enter Tryz.func149, Tryz.ntmps149
    go_wp2
    go_returns
    exact ⟨ret_int (dig_big _ _ 4 hL.out (by omega)).symm, rfl⟩
  · go_enter Tryz.func149, Tryz.ntmps149
    go_wp2
    go_returns
    exact ⟨ret_int (by rw [dig0, hP.out.1]), rfl⟩
  · go_enter Tryz.func149, Tryz.ntmps149
    go_wp2
    go_returns
    exact ⟨ret_int (by rw [dig1, hP.out.2.1]), rfl⟩
  · go_enter Tryz.func149, Tryz.ntmps149
    go_wp2
    go_returns
    exact ⟨ret_int (by rw [dig2, hP.out.2.2.1]), rfl⟩
  · go_enter Tryz.func149, Tryz.ntmps149
    go_wp2
    go_returns
    exact ⟨ret_int (by rw [dig3, hP.out.2.2.2]), rfl⟩
theorem shift_four_new (n c : Nat) (x0 x1 x2 x3 : Int) (t : TypeId) (w : World) (hn : n = w.heap.size) :
    Calls Tryz.prog 133 #[.slice (some ⟨n, 0, none⟩) 4 c] (w.alloc (.cells #[.int .u64 x0, .int .u64 x1, .int .u64 x2, .int .u64 x3] t)) fun e w' => e = .returned (.agg #[.int .u64 (x0), .int .u64 (x1), .int .u64 (x2), .int .u64 (x3)]) ∧ Below (w.alloc (.cells #[.int .u64 x0, .int .u64 x1, .int .u64 x2, .int .u64 x3] t)).heap.size (w.alloc (.cells #[.int .u64 x0, .int .u64 x1, .int .u64 x2, .int .u64 x3] t)) w' :=
  shift_four n c x0 x1 x2 x3 _ (World.cell?_alloc_at _ _ _ _ hn) (World.cell?_alloc_at _ _ _ _ hn) (World.cell?_alloc_at _ _ _ _ hn) (World.cell?_alloc_at _ _ _ _ hn)
end Go.Proofs.YtkpjeceofcfnkaaGreatDoor
