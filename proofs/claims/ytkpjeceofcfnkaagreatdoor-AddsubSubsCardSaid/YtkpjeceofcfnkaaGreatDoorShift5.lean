/- The contract of shift.moved over 256 bits: for every input. -/
import Derived.Test.YtkpjeceofcfnkaaGreatDoorShift
set_option maxRecDepth 100000
set_option maxHeartbeats 16000000
set_option linter.unusedSimpArgs false
set_option linter.unusedVariables false
namespace Go.Proofs.YtkpjeceofcfnkaaGreatDoor
open Go.RowKit Go.Hb
theorem moved4_mid (b c : Nat) (x0 x1 x2 x3 n : Int) [U64 x0] [U64 x1] [U64 x2] [U64 x3] (w : World) (h0 : w.cell? ⟨b, 0, none⟩ = some (.int .u64 x0)) (h1 : w.cell? ⟨b, 1, none⟩ = some (.int .u64 x1)) (h2 : w.cell? ⟨b, 2, none⟩ = some (.int .u64 x2)) (h3 : w.cell? ⟨b, 3, none⟩ = some (.int .u64 x3)) (hn : -256 < n) (hn2 : n < 256) :
    Calls Tryz.prog 132 #[.slice (some ⟨b, 0, none⟩) 4 c, .int .i64 n, .func (.func 133) #[] #[]] w fun e w' => e = .returned (.agg #[.int .u64 (lo (shI (cat4 x0 x1 x2 x3) n)), .int .u64 (w1 (shI (cat4 x0 x1 x2 x3) n)), .int .u64 (w2 (shI (cat4 x0 x1 x2 x3) n)), .int .u64 (w3 (shI (cat4 x0 x1 x2 x3) n))]) ∧ Below w.heap.size w w' := by
  have hb : b < w.heap.size := World.block_lt_of_cell? w _ h0
  have hmk : ∀ w, (Instr.makeSlice 138 (.int .i64 4) (.int .i64 4)).run Tryz.prog w = .ok (.slice (some ⟨w.heap.size, 0, none⟩) 4 4) (w.alloc (.cells #[.int .u64 0, .int .u64 0, .int .u64 0, .int .u64 0] 24)) := fun _ => by kernel_rfl
  have hr := and_i64_63 n
  have r0 : 0 ≤ n % 64 := by omega
  have r1 : n % 64 ≤ 63 := by omega
  have q0 : -4 ≤ n / 64 := by omega
  have q1 : n / 64 ≤ 3 := by omega
  go_enter Tryz.func132, Tryz.ntmps132
  go_wp2_with fail
  refine wp_loop_rounds 5 ?_
  rw [rounds_succ]
  go_wp2_with (go_at_call 149; refine (part4 _ b c x0 x1 x2 x3 _ _ (by go_simp) (cell_later (by go_grown) h0) (cell_later (by go_grown) h1) (cell_later (by go_grown) h2) (cell_later (by go_grown) h3)).mono ?_; rintro e w' ⟨rfl, rfl⟩)
  rw [rounds_succ]
  go_wp2_with (go_at_call 149; refine (part4 _ b c x0 x1 x2 x3 _ _ (by go_simp) (cell_later (by go_grown) h0) (cell_later (by go_grown) h1) (cell_later (by go_grown) h2) (cell_later (by go_grown) h3)).mono ?_; rintro e w' ⟨rfl, rfl⟩)
  rw [rounds_succ]
  go_wp2_with (go_at_call 149; refine (part4 _ b c x0 x1 x2 x3 _ _ (by go_simp) (cell_later (by go_grown) h0) (cell_later (by go_grown) h1) (cell_later (by go_grown) h2) (cell_later (by go_grown) h3)).mono ?_; rintro e w' ⟨rfl, rfl⟩)
  rw [rounds_succ]
  go_wp2_with (go_at_call 149; refine (part4 _ b c x0 x1 x2 x3 _ _ (by go_simp) (cell_later (by go_grown) h0) (cell_later (by go_grown) h1) (cell_later (by go_grown) h2) (cell_later (by go_grown) h3)).mono ?_; rintro e w' ⟨rfl, rfl⟩)
  rw [rounds_succ]
  go_wp2_with fail
  refine (shift_four_new _ _ _ _ _ _ _ _ (by simp)).mono ?_
  rintro e w1 ⟨rfl, hB⟩
  (obtain ⟨hc_w1, hf_w1⟩ := bcell hB; have hz_w1 := hB.size; (try simp only [World.size_alloc, World.size_setCell, World.size_drew] at hz_w1 hc_w1 hf_w1); have k0_w1 := fun o => hc_w1 (w.heap.size) o (by omega); have l0_w1 := fun o => hf_w1 (w.heap.size) o (by omega); have k1_w1 := fun o => hc_w1 (w.heap.size + 1) o (by omega); have l1_w1 := fun o => hf_w1 (w.heap.size + 1) o (by omega); clear hc_w1 hf_w1; have hW_w1 : Below w.heap.size w w1 := below_after (by go_grown) hB)
  go_wp2
  refine bodyPost_ret (by simp [results, Tryz.results132, go_sem, k1_w1]; try rfl) rfl ?_
  refine ⟨ret_wide ⟨?_, ?_, ?_, ?_⟩, by go_grown⟩
  · rw [← dig0, ← mvd_eq (cat4 x0 x1 x2 x3) n 0 (by omega)]; simp [mvd]
  · rw [← dig1, ← mvd_eq (cat4 x0 x1 x2 x3) n 1 (by omega)]; simp [mvd]
  · rw [← dig2, ← mvd_eq (cat4 x0 x1 x2 x3) n 2 (by omega)]; simp [mvd]
  · rw [← dig3, ← mvd_eq (cat4 x0 x1 x2 x3) n 3 (by omega)]; simp [mvd]
theorem moved4_down (b c : Nat) (x0 x1 x2 x3 n : Int) [U64 x0] [U64 x1] [U64 x2] [U64 x3] (w : World) (h0 : w.cell? ⟨b, 0, none⟩ = some (.int .u64 x0)) (h1 : w.cell? ⟨b, 1, none⟩ = some (.int .u64 x1)) (h2 : w.cell? ⟨b, 2, none⟩ = some (.int .u64 x2)) (h3 : w.cell? ⟨b, 3, none⟩ = some (.int .u64 x3)) (hn : n ≤ -256) :
    Calls Tryz.prog 132 #[.slice (some ⟨b, 0, none⟩) 4 c, .int .i64 n, .func (.func 133) #[] #[]] w fun e w' => e = .returned (.agg #[.int .u64 (lo (shI (cat4 x0 x1 x2 x3) n)), .int .u64 (w1 (shI (cat4 x0 x1 x2 x3) n)), .int .u64 (w2 (shI (cat4 x0 x1 x2 x3) n)), .int .u64 (w3 (shI (cat4 x0 x1 x2 x3) n))]) ∧ Below w.heap.size w w' := by
  have hb : b < w.heap.size := World.block_lt_of_cell? w _ h0
  have hmk : ∀ w, (Instr.makeSlice 138 (.int .i64 4) (.int .i64 4)).run Tryz.prog w = .ok (.slice (some ⟨w.heap.size, 0, none⟩) 4 4) (w.alloc (.cells #[.int .u64 0, .int .u64 0, .int .u64 0, .int .u64 0] 24)) := fun _ => by kernel_rfl
  have hL := Lib.hid (cat4_lt x0 x1 x2 x3)
  have c63 : bits BinOp.and IntKind.i64 (-256) 63 = 0 := by rw [and_i64_63]; rfl
  go_enter Tryz.func132, Tryz.ntmps132
  go_wp2_with fail
  refine wp_loop_rounds 5 ?_
  rw [rounds_succ]
  go_wp2_with (go_at_call 149; refine (part4 _ b c x0 x1 x2 x3 _ _ (by go_simp) (cell_later (by go_grown) h0) (cell_later (by go_grown) h1) (cell_later (by go_grown) h2) (cell_later (by go_grown) h3)).mono ?_; rintro e w' ⟨rfl, rfl⟩)
  rw [rounds_succ]
  go_wp2_with (go_at_call 149; refine (part4 _ b c x0 x1 x2 x3 _ _ (by go_simp) (cell_later (by go_grown) h0) (cell_later (by go_grown) h1) (cell_later (by go_grown) h2) (cell_later (by go_grown) h3)).mono ?_; rintro e w' ⟨rfl, rfl⟩)
  rw [rounds_succ]
  go_wp2_with (go_at_call 149; refine (part4 _ b c x0 x1 x2 x3 _ _ (by go_simp) (cell_later (by go_grown) h0) (cell_later (by go_grown) h1) (cell_later (by go_grown) h2) (cell_later (by go_grown) h3)).mono ?_; rintro e w' ⟨rfl, rfl⟩)
  rw [rounds_succ]
  go_wp2_with (go_at_call 149; refine (part4 _ b c x0 x1 x2 x3 _ _ (by go_simp) (cell_later (by go_grown) h0) (cell_later (by go_grown) h1) (cell_later (by go_grown) h2) (cell_later (by go_grown) h3)).mono ?_; rintro e w' ⟨rfl, rfl⟩)
  rw [rounds_succ]
  go_wp2_with fail
  refine (shift_four_new _ _ _ _ _ _ _ _ (by simp)).mono ?_
  rintro e w1 ⟨rfl, hB⟩
  (obtain ⟨hc_w1, hf_w1⟩ := bcell hB; have hz_w1 := hB.size; (try simp only [World.size_alloc, World.size_setCell, World.size_drew] at hz_w1 hc_w1 hf_w1); have k0_w1 := fun o => hc_w1 (w.heap.size) o (by omega); have l0_w1 := fun o => hf_w1 (w.heap.size) o (by omega); have k1_w1 := fun o => hc_w1 (w.heap.size + 1) o (by omega); have l1_w1 := fun o => hf_w1 (w.heap.size + 1) o (by omega); clear hc_w1 hf_w1; have hW_w1 : Below w.heap.size w w1 := below_after (by go_grown) hB)
  go_wp2
  refine bodyPost_ret (by simp [results, Tryz.results132, go_sem, k1_w1]; try rfl) rfl ?_
  refine ⟨ret_wide ⟨?_, ?_, ?_, ?_⟩, by go_grown⟩
  · rw [← dig0, ← mvd_down (cat4 x0 x1 x2 x3) n 0 4 (by omega) hL.out (by omega)]; simp [mvd]
  · rw [← dig1, ← mvd_down (cat4 x0 x1 x2 x3) n 1 4 (by omega) hL.out (by omega)]; simp [mvd]
  · rw [← dig2, ← mvd_down (cat4 x0 x1 x2 x3) n 2 4 (by omega) hL.out (by omega)]; simp [mvd]
  · rw [← dig3, ← mvd_down (cat4 x0 x1 x2 x3) n 3 4 (by omega) hL.out (by omega)]; simp [mvd]
theorem moved4_at (b c : Nat) (x0 x1 x2 x3 n : Int) [U64 x0] [U64 x1] [U64 x2] [U64 x3] (w : World) (h0 : w.cell? ⟨b, 0, none⟩ = some (.int .u64 x0)) (h1 : w.cell? ⟨b, 1, none⟩ = some (.int .u64 x1)) (h2 : w.cell? ⟨b, 2, none⟩ = some (.int .u64 x2)) (h3 : w.cell? ⟨b, 3, none⟩ = some (.int .u64 x3)) (hn : n = 256) :
    Calls Tryz.prog 132 #[.slice (some ⟨b, 0, none⟩) 4 c, .int .i64 n, .func (.func 133) #[] #[]] w fun e w' => e = .returned (.agg #[.int .u64 (lo (shI (cat4 x0 x1 x2 x3) n)), .int .u64 (w1 (shI (cat4 x0 x1 x2 x3) n)), .int .u64 (w2 (shI (cat4 x0 x1 x2 x3) n)), .int .u64 (w3 (shI (cat4 x0 x1 x2 x3) n))]) ∧ Below w.heap.size w w' := by
  have hb : b < w.heap.size := World.block_lt_of_cell? w _ h0
  have hmk : ∀ w, (Instr.makeSlice 138 (.int .i64 4) (.int .i64 4)).run Tryz.prog w = .ok (.slice (some ⟨w.heap.size, 0, none⟩) 4 4) (w.alloc (.cells #[.int .u64 0, .int .u64 0, .int .u64 0, .int .u64 0] 24)) := fun _ => by kernel_rfl
  obtain rfl := hn
  have hL := Lib.hid (cat4_lt x0 x1 x2 x3)
  have c63 : bits BinOp.and IntKind.i64 (256) 63 = 0 := by rw [and_i64_63]; rfl
  go_enter Tryz.func132, Tryz.ntmps132
  go_wp2_with fail
  refine wp_loop_rounds 5 ?_
  rw [rounds_succ]
  go_wp2_with (go_at_call 149; refine (part4 _ b c x0 x1 x2 x3 _ _ (by go_simp) (cell_later (by go_grown) h0) (cell_later (by go_grown) h1) (cell_later (by go_grown) h2) (cell_later (by go_grown) h3)).mono ?_; rintro e w' ⟨rfl, rfl⟩)
  rw [rounds_succ]
  go_wp2_with (go_at_call 149; refine (part4 _ b c x0 x1 x2 x3 _ _ (by go_simp) (cell_later (by go_grown) h0) (cell_later (by go_grown) h1) (cell_later (by go_grown) h2) (cell_later (by go_grown) h3)).mono ?_; rintro e w' ⟨rfl, rfl⟩)
  rw [rounds_succ]
  go_wp2_with (go_at_call 149; refine (part4 _ b c x0 x1 x2 x3 _ _ (by go_simp) (cell_later (by go_grown) h0) (cell_later (by go_grown) h1) (cell_later (by go_grown) h2) (cell_later (by go_grown) h3)).mono ?_; rintro e w' ⟨rfl, rfl⟩)
  rw [rounds_succ]
  go_wp2_with (go_at_call 149; refine (part4 _ b c x0 x1 x2 x3 _ _ (by go_simp) (cell_later (by go_grown) h0) (cell_later (by go_grown) h1) (cell_later (by go_grown) h2) (cell_later (by go_grown) h3)).mono ?_; rintro e w' ⟨rfl, rfl⟩)
  rw [rounds_succ]
  go_wp2_with fail
  refine (shift_four_new _ _ _ _ _ _ _ _ (by simp)).mono ?_
  rintro e w1 ⟨rfl, hB⟩
  (obtain ⟨hc_w1, hf_w1⟩ := bcell hB; have hz_w1 := hB.size; (try simp only [World.size_alloc, World.size_setCell, World.size_drew] at hz_w1 hc_w1 hf_w1); have k0_w1 := fun o => hc_w1 (w.heap.size) o (by omega); have l0_w1 := fun o => hf_w1 (w.heap.size) o (by omega); have k1_w1 := fun o => hc_w1 (w.heap.size + 1) o (by omega); have l1_w1 := fun o => hf_w1 (w.heap.size + 1) o (by omega); clear hc_w1 hf_w1; have hW_w1 : Below w.heap.size w w1 := below_after (by go_grown) hB)
  go_wp2
  refine bodyPost_ret (by simp [results, Tryz.results132, go_sem, k1_w1]; try rfl) rfl ?_
  refine ⟨ret_wide ⟨?_, ?_, ?_, ?_⟩, by go_grown⟩
  · rw [← dig0, ← mvd_up (cat4 x0 x1 x2 x3) 256 0 4 (by omega) (by omega) (by omega)]; simp [mvd]
  · rw [← dig1, ← mvd_up (cat4 x0 x1 x2 x3) 256 1 4 (by omega) (by omega) (by omega)]; simp [mvd]
  · rw [← dig2, ← mvd_up (cat4 x0 x1 x2 x3) 256 2 4 (by omega) (by omega) (by omega)]; simp [mvd]
  · rw [← dig3, ← mvd_up (cat4 x0 x1 x2 x3) 256 3 4 (by omega) (by omega) (by omega)]; simp [mvd]
theorem moved4_up (b c : Nat) (x0 x1 x2 x3 n : Int) [U64 x0] [U64 x1] [U64 x2] [U64 x3] (w : World) (h0 : w.cell? ⟨b, 0, none⟩ = some (.int .u64 x0)) (h1 : w.cell? ⟨b, 1, none⟩ = some (.int .u64 x1)) (h2 : w.cell? ⟨b, 2, none⟩ = some (.int .u64 x2)) (h3 : w.cell? ⟨b, 3, none⟩ = some (.int .u64 x3)) (hn : 256 < n) :
    Calls Tryz.prog 132 #[.slice (some ⟨b, 0, none⟩) 4 c, .int .i64 n, .func (.func 133) #[] #[]] w fun e w' => e = .returned (.agg #[.int .u64 (lo (shI (cat4 x0 x1 x2 x3) n)), .int .u64 (w1 (shI (cat4 x0 x1 x2 x3) n)), .int .u64 (w2 (shI (cat4 x0 x1 x2 x3) n)), .int .u64 (w3 (shI (cat4 x0 x1 x2 x3) n))]) ∧ Below w.heap.size w w' := by
  have hb : b < w.heap.size := World.block_lt_of_cell? w _ h0
  have hmk : ∀ w, (Instr.makeSlice 138 (.int .i64 4) (.int .i64 4)).run Tryz.prog w = .ok (.slice (some ⟨w.heap.size, 0, none⟩) 4 4) (w.alloc (.cells #[.int .u64 0, .int .u64 0, .int .u64 0, .int .u64 0] 24)) := fun _ => by kernel_rfl
  have hL := Lib.hid (cat4_lt x0 x1 x2 x3)
  have c63 : bits BinOp.and IntKind.i64 (256) 63 = 0 := by rw [and_i64_63]; rfl
  go_enter Tryz.func132, Tryz.ntmps132
  go_wp2_with fail
  refine wp_loop_rounds 5 ?_
  rw [rounds_succ]
  go_wp2_with (go_at_call 149; refine (part4 _ b c x0 x1 x2 x3 _ _ (by go_simp) (cell_later (by go_grown) h0) (cell_later (by go_grown) h1) (cell_later (by go_grown) h2) (cell_later (by go_grown) h3)).mono ?_; rintro e w' ⟨rfl, rfl⟩)
  rw [rounds_succ]
  go_wp2_with (go_at_call 149; refine (part4 _ b c x0 x1 x2 x3 _ _ (by go_simp) (cell_later (by go_grown) h0) (cell_later (by go_grown) h1) (cell_later (by go_grown) h2) (cell_later (by go_grown) h3)).mono ?_; rintro e w' ⟨rfl, rfl⟩)
  rw [rounds_succ]
  go_wp2_with (go_at_call 149; refine (part4 _ b c x0 x1 x2 x3 _ _ (by go_simp) (cell_later (by go_grown) h0) (cell_later (by go_grown) h1) (cell_later (by go_grown) h2) (cell_later (by go_grown) h3)).mono ?_; rintro e w' ⟨rfl, rfl⟩)
  rw [rounds_succ]
  go_wp2_with (go_at_call 149; refine (part4 _ b c x0 x1 x2 x3 _ _ (by go_simp) (cell_later (by go_grown) h0) (cell_later (by go_grown) h1) (cell_later (by go_grown) h2) (cell_later (by go_grown) h3)).mono ?_; rintro e w' ⟨rfl, rfl⟩)
  rw [rounds_succ]
  go_wp2_with fail
  refine (shift_four_new _ _ _ _ _ _ _ _ (by simp)).mono ?_
  rintro e w1 ⟨rfl, hB⟩
  (obtain ⟨hc_w1, hf_w1⟩ := bcell hB; have hz_w1 := hB.size; (try simp only [World.size_alloc, World.size_setCell, World.size_drew] at hz_w1 hc_w1 hf_w1); have k0_w1 := fun o => hc_w1 (w.heap.size) o (by omega); have l0_w1 := fun o => hf_w1 (w.heap.size) o (by omega); have k1_w1 := fun o => hc_w1 (w.heap.size + 1) o (by omega); have l1_w1 := fun o => hf_w1 (w.heap.size + 1) o (by omega); clear hc_w1 hf_w1; have hW_w1 : Below w.heap.size w w1 := below_after (by go_grown) hB)
  go_wp2
  refine bodyPost_ret (by simp [results, Tryz.results132, go_sem, k1_w1]; try rfl) rfl ?_
  refine ⟨ret_wide ⟨?_, ?_, ?_, ?_⟩, by go_grown⟩
  · rw [← dig0, ← mvd_up (cat4 x0 x1 x2 x3) n 0 4 (by omega) (by omega) (by omega)]; simp [mvd]
  · rw [← dig1, ← mvd_up (cat4 x0 x1 x2 x3) n 1 4 (by omega) (by omega) (by omega)]; simp [mvd]
  · rw [← dig2, ← mvd_up (cat4 x0 x1 x2 x3) n 2 4 (by omega) (by omega) (by omega)]; simp [mvd]
  · rw [← dig3, ← mvd_up (cat4 x0 x1 x2 x3) n 3 4 (by omega) (by omega) (by omega)]; simp [mvd]
theorem moved4 (b c : Nat) (x0 x1 x2 x3 n : Int) [U64 x0] [U64 x1] [U64 x2] [U64 x3] (w : World) (h0 : w.cell? ⟨b, 0, none⟩ = some (.int .u64 x0)) (h1 : w.cell? ⟨b, 1, none⟩ = some (.int .u64 x1)) (h2 : w.cell? ⟨b, 2, none⟩ = some (.int .u64 x2)) (h3 : w.cell? ⟨b, 3, none⟩ = some (.int .u64 x3)) :
    Calls Tryz.prog 132 #[.slice (some ⟨b, 0, none⟩) 4 c, .int .i64 n, .func (.func 133) #[] #[]] w fun e w' => e = .returned (.agg #[.int .u64 (lo (shI (cat4 x0 x1 x2 x3) n)), .int .u64 (w1 (shI (cat4 x0 x1 x2 x3) n)), .int .u64 (w2 (shI (cat4 x0 x1 x2 x3) n)), .int .u64 (w3 (shI (cat4 x0 x1 x2 x3) n))]) ∧ Below w.heap.size w w' := by
  have : n ≤ -256 ∨ n = 256 ∨ 256 < n ∨ (-256 < n ∧ n < 256) := by omega
  rcases this with h | h | h | h
  · exact moved4_down b c x0 x1 x2 x3 n w h0 h1 h2 h3 h
  · exact moved4_at b c x0 x1 x2 x3 n w h0 h1 h2 h3 h
  · exact moved4_up b c x0 x1 x2 x3 n w h0 h1 h2 h3 h
  · exact moved4_mid b c x0 x1 x2 x3 n w h0 h1 h2 h3 h.1 h.2
end Go.Proofs.YtkpjeceofcfnkaaGreatDoor
