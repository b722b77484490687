/- The contracts of package shift: Lost, Jam, WideJam: for every input. -/
import Derived.Test.YtgdbdbjegiaifaaDoorShift6
set_option linter.unusedSimpArgs false
set_option linter.unusedVariables false
namespace Go.Hb
theorem or_one (x : Nat) : x ||| 1 = 2 * (x / 2) + 1 := by
  apply Nat.eq_of_testBit_eq
  intro i
  rw [Nat.testBit_or]
  cases i with
  | zero => simp
  | succ i =>
    rw [Nat.testBit_succ, Nat.testBit_succ, Nat.testBit_succ, show (2 * (x / 2) + 1) / 2 = x / 2 by omega]
    simp
theorem or_one_parts (x : Nat) : Go.bits BinOp.or IntKind.u64 (lo x) 1 = lo (x ||| 1) ∧ w1 x = w1 (x ||| 1) ∧ w2 x = w2 (x ||| 1) ∧ w3 x = w3 (x ||| 1) := by
  have e := (bits_nat .u64 64 (by decide) (fun n h1 h2 => by rw [IntKind.wrap_u64]; omega) (x % 18446744073709551616) 1 (by omega) (by decide)).2
  refine ⟨?_, ?_, ?_, ?_⟩
  · show Go.bits BinOp.or IntKind.u64 ((x % 18446744073709551616 : Nat) : Int) ((1 : Nat) : Int) = _
    rw [e, or_one, or_one]; unfold lo; omega
  · rw [or_one]; unfold w1; omega
  · rw [or_one]; unfold w2; omega
  · rw [or_one]; unfold w3; omega
end Go.Hb
namespace Go.Proofs.YtgdbdbjegiaifaaDoor
open Go.RowKit Go.Hb
theorem lost_key (v : Nat) (n : Int) (hlt : v < 115792089237316195423570985008687907853269984665640564039457584007913129639936) :
    (lo (lsh (rsh v n) n) = lo v ∧ w1 (lsh (rsh v n) n) = w1 v ∧ w2 (lsh (rsh v n) n) = w2 v ∧ w3 (lsh (rsh v n) n) = w3 v) ↔ v % 2 ^ n.toNat = 0 := by
  have hle : lsh (rsh v n) n ≤ v := Nat.div_mul_le_self v _
  have e3 : v % 2 ^ n.toNat + lsh (rsh v n) n = v := by
    have := Nat.mod_add_div v (2 ^ n.toNat)
    rw [Nat.mul_comm] at this; exact this
  constructor
  · rintro ⟨h0, h1, h2, h3⟩
    have e1 := cat4_parts (lsh (rsh v n) n) (Nat.lt_of_le_of_lt hle hlt)
    have e2 := cat4_parts v hlt
    rw [h0, h1, h2, h3, e2] at e1
    clear hlt e2 h0 h1 h2 h3
    omega
  · intro h
    have : lsh (rsh v n) n = v := by clear hlt; omega
    rw [this]; exact ⟨rfl, rfl, rfl, rfl⟩
theorem lost_eq (x0 x1 x2 x3 n : Int) [U64 x0] [U64 x1] [U64 x2] [U64 x3] :
    (!decide (lo (lsh (rsh (cat4 x0 x1 x2 x3) n) n) = x0 ∧ w1 (lsh (rsh (cat4 x0 x1 x2 x3) n) n) = x1 ∧ w2 (lsh (rsh (cat4 x0 x1 x2 x3) n) n) = x2 ∧ w3 (lsh (rsh (cat4 x0 x1 x2 x3) n) n) = x3)) = lostS (cat4 x0 x1 x2 x3) n := by
  have hk := lost_key (cat4 x0 x1 x2 x3) n (cat4_lt x0 x1 x2 x3)
  have hp := parts_cat4 x0 x1 x2 x3
  rw [hp.1, hp.2.1, hp.2.2.1, hp.2.2.2] at hk
  unfold lostS
  rw [Bool.eq_iff_iff, Bool.not_eq_true', decide_eq_false_iff_not, decide_eq_true_iff, hk]
set_option maxRecDepth 100000 in
set_option maxHeartbeats 2000000 in
theorem shift_Lost (x0 x1 x2 x3 n : Int) [U64 x0] [U64 x1] [U64 x2] [U64 x3] (w : World) :
    Calls Tryd.prog 50 #[.agg #[.int .u64 (x0), .int .u64 (x1), .int .u64 (x2), .int .u64 (x3)], .int .i64 n] w fun e w' => e = .returned (.bool (lostS (cat4 x0 x1 x2 x3) n)) ∧ Below w.heap.size w w' := by
  have he := fun W => run_neq_wide W (lo (lsh (rsh (cat4 x0 x1 x2 x3) n) n)) (w1 (lsh (rsh (cat4 x0 x1 x2 x3) n) n)) (w2 (lsh (rsh (cat4 x0 x1 x2 x3) n) n)) (w3 (lsh (rsh (cat4 x0 x1 x2 x3) n) n)) x0 x1 x2 x3
  rw [← lost_eq]
  have hc := Lib.hid (cat4_parts (rsh (cat4 x0 x1 x2 x3) n) (Nat.lt_of_le_of_lt (Nat.div_le_self _ _) (cat4_lt x0 x1 x2 x3)))
  go_enter Tryd.func50, Tryd.ntmps50
  go_wp2_with fail
  go_region_held3 (fun w' => w'.cell? ⟨w.heap.size, 0, none⟩ = some (.int .u64 x0) ∧ w'.cell? ⟨w.heap.size, 1, none⟩ = some (.int .u64 x1) ∧ w'.cell? ⟨w.heap.size, 2, none⟩ = some (.int .u64 x2) ∧ w'.cell? ⟨w.heap.size, 3, none⟩ = some (.int .u64 x3))
    (first | go_keep | (go_split_ands; exact ⟨cell_later hB2 (by assumption), cell_later hB2 (by assumption), cell_later hB2 (by assumption), cell_later hB2 (by assumption)⟩) | (go_split_ands; exact ⟨cell_later hB1 (by assumption), cell_later hB1 (by assumption), cell_later hB1 (by assumption), cell_later hB1 (by assumption)⟩))
    (first | (go_at_call 49; refine (shift_WideRight _ _ _ _ _ _).mono ?_; rintro e w1 ⟨rfl, hB1⟩) | (go_at_call 92; refine (shift_WideLeft _ _ _ _ _ _).mono ?_; rw [hc.out]; rintro e w2 ⟨rfl, hB2⟩))
  go_wp2
  go_returns
  refine ⟨ret_bool (by simp [Bool.decide_and]), below_after (below_after (by go_grown) hB1) hB2⟩
/-- Down, the lowest bit 1 if something fell off. -/
def jamS (v : Nat) (n : Int) : Nat := if lostS v n then rsh v n ||| 1 else rsh v n
set_option maxRecDepth 100000 in
set_option maxHeartbeats 2000000 in
theorem shift_WideJam (x0 x1 x2 x3 n : Int) [U64 x0] [U64 x1] [U64 x2] [U64 x3] (w : World) :
    Calls Tryd.prog 19 #[.agg #[.int .u64 (x0), .int .u64 (x1), .int .u64 (x2), .int .u64 (x3)], .int .i64 n] w fun e w' => e = .returned (.agg #[.int .u64 (lo (jamS (cat4 x0 x1 x2 x3) n)), .int .u64 (w1 (jamS (cat4 x0 x1 x2 x3) n)), .int .u64 (w2 (jamS (cat4 x0 x1 x2 x3) n)), .int .u64 (w3 (jamS (cat4 x0 x1 x2 x3) n))]) ∧ Below w.heap.size w w' := by
  cases hl : lostS (cat4 x0 x1 x2 x3) n
  · have hj : jamS (cat4 x0 x1 x2 x3) n = rsh (cat4 x0 x1 x2 x3) n := by simp [jamS, hl]
    rw [hj]
    clear hj
    go_enter Tryd.func19, Tryd.ntmps19
    (go_wp2_with fail; refine (shift_WideRight x0 x1 x2 x3 _ _).mono ?_; rintro en w1 ⟨rfl, hB_w1⟩; (obtain ⟨hc_w1, hf_w1⟩ := bcell hB_w1; have hz_w1 := hB_w1.size; (try simp only [World.size_alloc, World.size_setCell, World.size_drew] at hz_w1 hc_w1 hf_w1); have k0_w1 := fun o => hc_w1 (w.heap.size) o (by omega); have l0_w1 := fun o => hf_w1 (w.heap.size) o (by omega); have k1_w1 := fun o => hc_w1 (w.heap.size + 1) o (by omega); have l1_w1 := fun o => hf_w1 (w.heap.size + 1) o (by omega); have z_w1 : w.heap.size < w1.heap.size ∧ w.heap.size ≤ w1.heap.size ∧ w.heap.size ≤ w1.heap.size + 1 ∧ w.heap.size ≤ w1.heap.size + 1 + 1 ∧ w.heap.size + 1 < w1.heap.size ∧ w.heap.size + 1 ≤ w1.heap.size ∧ w.heap.size + 1 ≤ w1.heap.size + 1 ∧ w.heap.size + 1 ≤ w1.heap.size + 1 + 1 := (by omega); clear hc_w1 hf_w1; have hW_w1 : Below w.heap.size w w1 := below_after (by go_grown) hB_w1))
    (go_wp2_with fail; refine (shift_Lost x0 x1 x2 x3 _ _).mono ?_; rintro en w2 ⟨rfl, hB_w2⟩; (obtain ⟨hc_w2, hf_w2⟩ := bcell hB_w2; have hz_w2 := hB_w2.size; (try simp only [World.size_alloc, World.size_setCell, World.size_drew] at hz_w2 hc_w2 hf_w2); have k0_w2 := fun o => hc_w2 (w.heap.size) o (by omega); have l0_w2 := fun o => hf_w2 (w.heap.size) o (by omega); have k1_w2 := fun o => hc_w2 (w.heap.size + 1) o (by omega); have l1_w2 := fun o => hf_w2 (w.heap.size + 1) o (by omega); have kw1_0_w2 := fun o => hc_w2 (w1.heap.size) o (by omega); have lw1_0_w2 := fun o => hf_w2 (w1.heap.size) o (by omega); have z_w2 : w.heap.size < w2.heap.size ∧ w.heap.size ≤ w2.heap.size ∧ w.heap.size ≤ w2.heap.size + 1 ∧ w.heap.size ≤ w2.heap.size + 1 + 1 ∧ w.heap.size + 1 < w2.heap.size ∧ w.heap.size + 1 ≤ w2.heap.size ∧ w.heap.size + 1 ≤ w2.heap.size + 1 ∧ w.heap.size + 1 ≤ w2.heap.size + 1 + 1 ∧ w1.heap.size < w2.heap.size ∧ w1.heap.size ≤ w2.heap.size ∧ w1.heap.size ≤ w2.heap.size + 1 ∧ w1.heap.size ≤ w2.heap.size + 1 + 1 := (by omega); clear hc_w2 hf_w2; have hW_w2 : Below w.heap.size w w2 := below_after (by go_grown) hB_w2))
    go_wp2_with fail
    refine bodyPost_ret (by simp [results, Tryd.results19, go_sem, k1_w2, k1_w1, kw1_0_w2, z_w1]; try rfl) rfl ?_
    exact ⟨rfl, by go_grown⟩
  · have hj : jamS (cat4 x0 x1 x2 x3) n = rsh (cat4 x0 x1 x2 x3) n ||| 1 := by simp [jamS, hl]
    rw [hj]
    clear hj
    go_enter Tryd.func19, Tryd.ntmps19
    (go_wp2_with fail; refine (shift_WideRight x0 x1 x2 x3 _ _).mono ?_; rintro en w1 ⟨rfl, hB_w1⟩; (obtain ⟨hc_w1, hf_w1⟩ := bcell hB_w1; have hz_w1 := hB_w1.size; (try simp only [World.size_alloc, World.size_setCell, World.size_drew] at hz_w1 hc_w1 hf_w1); have k0_w1 := fun o => hc_w1 (w.heap.size) o (by omega); have l0_w1 := fun o => hf_w1 (w.heap.size) o (by omega); have k1_w1 := fun o => hc_w1 (w.heap.size + 1) o (by omega); have l1_w1 := fun o => hf_w1 (w.heap.size + 1) o (by omega); have z_w1 : w.heap.size < w1.heap.size ∧ w.heap.size ≤ w1.heap.size ∧ w.heap.size ≤ w1.heap.size + 1 ∧ w.heap.size ≤ w1.heap.size + 1 + 1 ∧ w.heap.size + 1 < w1.heap.size ∧ w.heap.size + 1 ≤ w1.heap.size ∧ w.heap.size + 1 ≤ w1.heap.size + 1 ∧ w.heap.size + 1 ≤ w1.heap.size + 1 + 1 := (by omega); clear hc_w1 hf_w1; have hW_w1 : Below w.heap.size w w1 := below_after (by go_grown) hB_w1))
    (go_wp2_with fail; refine (shift_Lost x0 x1 x2 x3 _ _).mono ?_; rintro en w2 ⟨rfl, hB_w2⟩; (obtain ⟨hc_w2, hf_w2⟩ := bcell hB_w2; have hz_w2 := hB_w2.size; (try simp only [World.size_alloc, World.size_setCell, World.size_drew] at hz_w2 hc_w2 hf_w2); have k0_w2 := fun o => hc_w2 (w.heap.size) o (by omega); have l0_w2 := fun o => hf_w2 (w.heap.size) o (by omega); have k1_w2 := fun o => hc_w2 (w.heap.size + 1) o (by omega); have l1_w2 := fun o => hf_w2 (w.heap.size + 1) o (by omega); have kw1_0_w2 := fun o => hc_w2 (w1.heap.size) o (by omega); have lw1_0_w2 := fun o => hf_w2 (w1.heap.size) o (by omega); have z_w2 : w.heap.size < w2.heap.size ∧ w.heap.size ≤ w2.heap.size ∧ w.heap.size ≤ w2.heap.size + 1 ∧ w.heap.size ≤ w2.heap.size + 1 + 1 ∧ w.heap.size + 1 < w2.heap.size ∧ w.heap.size + 1 ≤ w2.heap.size ∧ w.heap.size + 1 ≤ w2.heap.size + 1 ∧ w.heap.size + 1 ≤ w2.heap.size + 1 + 1 ∧ w1.heap.size < w2.heap.size ∧ w1.heap.size ≤ w2.heap.size ∧ w1.heap.size ≤ w2.heap.size + 1 ∧ w1.heap.size ≤ w2.heap.size + 1 + 1 := (by omega); clear hc_w2 hf_w2; have hW_w2 : Below w.heap.size w w2 := below_after (by go_grown) hB_w2))
    go_wp2_with fail
    refine bodyPost_ret (by simp [results, Tryd.results19, go_sem, k1_w2, k1_w1, kw1_0_w2, z_w1]; try rfl) rfl ?_
    exact ⟨ret_wide (or_one_parts _), by go_grown⟩
end Go.Proofs.YtgdbdbjegiaifaaDoor
