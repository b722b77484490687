/- The contracts of package round: for every input. -/
import Derived.Test.YtkpjeceofcfnkaaGreatDoorMode
import Derived.Test.YtkpjeceofcfnkaaGreatDoorShift6
import Derived.Test.YtkpjeceofcfnkaaGreatDoorFormat2
set_option maxRecDepth 100000
set_option maxHeartbeats 4000000
set_option linter.unusedSimpArgs false
set_option linter.unusedVariables false
namespace Go.Hb
/-- A rest of its bits. -/
def ofS (half below : Bool) : Int := if half then (if below then 3 else 2) else (if below then 1 else 0)
/-- The rest of 256 bits behind keep of them. -/
def restS (v : Nat) (keep : Int) : Int := ofS (v.testBit (255 - keep).toNat) (lostS v (255 - keep))
end Go.Hb
namespace Go.Proofs.YtkpjeceofcfnkaaGreatDoor
open Go.RowKit Go.Hb
/-- Whether a rest is lost. -/
def inexS (v : Nat) (keep : Int) : Bool := restS v keep != 0
/-- The bits that are kept, rounded. -/
def cutS (v : Nat) (keep m : Int) (neg : Bool) : Nat := if nextS m neg (lo (rsh v (256 - keep)) % 2 == 1) (restS v keep) then cat (w1 (rsh v (256 - keep))) (lo (rsh v (256 - keep))) + 1 else cat (w1 (rsh v (256 - keep))) (lo (rsh v (256 - keep)))
theorem mode_Of (half below : Bool) (w : World) :
    Calls Tryz.prog 135 #[.bool half, .bool below] w fun e w' => e = .returned (.int .u8 (ofS half below)) ∧ w = w' := by
  cases half <;> cases below
  all_goals go_enter Tryz.func135, Tryz.ntmps135
  all_goals go_wp2
  all_goals go_returns
  all_goals exact ⟨rfl, rfl⟩
theorem mode_Infinite (m : Int) (neg : Bool) (w : World) (m0 : 0 ≤ m) :
    Calls Tryz.prog 141 #[.int .u8 m, .bool neg] w fun e w' => e = .returned (.bool (nextS m neg true 3)) ∧ Below w.heap.size w w' := by
  go_enter Tryz.func141, Tryz.ntmps141
  (go_wp2_with fail; refine (mode_Next _ _ _ _ _ m0).mono ?_; rintro en w1 ⟨rfl, hB_w1⟩; (obtain ⟨hc_w1, hf_w1⟩ := bcell hB_w1; have hz_w1 := hB_w1.size; (try simp only [World.size_alloc, World.size_setCell, World.size_drew] at hz_w1 hc_w1 hf_w1); clear hc_w1 hf_w1; have hW_w1 : Below w.heap.size w w1 := below_after (by go_grown) hB_w1))
  go_wp2_with fail
  go_returns
  exact ⟨rfl, by go_grown⟩
theorem cat4_bit (a b c d : Int) (i : Nat) [ha : U64 a] : (cat4 a b c d).testBit i = if i < 64 then a.toNat.testBit i else (cat4 b c d 0).testBit (i - 64) := by
  have h1 := ha.lt; have h2 := ha.ge
  have e : cat4 a b c d = 2 ^ 64 * cat4 b c d 0 + a.toNat := by unfold cat4; omega
  rw [e, Nat.testBit_two_pow_mul_add _ (by omega)]
theorem cat4_word (b : Nat) (x0 x1 x2 x3 i : Int) [h0 : U64 x0] [h1 : U64 x1] [h2 : U64 x2] [h3 : U64 x3] (w : World) (i0 : 0 ≤ i) (i1 : i ≤ 255)
    (c0 : w.cell? ⟨b, 0, none⟩ = some (.int .u64 x0)) (c1 : w.cell? ⟨b, 1, none⟩ = some (.int .u64 x1)) (c2 : w.cell? ⟨b, 2, none⟩ = some (.int .u64 x2)) (c3 : w.cell? ⟨b, 3, none⟩ = some (.int .u64 x3)) :
    ∃ x : Int, w.cell? ⟨b, (i / 64).toNat, none⟩ = some (.int .u64 x) ∧ 0 ≤ x ∧ x < 18446744073709551616 ∧ (cat4 x0 x1 x2 x3).testBit i.toNat = x.toNat.testBit (i % 64).toNat := by
  have hi : i / 64 = 0 ∨ i / 64 = 1 ∨ i / 64 = 2 ∨ i / 64 = 3 := by omega
  rcases hi with hi | hi | hi | hi
  · refine ⟨x0, by rw [hi]; exact c0, h0.ge, h0.lt, ?_⟩
    rw [cat4_bit, if_pos (by omega)]; congr 1; omega
  · refine ⟨x1, by rw [hi]; exact c1, h1.ge, h1.lt, ?_⟩
    rw [cat4_bit, if_neg (by omega), cat4_bit, if_pos (by omega)]; congr 1; omega
  · refine ⟨x2, by rw [hi]; exact c2, h2.ge, h2.lt, ?_⟩
    have e1 : ¬ i.toNat < 64 := by omega
    have e2 : ¬ i.toNat - 64 < 64 := by omega
    have e3 : i.toNat - 64 - 64 < 64 := by omega
    rw [cat4_bit, if_neg e1, cat4_bit, if_neg e2, cat4_bit, if_pos e3, show i.toNat - 64 - 64 = (i % 64).toNat by omega]
  · refine ⟨x3, by rw [hi]; exact c3, h3.ge, h3.lt, ?_⟩
    have e1 : ¬ i.toNat < 64 := by omega
    have e2 : ¬ i.toNat - 64 < 64 := by omega
    have e3 : ¬ i.toNat - 64 - 64 < 64 := by omega
    have e4 : i.toNat - 64 - 64 - 64 < 64 := by omega
    rw [cat4_bit, if_neg e1, cat4_bit, if_neg e2, cat4_bit, if_neg e3, cat4_bit, if_pos e4, show i.toNat - 64 - 64 - 64 = (i % 64).toNat by omega]
theorem rest_bit (b : Nat) (x0 x1 x2 x3 i : Int) [U64 x0] [U64 x1] [U64 x2] [U64 x3] (w : World) (h0 : 0 ≤ i) (h1 : i ≤ 255)
    (c0 : w.cell? ⟨b, 0, none⟩ = some (.int .u64 x0)) (c1 : w.cell? ⟨b, 1, none⟩ = some (.int .u64 x1)) (c2 : w.cell? ⟨b, 2, none⟩ = some (.int .u64 x2)) (c3 : w.cell? ⟨b, 3, none⟩ = some (.int .u64 x3)) :
    Calls Tryz.prog 134 #[.int .i64 i, .pointer (some ⟨b, 0, none⟩)] w fun e w' => e = .returned (.bool ((cat4 x0 x1 x2 x3).testBit i.toNat)) ∧ w = w' := by
  obtain ⟨x, hx, x0', x1', hb⟩ := cat4_word b x0 x1 x2 x3 i w h0 h1 c0 c1 c2 c3
  rw [hb]
  have hx1 := Lib.hid x1'
  clear c0 c1 c2 c3 hb x1'
  have hm := and_i64_63 i
  go_enter Tryz.func134, Tryz.ntmps134
  go_wp2
  go_returns
  refine ⟨ret_bool ?_, rfl⟩
  show (bits BinOp.and IntKind.u64 (x / 2 ^ (i % 64).toNat) 1 == 1) = _
  rw [and1 _ _ x0' hx1.out]
theorem round_Rest (x0 x1 x2 x3 keep : Int) [U64 x0] [U64 x1] [U64 x2] [U64 x3] (w : World) (h0 : 0 ≤ keep) (h1 : keep ≤ 127) :
    Calls Tryz.prog 113 #[.agg #[.int .u64 (x0), .int .u64 (x1), .int .u64 (x2), .int .u64 (x3)], .int .i64 keep] w fun e w' => e = .returned (.int .u8 (restS (cat4 x0 x1 x2 x3) keep)) ∧ Below w.heap.size w w' := by
  have hk : IntKind.i64.wrap (255 - keep) = 255 - keep := IntWalk.i64_in _ (by omega)
  go_enter Tryz.func113, Tryz.ntmps113
  go_upto_region 4 with fail
  refine wp_rename ?_
  intro W0 hW0
  have c0 : W0.cell? ⟨w.heap.size, 0, none⟩ = some (.int .u64 x0) := by rw [hW0]; go_simp
  have c1 : W0.cell? ⟨w.heap.size, 1, none⟩ = some (.int .u64 x1) := by rw [hW0]; go_simp
  have c2 : W0.cell? ⟨w.heap.size, 2, none⟩ = some (.int .u64 x2) := by rw [hW0]; go_simp
  have c3 : W0.cell? ⟨w.heap.size, 3, none⟩ = some (.int .u64 x3) := by rw [hW0]; go_simp
  have hBW : Below w.heap.size w W0 := by rw [hW0]; go_grown
  clear hW0
  go_region_held3 (fun w' => w'.cell? ⟨w.heap.size, 0, none⟩ = some (.int .u64 x0) ∧ w'.cell? ⟨w.heap.size, 1, none⟩ = some (.int .u64 x1) ∧ w'.cell? ⟨w.heap.size, 2, none⟩ = some (.int .u64 x2) ∧ w'.cell? ⟨w.heap.size, 3, none⟩ = some (.int .u64 x3))
    ((refine ⟨?_, ?_, ?_, ?_⟩ <;> (refine cell_later (w := W0) ?_ (by assumption); go_grown)))
    (first | (go_at_call 134; refine (rest_bit _ _ _ _ _ _ _ (by omega) (by omega) (cell_later (by go_grown) c0) (cell_later (by go_grown) c1) (cell_later (by go_grown) c2) (cell_later (by go_grown) c3)).mono ?_; rintro en w2 ⟨rfl, rfl⟩) | (go_at_call 111; refine (shift_Lost _ _ _ _ _ _).mono ?_; rintro en w3 ⟨rfl, hB3⟩; have hb3 : Below W0.heap.size W0 w3 := below_after (by go_grown) hB3) | (go_at_call 135; refine (mode_Of _ _ _).mono ?_; rintro en w4 ⟨rfl, rfl⟩))
  all_goals (go_wp2_with fail; go_returns)
  all_goals exact ⟨rfl, below_after hBW hb3⟩
theorem odd_lo (n : Nat) : bits BinOp.and IntKind.u64 (lo n) 1 = lo n % 2 := by
  have := (bits_nat .u64 64 (by decide) (fun n h1 h2 => by rw [IntKind.wrap_u64]; omega) (n % 18446744073709551616) 1 (Nat.mod_lt _ (by decide)) (by decide)).1
  have e : lo n = ((n % 18446744073709551616 : Nat) : Int) := by unfold lo; omega
  rw [e, show (1 : Int) = ((1 : Nat) : Int) from rfl, this, Nat.and_one_is_mod]
  omega
theorem round_Cut (x0 x1 x2 x3 keep m : Int) (neg : Bool) [U64 x0] [U64 x1] [U64 x2] [U64 x3] (w : World) (h0 : 0 ≤ keep) (h1 : keep ≤ 127) (m0 : 0 ≤ m) (m1 : m ≤ 4) :
    Calls Tryz.prog 78 #[.agg #[.int .u64 (x0), .int .u64 (x1), .int .u64 (x2), .int .u64 (x3)], .int .i64 keep, .int .u8 m, .bool neg] w fun e w' => e = .returned (.tuple #[.agg #[.int .u64 (hi (cutS (cat4 x0 x1 x2 x3) keep m neg)), .int .u64 (lo (cutS (cat4 x0 x1 x2 x3) keep m neg))], .bool (inexS (cat4 x0 x1 x2 x3) keep)]) ∧ Below w.heap.size w w' := by
  have hk : IntKind.i64.wrap (256 - keep) = 256 - keep := IntWalk.i64_in _ (by omega)
  go_enter Tryz.func78, Tryz.ntmps78
  go_wp2_with (go_at_call 28; refine (mode_Known _ _).mono ?_; rintro e w' ⟨rfl, rfl⟩)
  refine (shift_WideRight _ _ _ _ _ _).mono ?_
  rintro en w1 ⟨rfl, hB_w1⟩
  (obtain ⟨hc_w1, hf_w1⟩ := bcell hB_w1; have hz_w1 := hB_w1.size; (try simp only [World.size_alloc, World.size_setCell, World.size_drew] at hz_w1 hc_w1 hf_w1); have k0_w1 := fun o => hc_w1 (w.heap.size) o (by omega); have l0_w1 := fun o => hf_w1 (w.heap.size) o (by omega); have k1_w1 := fun o => hc_w1 (w.heap.size + 1) o (by omega); have l1_w1 := fun o => hf_w1 (w.heap.size + 1) o (by omega); have z_w1 : w.heap.size < w1.heap.size ∧ w.heap.size ≤ w1.heap.size ∧ w.heap.size ≤ w1.heap.size + 1 ∧ w.heap.size ≤ w1.heap.size + 1 + 1 ∧ w.heap.size + 1 < w1.heap.size ∧ w.heap.size + 1 ≤ w1.heap.size ∧ w.heap.size + 1 ≤ w1.heap.size + 1 ∧ w.heap.size + 1 ≤ w1.heap.size + 1 + 1 := (by omega); clear hc_w1 hf_w1; have hW_w1 : Below w.heap.size w w1 := below_after (by go_grown) hB_w1)
  (go_wp2_with fail; refine (wide_Low _ _ _ _ _).mono ?_; rintro en w2 ⟨rfl, hB_w2⟩; (obtain ⟨hc_w2, hf_w2⟩ := bcell hB_w2; have hz_w2 := hB_w2.size; (try simp only [World.size_alloc, World.size_setCell, World.size_drew] at hz_w2 hc_w2 hf_w2); have k0_w2 := fun o => hc_w2 (w.heap.size) o (by omega); have l0_w2 := fun o => hf_w2 (w.heap.size) o (by omega); have k1_w2 := fun o => hc_w2 (w.heap.size + 1) o (by omega); have l1_w2 := fun o => hf_w2 (w.heap.size + 1) o (by omega); have z_w2 : w.heap.size < w2.heap.size ∧ w.heap.size ≤ w2.heap.size ∧ w.heap.size ≤ w2.heap.size + 1 ∧ w.heap.size ≤ w2.heap.size + 1 + 1 ∧ w.heap.size + 1 < w2.heap.size ∧ w.heap.size + 1 ≤ w2.heap.size ∧ w.heap.size + 1 ≤ w2.heap.size + 1 ∧ w.heap.size + 1 ≤ w2.heap.size + 1 + 1 := (by omega); clear hc_w2 hf_w2; have hW_w2 : Below w.heap.size w w2 := below_after (by go_grown) hB_w2))
  (go_wp2_with fail; refine (round_Rest _ _ _ _ _ _ h0 h1).mono ?_; rintro en w3 ⟨rfl, hB_w3⟩; (obtain ⟨hc_w3, hf_w3⟩ := bcell hB_w3; have hz_w3 := hB_w3.size; (try simp only [World.size_alloc, World.size_setCell, World.size_drew] at hz_w3 hc_w3 hf_w3); have k0_w3 := fun o => hc_w3 (w.heap.size) o (by omega); have l0_w3 := fun o => hf_w3 (w.heap.size) o (by omega); have k1_w3 := fun o => hc_w3 (w.heap.size + 1) o (by omega); have l1_w3 := fun o => hf_w3 (w.heap.size + 1) o (by omega); have kw2_0_w3 := fun o => hc_w3 (w2.heap.size) o (by omega); have lw2_0_w3 := fun o => hf_w3 (w2.heap.size) o (by omega); have z_w3 : w.heap.size < w3.heap.size ∧ w.heap.size ≤ w3.heap.size ∧ w.heap.size ≤ w3.heap.size + 1 ∧ w.heap.size ≤ w3.heap.size + 1 + 1 ∧ w.heap.size + 1 < w3.heap.size ∧ w.heap.size + 1 ≤ w3.heap.size ∧ w.heap.size + 1 ≤ w3.heap.size + 1 ∧ w.heap.size + 1 ≤ w3.heap.size + 1 + 1 ∧ w2.heap.size < w3.heap.size ∧ w2.heap.size ≤ w3.heap.size ∧ w2.heap.size ≤ w3.heap.size + 1 ∧ w2.heap.size ≤ w3.heap.size + 1 + 1 := (by omega); clear hc_w3 hf_w3; have hW_w3 : Below w.heap.size w w3 := below_after (by go_grown) hB_w3))
  have hodd : (bits BinOp.and IntKind.u64 (lo (rsh (cat4 x0 x1 x2 x3) (256 - keep))) 1 == 1) = (lo (rsh (cat4 x0 x1 x2 x3) (256 - keep)) % 2 == 1) := by rw [odd_lo]
  go_wp2_with fail
  refine (mode_Next _ _ _ _ _ m0).mono ?_
  rintro en w4 ⟨rfl, hB_w4⟩
  (obtain ⟨hc_w4, hf_w4⟩ := bcell hB_w4; have hz_w4 := hB_w4.size; (try simp only [World.size_alloc, World.size_setCell, World.size_drew] at hz_w4 hc_w4 hf_w4); have k0_w4 := fun o => hc_w4 (w.heap.size) o (by omega); have l0_w4 := fun o => hf_w4 (w.heap.size) o (by omega); have k1_w4 := fun o => hc_w4 (w.heap.size + 1) o (by omega); have l1_w4 := fun o => hf_w4 (w.heap.size + 1) o (by omega); have kw2_0_w4 := fun o => hc_w4 (w2.heap.size) o (by omega); have lw2_0_w4 := fun o => hf_w4 (w2.heap.size) o (by omega); have z_w4 : w.heap.size < w4.heap.size ∧ w.heap.size ≤ w4.heap.size ∧ w.heap.size ≤ w4.heap.size + 1 ∧ w.heap.size ≤ w4.heap.size + 1 + 1 ∧ w.heap.size + 1 < w4.heap.size ∧ w.heap.size + 1 ≤ w4.heap.size ∧ w.heap.size + 1 ≤ w4.heap.size + 1 ∧ w.heap.size + 1 ≤ w4.heap.size + 1 + 1 ∧ w2.heap.size < w4.heap.size ∧ w2.heap.size ≤ w4.heap.size ∧ w2.heap.size ≤ w4.heap.size + 1 ∧ w2.heap.size ≤ w4.heap.size + 1 + 1 := (by omega); clear hc_w4 hf_w4; have hW_w4 : Below w.heap.size w w4 := below_after (by go_grown) hB_w4)
  cases hn : nextS m neg (lo (rsh (cat4 x0 x1 x2 x3) (256 - keep)) % 2 == 1) (restS (cat4 x0 x1 x2 x3) keep)
  · have hcut : cutS (cat4 x0 x1 x2 x3) keep m neg = cat (Hb.w1 (rsh (cat4 x0 x1 x2 x3) (256 - keep))) (lo (rsh (cat4 x0 x1 x2 x3) (256 - keep))) := by unfold cutS; rw [if_neg (by rw [hn]; decide)]
    go_wp2_with fail
    refine bodyPost_ret (by simp [results, Tryz.results78, go_sem, k1_w4, k1_w3, k1_w2, k1_w1, z_w4, z_w3, z_w2, z_w1]; try rfl) rfl ?_
    refine ⟨ret_bits_bool ⟨?_, ?_⟩ ?_, by go_grown⟩
    · rw [hcut, hi_cat]
    · rw [hcut, lo_cat]
    · rfl
  · have hcut : cutS (cat4 x0 x1 x2 x3) keep m neg = cat (Hb.w1 (rsh (cat4 x0 x1 x2 x3) (256 - keep))) (lo (rsh (cat4 x0 x1 x2 x3) (256 - keep))) + 1 := by unfold cutS; rw [if_pos hn]
    (go_wp2_with fail; refine (word_Add _ _ _ _ _).mono ?_; rintro en w5 ⟨rfl, hB_w5⟩; (obtain ⟨hc_w5, hf_w5⟩ := bcell hB_w5; have hz_w5 := hB_w5.size; (try simp only [World.size_alloc, World.size_setCell, World.size_drew] at hz_w5 hc_w5 hf_w5); have k0_w5 := fun o => hc_w5 (w.heap.size) o (by omega); have l0_w5 := fun o => hf_w5 (w.heap.size) o (by omega); have k1_w5 := fun o => hc_w5 (w.heap.size + 1) o (by omega); have l1_w5 := fun o => hf_w5 (w.heap.size + 1) o (by omega); have kw2_0_w5 := fun o => hc_w5 (w2.heap.size) o (by omega); have lw2_0_w5 := fun o => hf_w5 (w2.heap.size) o (by omega); have z_w5 : w.heap.size < w5.heap.size ∧ w.heap.size ≤ w5.heap.size ∧ w.heap.size ≤ w5.heap.size + 1 ∧ w.heap.size ≤ w5.heap.size + 1 + 1 ∧ w.heap.size + 1 < w5.heap.size ∧ w.heap.size + 1 ≤ w5.heap.size ∧ w.heap.size + 1 ≤ w5.heap.size + 1 ∧ w.heap.size + 1 ≤ w5.heap.size + 1 + 1 ∧ w2.heap.size < w5.heap.size ∧ w2.heap.size ≤ w5.heap.size ∧ w2.heap.size ≤ w5.heap.size + 1 ∧ w2.heap.size ≤ w5.heap.size + 1 + 1 := (by omega); clear hc_w5 hf_w5; have hW_w5 : Below w.heap.size w w5 := below_after (by go_grown) hB_w5))
    go_wp2_with fail
    refine bodyPost_ret (by simp [results, Tryz.results78, go_sem, k1_w5, k1_w4, k1_w3, k1_w2, k1_w1, z_w5, z_w4, z_w3, z_w2, z_w1]; try rfl) rfl ?_
    refine ⟨ret_bits_bool ⟨?_, ?_⟩ ?_, by go_grown⟩
    · rw [hcut]; rfl
    · rw [hcut]; rfl
    · rfl
end Go.Proofs.YtkpjeceofcfnkaaGreatDoor
