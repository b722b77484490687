/- The contract of fields.Unpack: for every input. -/
import Derived.Test.YtkpjeceofcfnkaaGreatDoorFields
import Derived.Test.YtkpjeceofcfnkaaGreatDoorShift6
set_option maxRecDepth 100000
set_option maxHeartbeats 16000000
set_option linter.unusedSimpArgs false
set_option linter.unusedVariables false
namespace Go.Proofs.YtkpjeceofcfnkaaGreatDoor
open Go.RowKit Go.Hb
/-- A normal number's significand, its highest bit 1. -/
def nrm (f : Int) (v : Nat) : Nat := lsh (fracF f v) (128 - precS f) + cat 9223372036854775808 0
def unE (f : Int) (v : Nat) : Int := if classF f v = 2 then expF f v - emaxS f else if classF f v = 1 then 1 - emaxS f + 128 - precS f - by128 (fracF f v) else 0
def unS (f : Int) (v : Nat) : Nat := if classF f v = 2 then nrm f v else if classF f v = 1 then raise128 (fracF f v) else 0
instance u64_Unpack1 : U64 9223372036854775808 := ⟨by omega, by omega⟩
theorem nrm_lsh (f : Int) (v : Nat) (h0 : 0 ≤ f) (hf : f < 4) : cat (hi (lsh (fracF f v) (128 - precS f))) (lo (lsh (fracF f v) (128 - precS f))) = lsh (fracF f v) (128 - precS f) := by
  obtain ⟨b1, b2, b3, b4, b5, b6⟩ := fmt_bd f h0 hf
  apply cat_hl
  have h : fracF f v < 2 ^ (precS f - 1).toNat := by unfold fracF; rw [if_neg (by omega)]; exact Nat.mod_lt _ (Nat.two_pow_pos _)
  have h2 := Nat.mul_lt_mul_of_pos_right h (Nat.two_pow_pos (128 - precS f).toNat)
  rw [← Nat.pow_add, show (precS f - 1).toNat + (128 - precS f).toNat = 127 by omega] at h2
  unfold lsh
  exact Nat.lt_trans h2 (by decide)
theorem class_known (f : Int) (v : Nat) (h : classF f v ≠ 0) : f < 4 := by
  unfold classF at h
  by_cases h4 : 4 ≤ f
  · rw [if_pos h4] at h; exact absurd rfl h
  · omega
theorem by128_bd (v : Nat) (h : v < 2 ^ 128) : 0 ≤ by128 v ∧ by128 v ≤ 128 := by
  unfold by128
  split
  · omega
  · have := blen_128 v h; omega
theorem cell_set2_ne (W : World) (B b o i j : Nat) (a c : Value) (h : b ≠ B) : ((W.setCell ⟨B, i, none⟩ a).setCell ⟨B, j, none⟩ c).cell? ⟨b, o, none⟩ = W.cell? ⟨b, o, none⟩ := by
  have h2 := h.symm
  go_simp
theorem cell_set2_off (W : World) (B o i j : Nat) (a c : Value) (h : o ≠ i) (h' : o ≠ j) : ((W.setCell ⟨B, i, none⟩ a).setCell ⟨B, j, none⟩ c).cell? ⟨B, o, none⟩ = W.cell? ⟨B, o, none⟩ := by
  have h2 := h.symm
  have h3 := h'.symm
  go_simp
theorem cell_set1_ne (W : World) (B b o i : Nat) (a : Value) (h : b ≠ B) : (W.setCell ⟨B, i, none⟩ a).cell? ⟨b, o, none⟩ = W.cell? ⟨b, o, none⟩ := by
  have h2 := h.symm
  go_simp
theorem cell_set1_off (W : World) (B o i : Nat) (a : Value) (h : o ≠ i) : (W.setCell ⟨B, i, none⟩ a).cell? ⟨B, o, none⟩ = W.cell? ⟨B, o, none⟩ := by
  have h2 := h.symm
  go_simp
theorem wrap_in' (x : Int) (h0 : -4611686018427387904 ≤ x) (h1 : x ≤ 4611686018427387904) : IntKind.i64.wrap x = x := IntWalk.i64_in _ (by omega)
theorem fields_Unpack (f h l : Int) [hU : U8 f] [U64 h] [U64 l] (w : World) [Laid w] :
    Calls Tryz.prog 30 #[.int .u8 f, .agg #[.int .u64 (h), .int .u64 (l)]] w fun en w' => en = .returned (.agg #[.bool (sgnF f (cat h l)), .int .u8 (classF f (cat h l)), .int .i64 (unE f (cat h l)), .int .u64 (hi (unS f (cat h l))), .int .u64 (lo (unS f (cat h l)))]) ∧ Below w.heap.size w w' := by
  have key : ∀ W : World, Below w.heap.size w W → Laid W := fun W h => Laid.below ‹Laid w› h
  have hfl : fracF f (cat h l) < 2 ^ 128 := Nat.lt_trans (fracF_lt f _ U8.ge) (by decide)
  have hx := Lib.hid (cat_hl (fracF f (cat h l)) (by rw [← two128]; exact hfl))
  have hel := expF_lt f (cat h l) U8.ge
  have hby := by128_bd (fracF f (cat h l)) hfl
  obtain ⟨em0, em1⟩ := emaxS_bd f
  obtain ⟨pr0, pr1⟩ := precS_bd f
  clear hfl
  go_enter Tryz.func30, Tryz.ntmps30
  go_wp2_with fail
  refine (class_Of _ _ _ _).mono ?_
  rintro en v1 ⟨rfl, hB1⟩
  have lay1 := laid_after hB1
  have hBW : Below w.heap.size w v1 := below_after (w := w) (by go_grown) hB1
  have hs1 := hB1.size
  simp only [World.size_alloc] at hs1
  have b0 := cell_later hB1 (show World.cell? _ ⟨w.heap.size, 0, none⟩ = some (.int .u64 h) by go_simp)
  have b1 := cell_later hB1 (show World.cell? _ ⟨w.heap.size, 1, none⟩ = some (.int .u64 l) by go_simp)
  have r0 := cell_later hB1 (show World.cell? _ ⟨w.heap.size + 1, 0, none⟩ = some (.bool false) by go_simp)
  have r1 := cell_later hB1 (show World.cell? _ ⟨w.heap.size + 1, 1, none⟩ = some (.int .u8 0) by go_simp)
  have r2 := cell_later hB1 (show World.cell? _ ⟨w.heap.size + 1, 2, none⟩ = some (.int .i64 0) by go_simp)
  have r3 := cell_later hB1 (show World.cell? _ ⟨w.heap.size + 1, 3, none⟩ = some (.int .u64 0) by go_simp)
  have r4 := cell_later hB1 (show World.cell? _ ⟨w.heap.size + 1, 4, none⟩ = some (.int .u64 0) by go_simp)
  have q0 := frozen_later hB1 (show World.frozen? _ ⟨w.heap.size + 1, 0, none⟩ = false by go_simp) (by simp)
  have q1 := frozen_later hB1 (show World.frozen? _ ⟨w.heap.size + 1, 1, none⟩ = false by go_simp) (by simp)
  have q2 := frozen_later hB1 (show World.frozen? _ ⟨w.heap.size + 1, 2, none⟩ = false by go_simp) (by simp)
  have q3 := frozen_later hB1 (show World.frozen? _ ⟨w.heap.size + 1, 3, none⟩ = false by go_simp) (by simp)
  have q4 := frozen_later hB1 (show World.frozen? _ ⟨w.heap.size + 1, 4, none⟩ = false by go_simp) (by simp)
  clear hB1
  go_wp2_with fail
  refine (fields_of _ _ _ _ _ _ _).mono ?_
  rintro en v2 ⟨n, rfl, hB2, hn0, hn1, num⟩
  unfold NumAt at num
  obtain ⟨n0, n1, n2, n3, n4, n5, n6, o4, o5, o6⟩ := num
  have lay2 := laid_after hB2
  replace hBW : Below w.heap.size w v2 := below_after (w := w) (by go_grown) hB2
  have hs2 := hB2.size
  (replace b0 := cell_later hB2 (cell_later (by go_grown) b0); replace b1 := cell_later hB2 (cell_later (by go_grown) b1); replace r0 := cell_later hB2 (cell_later (by go_grown) r0); replace r1 := cell_later hB2 (cell_later (by go_grown) r1); replace r2 := cell_later hB2 (cell_later (by go_grown) r2); replace r3 := cell_later hB2 (cell_later (by go_grown) r3); replace r4 := cell_later hB2 (cell_later (by go_grown) r4); replace q0 := frozen_later hB2 (frozen_later (by go_grown) q0 (by first | omega | (simp; omega))) (by first | omega | (simp; omega)); replace q1 := frozen_later hB2 (frozen_later (by go_grown) q1 (by first | omega | (simp; omega))) (by first | omega | (simp; omega)); replace q2 := frozen_later hB2 (frozen_later (by go_grown) q2 (by first | omega | (simp; omega))) (by first | omega | (simp; omega)); replace q3 := frozen_later hB2 (frozen_later (by go_grown) q3 (by first | omega | (simp; omega))) (by first | omega | (simp; omega)); replace q4 := frozen_later hB2 (frozen_later (by go_grown) q4 (by first | omega | (simp; omega))) (by first | omega | (simp; omega)); skip)
  clear hB2
  go_wp2_with fail
  refine (format_Split _ _ _ _).mono ?_
  rintro en v3 ⟨rfl, hB3⟩
  have lay3 := laid_after hB3
  replace hBW : Below w.heap.size w v3 := below_after (w := w) (by go_grown) hB3
  have hs3 := hB3.size
  (replace r0 := cell_later hB3 (cell_later (by go_grown) r0); replace r1 := cell_later hB3 (cell_later (by go_grown) r1); replace r2 := cell_later hB3 (cell_later (by go_grown) r2); replace r3 := cell_later hB3 (cell_later (by go_grown) r3); replace r4 := cell_later hB3 (cell_later (by go_grown) r4); replace n0 := cell_later hB3 (cell_later (by go_grown) n0); replace n1 := cell_later hB3 (cell_later (by go_grown) n1); replace n2 := cell_later hB3 (cell_later (by go_grown) n2); replace n3 := cell_later hB3 (cell_later (by go_grown) n3); replace n4 := cell_later hB3 (cell_later (by go_grown) n4); replace n5 := cell_later hB3 (cell_later (by go_grown) n5); replace n6 := cell_later hB3 (cell_later (by go_grown) n6); replace q0 := frozen_later hB3 (frozen_later (by go_grown) q0 (by first | omega | (simp; omega))) (by first | omega | (simp; omega)); replace q1 := frozen_later hB3 (frozen_later (by go_grown) q1 (by first | omega | (simp; omega))) (by first | omega | (simp; omega)); replace q2 := frozen_later hB3 (frozen_later (by go_grown) q2 (by first | omega | (simp; omega))) (by first | omega | (simp; omega)); replace q3 := frozen_later hB3 (frozen_later (by go_grown) q3 (by first | omega | (simp; omega))) (by first | omega | (simp; omega)); replace q4 := frozen_later hB3 (frozen_later (by go_grown) q4 (by first | omega | (simp; omega))) (by first | omega | (simp; omega)); replace o4 := frozen_later hB3 (frozen_later (by go_grown) o4 (by first | omega | (simp; omega))) (by first | omega | (simp; omega)); replace o5 := frozen_later hB3 (frozen_later (by go_grown) o5 (by first | omega | (simp; omega))) (by first | omega | (simp; omega)); replace o6 := frozen_later hB3 (frozen_later (by go_grown) o6 (by first | omega | (simp; omega))) (by first | omega | (simp; omega)); skip)
  clear hB3 b0 b1
  have hne : v3.heap.size ≠ w.heap.size + 1 ∧ w.heap.size + 1 ≠ v3.heap.size ∧ v3.heap.size ≠ n ∧ n ≠ v3.heap.size ∧ n ≠ w.heap.size + 1 ∧ w.heap.size + 1 ≠ n := by omega
  have hlt : w.heap.size + 1 < v3.heap.size ∧ n < v3.heap.size := by omega
  by_cases hc2 : classF f (cat h l) = 2
  · have hk : f < 4 := class_known f (cat h l) (by rw [hc2]; decide)
    have hE : unE f (cat h l) = expF f (cat h l) - emaxS f := by unfold unE; rw [if_pos hc2]
    have hS : unS f (cat h l) = nrm f (cat h l) := by unfold unS; rw [if_pos hc2]
    have hE' := Lib.hid hE
    have hS' := Lib.hid hS
    have d2 : (classF f (cat h l) == 2) = true := by rw [hc2]; rfl
    have hL := Lib.hid (nrm_lsh f (cat h l) U8.ge hk)
    have hc2' := Lib.hid hc2
    clear hE hS hc2 hby
    go_wp2_with fail
    refine (scale_exp _ _ _ _ (by omega) (by omega) em0 (by omega)).mono ?_
    rintro en v4 ⟨rfl, hB4⟩
    have lay4 := laid_after hB4
    replace hBW : Below w.heap.size w v4 := below_after (w := w) (by go_grown) hB4
    have hs4 := hB4.size
    simp only [World.size_alloc, World.size_setCell] at hs4
    have f0 := cell_later hB4 (show World.cell? _ ⟨v3.heap.size, 0, none⟩ = some (.int .u64 (hi (fracF f (cat h l)))) by go_simp)
    have f1 := cell_later hB4 (show World.cell? _ ⟨v3.heap.size, 1, none⟩ = some (.int .u64 (lo (fracF f (cat h l)))) by go_simp)
    (replace r0 := cell_later hB4 (cell_later (by go_grown) r0); replace r1 := cell_later hB4 (cell_later (by go_grown) r1); replace r2 := cell_later hB4 (cell_later (by go_grown) r2); replace r3 := cell_later hB4 (cell_later (by go_grown) r3); replace r4 := cell_later hB4 (cell_later (by go_grown) r4); replace n0 := cell_later hB4 (cell_later (by go_grown) n0); replace n2 := cell_later hB4 (cell_later (by go_grown) n2); replace n3 := cell_later hB4 (cell_later (by go_grown) n3); replace n4 := cell_later hB4 (cell_later (by go_grown) n4); replace n5 := cell_later hB4 (cell_later (by go_grown) n5); replace n6 := cell_later hB4 (cell_later (by go_grown) n6); replace q0 := frozen_later hB4 (frozen_later (by go_grown) q0 (by first | omega | (simp; omega))) (by first | omega | (simp; omega)); replace q1 := frozen_later hB4 (frozen_later (by go_grown) q1 (by first | omega | (simp; omega))) (by first | omega | (simp; omega)); replace q2 := frozen_later hB4 (frozen_later (by go_grown) q2 (by first | omega | (simp; omega))) (by first | omega | (simp; omega)); replace q3 := frozen_later hB4 (frozen_later (by go_grown) q3 (by first | omega | (simp; omega))) (by first | omega | (simp; omega)); replace q4 := frozen_later hB4 (frozen_later (by go_grown) q4 (by first | omega | (simp; omega))) (by first | omega | (simp; omega)); replace o4 := frozen_later hB4 (frozen_later (by go_grown) o4 (by first | omega | (simp; omega))) (by first | omega | (simp; omega)); replace o5 := frozen_later hB4 (frozen_later (by go_grown) o5 (by first | omega | (simp; omega))) (by first | omega | (simp; omega)); replace o6 := frozen_later hB4 (frozen_later (by go_grown) o6 (by first | omega | (simp; omega))) (by first | omega | (simp; omega)); skip)
    clear hB4 lay3 n1
    go_upto_region 7 with fail
    refine wp_rename ?_
    intro W0 hW0
    have lay0 : Laid W0 := by rw [hW0]; exact key _ (by go_grown)
    have hBW0 : Below w.heap.size w W0 := by rw [hW0]; go_grown
    have hs0 : v4.heap.size ≤ W0.heap.size := by rw [hW0]; simp
    have f0' : W0.cell? ⟨v3.heap.size, 0, none⟩ = some (.int .u64 (hi (fracF f (cat h l)))) := by rw [hW0]; go_simp
    have f1' : W0.cell? ⟨v3.heap.size, 1, none⟩ = some (.int .u64 (lo (fracF f (cat h l)))) := by rw [hW0]; go_simp
    have n0' : W0.cell? ⟨n, 0, none⟩ = some (.int .i64 (precS f)) := by rw [hW0]; go_simp
    have n2' : W0.cell? ⟨n, 2, none⟩ = some (.bool (sgnF f (cat h l))) := by rw [hW0]; go_simp
    have n3' : W0.cell? ⟨n, 3, none⟩ = some (.int .u8 (classF f (cat h l))) := by rw [hW0]; go_simp
    have n4' : W0.cell? ⟨n, 4, none⟩ = some (.int .i64 (expF f (cat h l) - emaxS f)) := by rw [hW0]; go_simp
    have n5' : W0.cell? ⟨n, 5, none⟩ = some (.int .u64 0) := by rw [hW0]; go_simp
    have n6' : W0.cell? ⟨n, 6, none⟩ = some (.int .u64 0) := by rw [hW0]; go_simp
    have r0' : W0.cell? ⟨w.heap.size + 1, 0, none⟩ = some (.bool false) := by rw [hW0]; go_simp
    have r1' : W0.cell? ⟨w.heap.size + 1, 1, none⟩ = some (.int .u8 0) := by rw [hW0]; go_simp
    have r2' : W0.cell? ⟨w.heap.size + 1, 2, none⟩ = some (.int .i64 0) := by rw [hW0]; go_simp
    have r3' : W0.cell? ⟨w.heap.size + 1, 3, none⟩ = some (.int .u64 0) := by rw [hW0]; go_simp
    have r4' : W0.cell? ⟨w.heap.size + 1, 4, none⟩ = some (.int .u64 0) := by rw [hW0]; go_simp
    have q0' : W0.frozen? ⟨w.heap.size + 1, 0, none⟩ = false := by rw [hW0]; go_simp
    have q1' : W0.frozen? ⟨w.heap.size + 1, 1, none⟩ = false := by rw [hW0]; go_simp
    have q2' : W0.frozen? ⟨w.heap.size + 1, 2, none⟩ = false := by rw [hW0]; go_simp
    have q3' : W0.frozen? ⟨w.heap.size + 1, 3, none⟩ = false := by rw [hW0]; go_simp
    have q4' : W0.frozen? ⟨w.heap.size + 1, 4, none⟩ = false := by rw [hW0]; go_simp
    have o5' : W0.frozen? ⟨n, 5, none⟩ = false := by rw [hW0]; go_simp
    have o6' : W0.frozen? ⟨n, 6, none⟩ = false := by rw [hW0]; go_simp
    clear hW0 f0 f1 n0 n2 n3 n4 n5 n6 r0 r1 r2 r3 r4 q0 q1 q2 q3 q4 o4 o5 o6 lay4 hBW
    have hlt0 : v3.heap.size < W0.heap.size ∧ n < W0.heap.size ∧ w.heap.size + 1 < W0.heap.size := by omega
    have hw : IntKind.i64.wrap (128 - precS f) = 128 - precS f := wrap_in' _ (by omega) (by omega)
    go_region_held3 (fun w' => w'.cell? ⟨v3.heap.size, 0, none⟩ = some (.int .u64 (hi (fracF f (cat h l)))) ∧ w'.cell? ⟨v3.heap.size, 1, none⟩ = some (.int .u64 (lo (fracF f (cat h l)))) ∧ w'.cell? ⟨n, 0, none⟩ = some (.int .i64 (precS f)))
      (first | exact ⟨(cell_set2_ne _ _ _ _ _ _ _ _ hne.2.2.1).trans f0, (cell_set2_ne _ _ _ _ _ _ _ _ hne.2.2.1).trans f1, (cell_set2_off _ _ _ _ _ _ _ (by decide) (by decide)).trans n0⟩ | (refine ⟨?_, ?_, ?_⟩ <;> (refine cell_later (w := W0) ?_ (by assumption); go_grown)))
      (first | (go_at_call 69; refine (shift_Left' _ _ _ _).mono ?_; rw [hx.out]; rintro en v5 ⟨rfl, hB5⟩; have hb5 : Below W0.heap.size W0 v5 := below_after (by go_grown) hB5; have hz5 := hb5.size) | (go_at_call 68; refine (word_Add _ _ _ _ _).mono ?_; rw [hL.out, show lsh (fracF f (cat h l)) (128 - precS f) + cat 9223372036854775808 0 = nrm f (cat h l) from rfl]; rintro en v6 ⟨rfl, hB6⟩; have hb6 : Below W0.heap.size W0 v6 := below_after (by go_grown) hB6; have hz6 := hb6.size; have f0 := cell_later hb6 f0'; have f1 := cell_later hb6 f1'; have n0 := cell_later hb6 n0'; have n5 := cell_later hb6 n5'; have n6 := cell_later hb6 n6'; have o5 := frozen_later hb6 o5' (by omega); have o6 := frozen_later hb6 o6' (by omega)))
    have n2 := cell_later hb6 n2'
    have n3 := cell_later hb6 n3'
    have n4 := cell_later hb6 n4'
    have r0 := cell_later hb6 r0'
    have r1 := cell_later hb6 r1'
    have r2 := cell_later hb6 r2'
    have r3 := cell_later hb6 r3'
    have r4 := cell_later hb6 r4'
    have q0 := frozen_later hb6 q0' hlt0.2.2
    have q1 := frozen_later hb6 q1' hlt0.2.2
    have q2 := frozen_later hb6 q2' hlt0.2.2
    have q3 := frozen_later hb6 q3' hlt0.2.2
    have q4 := frozen_later hb6 q4' hlt0.2.2
    have hBW6 : Below w.heap.size w v6 := below_after (w := w) hBW0 hb6
    have hlt6 : n < v6.heap.size ∧ w.heap.size + 1 < v6.heap.size := by omega
    clear hw hB5 hb5 hB6 hb6 f0' f1' n0' n2' n3' n4' n5' n6' r0' r1' r2' r3' r4' q0' q1' q2' q3' q4' o5' o6' f0 f1 n0
    go_wp2_with fail
    refine bodyPost_ret (by simp [results, Tryz.results30, go_sem, r0, r1, r2, r3, r4, n2, n3, n4, n5, n6, hlt6, hne]; try rfl) rfl ?_
    refine ⟨?_, by go_grown⟩
    rw [hE'.out, hS'.out]
  · by_cases hc1 : classF f (cat h l) = 1
    · have hE : unE f (cat h l) = 1 - emaxS f + 128 - precS f - by128 (fracF f (cat h l)) := by unfold unE; rw [if_neg hc2, if_pos hc1]
      have hS : unS f (cat h l) = raise128 (fracF f (cat h l)) := by unfold unS; rw [if_neg hc2, if_pos hc1]
      have hE' := Lib.hid hE
      have hS' := Lib.hid hS
      have d2 : (classF f (cat h l) == 2) = false := by rw [hc1]; rfl
      have d1 : (classF f (cat h l) == 1) = true := by rw [hc1]; rfl
      have hem : emaxS f ≤ 100000 := by omega
      obtain ⟨hby0, hby1⟩ := hby
      clear hE hS hc2 hc1
      go_wp2_with fail
      refine (count_Raise _ _ _).mono ?_
      rw [hx.out]
      rintro en v4 ⟨rfl, hB4⟩
      have lay4 := laid_after hB4
      replace hBW : Below w.heap.size w v4 := below_after (w := w) (by go_grown) hB4
      have hs4 := hB4.size
      simp only [World.size_alloc, World.size_setCell] at hs4
      (replace r0 := cell_later hB4 (cell_later (by go_grown) r0); replace r1 := cell_later hB4 (cell_later (by go_grown) r1); replace r2 := cell_later hB4 (cell_later (by go_grown) r2); replace r3 := cell_later hB4 (cell_later (by go_grown) r3); replace r4 := cell_later hB4 (cell_later (by go_grown) r4); replace n0 := cell_later hB4 (cell_later (by go_grown) n0); replace n1 := cell_later hB4 (cell_later (by go_grown) n1); replace n2 := cell_later hB4 (cell_later (by go_grown) n2); replace n3 := cell_later hB4 (cell_later (by go_grown) n3); replace n4 := cell_later hB4 (cell_later (by go_grown) n4); replace n5 := cell_later hB4 (cell_later (by go_grown) n5); replace n6 := cell_later hB4 (cell_later (by go_grown) n6); replace q0 := frozen_later hB4 (frozen_later (by go_grown) q0 (by first | omega | (simp; omega))) (by first | omega | (simp; omega)); replace q1 := frozen_later hB4 (frozen_later (by go_grown) q1 (by first | omega | (simp; omega))) (by first | omega | (simp; omega)); replace q2 := frozen_later hB4 (frozen_later (by go_grown) q2 (by first | omega | (simp; omega))) (by first | omega | (simp; omega)); replace q3 := frozen_later hB4 (frozen_later (by go_grown) q3 (by first | omega | (simp; omega))) (by first | omega | (simp; omega)); replace q4 := frozen_later hB4 (frozen_later (by go_grown) q4 (by first | omega | (simp; omega))) (by first | omega | (simp; omega)); replace o4 := frozen_later hB4 (frozen_later (by go_grown) o4 (by first | omega | (simp; omega))) (by first | omega | (simp; omega)); replace o5 := frozen_later hB4 (frozen_later (by go_grown) o5 (by first | omega | (simp; omega))) (by first | omega | (simp; omega)); replace o6 := frozen_later hB4 (frozen_later (by go_grown) o6 (by first | omega | (simp; omega))) (by first | omega | (simp; omega)); skip)
      clear hB4 lay3
      have hne4 : v4.heap.size ≠ n ∧ n ≠ v4.heap.size ∧ v4.heap.size ≠ w.heap.size + 1 ∧ w.heap.size + 1 ≠ v4.heap.size := by omega
      have hlt4 : n < v4.heap.size ∧ w.heap.size + 1 < v4.heap.size := by omega
      go_upto_region 10 with fail
      refine wp_rename ?_
      intro W0 hW0
      have lay0 : Laid W0 := by rw [hW0]; exact key _ (by go_grown)
      have hBW0 : Below w.heap.size w W0 := by rw [hW0]; go_grown
      have hs0 : v4.heap.size + 1 ≤ W0.heap.size := by rw [hW0]; simp
      have g0' : W0.cell? ⟨v4.heap.size, 0, none⟩ = some (.int .u64 (hi (raise128 (fracF f (cat h l))))) := by rw [hW0]; go_simp
      have g1' : W0.cell? ⟨v4.heap.size, 1, none⟩ = some (.int .u64 (lo (raise128 (fracF f (cat h l))))) := by rw [hW0]; go_simp
      have n0' : W0.cell? ⟨n, 0, none⟩ = some (.int .i64 (precS f)) := by rw [hW0]; go_simp
      have n1' : W0.cell? ⟨n, 1, none⟩ = some (.int .i64 (emaxS f)) := by rw [hW0]; go_simp
      have n2' : W0.cell? ⟨n, 2, none⟩ = some (.bool (sgnF f (cat h l))) := by rw [hW0]; go_simp
      have n3' : W0.cell? ⟨n, 3, none⟩ = some (.int .u8 (classF f (cat h l))) := by rw [hW0]; go_simp
      have n4' : W0.cell? ⟨n, 4, none⟩ = some (.int .i64 0) := by rw [hW0]; go_simp
      have n5' : W0.cell? ⟨n, 5, none⟩ = some (.int .u64 0) := by rw [hW0]; go_simp
      have n6' : W0.cell? ⟨n, 6, none⟩ = some (.int .u64 0) := by rw [hW0]; go_simp
      have r0' : W0.cell? ⟨w.heap.size + 1, 0, none⟩ = some (.bool false) := by rw [hW0]; go_simp
      have r1' : W0.cell? ⟨w.heap.size + 1, 1, none⟩ = some (.int .u8 0) := by rw [hW0]; go_simp
      have r2' : W0.cell? ⟨w.heap.size + 1, 2, none⟩ = some (.int .i64 0) := by rw [hW0]; go_simp
      have r3' : W0.cell? ⟨w.heap.size + 1, 3, none⟩ = some (.int .u64 0) := by rw [hW0]; go_simp
      have r4' : W0.cell? ⟨w.heap.size + 1, 4, none⟩ = some (.int .u64 0) := by rw [hW0]; go_simp
      have q0' : W0.frozen? ⟨w.heap.size + 1, 0, none⟩ = false := by rw [hW0]; go_simp
      have q1' : W0.frozen? ⟨w.heap.size + 1, 1, none⟩ = false := by rw [hW0]; go_simp
      have q2' : W0.frozen? ⟨w.heap.size + 1, 2, none⟩ = false := by rw [hW0]; go_simp
      have q3' : W0.frozen? ⟨w.heap.size + 1, 3, none⟩ = false := by rw [hW0]; go_simp
      have q4' : W0.frozen? ⟨w.heap.size + 1, 4, none⟩ = false := by rw [hW0]; go_simp
      have o4' : W0.frozen? ⟨n, 4, none⟩ = false := by rw [hW0]; go_simp
      have o5' : W0.frozen? ⟨n, 5, none⟩ = false := by rw [hW0]; go_simp
      have o6' : W0.frozen? ⟨n, 6, none⟩ = false := by rw [hW0]; go_simp
      clear hW0 n0 n1 n2 n3 n4 n5 n6 r0 r1 r2 r3 r4 q0 q1 q2 q3 q4 o4 o5 o6 lay4 hBW
      have hlt0 : v4.heap.size < W0.heap.size ∧ n < W0.heap.size ∧ w.heap.size + 1 < W0.heap.size := by omega
      have hw1 : IntKind.i64.wrap (1 - emaxS f + 128) = 1 - emaxS f + 128 := wrap_in' _ (by omega) (by omega)
      have hw2 : IntKind.i64.wrap (1 - emaxS f + 128 - precS f) = 1 - emaxS f + 128 - precS f := wrap_in' _ (by omega) (by omega)
      have hw3 : IntKind.i64.wrap (1 - emaxS f + 128 - precS f - by128 (fracF f (cat h l))) = 1 - emaxS f + 128 - precS f - by128 (fracF f (cat h l)) := wrap_in' _ (by omega) (by omega)
      go_region_held3 (fun w' => w'.cell? ⟨v4.heap.size, 0, none⟩ = some (.int .u64 (hi (raise128 (fracF f (cat h l))))) ∧ w'.cell? ⟨v4.heap.size, 1, none⟩ = some (.int .u64 (lo (raise128 (fracF f (cat h l))))) ∧ w'.cell? ⟨n, 0, none⟩ = some (.int .i64 (precS f)) ∧ w'.cell? ⟨n, 1, none⟩ = some (.int .i64 (emaxS f)))
        (first | exact ⟨(cell_set1_ne _ _ _ _ _ _ hne4.1).trans ((cell_set2_ne _ _ _ _ _ _ _ _ hne4.1).trans g0), (cell_set1_ne _ _ _ _ _ _ hne4.1).trans ((cell_set2_ne _ _ _ _ _ _ _ _ hne4.1).trans g1), (cell_set1_off _ _ _ _ _ (by decide)).trans ((cell_set2_off _ _ _ _ _ _ _ (by decide) (by decide)).trans n0), (cell_set1_off _ _ _ _ _ (by decide)).trans ((cell_set2_off _ _ _ _ _ _ _ (by decide) (by decide)).trans n1)⟩ | exact ⟨(cell_set2_ne _ _ _ _ _ _ _ _ hne4.1).trans g0, (cell_set2_ne _ _ _ _ _ _ _ _ hne4.1).trans g1, (cell_set2_off _ _ _ _ _ _ _ (by decide) (by decide)).trans n0, (cell_set2_off _ _ _ _ _ _ _ (by decide) (by decide)).trans n1⟩ | (refine ⟨?_, ?_, ?_, ?_⟩ <;> (refine cell_later (w := W0) ?_ (by assumption); go_grown)))
        (first | (go_at_call 71; refine (scale_least _ _ _ em0 hem).mono ?_; rintro en v5 ⟨rfl, hB5⟩; have hb5 : Below W0.heap.size W0 v5 := below_after (by go_grown) hB5; have hz5 := hb5.size; have g0 := cell_later hb5 g0'; have g1 := cell_later hb5 g1'; have n0 := cell_later hb5 n0'; have n1 := cell_later hb5 n1'; have n4 := cell_later hb5 n4'; have n5 := cell_later hb5 n5'; have n6 := cell_later hb5 n6'; have o4 := frozen_later hb5 o4' hlt0.2.1; have o5 := frozen_later hb5 o5' hlt0.2.1; have o6 := frozen_later hb5 o6' hlt0.2.1) | fail)
      have n2 := cell_later hb5 n2'
      have n3 := cell_later hb5 n3'
      have r0 := cell_later hb5 r0'
      have r1 := cell_later hb5 r1'
      have r2 := cell_later hb5 r2'
      have r3 := cell_later hb5 r3'
      have r4 := cell_later hb5 r4'
      have q0 := frozen_later hb5 q0' hlt0.2.2
      have q1 := frozen_later hb5 q1' hlt0.2.2
      have q2 := frozen_later hb5 q2' hlt0.2.2
      have q3 := frozen_later hb5 q3' hlt0.2.2
      have q4 := frozen_later hb5 q4' hlt0.2.2
      have hBW5 : Below w.heap.size w v5 := below_after (w := w) hBW0 hb5
      clear hw1 hw2 hw3
      have hlt5 : n < v5.heap.size ∧ w.heap.size + 1 < v5.heap.size := by omega
      clear hB5 hb5 g0' g1' n0' n1' n2' n3' n4' n5' n6' r0' r1' r2' r3' r4' q0' q1' q2' q3' q4' o4' o5' o6' g0 g1 n0 n1
      go_wp2_with fail
      refine bodyPost_ret (by simp [results, Tryz.results30, go_sem, r0, r1, r2, r3, r4, n2, n3, n4, n5, n6, hlt5, hne]; try rfl) rfl ?_
      refine ⟨?_, by go_grown⟩
      rw [hE'.out, hS'.out]
    · have hE : unE f (cat h l) = 0 := by unfold unE; rw [if_neg hc2, if_neg hc1]
      have hS : unS f (cat h l) = 0 := by unfold unS; rw [if_neg hc2, if_neg hc1]
      have h0 : hi 0 = 0 := rfl
      have h1 : lo 0 = 0 := rfl
      have d2 : (classF f (cat h l) == 2) = false := by simpa using hc2
      have d1 : (classF f (cat h l) == 1) = false := by simpa using hc1
      clear hc2 hc1 hby
      go_wp2_with fail
      refine bodyPost_ret (by simp [results, Tryz.results30, go_sem, r0, r1, r2, r3, r4, hlt, hne]; try rfl) rfl ?_
      exact ⟨by rw [hE, hS, h0, h1], by go_grown⟩
end Go.Proofs.YtkpjeceofcfnkaaGreatDoor
