/- The contract of pack.Round where the number is not nought: for every known format and mode. The contracts of pack.Round and pack.Exact: for every input. The contracts of pack.Exact, mode.Mirror: for every input. -/
import Derived.Test.YtkpjeceofcfnkaaGreatDoorRdef
import Derived.Test.YtkpjeceofcfnkaaGreatDoorPack6b
import Derived.Test.YtkpjeceofcfnkaaGreatDoorKit
set_option maxRecDepth 100000
set_option maxHeartbeats 16000000
set_option linter.unusedSimpArgs false
set_option linter.unusedVariables false
namespace Go.Proofs.YtkpjeceofcfnkaaGreatDoor
open Go.RowKit Go.Hb
theorem pack_Round_less (f m e x0 x1 x2 x3 : Int) (aft neg : Bool) [hU : U8 f] [U64 x0] [U64 x1] [U64 x2] [U64 x3] (w : World) [Laid w] (hf : f < 4) (m0 : 0 ≤ m) (m1 : m ≤ 4) (hz : ¬ cat4 x0 x1 x2 x3 = 0) (hbey : ¬ emaxS f < eS f m neg e (cat4 x0 x1 x2 x3)) (hl : nE e (cat4 x0 x1 x2 x3) < leastS f) :
    Calls Tryz.prog 79 #[.int .u8 f, .agg #[.int .u8 m, .bool aft], .bool neg, .int .i64 e, .agg #[.int .u64 (x0), .int .u64 (x1), .int .u64 (x2), .int .u64 (x3)]] w fun en w' => en = .returned (.agg #[.int .u64 (hi (roundB f m neg e (cat4 x0 x1 x2 x3))), .int .u64 (lo (roundB f m neg e (cat4 x0 x1 x2 x3))), .int .u8 (roundFl f m aft neg e (cat4 x0 x1 x2 x3))]) ∧ Below w.heap.size w w' := by
  have hle' := Lib.hid (Int.not_lt.1 hbey)
  have hll := Lib.hid hl
  have key : ∀ W : World, Below w.heap.size w W → Laid W := fun W h => Laid.below ‹Laid w› h
  clear hbey hl
  have hzd : decide (cat4 x0 x1 x2 x3 = 0) = false := by simp [hz]
  have hVl := cat4_lt x0 x1 x2 x3
  have hV2 : cat4 x0 x1 x2 x3 < 2 ^ 256 := by rw [two256]; exact hVl
  have hR := Lib.hid (cat4_parts (raiseS (cat4 x0 x1 x2 x3)) (by rw [← two256]; exact raise_lt _ hV2))
  obtain ⟨b1, b2, b3, b4, b5, b6⟩ := fmt_bd f U8.ge hf
  obtain ⟨l1, l2⟩ := leastS_bd f
  obtain ⟨n1, n2⟩ := nE_bd e _ hV2
  have hTl := Lib.hid (show cat (hi (topB f m neg (cat4 x0 x1 x2 x3))) (lo (topB f m neg (cat4 x0 x1 x2 x3))) = topB f m neg (cat4 x0 x1 x2 x3) from cutS_cat (raiseS (cat4 x0 x1 x2 x3)) (precS f) m neg (by omega) (by omega) (raise_lt _ hV2))
  clear hVl hV2
  go_enter Tryz.func79, Tryz.ntmps79
  go_wp2_with (first | (go_at_call 27; refine (format_Known _ _).mono ?_; rintro en w' ⟨rfl, rfl⟩) | (go_at_call 28; refine (mode_Known _ _).mono ?_; rintro e w' ⟨rfl, rfl⟩))
  refine (wide_Zero _ _ _ _ _).mono ?_
  rintro en v1 ⟨rfl, hB_v1⟩
  have lay_v1 := laid_after hB_v1
  (obtain ⟨hc_v1, hf_v1⟩ := bcell hB_v1; have hz_v1 := hB_v1.size; (try simp only [World.size_alloc, World.size_setCell, World.size_drew] at hz_v1 hc_v1 hf_v1); have k0_v1 := fun o => hc_v1 (w.heap.size) o (by omega); have l0_v1 := fun o => hf_v1 (w.heap.size) o (by omega); have k1_v1 := fun o => hc_v1 (w.heap.size + 1) o (by omega); have l1_v1 := fun o => hf_v1 (w.heap.size + 1) o (by omega); have k2_v1 := fun o => hc_v1 (w.heap.size + 1 + 1) o (by omega); have l2_v1 := fun o => hf_v1 (w.heap.size + 1 + 1) o (by omega); have k3_v1 := fun o => hc_v1 (w.heap.size + 1 + 1 + 1) o (by omega); have l3_v1 := fun o => hf_v1 (w.heap.size + 1 + 1 + 1) o (by omega); have z_v1 : w.heap.size < v1.heap.size ∧ w.heap.size ≤ v1.heap.size ∧ w.heap.size ≤ v1.heap.size + 1 ∧ w.heap.size ≤ v1.heap.size + 1 + 1 ∧ w.heap.size + 1 < v1.heap.size ∧ w.heap.size + 1 ≤ v1.heap.size ∧ w.heap.size + 1 ≤ v1.heap.size + 1 ∧ w.heap.size + 1 ≤ v1.heap.size + 1 + 1 ∧ w.heap.size + 1 + 1 < v1.heap.size ∧ w.heap.size + 1 + 1 ≤ v1.heap.size ∧ w.heap.size + 1 + 1 ≤ v1.heap.size + 1 ∧ w.heap.size + 1 + 1 ≤ v1.heap.size + 1 + 1 ∧ w.heap.size + 1 + 1 + 1 < v1.heap.size ∧ w.heap.size + 1 + 1 + 1 ≤ v1.heap.size ∧ w.heap.size + 1 + 1 + 1 ≤ v1.heap.size + 1 ∧ w.heap.size + 1 + 1 + 1 ≤ v1.heap.size + 1 + 1 := (by omega); clear hc_v1 hf_v1; have n_v1 : w.heap.size ≠ v1.heap.size ∧ v1.heap.size ≠ w.heap.size ∧ w.heap.size ≠ v1.heap.size + 1 ∧ v1.heap.size + 1 ≠ w.heap.size ∧ w.heap.size + 1 ≠ v1.heap.size ∧ v1.heap.size ≠ w.heap.size + 1 ∧ w.heap.size + 1 ≠ v1.heap.size + 1 ∧ v1.heap.size + 1 ≠ w.heap.size + 1 ∧ w.heap.size + 1 + 1 ≠ v1.heap.size ∧ v1.heap.size ≠ w.heap.size + 1 + 1 ∧ w.heap.size + 1 + 1 ≠ v1.heap.size + 1 ∧ v1.heap.size + 1 ≠ w.heap.size + 1 + 1 ∧ w.heap.size + 1 + 1 + 1 ≠ v1.heap.size ∧ v1.heap.size ≠ w.heap.size + 1 + 1 + 1 ∧ w.heap.size + 1 + 1 + 1 ≠ v1.heap.size + 1 ∧ v1.heap.size + 1 ≠ w.heap.size + 1 + 1 + 1 := (by omega); have hW_v1 : Below w.heap.size w v1 := below_after (by go_grown) hB_v1)
  (go_wp2_with fail; refine (pack_of _ _ _ _ _ _ _).mono ?_; rintro en v2 ⟨rfl, hB_v2⟩; have lay_v2 := laid_after hB_v2; (obtain ⟨hc_v2, hf_v2⟩ := bcell hB_v2; have hz_v2 := hB_v2.size; (try simp only [World.size_alloc, World.size_setCell, World.size_drew] at hz_v2 hc_v2 hf_v2); have k0_v2 := fun o => hc_v2 (w.heap.size) o (by omega); have l0_v2 := fun o => hf_v2 (w.heap.size) o (by omega); have k1_v2 := fun o => hc_v2 (w.heap.size + 1) o (by omega); have l1_v2 := fun o => hf_v2 (w.heap.size + 1) o (by omega); have k2_v2 := fun o => hc_v2 (w.heap.size + 1 + 1) o (by omega); have l2_v2 := fun o => hf_v2 (w.heap.size + 1 + 1) o (by omega); have k3_v2 := fun o => hc_v2 (w.heap.size + 1 + 1 + 1) o (by omega); have l3_v2 := fun o => hf_v2 (w.heap.size + 1 + 1 + 1) o (by omega); have z_v2 : w.heap.size < v2.heap.size ∧ w.heap.size ≤ v2.heap.size ∧ w.heap.size ≤ v2.heap.size + 1 ∧ w.heap.size ≤ v2.heap.size + 1 + 1 ∧ w.heap.size + 1 < v2.heap.size ∧ w.heap.size + 1 ≤ v2.heap.size ∧ w.heap.size + 1 ≤ v2.heap.size + 1 ∧ w.heap.size + 1 ≤ v2.heap.size + 1 + 1 ∧ w.heap.size + 1 + 1 < v2.heap.size ∧ w.heap.size + 1 + 1 ≤ v2.heap.size ∧ w.heap.size + 1 + 1 ≤ v2.heap.size + 1 ∧ w.heap.size + 1 + 1 ≤ v2.heap.size + 1 + 1 ∧ w.heap.size + 1 + 1 + 1 < v2.heap.size ∧ w.heap.size + 1 + 1 + 1 ≤ v2.heap.size ∧ w.heap.size + 1 + 1 + 1 ≤ v2.heap.size + 1 ∧ w.heap.size + 1 + 1 + 1 ≤ v2.heap.size + 1 + 1 := (by omega); clear hc_v2 hf_v2; have n_v2 : w.heap.size ≠ v2.heap.size ∧ v2.heap.size ≠ w.heap.size ∧ w.heap.size ≠ v2.heap.size + 1 ∧ v2.heap.size + 1 ≠ w.heap.size ∧ w.heap.size + 1 ≠ v2.heap.size ∧ v2.heap.size ≠ w.heap.size + 1 ∧ w.heap.size + 1 ≠ v2.heap.size + 1 ∧ v2.heap.size + 1 ≠ w.heap.size + 1 ∧ w.heap.size + 1 + 1 ≠ v2.heap.size ∧ v2.heap.size ≠ w.heap.size + 1 + 1 ∧ w.heap.size + 1 + 1 ≠ v2.heap.size + 1 ∧ v2.heap.size + 1 ≠ w.heap.size + 1 + 1 ∧ w.heap.size + 1 + 1 + 1 ≠ v2.heap.size ∧ v2.heap.size ≠ w.heap.size + 1 + 1 + 1 ∧ w.heap.size + 1 + 1 + 1 ≠ v2.heap.size + 1 ∧ v2.heap.size + 1 ≠ w.heap.size + 1 + 1 + 1 := (by omega); have hW_v2 : Below w.heap.size w v2 := below_after (by go_grown) hB_v2))
  go_upto_region 7 with fail
  refine wp_rename ?_
  intro W0 hW0
  have lay0 : Laid W0 := by rw [hW0]; infer_instance
  have e0 : W0.cell? ⟨w.heap.size, 0, none⟩ = some (.int .u8 m) := by rw [hW0]; go_simp
  have e1 : W0.cell? ⟨w.heap.size, 1, none⟩ = some (.bool aft) := by rw [hW0]; go_simp
  have g0 : W0.cell? ⟨w.heap.size + 1, 0, none⟩ = some (.bool neg) := by rw [hW0]; go_simp
  have r0 : W0.cell? ⟨w.heap.size + 1 + 1 + 1, 0, none⟩ = some (.int .u64 0) := by rw [hW0]; go_simp
  have r1 : W0.cell? ⟨w.heap.size + 1 + 1 + 1, 1, none⟩ = some (.int .u64 0) := by rw [hW0]; go_simp
  have r2 : W0.cell? ⟨w.heap.size + 1 + 1 + 1, 2, none⟩ = some (.int .u8 0) := by rw [hW0]; go_simp
  have q0 : W0.frozen? ⟨w.heap.size + 1 + 1 + 1, 0, none⟩ = false := by rw [hW0]; go_simp
  have q1 : W0.frozen? ⟨w.heap.size + 1 + 1 + 1, 1, none⟩ = false := by rw [hW0]; go_simp
  have q2 : W0.frozen? ⟨w.heap.size + 1 + 1 + 1, 2, none⟩ = false := by rw [hW0]; go_simp
  have p0 : W0.cell? ⟨v2.heap.size, 0, none⟩ = some (.int .i64 (precS f)) := by rw [hW0]; go_simp
  have p1 : W0.cell? ⟨v2.heap.size, 1, none⟩ = some (.int .i64 (leastS f)) := by rw [hW0]; show _ = some (Value.int .i64 (1 - emaxS f)); go_simp
  have p2 : W0.cell? ⟨v2.heap.size, 2, none⟩ = some (.int .i64 (nE e (cat4 x0 x1 x2 x3))) := by rw [hW0]; show _ = some (Value.int .i64 (farS e - byS (cat4 x0 x1 x2 x3))); go_simp
  have s0 : W0.cell? ⟨v2.heap.size, 3, none⟩ = some (.int .u64 (lo (raiseS (cat4 x0 x1 x2 x3)))) := by rw [hW0]; go_simp
  have s1 : W0.cell? ⟨v2.heap.size, 4, none⟩ = some (.int .u64 (Hb.w1 (raiseS (cat4 x0 x1 x2 x3)))) := by rw [hW0]; go_simp
  have s2 : W0.cell? ⟨v2.heap.size, 5, none⟩ = some (.int .u64 (Hb.w2 (raiseS (cat4 x0 x1 x2 x3)))) := by rw [hW0]; go_simp
  have s3 : W0.cell? ⟨v2.heap.size, 6, none⟩ = some (.int .u64 (Hb.w3 (raiseS (cat4 x0 x1 x2 x3)))) := by rw [hW0]; go_simp
  have hBW : Below w.heap.size w W0 := by rw [hW0]; go_grown
  have hs0 : v2.heap.size + 1 ≤ W0.heap.size := by rw [hW0]; simp
  have hs1 : w.heap.size + 1 + 1 + 1 < v2.heap.size := by omega
  clear hW0 k0_v1 k1_v1 k2_v1 k3_v1 l0_v1 l1_v1 l2_v1 l3_v1 k0_v2 k1_v2 k2_v2 k3_v2 l0_v2 l1_v2 l2_v2 l3_v2 z_v1 z_v2 n_v1 n_v2 hz_v1 hz_v2 hB_v1 hB_v2 hW_v1 hW_v2 lay_v1 lay_v2
  have hnn : v2.heap.size ≠ w.heap.size ∧ v2.heap.size ≠ w.heap.size + 1 ∧ v2.heap.size ≠ w.heap.size + 1 + 1 + 1 := by omega
  go_wp2_with fail
  refine (pack_cut _ _ _ _ _ _ _ (precS f) m neg _ (by omega) (by omega) m0 m1 p0 e0 g0 (by omega) (by omega) (by omega)).mono ?_
  rw [hR.out, show cutS (raiseS (cat4 x0 x1 x2 x3)) (precS f) m neg = topB f m neg (cat4 x0 x1 x2 x3) from rfl]
  rintro en v3 ⟨rfl, hB3⟩
  replace hBW := below_after hBW hB3
  have hs3 := hB3.size
  have lay3 := laid_after hB3
  (replace e0 := cell_later hB3 (cell_later (by go_grown) e0); replace e1 := cell_later hB3 (cell_later (by go_grown) e1); replace g0 := cell_later hB3 (cell_later (by go_grown) g0); replace r0 := cell_later hB3 (cell_later (by go_grown) r0); replace r1 := cell_later hB3 (cell_later (by go_grown) r1); replace r2 := cell_later hB3 (cell_later (by go_grown) r2); replace p0 := cell_later hB3 (cell_later (by go_grown) p0); replace p1 := cell_later hB3 (cell_later (by go_grown) p1); replace p2 := cell_later hB3 (cell_later (by go_grown) p2); replace s0 := cell_later hB3 (cell_later (by go_grown) s0); replace s1 := cell_later hB3 (cell_later (by go_grown) s1); replace s2 := cell_later hB3 (cell_later (by go_grown) s2); replace s3 := cell_later hB3 (cell_later (by go_grown) s3); replace q0 := frozen_later hB3 (frozen_later (by go_grown) q0 (by first | omega | (simp; omega))) (by first | omega | (simp; omega)); replace q1 := frozen_later hB3 (frozen_later (by go_grown) q1 (by first | omega | (simp; omega))) (by first | omega | (simp; omega)); replace q2 := frozen_later hB3 (frozen_later (by go_grown) q2 (by first | omega | (simp; omega))) (by first | omega | (simp; omega)); skip)
  clear hB3
  have hnn3 : v3.heap.size ≠ w.heap.size ∧ v3.heap.size ≠ w.heap.size + 1 ∧ v3.heap.size ≠ w.heap.size + 1 + 1 + 1 ∧ v3.heap.size ≠ v2.heap.size ∧ w.heap.size ≠ v3.heap.size ∧ w.heap.size + 1 ≠ v3.heap.size ∧ w.heap.size + 1 + 1 + 1 ≠ v3.heap.size ∧ v2.heap.size ≠ v3.heap.size := by omega
  have hlt3 : w.heap.size < v3.heap.size ∧ w.heap.size + 1 < v3.heap.size ∧ w.heap.size + 1 + 1 + 1 < v3.heap.size ∧ v2.heap.size < v3.heap.size := by omega
  go_wp2_with fail
  refine (pack_full (precS f) (leastS f) (hi (topB f m neg (cat4 x0 x1 x2 x3))) (lo (topB f m neg (cat4 x0 x1 x2 x3))) _ (by omega)).mono ?_
  rw [hTl.out, show (topB f m neg (cat4 x0 x1 x2 x3)).testBit (precS f).toNat = fullS f m neg (cat4 x0 x1 x2 x3) from rfl]
  rintro en v4 ⟨rfl, hB4⟩
  have t0 := cell_later hB4 (show World.cell? _ ⟨v3.heap.size, 0, none⟩ = some (.int .u64 (hi (topB f m neg (cat4 x0 x1 x2 x3)))) by go_simp)
  have t1 := cell_later hB4 (show World.cell? _ ⟨v3.heap.size, 1, none⟩ = some (.int .u64 (lo (topB f m neg (cat4 x0 x1 x2 x3)))) by go_simp)
  have u0 := frozen_later hB4 (show World.frozen? _ ⟨v3.heap.size, 0, none⟩ = false by go_simp) (by simp)
  have u1 := frozen_later hB4 (show World.frozen? _ ⟨v3.heap.size, 1, none⟩ = false by go_simp) (by simp)
  have hs4 := hB4.size
  simp only [World.size_alloc] at hs4
  replace hBW := below_after (w := w) (w1 := v4) (by go_grown) hB4
  have lay4 := laid_after hB4
  (replace e0 := cell_later hB4 (cell_later (by go_grown) e0); replace e1 := cell_later hB4 (cell_later (by go_grown) e1); replace g0 := cell_later hB4 (cell_later (by go_grown) g0); replace r0 := cell_later hB4 (cell_later (by go_grown) r0); replace r1 := cell_later hB4 (cell_later (by go_grown) r1); replace r2 := cell_later hB4 (cell_later (by go_grown) r2); replace p0 := cell_later hB4 (cell_later (by go_grown) p0); replace p1 := cell_later hB4 (cell_later (by go_grown) p1); replace p2 := cell_later hB4 (cell_later (by go_grown) p2); replace s0 := cell_later hB4 (cell_later (by go_grown) s0); replace s1 := cell_later hB4 (cell_later (by go_grown) s1); replace s2 := cell_later hB4 (cell_later (by go_grown) s2); replace s3 := cell_later hB4 (cell_later (by go_grown) s3); replace q0 := frozen_later hB4 (frozen_later (by go_grown) q0 (by first | omega | (simp; omega))) (by first | omega | (simp; omega)); replace q1 := frozen_later hB4 (frozen_later (by go_grown) q1 (by first | omega | (simp; omega))) (by first | omega | (simp; omega)); replace q2 := frozen_later hB4 (frozen_later (by go_grown) q2 (by first | omega | (simp; omega))) (by first | omega | (simp; omega)); skip)
  clear hB4 lay3
  have hw0 : IntKind.i64.wrap (nE e (cat4 x0 x1 x2 x3) + 1) = nE e (cat4 x0 x1 x2 x3) + 1 := wrap_in _ (by omega) (by omega)
  go_upto_if 54 with fail
  go_cut [15] (fun s wx => s = .int .i64 (eS f m neg e (cat4 x0 x1 x2 x3)) ∧ v4 = wx)
  case first =>
    cases hfull : fullS f m neg (cat4 x0 x1 x2 x3)
    · have heS : eS f m neg e (cat4 x0 x1 x2 x3) = nE e (cat4 x0 x1 x2 x3) := by unfold eS; rw [if_neg (by rw [hfull]; decide)]
      go_wp2_with fail
      go_meet
      exact ⟨by rw [heS], rfl⟩
    · have heS : eS f m neg e (cat4 x0 x1 x2 x3) = nE e (cat4 x0 x1 x2 x3) + 1 := by unfold eS; rw [if_pos hfull]
      go_wp2_with fail
      go_meet
      exact ⟨by rw [heS], rfl⟩
  case rest =>
    obtain ⟨rfl, rfl⟩ := hcut
    clear hlt3 hw0
    go_wp2_with fail
    refine (over_Beyond _ _ _ hf).mono ?_
    rintro en v5 ⟨rfl, hB5⟩
    replace hBW := below_after (w := w) (w1 := v5) (by go_grown) hB5
    have lay5 := laid_after hB5
    have hs5 := hB5.size
    (replace e0 := cell_later hB5 (cell_later (by go_grown) e0); replace e1 := cell_later hB5 (cell_later (by go_grown) e1); replace g0 := cell_later hB5 (cell_later (by go_grown) g0); replace r0 := cell_later hB5 (cell_later (by go_grown) r0); replace r1 := cell_later hB5 (cell_later (by go_grown) r1); replace r2 := cell_later hB5 (cell_later (by go_grown) r2); replace p0 := cell_later hB5 (cell_later (by go_grown) p0); replace p1 := cell_later hB5 (cell_later (by go_grown) p1); replace p2 := cell_later hB5 (cell_later (by go_grown) p2); replace s0 := cell_later hB5 (cell_later (by go_grown) s0); replace s1 := cell_later hB5 (cell_later (by go_grown) s1); replace s2 := cell_later hB5 (cell_later (by go_grown) s2); replace s3 := cell_later hB5 (cell_later (by go_grown) s3); replace t0 := cell_later hB5 (cell_later (by go_grown) t0); replace t1 := cell_later hB5 (cell_later (by go_grown) t1); replace q0 := frozen_later hB5 (frozen_later (by go_grown) q0 (by first | omega | (simp; omega))) (by first | omega | (simp; omega)); replace q1 := frozen_later hB5 (frozen_later (by go_grown) q1 (by first | omega | (simp; omega))) (by first | omega | (simp; omega)); replace q2 := frozen_later hB5 (frozen_later (by go_grown) q2 (by first | omega | (simp; omega))) (by first | omega | (simp; omega)); replace u0 := frozen_later hB5 (frozen_later (by go_grown) u0 (by first | omega | (simp; omega))) (by first | omega | (simp; omega)); replace u1 := frozen_later hB5 (frozen_later (by go_grown) u1 (by first | omega | (simp; omega))) (by first | omega | (simp; omega)); skip)
    clear hB5 lay4
    have hbd : decide (emaxS f < eS f m neg e (cat4 x0 x1 x2 x3)) = false := decide_eq_false (Int.not_lt.2 hle'.out)
    have hle : eS f m neg e (cat4 x0 x1 x2 x3) ≤ emaxS f := hle'.out
    obtain ⟨em0, em1⟩ := emaxS_bd f
    obtain ⟨es0, es1⟩ := eS_bd f m neg e (cat4 x0 x1 x2 x3)
    go_upto_region 13 with fail
    go_cut [16] (fun s wx => s = .bool (tinyS f m aft neg e (cat4 x0 x1 x2 x3)) ∧ v5 = wx)
    case first =>
      have hld : decide (nE e (cat4 x0 x1 x2 x3) < leastS f) = true := decide_eq_true hll.out
      cases aft
      · have ht : tinyS f m false neg e (cat4 x0 x1 x2 x3) = true := by unfold tinyS; rw [hld]; rfl
        go_wp2_with fail
        go_meet
        exact ⟨by rw [ht], rfl⟩
      · have ht : tinyS f m true neg e (cat4 x0 x1 x2 x3) = decide (eS f m neg e (cat4 x0 x1 x2 x3) < leastS f) := by unfold tinyS; rw [hld]; rfl
        go_wp2_with fail
        go_meet
        exact ⟨by rw [ht], rfl⟩
    case rest =>
      obtain ⟨rfl, rfl⟩ := hcut
      have hnn5 : v5.heap.size ≠ w.heap.size ∧ v5.heap.size ≠ w.heap.size + 1 ∧ v5.heap.size ≠ w.heap.size + 1 + 1 + 1 ∧ v5.heap.size ≠ v2.heap.size ∧ v5.heap.size ≠ v3.heap.size := by omega
      have hlt5 : w.heap.size < v5.heap.size ∧ w.heap.size + 1 < v5.heap.size ∧ w.heap.size + 1 + 1 + 1 < v5.heap.size ∧ v2.heap.size < v5.heap.size ∧ v3.heap.size < v5.heap.size := by omega
      have hld : decide (nE e (cat4 x0 x1 x2 x3) < leastS f) = true := decide_eq_true hll.out
      have hb' := Lib.hid (show roundB f m neg e (cat4 x0 x1 x2 x3) = makeF f neg (fieldS f (subB f m neg e (cat4 x0 x1 x2 x3))) (subB f m neg e (cat4 x0 x1 x2 x3)) by unfold roundB; rw [if_neg (Int.not_lt.2 hle'.out), if_pos hll.out])
      have hfl' := Lib.hid (show roundFl f m aft neg e (cat4 x0 x1 x2 x3) = flagsS (inexS (lowJ f e (cat4 x0 x1 x2 x3)) (precS f)) (tinyS f m aft neg e (cat4 x0 x1 x2 x3)) by unfold roundFl inexactS; rw [if_neg (Int.not_lt.2 hle'.out), if_pos hll.out])
      have hJ := Lib.hid (jamS_cat (raiseS (cat4 x0 x1 x2 x3)) (leastS f - nE e (cat4 x0 x1 x2 x3)) (raise_lt _ (by rw [two256]; exact cat4_lt x0 x1 x2 x3)))
      have hS := Lib.hid (show cat (hi (subB f m neg e (cat4 x0 x1 x2 x3))) (lo (subB f m neg e (cat4 x0 x1 x2 x3))) = subB f m neg e (cat4 x0 x1 x2 x3) from cutS_cat (lowJ f e (cat4 x0 x1 x2 x3)) (precS f) m neg (by omega) (by omega) (jamS_le _ _ (raise_lt _ (by rw [two256]; exact cat4_lt x0 x1 x2 x3))))
      obtain ⟨hw1, hw2, hw3⟩ := wraps (nE e (cat4 x0 x1 x2 x3)) (eS f m neg e (cat4 x0 x1 x2 x3)) (leastS f) (emaxS f) l1 l2 n1 n2 es0 hle em1
      go_wp2_with fail
      clear hw1 hw2 hw3
      refine (shift_WideJam _ _ _ _ _ _).mono ?_
      rw [hR.out]
      rintro en v6 ⟨rfl, hB6⟩
      replace hBW := below_after (w := w) (w1 := v6) (by go_grown) hB6
      have lay6 := laid_after hB6
      have hs6 := hB6.size
      (replace e0 := cell_later hB6 (cell_later (by go_grown) e0); replace g0 := cell_later hB6 (cell_later (by go_grown) g0); replace r0 := cell_later hB6 (cell_later (by go_grown) r0); replace r1 := cell_later hB6 (cell_later (by go_grown) r1); replace r2 := cell_later hB6 (cell_later (by go_grown) r2); replace p0 := cell_later hB6 (cell_later (by go_grown) p0); replace t0 := cell_later hB6 (cell_later (by go_grown) t0); replace t1 := cell_later hB6 (cell_later (by go_grown) t1); replace q0 := frozen_later hB6 (frozen_later (by go_grown) q0 (by first | omega | (simp; omega))) (by first | omega | (simp; omega)); replace q1 := frozen_later hB6 (frozen_later (by go_grown) q1 (by first | omega | (simp; omega))) (by first | omega | (simp; omega)); replace q2 := frozen_later hB6 (frozen_later (by go_grown) q2 (by first | omega | (simp; omega))) (by first | omega | (simp; omega)); replace u0 := frozen_later hB6 (frozen_later (by go_grown) u0 (by first | omega | (simp; omega))) (by first | omega | (simp; omega)); replace u1 := frozen_later hB6 (frozen_later (by go_grown) u1 (by first | omega | (simp; omega))) (by first | omega | (simp; omega)); skip)
      clear hB6 e1 p1 p2 s0 s1 s2 s3
      go_wp2_with fail
      refine (pack_cut _ _ _ _ _ _ _ (precS f) m neg _ (by omega) (by omega) m0 m1 p0 e0 g0 (by omega) (by omega) (by omega)).mono ?_
      rw [hJ.out, show cutS (jamS (raiseS (cat4 x0 x1 x2 x3)) (leastS f - nE e (cat4 x0 x1 x2 x3))) (precS f) m neg = subB f m neg e (cat4 x0 x1 x2 x3) from rfl, show jamS (raiseS (cat4 x0 x1 x2 x3)) (leastS f - nE e (cat4 x0 x1 x2 x3)) = lowJ f e (cat4 x0 x1 x2 x3) from rfl]
      rintro en v7 ⟨rfl, hB7⟩
      replace hBW := below_after (w := w) (w1 := v7) (by go_grown) hB7
      have lay7 := laid_after hB7
      have hs7 := hB7.size
      (replace g0 := cell_later hB7 (cell_later (by go_grown) g0); replace r0 := cell_later hB7 (cell_later (by go_grown) r0); replace r1 := cell_later hB7 (cell_later (by go_grown) r1); replace r2 := cell_later hB7 (cell_later (by go_grown) r2); replace t0 := cell_later hB7 (cell_later (by go_grown) t0); replace t1 := cell_later hB7 (cell_later (by go_grown) t1); replace q0 := frozen_later hB7 (frozen_later (by go_grown) q0 (by first | omega | (simp; omega))) (by first | omega | (simp; omega)); replace q1 := frozen_later hB7 (frozen_later (by go_grown) q1 (by first | omega | (simp; omega))) (by first | omega | (simp; omega)); replace q2 := frozen_later hB7 (frozen_later (by go_grown) q2 (by first | omega | (simp; omega))) (by first | omega | (simp; omega)); replace u0 := frozen_later hB7 (frozen_later (by go_grown) u0 (by first | omega | (simp; omega))) (by first | omega | (simp; omega)); replace u1 := frozen_later hB7 (frozen_later (by go_grown) u1 (by first | omega | (simp; omega))) (by first | omega | (simp; omega)); skip)
      clear hB7 e0 p0 lay6
      have hnn7 : v3.heap.size ≠ w.heap.size ∧ v3.heap.size ≠ w.heap.size + 1 ∧ v3.heap.size ≠ w.heap.size + 1 + 1 + 1 ∧ w.heap.size + 1 ≠ v3.heap.size ∧ w.heap.size + 1 + 1 + 1 ≠ v3.heap.size := by omega
      have hlt7 : w.heap.size + 1 < v7.heap.size ∧ w.heap.size + 1 + 1 + 1 < v7.heap.size ∧ v3.heap.size < v7.heap.size := by omega
      go_wp2_with fail
      refine (@put_zero f (hi (subB f m neg e (cat4 x0 x1 x2 x3))) (lo (subB f m neg e (cat4 x0 x1 x2 x3))) neg hU _ _ _ (key _ (by go_grown)) hf).mono ?_
      rw [hS.out]
      rintro en v8 ⟨rfl, hB8⟩
      replace hBW := below_after (w := w) (w1 := v8) (by go_grown) hB8
      have hs8 := hB8.size
      simp only [World.size_setCell] at hs8
      replace r0 := cell_later hB8 (show World.cell? _ ⟨w.heap.size + 1 + 1 + 1, 0, none⟩ = some (.int .u64 0) by go_simp)
      replace r1 := cell_later hB8 (show World.cell? _ ⟨w.heap.size + 1 + 1 + 1, 1, none⟩ = some (.int .u64 0) by go_simp)
      replace r2 := cell_later hB8 (show World.cell? _ ⟨w.heap.size + 1 + 1 + 1, 2, none⟩ = some (.int .u8 0) by go_simp)
      replace q0 := frozen_later hB8 (show World.frozen? _ ⟨w.heap.size + 1 + 1 + 1, 0, none⟩ = false by go_simp) (by simp; omega)
      replace q1 := frozen_later hB8 (show World.frozen? _ ⟨w.heap.size + 1 + 1 + 1, 1, none⟩ = false by go_simp) (by simp; omega)
      replace q2 := frozen_later hB8 (show World.frozen? _ ⟨w.heap.size + 1 + 1 + 1, 2, none⟩ = false by go_simp) (by simp; omega)
      clear hB8 t0 t1 g0 u0 u1
      have hnn8 : v8.heap.size ≠ w.heap.size + 1 + 1 + 1 ∧ w.heap.size + 1 + 1 + 1 ≠ v8.heap.size := by omega
      have hlt8 : w.heap.size + 1 + 1 + 1 < v8.heap.size := by omega
      (try clear hbd); (try clear hle); (try clear em0); (try clear em1); (try clear es0); (try clear es1); (try clear hnn5); (try clear hlt5); (try clear hld); (try clear he0); (try clear e0); (try clear e1); (try clear g0); (try clear p0); (try clear p1); (try clear p2); (try clear s0); (try clear s1); (try clear s2); (try clear s3); (try clear t0); (try clear t1); (try clear u0); (try clear u1); (try clear b1); (try clear b2); (try clear b3); (try clear b4); (try clear b5); (try clear b6); (try clear l1); (try clear l2); (try clear n1); (try clear n2); (try clear hs0); (try clear hs1); (try clear hnn); (try clear hs3); (try clear hnn3); (try clear hs4); (try clear hs5); (try clear hs6); (try clear hs7); (try clear hs8); (try clear lay5); (try clear lay7); (try clear hR); (try clear hTl); (try clear hJ); (try clear hS); (try clear hzd); (try clear hz); (try clear m0); (try clear m1); (try clear lay0); (try clear hnn7); (try clear hlt7); (try clear key); (try clear hle'); (try clear hll); (try clear hs3)
      generalize makeF f neg (fieldS f (subB f m neg e (cat4 x0 x1 x2 x3))) (subB f m neg e (cat4 x0 x1 x2 x3)) = G at hb' ⊢
      generalize inexS (lowJ f e (cat4 x0 x1 x2 x3)) (precS f) = I at hfl' ⊢
      generalize tinyS f m aft neg e (cat4 x0 x1 x2 x3) = T at hfl' ⊢
      have hgoal : ∀ A B : Int, ∀ C : Int, (A = hi G ∧ B = lo G ∧ C = flagsS I T) → Ending.returned (.agg #[.int .u64 A, .int .u64 B, .int .u8 C]) = Ending.returned (.agg #[.int .u64 (hi (roundB f m neg e (cat4 x0 x1 x2 x3))), .int .u64 (lo (roundB f m neg e (cat4 x0 x1 x2 x3))), .int .u8 (roundFl f m aft neg e (cat4 x0 x1 x2 x3))]) := by
        rintro A B C ⟨rfl, rfl, rfl⟩
        rw [hb'.out, hfl'.out]
      have o24 : Go.bits BinOp.or IntKind.u8 16 8 = 24 := by decide
      cases I
      · go_upto_region 23 with fail
        refine wp_rename ?_
        intro W9 hW9
        have b0 : W9.cell? ⟨v8.heap.size, 0, none⟩ = some (.int .u64 (hi G)) := by rw [hW9]; go_simp
        have b1 : W9.cell? ⟨v8.heap.size, 1, none⟩ = some (.int .u64 (lo G)) := by rw [hW9]; go_simp
        have b2 : W9.cell? ⟨v8.heap.size, 2, none⟩ = some (.int .u8 0) := by rw [hW9]; go_simp
        have hB9 : Below w.heap.size w W9 := by rw [hW9]; go_grown
        have r0' : W9.cell? ⟨w.heap.size + 1 + 1 + 1, 0, none⟩ = some (.int .u64 0) := by rw [hW9]; go_simp
        have r1' : W9.cell? ⟨w.heap.size + 1 + 1 + 1, 1, none⟩ = some (.int .u64 0) := by rw [hW9]; go_simp
        have r2' : W9.cell? ⟨w.heap.size + 1 + 1 + 1, 2, none⟩ = some (.int .u8 0) := by rw [hW9]; go_simp
        have q0' : W9.frozen? ⟨w.heap.size + 1 + 1 + 1, 0, none⟩ = false := by rw [hW9]; go_simp
        have q1' : W9.frozen? ⟨w.heap.size + 1 + 1 + 1, 1, none⟩ = false := by rw [hW9]; go_simp
        have q2' : W9.frozen? ⟨w.heap.size + 1 + 1 + 1, 2, none⟩ = false := by rw [hW9]; go_simp
        clear hW9 r0 r1 r2 q0 q1 q2
        repeat (first | go_values | go_skip | go_guarded | go_step | go_upon)
        refine bodyPost_ret (by simp [results, Tryz.results79, go_sem, r0', r1', r2', hnn8, hlt8]; try rfl) rfl ?_
        exact ⟨hgoal _ _ _ ⟨rfl, rfl, (flagsS_f T).symm⟩, by go_grown⟩
      · cases T
        · go_upto_region 23 with fail
          refine wp_rename ?_
          intro W9 hW9
          have b0 : W9.cell? ⟨v8.heap.size, 0, none⟩ = some (.int .u64 (hi G)) := by rw [hW9]; go_simp
          have b1 : W9.cell? ⟨v8.heap.size, 1, none⟩ = some (.int .u64 (lo G)) := by rw [hW9]; go_simp
          have b2 : W9.cell? ⟨v8.heap.size, 2, none⟩ = some (.int .u8 16) := by rw [hW9]; go_simp
          have hB9 : Below w.heap.size w W9 := by rw [hW9]; go_grown
          have r0' : W9.cell? ⟨w.heap.size + 1 + 1 + 1, 0, none⟩ = some (.int .u64 0) := by rw [hW9]; go_simp
          have r1' : W9.cell? ⟨w.heap.size + 1 + 1 + 1, 1, none⟩ = some (.int .u64 0) := by rw [hW9]; go_simp
          have r2' : W9.cell? ⟨w.heap.size + 1 + 1 + 1, 2, none⟩ = some (.int .u8 0) := by rw [hW9]; go_simp
          have q0' : W9.frozen? ⟨w.heap.size + 1 + 1 + 1, 0, none⟩ = false := by rw [hW9]; go_simp
          have q1' : W9.frozen? ⟨w.heap.size + 1 + 1 + 1, 1, none⟩ = false := by rw [hW9]; go_simp
          have q2' : W9.frozen? ⟨w.heap.size + 1 + 1 + 1, 2, none⟩ = false := by rw [hW9]; go_simp
          clear hW9 r0 r1 r2 q0 q1 q2
          repeat (first | go_values | go_skip | go_guarded | go_step | go_upon)
          refine bodyPost_ret (by simp [results, Tryz.results79, go_sem, r0', r1', r2', hnn8, hlt8]; try rfl) rfl ?_
          exact ⟨hgoal _ _ _ ⟨rfl, rfl, flagsS_tf.symm⟩, by go_grown⟩
        · go_upto_region 23 with fail
          refine wp_rename ?_
          intro W9 hW9
          have b0 : W9.cell? ⟨v8.heap.size, 0, none⟩ = some (.int .u64 (hi G)) := by rw [hW9]; go_simp
          have b1 : W9.cell? ⟨v8.heap.size, 1, none⟩ = some (.int .u64 (lo G)) := by rw [hW9]; go_simp
          have b2 : W9.cell? ⟨v8.heap.size, 2, none⟩ = some (.int .u8 24) := by rw [hW9]; go_simp
          have hB9 : Below w.heap.size w W9 := by rw [hW9]; go_grown
          have r0' : W9.cell? ⟨w.heap.size + 1 + 1 + 1, 0, none⟩ = some (.int .u64 0) := by rw [hW9]; go_simp
          have r1' : W9.cell? ⟨w.heap.size + 1 + 1 + 1, 1, none⟩ = some (.int .u64 0) := by rw [hW9]; go_simp
          have r2' : W9.cell? ⟨w.heap.size + 1 + 1 + 1, 2, none⟩ = some (.int .u8 0) := by rw [hW9]; go_simp
          have q0' : W9.frozen? ⟨w.heap.size + 1 + 1 + 1, 0, none⟩ = false := by rw [hW9]; go_simp
          have q1' : W9.frozen? ⟨w.heap.size + 1 + 1 + 1, 1, none⟩ = false := by rw [hW9]; go_simp
          have q2' : W9.frozen? ⟨w.heap.size + 1 + 1 + 1, 2, none⟩ = false := by rw [hW9]; go_simp
          clear hW9 r0 r1 r2 q0 q1 q2
          repeat (first | go_values | go_skip | go_guarded | go_step | go_upon)
          refine bodyPost_ret (by simp [results, Tryz.results79, go_sem, r0', r1', r2', hnn8, hlt8]; try rfl) rfl ?_
          exact ⟨hgoal _ _ _ ⟨rfl, rfl, flagsS_tt.symm⟩, by go_grown⟩
end Go.Proofs.YtkpjeceofcfnkaaGreatDoor
namespace Go.Proofs.YtkpjeceofcfnkaaGreatDoor
open Go.RowKit Go.Hb
theorem pack_Round_pos (f m e x0 x1 x2 x3 : Int) (aft neg : Bool) [hU : U8 f] [U64 x0] [U64 x1] [U64 x2] [U64 x3] (w : World) [Laid w] (hf : f < 4) (m0 : 0 ≤ m) (m1 : m ≤ 4) (hz : ¬ cat4 x0 x1 x2 x3 = 0) :
    Calls Tryz.prog 79 #[.int .u8 f, .agg #[.int .u8 m, .bool aft], .bool neg, .int .i64 e, .agg #[.int .u64 (x0), .int .u64 (x1), .int .u64 (x2), .int .u64 (x3)]] w fun en w' => en = .returned (.agg #[.int .u64 (hi (roundB f m neg e (cat4 x0 x1 x2 x3))), .int .u64 (lo (roundB f m neg e (cat4 x0 x1 x2 x3))), .int .u8 (roundFl f m aft neg e (cat4 x0 x1 x2 x3))]) ∧ Below w.heap.size w w' := by
  by_cases hbey : emaxS f < eS f m neg e (cat4 x0 x1 x2 x3)
  · exact pack_Round_over f m e x0 x1 x2 x3 aft neg w hf m0 m1 hz hbey
  · by_cases hl : nE e (cat4 x0 x1 x2 x3) < leastS f
    · exact pack_Round_less f m e x0 x1 x2 x3 aft neg w hf m0 m1 hz hbey hl
    · exact pack_Round_top f m e x0 x1 x2 x3 aft neg w hf m0 m1 hz hbey hl
end Go.Proofs.YtkpjeceofcfnkaaGreatDoor

namespace Go.Proofs.YtkpjeceofcfnkaaGreatDoor
open Go.RowKit Go.Hb
theorem pack_Round_none (f m e x0 x1 x2 x3 : Int) (aft neg : Bool) [hU : U8 f] (w : World) (hk : ¬ (f < 4 ∧ m ≤ 4)) :
    Calls Tryz.prog 79 #[.int .u8 f, .agg #[.int .u8 m, .bool aft], .bool neg, .int .i64 e, .agg #[.int .u64 (x0), .int .u64 (x1), .int .u64 (x2), .int .u64 (x3)]] w fun en w' => en = .returned (.agg #[.int .u64 0, .int .u64 0, .int .u8 0]) ∧ Below w.heap.size w w' := by
  by_cases hf : f < 4
  · have hfd : decide (f < 4) = true := by simpa using hf
    have hmd : decide (m ≤ 4) = false := by simp; omega
    go_enter Tryz.func79, Tryz.ntmps79
    go_wp2_with (first | (go_at_call 27; refine (format_Known _ _).mono ?_; rintro en w' ⟨rfl, rfl⟩) | (go_at_call 28; refine (mode_Known _ _).mono ?_; rintro e w' ⟨rfl, rfl⟩))
    refine bodyPost_ret (by simp [results, Tryz.results79, go_sem]; try rfl) rfl ?_
    exact ⟨rfl, by go_grown⟩
  · have hfd : decide (f < 4) = false := by simpa using hf
    go_enter Tryz.func79, Tryz.ntmps79
    go_wp2_with (first | (go_at_call 27; refine (format_Known _ _).mono ?_; rintro en w' ⟨rfl, rfl⟩) | (go_at_call 28; refine (mode_Known _ _).mono ?_; rintro e w' ⟨rfl, rfl⟩))
    refine bodyPost_ret (by simp [results, Tryz.results79, go_sem]; try rfl) rfl ?_
    exact ⟨rfl, by go_grown⟩
theorem pack_Round (f m e x0 x1 x2 x3 : Int) (aft neg : Bool) [hU : U8 f] [hM : U8 m] [U64 x0] [U64 x1] [U64 x2] [U64 x3] (w : World) [Laid w] :
    Calls Tryz.prog 79 #[.int .u8 f, .agg #[.int .u8 m, .bool aft], .bool neg, .int .i64 e, .agg #[.int .u64 (x0), .int .u64 (x1), .int .u64 (x2), .int .u64 (x3)]] w fun en w' => en = .returned (.agg #[.int .u64 (hi (resB f m neg e (cat4 x0 x1 x2 x3))), .int .u64 (lo (resB f m neg e (cat4 x0 x1 x2 x3))), .int .u8 (resFl f m aft neg e (cat4 x0 x1 x2 x3))]) ∧ Below w.heap.size w w' := by
  by_cases hk : f < 4 ∧ m ≤ 4
  · by_cases hz : cat4 x0 x1 x2 x3 = 0
    · have h1 : resB f m neg e (cat4 x0 x1 x2 x3) = makeF f neg 0 0 := by unfold resB; rw [if_pos hk, if_pos hz]
      have h2 : resFl f m aft neg e (cat4 x0 x1 x2 x3) = 0 := by unfold resFl; rw [if_pos hk, if_pos hz]
      rw [h1, h2]
      exact pack_Round_zero f m e x0 x1 x2 x3 aft neg w hk.1 hM.ge hk.2 hz
    · have h1 : resB f m neg e (cat4 x0 x1 x2 x3) = roundB f m neg e (cat4 x0 x1 x2 x3) := by unfold resB; rw [if_pos hk, if_neg hz]
      have h2 : resFl f m aft neg e (cat4 x0 x1 x2 x3) = roundFl f m aft neg e (cat4 x0 x1 x2 x3) := by unfold resFl; rw [if_pos hk, if_neg hz]
      rw [h1, h2]
      exact pack_Round_pos f m e x0 x1 x2 x3 aft neg w hk.1 hM.ge hk.2 hz
  · have h1 : resB f m neg e (cat4 x0 x1 x2 x3) = 0 := by unfold resB; rw [if_neg hk]
    have h2 : resFl f m aft neg e (cat4 x0 x1 x2 x3) = 0 := by unfold resFl; rw [if_neg hk]
    rw [h1, h2]
    exact pack_Round_none f m e x0 x1 x2 x3 aft neg w hk
end Go.Proofs.YtkpjeceofcfnkaaGreatDoor

namespace Go.Proofs.YtkpjeceofcfnkaaGreatDoor
open Go.RowKit Go.Hb
def exB (f : Int) (neg : Bool) (e : Int) (v : Nat) : Nat := if f < 4 ∧ resFl f 4 false neg e v = 0 then resB f 4 neg e v else 0
def exOk (f : Int) (neg : Bool) (e : Int) (v : Nat) : Bool := decide (f < 4) && (resFl f 4 false neg e v == 0)
theorem pack_Exact (f e x0 x1 x2 x3 : Int) (neg : Bool) [hU : U8 f] [U64 x0] [U64 x1] [U64 x2] [U64 x3] (w : World) [Laid w] :
    Calls Tryz.prog 34 #[.int .u8 f, .bool neg, .int .i64 e, .agg #[.int .u64 (x0), .int .u64 (x1), .int .u64 (x2), .int .u64 (x3)]] w fun en w' => en = .returned (.tuple #[.agg #[.int .u64 (hi (exB f neg e (cat4 x0 x1 x2 x3))), .int .u64 (lo (exB f neg e (cat4 x0 x1 x2 x3)))], .bool (exOk f neg e (cat4 x0 x1 x2 x3))]) ∧ Below w.heap.size w w' := by
  have h0 : hi 0 = 0 := rfl
  have h1 : lo 0 = 0 := rfl
  by_cases hk : f < 4 ∧ resFl f 4 false neg e (cat4 x0 x1 x2 x3) = 0
  · obtain ⟨hf, hz⟩ := hk
    have hfd : decide (f < 4) = true := decide_eq_true hf
    have hb : exB f neg e (cat4 x0 x1 x2 x3) = resB f 4 neg e (cat4 x0 x1 x2 x3) := by unfold exB; rw [if_pos ⟨hf, hz⟩]
    have ho : exOk f neg e (cat4 x0 x1 x2 x3) = true := by unfold exOk; rw [hfd, hz]; rfl
    rw [hb, ho]
    clear hb ho
    go_enter Tryz.func34, Tryz.ntmps34
    go_wp2_with fail
    refine (pack_Round _ _ _ _ _ _ _ _ _ _).mono ?_
    rw [hz]
    rintro en v1 ⟨rfl, hB_v1⟩
    (obtain ⟨hc_v1, hf_v1⟩ := bcell hB_v1; have hz_v1 := hB_v1.size; (try simp only [World.size_alloc, World.size_setCell, World.size_drew] at hz_v1 hc_v1 hf_v1); have k0_v1 := fun o => hc_v1 (w.heap.size) o (by omega); have l0_v1 := fun o => hf_v1 (w.heap.size) o (by omega); have k1_v1 := fun o => hc_v1 (w.heap.size + 1) o (by omega); have l1_v1 := fun o => hf_v1 (w.heap.size + 1) o (by omega); have z_v1 : w.heap.size < v1.heap.size ∧ w.heap.size ≤ v1.heap.size ∧ w.heap.size ≤ v1.heap.size + 1 ∧ w.heap.size ≤ v1.heap.size + 1 + 1 ∧ w.heap.size + 1 < v1.heap.size ∧ w.heap.size + 1 ≤ v1.heap.size ∧ w.heap.size + 1 ≤ v1.heap.size + 1 ∧ w.heap.size + 1 ≤ v1.heap.size + 1 + 1 := (by omega); clear hc_v1 hf_v1; have n_v1 : w.heap.size ≠ v1.heap.size ∧ v1.heap.size ≠ w.heap.size ∧ w.heap.size ≠ v1.heap.size + 1 ∧ v1.heap.size + 1 ≠ w.heap.size ∧ w.heap.size + 1 ≠ v1.heap.size ∧ v1.heap.size ≠ w.heap.size + 1 ∧ w.heap.size + 1 ≠ v1.heap.size + 1 ∧ v1.heap.size + 1 ≠ w.heap.size + 1 := (by omega); have hW_v1 : Below w.heap.size w v1 := below_after (by go_grown) hB_v1)
    go_wp2_with (go_at_call 27; refine (format_Known _ _).mono ?_; rintro en w' ⟨rfl, rfl⟩)
    refine bodyPost_ret (by simp [results, Tryz.results34, go_sem, k1_v1, z_v1, n_v1]; try rfl) rfl ?_
    exact ⟨rfl, by go_grown⟩
  · have hb : exB f neg e (cat4 x0 x1 x2 x3) = 0 := by unfold exB; rw [if_neg hk]
    have ho : exOk f neg e (cat4 x0 x1 x2 x3) = false := by
      unfold exOk
      by_cases hf : f < 4
      · rw [decide_eq_true hf, Bool.true_and, beq_eq_false_iff_ne]
        exact fun h => hk ⟨hf, h⟩
      · rw [decide_eq_false hf]; rfl
    rw [hb, ho, h0, h1]
    clear hb ho
    by_cases hf : f < 4
    · have hfd : decide (f < 4) = true := decide_eq_true hf
      have hz : (resFl f 4 false neg e (cat4 x0 x1 x2 x3) == 0) = false := by
        rw [beq_eq_false_iff_ne]
        exact fun h => hk ⟨hf, h⟩
      clear hk
      go_enter Tryz.func34, Tryz.ntmps34
      go_wp2_with fail
      refine (pack_Round _ _ _ _ _ _ _ _ _ _).mono ?_
      rintro en v1 ⟨rfl, hB_v1⟩
      (obtain ⟨hc_v1, hf_v1⟩ := bcell hB_v1; have hz_v1 := hB_v1.size; (try simp only [World.size_alloc, World.size_setCell, World.size_drew] at hz_v1 hc_v1 hf_v1); have k0_v1 := fun o => hc_v1 (w.heap.size) o (by omega); have l0_v1 := fun o => hf_v1 (w.heap.size) o (by omega); have k1_v1 := fun o => hc_v1 (w.heap.size + 1) o (by omega); have l1_v1 := fun o => hf_v1 (w.heap.size + 1) o (by omega); have z_v1 : w.heap.size < v1.heap.size ∧ w.heap.size ≤ v1.heap.size ∧ w.heap.size ≤ v1.heap.size + 1 ∧ w.heap.size ≤ v1.heap.size + 1 + 1 ∧ w.heap.size + 1 < v1.heap.size ∧ w.heap.size + 1 ≤ v1.heap.size ∧ w.heap.size + 1 ≤ v1.heap.size + 1 ∧ w.heap.size + 1 ≤ v1.heap.size + 1 + 1 := (by omega); clear hc_v1 hf_v1; have n_v1 : w.heap.size ≠ v1.heap.size ∧ v1.heap.size ≠ w.heap.size ∧ w.heap.size ≠ v1.heap.size + 1 ∧ v1.heap.size + 1 ≠ w.heap.size ∧ w.heap.size + 1 ≠ v1.heap.size ∧ v1.heap.size ≠ w.heap.size + 1 ∧ w.heap.size + 1 ≠ v1.heap.size + 1 ∧ v1.heap.size + 1 ≠ w.heap.size + 1 := (by omega); have hW_v1 : Below w.heap.size w v1 := below_after (by go_grown) hB_v1)
      go_wp2_with (go_at_call 27; refine (format_Known _ _).mono ?_; rintro en w' ⟨rfl, rfl⟩)
      refine bodyPost_ret (by simp [results, Tryz.results34, go_sem, k1_v1, z_v1, n_v1]; try rfl) rfl ?_
      exact ⟨rfl, by go_grown⟩
    · have hfd : decide (f < 4) = false := decide_eq_false hf
      clear hk
      go_enter Tryz.func34, Tryz.ntmps34
      go_wp2_with fail
      refine (pack_Round _ _ _ _ _ _ _ _ _ _).mono ?_
      rintro en v1 ⟨rfl, hB_v1⟩
      (obtain ⟨hc_v1, hf_v1⟩ := bcell hB_v1; have hz_v1 := hB_v1.size; (try simp only [World.size_alloc, World.size_setCell, World.size_drew] at hz_v1 hc_v1 hf_v1); have k0_v1 := fun o => hc_v1 (w.heap.size) o (by omega); have l0_v1 := fun o => hf_v1 (w.heap.size) o (by omega); have k1_v1 := fun o => hc_v1 (w.heap.size + 1) o (by omega); have l1_v1 := fun o => hf_v1 (w.heap.size + 1) o (by omega); have z_v1 : w.heap.size < v1.heap.size ∧ w.heap.size ≤ v1.heap.size ∧ w.heap.size ≤ v1.heap.size + 1 ∧ w.heap.size ≤ v1.heap.size + 1 + 1 ∧ w.heap.size + 1 < v1.heap.size ∧ w.heap.size + 1 ≤ v1.heap.size ∧ w.heap.size + 1 ≤ v1.heap.size + 1 ∧ w.heap.size + 1 ≤ v1.heap.size + 1 + 1 := (by omega); clear hc_v1 hf_v1; have n_v1 : w.heap.size ≠ v1.heap.size ∧ v1.heap.size ≠ w.heap.size ∧ w.heap.size ≠ v1.heap.size + 1 ∧ v1.heap.size + 1 ≠ w.heap.size ∧ w.heap.size + 1 ≠ v1.heap.size ∧ v1.heap.size ≠ w.heap.size + 1 ∧ w.heap.size + 1 ≠ v1.heap.size + 1 ∧ v1.heap.size + 1 ≠ w.heap.size + 1 := (by omega); have hW_v1 : Below w.heap.size w v1 := below_after (by go_grown) hB_v1)
      go_wp2_with (go_at_call 27; refine (format_Known _ _).mono ?_; rintro en w' ⟨rfl, rfl⟩)
      refine bodyPost_ret (by simp [results, Tryz.results34, go_sem, k1_v1, z_v1, n_v1]; try rfl) rfl ?_
      exact ⟨rfl, by go_grown⟩
end Go.Proofs.YtkpjeceofcfnkaaGreatDoor
