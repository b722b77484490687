/- The contract of pack.Round where the number is not nought, and beyond the end. -/
import Derived.Test.YtmebfamfbdhlmaaDoorRdef
set_option linter.unusedSimpArgs false
set_option linter.unusedVariables false
namespace Go.Proofs.YtmebfamfbdhlmaaDoor
open Go.RowKit Go.Hb
set_option maxRecDepth 100000 in
set_option maxHeartbeats 16000000 in
theorem pack_Round_over (f m e x0 x1 x2 x3 : Int) (aft neg : Bool) [hU : U8 f] [U64 x0] [U64 x1] [U64 x2] [U64 x3] (w : World) [Laid w] (hf : f < 4) (m0 : 0 ≤ m) (m1 : m ≤ 4) (hz : ¬ cat4 x0 x1 x2 x3 = 0) (hbey : emaxS f < eS f m neg e (cat4 x0 x1 x2 x3)) :
    Calls Tryd.prog 42 #[.int .u8 f, .agg #[.int .u8 m, .bool aft], .bool neg, .int .i64 e, .agg #[.int .u64 (x0), .int .u64 (x1), .int .u64 (x2), .int .u64 (x3)]] w fun en w' => en = .returned (.agg #[.int .u64 (hi (roundB f m neg e (cat4 x0 x1 x2 x3))), .int .u64 (lo (roundB f m neg e (cat4 x0 x1 x2 x3))), .int .u8 (roundFl f m aft neg e (cat4 x0 x1 x2 x3))]) ∧ Below w.heap.size w w' := by
  have hzd : decide (cat4 x0 x1 x2 x3 = 0) = false := by simp [hz]
  have hVl := cat4_lt x0 x1 x2 x3
  have hV2 : cat4 x0 x1 x2 x3 < 2 ^ 256 := by rw [two256]; exact hVl
  have hR := Lib.hid (cat4_parts (raiseS (cat4 x0 x1 x2 x3)) (by rw [← two256]; exact raise_lt _ hV2))
  obtain ⟨b1, b2, b3, b4, b5, b6⟩ := fmt_bd f U8.ge hf
  obtain ⟨l1, l2⟩ := leastS_bd f
  obtain ⟨n1, n2⟩ := nE_bd e _ hV2
  have hTl := Lib.hid (show cat (hi (topB f m neg (cat4 x0 x1 x2 x3))) (lo (topB f m neg (cat4 x0 x1 x2 x3))) = topB f m neg (cat4 x0 x1 x2 x3) from cutS_cat (raiseS (cat4 x0 x1 x2 x3)) (precS f) m neg (by omega) (by omega) (raise_lt _ hV2))
  clear hVl hV2
  go_enter Tryd.func42, Tryd.ntmps42
  go_wp2_with (first | (go_at_call 16; refine (format_Known _ _).mono ?_; rintro en w' ⟨rfl, rfl⟩) | (go_at_call 22; refine (mode_Known _ _).mono ?_; rintro e w' ⟨rfl, rfl⟩))
  refine (wide_Zero _ _ _ _ _).mono ?_
  rintro en v1 ⟨rfl, hB_v1⟩
  have lay_v1 := laid_after hB_v1
  (obtain ⟨hc_v1, hf_v1⟩ := bcell hB_v1; have hz_v1 := hB_v1.size; (try simp only [World.size_alloc, World.size_setCell, World.size_drew] at hz_v1 hc_v1 hf_v1); have k0_v1 := fun o => hc_v1 (w.heap.size) o (by omega); have l0_v1 := fun o => hf_v1 (w.heap.size) o (by omega); have k1_v1 := fun o => hc_v1 (w.heap.size + 1) o (by omega); have l1_v1 := fun o => hf_v1 (w.heap.size + 1) o (by omega); have k2_v1 := fun o => hc_v1 (w.heap.size + 1 + 1) o (by omega); have l2_v1 := fun o => hf_v1 (w.heap.size + 1 + 1) o (by omega); have k3_v1 := fun o => hc_v1 (w.heap.size + 1 + 1 + 1) o (by omega); have l3_v1 := fun o => hf_v1 (w.heap.size + 1 + 1 + 1) o (by omega); have z_v1 : w.heap.size < v1.heap.size ∧ w.heap.size ≤ v1.heap.size ∧ w.heap.size ≤ v1.heap.size + 1 ∧ w.heap.size ≤ v1.heap.size + 1 + 1 ∧ w.heap.size + 1 < v1.heap.size ∧ w.heap.size + 1 ≤ v1.heap.size ∧ w.heap.size + 1 ≤ v1.heap.size + 1 ∧ w.heap.size + 1 ≤ v1.heap.size + 1 + 1 ∧ w.heap.size + 1 + 1 < v1.heap.size ∧ w.heap.size + 1 + 1 ≤ v1.heap.size ∧ w.heap.size + 1 + 1 ≤ v1.heap.size + 1 ∧ w.heap.size + 1 + 1 ≤ v1.heap.size + 1 + 1 ∧ w.heap.size + 1 + 1 + 1 < v1.heap.size ∧ w.heap.size + 1 + 1 + 1 ≤ v1.heap.size ∧ w.heap.size + 1 + 1 + 1 ≤ v1.heap.size + 1 ∧ w.heap.size + 1 + 1 + 1 ≤ v1.heap.size + 1 + 1 := (by omega); clear hc_v1 hf_v1; have n_v1 : w.heap.size ≠ v1.heap.size ∧ v1.heap.size ≠ w.heap.size ∧ w.heap.size ≠ v1.heap.size + 1 ∧ v1.heap.size + 1 ≠ w.heap.size ∧ w.heap.size + 1 ≠ v1.heap.size ∧ v1.heap.size ≠ w.heap.size + 1 ∧ w.heap.size + 1 ≠ v1.heap.size + 1 ∧ v1.heap.size + 1 ≠ w.heap.size + 1 ∧ w.heap.size + 1 + 1 ≠ v1.heap.size ∧ v1.heap.size ≠ w.heap.size + 1 + 1 ∧ w.heap.size + 1 + 1 ≠ v1.heap.size + 1 ∧ v1.heap.size + 1 ≠ w.heap.size + 1 + 1 ∧ w.heap.size + 1 + 1 + 1 ≠ v1.heap.size ∧ v1.heap.size ≠ w.heap.size + 1 + 1 + 1 ∧ w.heap.size + 1 + 1 + 1 ≠ v1.heap.size + 1 ∧ v1.heap.size + 1 ≠ w.heap.size + 1 + 1 + 1 := (by omega); have hW_v1 : Below w.heap.size w v1 := below_after (by go_grown) hB_v1)
  (go_wp2_with fail; refine (pack_of _ _ _ _ _ _ _).mono ?_; rintro en v2 ⟨rfl, hB_v2⟩; have lay_v2 := laid_after hB_v2; (obtain ⟨hc_v2, hf_v2⟩ := bcell hB_v2; have hz_v2 := hB_v2.size; (try simp only [World.size_alloc, World.size_setCell, World.size_drew] at hz_v2 hc_v2 hf_v2); have k0_v2 := fun o => hc_v2 (w.heap.size) o (by omega); have l0_v2 := fun o => hf_v2 (w.heap.size) o (by omega); have k1_v2 := fun o => hc_v2 (w.heap.size + 1) o (by omega); have l1_v2 := fun o => hf_v2 (w.heap.size + 1) o (by omega); have k2_v2 := fun o => hc_v2 (w.heap.size + 1 + 1) o (by omega); have l2_v2 := fun o => hf_v2 (w.heap.size + 1 + 1) o (by omega); have k3_v2 := fun o => hc_v2 (w.heap.size + 1 + 1 + 1) o (by omega); have l3_v2 := fun o => hf_v2 (w.heap.size + 1 + 1 + 1) o (by omega); have z_v2 : w.heap.size < v2.heap.size ∧ w.heap.size ≤ v2.heap.size ∧ w.heap.size ≤ v2.heap.size + 1 ∧ w.heap.size ≤ v2.heap.size + 1 + 1 ∧ w.heap.size + 1 < v2.heap.size ∧ w.heap.size + 1 ≤ v2.heap.size ∧ w.heap.size + 1 ≤ v2.heap.size + 1 ∧ w.heap.size + 1 ≤ v2.heap.size + 1 + 1 ∧ w.heap.size + 1 + 1 < v2.heap.size ∧ w.heap.size + 1 + 1 ≤ v2.heap.size ∧ w.heap.size + 1 + 1 ≤ v2.heap.size + 1 ∧ w.heap.size + 1 + 1 ≤ v2.heap.size + 1 + 1 ∧ w.heap.size + 1 + 1 + 1 < v2.heap.size ∧ w.heap.size + 1 + 1 + 1 ≤ v2.heap.size ∧ w.heap.size + 1 + 1 + 1 ≤ v2.heap.size + 1 ∧ w.heap.size + 1 + 1 + 1 ≤ v2.heap.size + 1 + 1 := (by omega); clear hc_v2 hf_v2; have n_v2 : w.heap.size ≠ v2.heap.size ∧ v2.heap.size ≠ w.heap.size ∧ w.heap.size ≠ v2.heap.size + 1 ∧ v2.heap.size + 1 ≠ w.heap.size ∧ w.heap.size + 1 ≠ v2.heap.size ∧ v2.heap.size ≠ w.heap.size + 1 ∧ w.heap.size + 1 ≠ v2.heap.size + 1 ∧ v2.heap.size + 1 ≠ w.heap.size + 1 ∧ w.heap.size + 1 + 1 ≠ v2.heap.size ∧ v2.heap.size ≠ w.heap.size + 1 + 1 ∧ w.heap.size + 1 + 1 ≠ v2.heap.size + 1 ∧ v2.heap.size + 1 ≠ w.heap.size + 1 + 1 ∧ w.heap.size + 1 + 1 + 1 ≠ v2.heap.size ∧ v2.heap.size ≠ w.heap.size + 1 + 1 + 1 ∧ w.heap.size + 1 + 1 + 1 ≠ v2.heap.size + 1 ∧ v2.heap.size + 1 ≠ w.heap.size + 1 + 1 + 1 := (by omega); have hW_v2 : Below w.heap.size w v2 := below_after (by go_grown) hB_v2))
  go_upto_region 7 with fail
  refine wp_rename ?_
  intro W0 hW0
  have lay0 : Laid W0 := by rw [hW0]; infer_instance
  have e0 : W0.cell? ⟨w.heap.size, 0, none⟩ = some (.int .u8 m) := by rw [hW0]; go_simp
  have e1 : W0.cell? ⟨w.heap.size, 1, none⟩ = some (.bool aft) := by rw [hW0]; go_simp
  have g0 : W0.cell? ⟨w.heap.size + 1, 0, none⟩ = some (.bool neg) := by rw [hW0]; go_simp
  have r0 : W0.cell? ⟨w.heap.size + 1 + 1 + 1, 0, none⟩ = some (.int .u64 0) := by rw [hW0]; go_simp
  have r1 : W0.cell? ⟨w.heap.size + 1 + 1 + 1, 1, none⟩ = some (.int .u64 0) := by rw [hW0]; go_simp
  have r2 : W0.cell? ⟨w.heap.size + 1 + 1 + 1, 2, none⟩ = some (.int .u8 0) := by rw [hW0]; go_simp
  have q0 : W0.frozen? ⟨w.heap.size + 1 + 1 + 1, 0, none⟩ = false := by rw [hW0]; go_simp
  have q1 : W0.frozen? ⟨w.heap.size + 1 + 1 + 1, 1, none⟩ = false := by rw [hW0]; go_simp
  have q2 : W0.frozen? ⟨w.heap.size + 1 + 1 + 1, 2, none⟩ = false := by rw [hW0]; go_simp
  have p0 : W0.cell? ⟨v2.heap.size, 0, none⟩ = some (.int .i64 (precS f)) := by rw [hW0]; go_simp
  have p1 : W0.cell? ⟨v2.heap.size, 1, none⟩ = some (.int .i64 (leastS f)) := by rw [hW0]; show _ = some (Value.int .i64 (1 - emaxS f)); go_simp
  have p2 : W0.cell? ⟨v2.heap.size, 2, none⟩ = some (.int .i64 (nE e (cat4 x0 x1 x2 x3))) := by rw [hW0]; show _ = some (Value.int .i64 (farS e - byS (cat4 x0 x1 x2 x3))); go_simp
  have s0 : W0.cell? ⟨v2.heap.size, 3, none⟩ = some (.int .u64 (lo (raiseS (cat4 x0 x1 x2 x3)))) := by rw [hW0]; go_simp
  have s1 : W0.cell? ⟨v2.heap.size, 4, none⟩ = some (.int .u64 (Hb.w1 (raiseS (cat4 x0 x1 x2 x3)))) := by rw [hW0]; go_simp
  have s2 : W0.cell? ⟨v2.heap.size, 5, none⟩ = some (.int .u64 (Hb.w2 (raiseS (cat4 x0 x1 x2 x3)))) := by rw [hW0]; go_simp
  have s3 : W0.cell? ⟨v2.heap.size, 6, none⟩ = some (.int .u64 (Hb.w3 (raiseS (cat4 x0 x1 x2 x3)))) := by rw [hW0]; go_simp
  have hBW : Below w.heap.size w W0 := by rw [hW0]; go_grown
  have hs0 : v2.heap.size + 1 ≤ W0.heap.size := by rw [hW0]; simp
  have hs1 : w.heap.size + 1 + 1 + 1 < v2.heap.size := by omega
  clear hW0 k0_v1 k1_v1 k2_v1 k3_v1 l0_v1 l1_v1 l2_v1 l3_v1 k0_v2 k1_v2 k2_v2 k3_v2 l0_v2 l1_v2 l2_v2 l3_v2 z_v1 z_v2 n_v1 n_v2 hz_v1 hz_v2 hB_v1 hB_v2 hW_v1 hW_v2 lay_v1 lay_v2
  have hnn : v2.heap.size ≠ w.heap.size ∧ v2.heap.size ≠ w.heap.size + 1 ∧ v2.heap.size ≠ w.heap.size + 1 + 1 + 1 := by omega
  go_wp2_with fail
  refine (pack_cut _ _ _ _ _ _ _ (precS f) m neg _ (by omega) (by omega) m0 m1 p0 e0 g0 (by omega) (by omega) (by omega)).mono ?_
  rw [hR.out, show cutS (raiseS (cat4 x0 x1 x2 x3)) (precS f) m neg = topB f m neg (cat4 x0 x1 x2 x3) from rfl]
  rintro en v3 ⟨rfl, hB3⟩
  replace hBW := below_after hBW hB3
  have hs3 := hB3.size
  have lay3 := laid_after hB3
  (replace e0 := cell_later hB3 (cell_later (by go_grown) e0); replace e1 := cell_later hB3 (cell_later (by go_grown) e1); replace g0 := cell_later hB3 (cell_later (by go_grown) g0); replace r0 := cell_later hB3 (cell_later (by go_grown) r0); replace r1 := cell_later hB3 (cell_later (by go_grown) r1); replace r2 := cell_later hB3 (cell_later (by go_grown) r2); replace p0 := cell_later hB3 (cell_later (by go_grown) p0); replace p1 := cell_later hB3 (cell_later (by go_grown) p1); replace p2 := cell_later hB3 (cell_later (by go_grown) p2); replace s0 := cell_later hB3 (cell_later (by go_grown) s0); replace s1 := cell_later hB3 (cell_later (by go_grown) s1); replace s2 := cell_later hB3 (cell_later (by go_grown) s2); replace s3 := cell_later hB3 (cell_later (by go_grown) s3); replace q0 := frozen_later hB3 (frozen_later (by go_grown) q0 (by first | omega | (simp; omega))) (by first | omega | (simp; omega)); replace q1 := frozen_later hB3 (frozen_later (by go_grown) q1 (by first | omega | (simp; omega))) (by first | omega | (simp; omega)); replace q2 := frozen_later hB3 (frozen_later (by go_grown) q2 (by first | omega | (simp; omega))) (by first | omega | (simp; omega)); skip)
  clear hB3
  have hnn3 : v3.heap.size ≠ w.heap.size ∧ v3.heap.size ≠ w.heap.size + 1 ∧ v3.heap.size ≠ w.heap.size + 1 + 1 + 1 ∧ v3.heap.size ≠ v2.heap.size ∧ w.heap.size ≠ v3.heap.size ∧ w.heap.size + 1 ≠ v3.heap.size ∧ w.heap.size + 1 + 1 + 1 ≠ v3.heap.size ∧ v2.heap.size ≠ v3.heap.size := by omega
  have hlt3 : w.heap.size < v3.heap.size ∧ w.heap.size + 1 < v3.heap.size ∧ w.heap.size + 1 + 1 + 1 < v3.heap.size ∧ v2.heap.size < v3.heap.size := by omega
  go_wp2_with fail
  refine (pack_full (precS f) (leastS f) (hi (topB f m neg (cat4 x0 x1 x2 x3))) (lo (topB f m neg (cat4 x0 x1 x2 x3))) _ (by omega)).mono ?_
  rw [hTl.out, show (topB f m neg (cat4 x0 x1 x2 x3)).testBit (precS f).toNat = fullS f m neg (cat4 x0 x1 x2 x3) from rfl]
  rintro en v4 ⟨rfl, hB4⟩
  have t0 := cell_later hB4 (show World.cell? _ ⟨v3.heap.size, 0, none⟩ = some (.int .u64 (hi (topB f m neg (cat4 x0 x1 x2 x3)))) by go_simp)
  have t1 := cell_later hB4 (show World.cell? _ ⟨v3.heap.size, 1, none⟩ = some (.int .u64 (lo (topB f m neg (cat4 x0 x1 x2 x3)))) by go_simp)
  have u0 := frozen_later hB4 (show World.frozen? _ ⟨v3.heap.size, 0, none⟩ = false by go_simp) (by simp)
  have u1 := frozen_later hB4 (show World.frozen? _ ⟨v3.heap.size, 1, none⟩ = false by go_simp) (by simp)
  have hs4 := hB4.size
  simp only [World.size_alloc] at hs4
  replace hBW := below_after (w := w) (w1 := v4) (by go_grown) hB4
  have lay4 := laid_after hB4
  (replace e0 := cell_later hB4 (cell_later (by go_grown) e0); replace e1 := cell_later hB4 (cell_later (by go_grown) e1); replace g0 := cell_later hB4 (cell_later (by go_grown) g0); replace r0 := cell_later hB4 (cell_later (by go_grown) r0); replace r1 := cell_later hB4 (cell_later (by go_grown) r1); replace r2 := cell_later hB4 (cell_later (by go_grown) r2); replace p0 := cell_later hB4 (cell_later (by go_grown) p0); replace p1 := cell_later hB4 (cell_later (by go_grown) p1); replace p2 := cell_later hB4 (cell_later (by go_grown) p2); replace s0 := cell_later hB4 (cell_later (by go_grown) s0); replace s1 := cell_later hB4 (cell_later (by go_grown) s1); replace s2 := cell_later hB4 (cell_later (by go_grown) s2); replace s3 := cell_later hB4 (cell_later (by go_grown) s3); replace q0 := frozen_later hB4 (frozen_later (by go_grown) q0 (by first | omega | (simp; omega))) (by first | omega | (simp; omega)); replace q1 := frozen_later hB4 (frozen_later (by go_grown) q1 (by first | omega | (simp; omega))) (by first | omega | (simp; omega)); replace q2 := frozen_later hB4 (frozen_later (by go_grown) q2 (by first | omega | (simp; omega))) (by first | omega | (simp; omega)); skip)
  clear hB4 lay3
  have hw0 : IntKind.i64.wrap (nE e (cat4 x0 x1 x2 x3) + 1) = nE e (cat4 x0 x1 x2 x3) + 1 := wrap_in _ (by omega) (by omega)
  go_upto_if 54 with fail
  go_cut [15] (fun s wx => s = .int .i64 (eS f m neg e (cat4 x0 x1 x2 x3)) ∧ wx = v4)
  case first =>
    cases hfull : fullS f m neg (cat4 x0 x1 x2 x3)
    · have heS : eS f m neg e (cat4 x0 x1 x2 x3) = nE e (cat4 x0 x1 x2 x3) := by unfold eS; rw [if_neg (by rw [hfull]; decide)]
      go_wp2_with fail
      go_meet
      exact ⟨by rw [heS], rfl⟩
    · have heS : eS f m neg e (cat4 x0 x1 x2 x3) = nE e (cat4 x0 x1 x2 x3) + 1 := by unfold eS; rw [if_pos hfull]
      go_wp2_with fail
      go_meet
      exact ⟨by rw [heS], rfl⟩
  case rest =>
    obtain ⟨rfl, rfl⟩ := hcut
    clear hlt3 hw0
    go_wp2_with fail
    refine (over_Beyond _ _ _ hf).mono ?_
    rintro en v5 ⟨rfl, hB5⟩
    replace hBW := below_after (w := w) (w1 := v5) (by go_grown) hB5
    have lay5 := laid_after hB5
    have hs5 := hB5.size
    (replace e0 := cell_later hB5 (cell_later (by go_grown) e0); replace e1 := cell_later hB5 (cell_later (by go_grown) e1); replace g0 := cell_later hB5 (cell_later (by go_grown) g0); replace r0 := cell_later hB5 (cell_later (by go_grown) r0); replace r1 := cell_later hB5 (cell_later (by go_grown) r1); replace r2 := cell_later hB5 (cell_later (by go_grown) r2); replace p0 := cell_later hB5 (cell_later (by go_grown) p0); replace p1 := cell_later hB5 (cell_later (by go_grown) p1); replace p2 := cell_later hB5 (cell_later (by go_grown) p2); replace s0 := cell_later hB5 (cell_later (by go_grown) s0); replace s1 := cell_later hB5 (cell_later (by go_grown) s1); replace s2 := cell_later hB5 (cell_later (by go_grown) s2); replace s3 := cell_later hB5 (cell_later (by go_grown) s3); replace t0 := cell_later hB5 (cell_later (by go_grown) t0); replace t1 := cell_later hB5 (cell_later (by go_grown) t1); replace q0 := frozen_later hB5 (frozen_later (by go_grown) q0 (by first | omega | (simp; omega))) (by first | omega | (simp; omega)); replace q1 := frozen_later hB5 (frozen_later (by go_grown) q1 (by first | omega | (simp; omega))) (by first | omega | (simp; omega)); replace q2 := frozen_later hB5 (frozen_later (by go_grown) q2 (by first | omega | (simp; omega))) (by first | omega | (simp; omega)); replace u0 := frozen_later hB5 (frozen_later (by go_grown) u0 (by first | omega | (simp; omega))) (by first | omega | (simp; omega)); replace u1 := frozen_later hB5 (frozen_later (by go_grown) u1 (by first | omega | (simp; omega))) (by first | omega | (simp; omega)); skip)
    clear hB5 lay4
    have hbd : decide (emaxS f < eS f m neg e (cat4 x0 x1 x2 x3)) = true := by simpa using hbey
    have hb : roundB f m neg e (cat4 x0 x1 x2 x3) = overB f m neg := by unfold roundB; rw [if_pos hbey]
    have hfl : roundFl f m aft neg e (cat4 x0 x1 x2 x3) = 20 := by unfold roundFl; rw [if_pos hbey]
    have hb' := Lib.hid hb
    have hfl' := Lib.hid hfl
    clear hb hfl
    go_wp2_with fail
    refine (over_Over f m neg _ hf m0 m1).mono ?_
    rintro en v6 ⟨rfl, hB6⟩
    replace hBW := below_after (w := w) (w1 := v6) (by go_grown) hB6
    (replace r0 := cell_later hB6 (cell_later (by go_grown) r0); replace r1 := cell_later hB6 (cell_later (by go_grown) r1); replace r2 := cell_later hB6 (cell_later (by go_grown) r2); replace q0 := frozen_later hB6 (frozen_later (by go_grown) q0 (by first | omega | (simp; omega))) (by first | omega | (simp; omega)); replace q1 := frozen_later hB6 (frozen_later (by go_grown) q1 (by first | omega | (simp; omega))) (by first | omega | (simp; omega)); replace q2 := frozen_later hB6 (frozen_later (by go_grown) q2 (by first | omega | (simp; omega))) (by first | omega | (simp; omega)); skip)
    go_wp2_with fail
    refine bodyPost_ret (by simp [results, Tryd.results42, go_sem, r0, r1, r2]; try rfl) rfl ?_
    exact ⟨ret_round ⟨by rw [hb'.out], by rw [hb'.out]⟩ hfl'.out.symm, by go_grown⟩
end Go.Proofs.YtmebfamfbdhlmaaDoor
