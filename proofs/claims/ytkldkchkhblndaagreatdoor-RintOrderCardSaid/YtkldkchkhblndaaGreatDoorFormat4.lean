/- The contract of format.Make where the exponent lies out of range. The contract of format.Make where the exponent lies out of range. The contracts of package format: Make, Inf, Max, Nought: for every input. -/
import Derived.Test.YtkldkchkhblndaaGreatDoorFormat3
set_option linter.unusedSimpArgs false
set_option linter.unusedVariables false
namespace Go.Proofs.YtkldkchkhblndaaGreatDoor
open Go.RowKit Go.Hb
theorem makeF_neg (f e : Int) (neg : Bool) (x : Nat) (h : e < 0) : makeF f neg e x = makeF f neg 0 x := by
  have h1 : (if e < 0 ∨ 1048576 < e then 0 else e.toNat) = 0 := if_pos (Or.inl h)
  have h2 : (if (0 : Int) < 0 ∨ 1048576 < (0 : Int) then 0 else (0 : Int).toNat) = 0 := by decide
  unfold makeF
  rw [h1, h2]
set_option maxRecDepth 100000 in
set_option maxHeartbeats 8000000 in
theorem make_neg (f e h l : Int) (neg : Bool) [U8 f] [U64 h] [U64 l] (w : World) [Laid w] (hf : f < 4) (e0 : e < 0) :
    Calls Tryz.prog 35 #[.int .u8 f, .bool neg, .int .i64 e, .agg #[.int .u64 (h), .int .u64 (l)]] w fun en w' => en = .returned (.agg #[.int .u64 (hi (makeF f neg e (cat h l))), .int .u64 (lo (makeF f neg e (cat h l)))]) ∧ Below w.heap.size w w' := by
  rw [makeF_neg f e neg (cat h l) e0]
  obtain ⟨b1, b2, b3, b4, b5, b6⟩ := fmt_bd f U8.ge hf
  have hp1 : IntKind.i64.wrap (precS f - 1) = precS f - 1 := IntWalk.i64_in _ (by omega)
  have hp2 : IntKind.i64.wrap (widthS f - 1) = widthS f - 1 := IntWalk.i64_in _ (by omega)
  have hp3 : IntKind.i64.wrap (widthS f - precS f) = widthS f - precS f := IntWalk.i64_in _ (by omega)
  have hwe : IntKind.u64.wrap 0 = 0 := rfl
  have hx := Lib.hid (cat_hl (lowN (cat 0 0) (widthS f - precS f)) (Nat.lt_of_le_of_lt (lowN_le _ _) (cat_lt 0 0)))
  have hz := Lib.hid (mk_z f 0 U8.ge hf)
  have hfr := Lib.hid (cat_hl (lowN (cat h l) (precS f - 1)) (Nat.lt_of_le_of_lt (lowN_le _ _) (cat_lt h l)))
  have hsum := Lib.hid (mk_sum f 0 (cat h l) U8.ge hf)
  have hone := Lib.hid (mk_one f U8.ge hf)
  go_enter Tryz.func35, Tryz.ntmps35
  (go_wp2_with fail; refine (format_of _ _).mono ?_; rintro en w1 ⟨rfl, hB_w1⟩; have lay_w1 := laid_after hB_w1; (obtain ⟨hc_w1, hf_w1⟩ := bcell hB_w1; have hz_w1 := hB_w1.size; (try simp only [World.size_alloc, World.size_setCell, World.size_drew] at hz_w1 hc_w1 hf_w1); have k0_w1 := fun o => hc_w1 (w.heap.size) o (by omega); have l0_w1 := fun o => hf_w1 (w.heap.size) o (by omega); have k1_w1 := fun o => hc_w1 (w.heap.size + 1) o (by omega); have l1_w1 := fun o => hf_w1 (w.heap.size + 1) o (by omega); have z_w1 : w.heap.size < w1.heap.size ∧ w.heap.size ≤ w1.heap.size ∧ w.heap.size ≤ w1.heap.size + 1 ∧ w.heap.size ≤ w1.heap.size + 1 + 1 ∧ w.heap.size + 1 < w1.heap.size ∧ w.heap.size + 1 ≤ w1.heap.size ∧ w.heap.size + 1 ≤ w1.heap.size + 1 ∧ w.heap.size + 1 ≤ w1.heap.size + 1 + 1 := (by omega); clear hc_w1 hf_w1; have n_w1 : w.heap.size ≠ w1.heap.size ∧ w1.heap.size ≠ w.heap.size ∧ w.heap.size ≠ w1.heap.size + 1 ∧ w1.heap.size + 1 ≠ w.heap.size ∧ w.heap.size + 1 ≠ w1.heap.size ∧ w1.heap.size ≠ w.heap.size + 1 ∧ w.heap.size + 1 ≠ w1.heap.size + 1 ∧ w1.heap.size + 1 ≠ w.heap.size + 1 := (by omega); have hW_w1 : Below w.heap.size w w1 := below_after (by go_grown) hB_w1))
  go_upto_region 6 with fail
  refine wp_rename ?_
  intro W0 hW0
  have c0 : W0.cell? ⟨w.heap.size, 0, none⟩ = some (.int .u64 h) := by rw [hW0]; go_simp
  have c1 : W0.cell? ⟨w.heap.size, 1, none⟩ = some (.int .u64 l) := by rw [hW0]; go_simp
  have c2 : W0.cell? ⟨w1.heap.size, 0, none⟩ = some (.int .i64 (widthS f)) := by rw [hW0]; go_simp
  have c3 : W0.cell? ⟨w1.heap.size, 1, none⟩ = some (.int .i64 (precS f)) := by rw [hW0]; go_simp
  have r0 : W0.cell? ⟨w.heap.size + 1, 0, none⟩ = some (.int .u64 0) := by rw [hW0]; go_simp
  have r1 : W0.cell? ⟨w.heap.size + 1, 1, none⟩ = some (.int .u64 0) := by rw [hW0]; go_simp
  have q0 : W0.frozen? ⟨w.heap.size + 1, 0, none⟩ = false := by rw [hW0]; go_simp
  have q1 : W0.frozen? ⟨w.heap.size + 1, 1, none⟩ = false := by rw [hW0]; go_simp
  have hBW : Below w.heap.size w W0 := by rw [hW0]; go_grown
  have hs0 : w1.heap.size + 1 ≤ W0.heap.size := by rw [hW0]; simp
  clear hW0 k0_w1 k1_w1 l0_w1 l1_w1 hW_w1 lay_w1 hB_w1 z_w1 n_w1
  go_cut [10] (fun s wx => ∃ g : Nat, s = .pointer (some ⟨g, 0, none⟩) ∧ wx.cell? ⟨g, 0, none⟩ = some (.int .u64 (hi (lsh (lowN (cat 0 0) (widthS f - precS f)) (precS f - 1)))) ∧ wx.cell? ⟨g, 1, none⟩ = some (.int .u64 (lo (lsh (lowN (cat 0 0) (widthS f - precS f)) (precS f - 1))))
    ∧ Below W0.heap.size W0 wx ∧ W0.heap.size ≤ g ∧ g < wx.heap.size ∧ wx.frozen? ⟨g, 0, none⟩ = false ∧ wx.frozen? ⟨g, 1, none⟩ = false)
  case first =>
   as_aux_lemma =>
    go_region_held3 (fun w' => w'.cell? ⟨w1.heap.size, 0, none⟩ = some (.int .i64 (widthS f)) ∧ w'.cell? ⟨w1.heap.size, 1, none⟩ = some (.int .i64 (precS f)))
      ((refine ⟨?_, ?_⟩ <;> (refine cell_later (w := W0) ?_ (by assumption); go_grown)))
      (first | (go_at_call 50; refine (format_low _ _ _ (by omega) (by omega) _).mono ?_; rintro en w2 ⟨rfl, hB2⟩; have hb2 : Below W0.heap.size W0 w2 := below_after (by go_grown) hB2; obtain ⟨hc2, hf2⟩ := bcell hB2; have hz2 := hB2.size; (try simp only [World.size_alloc, World.size_drew] at hz2 hc2 hf2); have z2 : W0.heap.size < w2.heap.size := (by omega)) | (go_at_call 50; refine (format_low _ _ _ (by omega) (by omega) _).mono ?_; rintro en w2 ⟨rfl, hB2⟩; have hb2 : Below W0.heap.size W0 w2 := below_after (by go_grown) hB2; obtain ⟨hc2, hf2⟩ := bcell hB2; have hz2 := hB2.size; (try simp only [World.size_alloc, World.size_drew] at hz2 hc2 hf2)) | (go_at_call 65; refine (shift_Left' _ _ _ _).mono ?_; rw [hx.out]; rintro en w3 ⟨rfl, hB3⟩; have hb3 : Below W0.heap.size W0 w3 := below_after (by go_grown) hB3; obtain ⟨hc3, hf3⟩ := bcell hB3; have hz3 := hB3.size; (try simp only [World.size_alloc, World.size_drew] at hz3 hc3 hf3)))
    all_goals (go_wp2_with fail; go_meet)
    · exact ⟨_, rfl, by go_cell, by go_cell, by go_grown, by omega, by simp, by go_simp, by go_simp⟩
    · exact ⟨_, rfl, cell_two0 _ _ _ _ (by go_simp), cell_two1 _ _ _ _ (by go_simp), by go_grown, by omega, by simp; omega, by go_simp, by go_simp⟩
    · exact ⟨_, rfl, cell_two0 _ _ _ _ (by go_simp), cell_two1 _ _ _ _ (by go_simp), by go_grown, by omega, by simp; omega, by go_simp, by go_simp⟩
  case rest =>
    obtain ⟨g, rfl, g0, g1, hBx, hgW, hgl, gq0, gq1⟩ := hcut
    have d0 := cell_later hBx c0
    have d1 := cell_later hBx c1
    have d2 := cell_later hBx c2
    have d3 := cell_later hBx c3
    have hsz1 := hBx.size
    go_upto_region 7 with fail
    go_cut [] (fun wx => wx.cell? ⟨g, 0, none⟩ = some (.int .u64 (hi (lsh (lowN (cat 0 0) (widthS f - precS f)) (precS f - 1) + lowN (cat h l) (precS f - 1)))) ∧ wx.cell? ⟨g, 1, none⟩ = some (.int .u64 (lo (lsh (lowN (cat 0 0) (widthS f - precS f)) (precS f - 1) + lowN (cat h l) (precS f - 1)))) ∧ Below W0.heap.size W0 wx ∧ g < wx.heap.size ∧ wx.frozen? ⟨g, 0, none⟩ = false ∧ wx.frozen? ⟨g, 1, none⟩ = false)
    case first =>
     as_aux_lemma =>
      go_region_with (first | (go_at_call 50; refine (format_low _ _ _ (by omega) (by omega) _).mono ?_; rintro en w4 ⟨rfl, hB4⟩; have hb4 : Below W0.heap.size W0 w4 := below_after (by go_grown) hB4; have hz4 := hB4.size; (try simp only [World.size_alloc, World.size_drew] at hz4); (have d0 := cell_later hB4 (cell_later (by go_grown) d0); have d1 := cell_later hB4 (cell_later (by go_grown) d1); have d2 := cell_later hB4 (cell_later (by go_grown) d2); have d3 := cell_later hB4 (cell_later (by go_grown) d3); have g0 := cell_later hB4 (cell_later (by go_grown) g0); have g1 := cell_later hB4 (cell_later (by go_grown) g1); have gq0 := frozen_later hB4 (frozen_later (by go_grown) gq0 (by first | omega | (simp; omega))) (by first | omega | (simp; omega)); have gq1 := frozen_later hB4 (frozen_later (by go_grown) gq1 (by first | omega | (simp; omega))) (by first | omega | (simp; omega)); skip)) | (go_at_call 66; refine (word_Add _ _ _ _ _).mono ?_; rw [hz.out, hfr.out]; rintro en w5 ⟨rfl, hB5⟩; have hb5 : Below W0.heap.size W0 w5 := below_after (by go_grown) hB5; have hz5 := hB5.size; (try simp only [World.size_alloc, World.size_drew] at hz5); (have d0 := cell_later hB5 (cell_later (by go_grown) d0); have d1 := cell_later hB5 (cell_later (by go_grown) d1); have d2 := cell_later hB5 (cell_later (by go_grown) d2); have d3 := cell_later hB5 (cell_later (by go_grown) d3); have g0 := cell_later hB5 (cell_later (by go_grown) g0); have g1 := cell_later hB5 (cell_later (by go_grown) g1); have gq0 := frozen_later hB5 (frozen_later (by go_grown) gq0 (by first | omega | (simp; omega))) (by first | omega | (simp; omega)); have gq1 := frozen_later hB5 (frozen_later (by go_grown) gq1 (by first | omega | (simp; omega))) (by first | omega | (simp; omega)); skip)))
      all_goals (go_wp2_with fail; go_meet)
      all_goals exact ⟨cell_two0 _ _ _ _ (by rw [g0]; rfl), cell_two1 _ _ _ _ (by rw [g1]; rfl), by go_grown, by simp; omega, by simpa using gq0, by simpa using gq1⟩
    case rest =>
    obtain ⟨g0, g1, hBy, hgl, gq0, gq1⟩ := hcut
    have r0W := r0; have r1W := r1; have q0W := q0; have q1W := q1; have hBW0 := hBW
    have d0 := cell_later hBy c0
    have r0 := cell_later hBy r0
    have r1 := cell_later hBy r1
    have q0 := frozen_later hBy q0 (by omega)
    have q1 := frozen_later hBy q1 (by omega)
    have hszy := hBy.size
    have hBW := below_after hBW hBy
    cases neg
    · go_wp2
      refine bodyPost_ret (by simp [results, Tryz.results35, go_sem, r0, r1]; try rfl) rfl ?_
      refine ⟨ret_bits ⟨?_, ?_⟩, by go_grown⟩
      · rw [makeF_f f 0 _ hf (by omega) (by omega)]
      · rw [makeF_f f 0 _ hf (by omega) (by omega)]
    · have d2 := cell_later hBy c2
      go_upto_region 9 with fail
      go_cut [] (fun wx => wx.cell? ⟨g, 0, none⟩ = some (.int .u64 (hi (lsh (lowN (cat 0 0) (widthS f - precS f)) (precS f - 1) + lowN (cat h l) (precS f - 1) + lsh (cat 0 1) (widthS f - 1)))) ∧ wx.cell? ⟨g, 1, none⟩ = some (.int .u64 (lo (lsh (lowN (cat 0 0) (widthS f - precS f)) (precS f - 1) + lowN (cat h l) (precS f - 1) + lsh (cat 0 1) (widthS f - 1)))) ∧ Below W0.heap.size W0 wx ∧ g < wx.heap.size)
      case first =>
       as_aux_lemma =>
        go_region_with (first | (go_at_call 65; refine (shift_Left' _ _ _ _).mono ?_; rintro en w6 ⟨rfl, hB6⟩; have hb6 : Below W0.heap.size W0 w6 := below_after (by go_grown) hB6; have hz6 := hB6.size; (try simp only [World.size_alloc, World.size_drew] at hz6); (have d2 := cell_later hB6 (cell_later (by go_grown) d2); have g0 := cell_later hB6 (cell_later (by go_grown) g0); have g1 := cell_later hB6 (cell_later (by go_grown) g1); have gq0 := frozen_later hB6 (frozen_later (by go_grown) gq0 (by first | omega | (simp; omega))) (by first | omega | (simp; omega)); have gq1 := frozen_later hB6 (frozen_later (by go_grown) gq1 (by first | omega | (simp; omega))) (by first | omega | (simp; omega)); skip)) | (go_at_call 66; refine (word_Add _ _ _ _ _).mono ?_; rw [hsum.out, hone.out]; rintro en w7 ⟨rfl, hB7⟩; have hb7 : Below W0.heap.size W0 w7 := below_after (by go_grown) hB7; have hz7 := hB7.size; (try simp only [World.size_alloc, World.size_drew] at hz7); (have d2 := cell_later hB7 (cell_later (by go_grown) d2); have g0 := cell_later hB7 (cell_later (by go_grown) g0); have g1 := cell_later hB7 (cell_later (by go_grown) g1); have gq0 := frozen_later hB7 (frozen_later (by go_grown) gq0 (by first | omega | (simp; omega))) (by first | omega | (simp; omega)); have gq1 := frozen_later hB7 (frozen_later (by go_grown) gq1 (by first | omega | (simp; omega))) (by first | omega | (simp; omega)); skip)))
        all_goals (go_wp2_with fail; go_meet)
        all_goals exact ⟨cell_two0 _ _ _ _ (by rw [g0]; rfl), cell_two1 _ _ _ _ (by rw [g1]; rfl), by go_grown, by simp; omega⟩
      case rest =>
        obtain ⟨g0, g1, hBz, hgl⟩ := hcut
        have r0 := cell_later hBz r0W
        have r1 := cell_later hBz r1W
        have q0 := frozen_later hBz q0W (by omega)
        have q1 := frozen_later hBz q1W (by omega)
        have hszz := hBz.size
        have hBW := below_after hBW0 hBz
        go_wp2
        refine bodyPost_ret (by simp [results, Tryz.results35, go_sem, r0, r1]; try rfl) rfl ?_
        refine ⟨ret_bits ⟨?_, ?_⟩, by go_grown⟩
        · rw [makeF_t f 0 _ hf (by omega) (by omega)]
        · rw [makeF_t f 0 _ hf (by omega) (by omega)]
end Go.Proofs.YtkldkchkhblndaaGreatDoor

namespace Go.Proofs.YtkldkchkhblndaaGreatDoor
open Go.RowKit Go.Hb
theorem makeF_big (f e : Int) (neg : Bool) (x : Nat) (h : 1048576 < e) : makeF f neg e x = makeF f neg 0 x := by
  have h1 : (if e < 0 ∨ 1048576 < e then 0 else e.toNat) = 0 := if_pos (Or.inr h)
  have h2 : (if (0 : Int) < 0 ∨ 1048576 < (0 : Int) then 0 else (0 : Int).toNat) = 0 := by decide
  unfold makeF
  rw [h1, h2]
set_option maxRecDepth 100000 in
set_option maxHeartbeats 8000000 in
theorem make_big (f e h l : Int) (neg : Bool) [U8 f] [U64 h] [U64 l] (w : World) [Laid w] (hf : f < 4) (e0 : 1048576 < e) :
    Calls Tryz.prog 35 #[.int .u8 f, .bool neg, .int .i64 e, .agg #[.int .u64 (h), .int .u64 (l)]] w fun en w' => en = .returned (.agg #[.int .u64 (hi (makeF f neg e (cat h l))), .int .u64 (lo (makeF f neg e (cat h l)))]) ∧ Below w.heap.size w w' := by
  rw [makeF_big f e neg (cat h l) e0]
  obtain ⟨b1, b2, b3, b4, b5, b6⟩ := fmt_bd f U8.ge hf
  have hp1 : IntKind.i64.wrap (precS f - 1) = precS f - 1 := IntWalk.i64_in _ (by omega)
  have hp2 : IntKind.i64.wrap (widthS f - 1) = widthS f - 1 := IntWalk.i64_in _ (by omega)
  have hp3 : IntKind.i64.wrap (widthS f - precS f) = widthS f - precS f := IntWalk.i64_in _ (by omega)
  have hwe : IntKind.u64.wrap 0 = 0 := rfl
  have hx := Lib.hid (cat_hl (lowN (cat 0 0) (widthS f - precS f)) (Nat.lt_of_le_of_lt (lowN_le _ _) (cat_lt 0 0)))
  have hz := Lib.hid (mk_z f 0 U8.ge hf)
  have hfr := Lib.hid (cat_hl (lowN (cat h l) (precS f - 1)) (Nat.lt_of_le_of_lt (lowN_le _ _) (cat_lt h l)))
  have hsum := Lib.hid (mk_sum f 0 (cat h l) U8.ge hf)
  have hone := Lib.hid (mk_one f U8.ge hf)
  go_enter Tryz.func35, Tryz.ntmps35
  (go_wp2_with fail; refine (format_of _ _).mono ?_; rintro en w1 ⟨rfl, hB_w1⟩; have lay_w1 := laid_after hB_w1; (obtain ⟨hc_w1, hf_w1⟩ := bcell hB_w1; have hz_w1 := hB_w1.size; (try simp only [World.size_alloc, World.size_setCell, World.size_drew] at hz_w1 hc_w1 hf_w1); have k0_w1 := fun o => hc_w1 (w.heap.size) o (by omega); have l0_w1 := fun o => hf_w1 (w.heap.size) o (by omega); have k1_w1 := fun o => hc_w1 (w.heap.size + 1) o (by omega); have l1_w1 := fun o => hf_w1 (w.heap.size + 1) o (by omega); have z_w1 : w.heap.size < w1.heap.size ∧ w.heap.size ≤ w1.heap.size ∧ w.heap.size ≤ w1.heap.size + 1 ∧ w.heap.size ≤ w1.heap.size + 1 + 1 ∧ w.heap.size + 1 < w1.heap.size ∧ w.heap.size + 1 ≤ w1.heap.size ∧ w.heap.size + 1 ≤ w1.heap.size + 1 ∧ w.heap.size + 1 ≤ w1.heap.size + 1 + 1 := (by omega); clear hc_w1 hf_w1; have n_w1 : w.heap.size ≠ w1.heap.size ∧ w1.heap.size ≠ w.heap.size ∧ w.heap.size ≠ w1.heap.size + 1 ∧ w1.heap.size + 1 ≠ w.heap.size ∧ w.heap.size + 1 ≠ w1.heap.size ∧ w1.heap.size ≠ w.heap.size + 1 ∧ w.heap.size + 1 ≠ w1.heap.size + 1 ∧ w1.heap.size + 1 ≠ w.heap.size + 1 := (by omega); have hW_w1 : Below w.heap.size w w1 := below_after (by go_grown) hB_w1))
  go_upto_region 6 with fail
  refine wp_rename ?_
  intro W0 hW0
  have c0 : W0.cell? ⟨w.heap.size, 0, none⟩ = some (.int .u64 h) := by rw [hW0]; go_simp
  have c1 : W0.cell? ⟨w.heap.size, 1, none⟩ = some (.int .u64 l) := by rw [hW0]; go_simp
  have c2 : W0.cell? ⟨w1.heap.size, 0, none⟩ = some (.int .i64 (widthS f)) := by rw [hW0]; go_simp
  have c3 : W0.cell? ⟨w1.heap.size, 1, none⟩ = some (.int .i64 (precS f)) := by rw [hW0]; go_simp
  have r0 : W0.cell? ⟨w.heap.size + 1, 0, none⟩ = some (.int .u64 0) := by rw [hW0]; go_simp
  have r1 : W0.cell? ⟨w.heap.size + 1, 1, none⟩ = some (.int .u64 0) := by rw [hW0]; go_simp
  have q0 : W0.frozen? ⟨w.heap.size + 1, 0, none⟩ = false := by rw [hW0]; go_simp
  have q1 : W0.frozen? ⟨w.heap.size + 1, 1, none⟩ = false := by rw [hW0]; go_simp
  have hBW : Below w.heap.size w W0 := by rw [hW0]; go_grown
  have hs0 : w1.heap.size + 1 ≤ W0.heap.size := by rw [hW0]; simp
  clear hW0 k0_w1 k1_w1 l0_w1 l1_w1 hW_w1 lay_w1 hB_w1 z_w1 n_w1
  go_cut [10] (fun s wx => ∃ g : Nat, s = .pointer (some ⟨g, 0, none⟩) ∧ wx.cell? ⟨g, 0, none⟩ = some (.int .u64 (hi (lsh (lowN (cat 0 0) (widthS f - precS f)) (precS f - 1)))) ∧ wx.cell? ⟨g, 1, none⟩ = some (.int .u64 (lo (lsh (lowN (cat 0 0) (widthS f - precS f)) (precS f - 1))))
    ∧ Below W0.heap.size W0 wx ∧ W0.heap.size ≤ g ∧ g < wx.heap.size ∧ wx.frozen? ⟨g, 0, none⟩ = false ∧ wx.frozen? ⟨g, 1, none⟩ = false)
  case first =>
   as_aux_lemma =>
    go_region_held3 (fun w' => w'.cell? ⟨w1.heap.size, 0, none⟩ = some (.int .i64 (widthS f)) ∧ w'.cell? ⟨w1.heap.size, 1, none⟩ = some (.int .i64 (precS f)))
      ((refine ⟨?_, ?_⟩ <;> (refine cell_later (w := W0) ?_ (by assumption); go_grown)))
      (first | (go_at_call 50; refine (format_low _ _ _ (by omega) (by omega) _).mono ?_; rintro en w2 ⟨rfl, hB2⟩; have hb2 : Below W0.heap.size W0 w2 := below_after (by go_grown) hB2; obtain ⟨hc2, hf2⟩ := bcell hB2; have hz2 := hB2.size; (try simp only [World.size_alloc, World.size_drew] at hz2 hc2 hf2); have z2 : W0.heap.size < w2.heap.size := (by omega)) | (go_at_call 50; refine (format_low _ _ _ (by omega) (by omega) _).mono ?_; rintro en w2 ⟨rfl, hB2⟩; have hb2 : Below W0.heap.size W0 w2 := below_after (by go_grown) hB2; obtain ⟨hc2, hf2⟩ := bcell hB2; have hz2 := hB2.size; (try simp only [World.size_alloc, World.size_drew] at hz2 hc2 hf2)) | (go_at_call 65; refine (shift_Left' _ _ _ _).mono ?_; rw [hx.out]; rintro en w3 ⟨rfl, hB3⟩; have hb3 : Below W0.heap.size W0 w3 := below_after (by go_grown) hB3; obtain ⟨hc3, hf3⟩ := bcell hB3; have hz3 := hB3.size; (try simp only [World.size_alloc, World.size_drew] at hz3 hc3 hf3)))
    all_goals (go_wp2_with fail; go_meet)
    · exact ⟨_, rfl, by go_cell, by go_cell, by go_grown, by omega, by simp, by go_simp, by go_simp⟩
    · exact ⟨_, rfl, cell_two0 _ _ _ _ (by go_simp), cell_two1 _ _ _ _ (by go_simp), by go_grown, by omega, by simp; omega, by go_simp, by go_simp⟩
    · exact ⟨_, rfl, cell_two0 _ _ _ _ (by go_simp), cell_two1 _ _ _ _ (by go_simp), by go_grown, by omega, by simp; omega, by go_simp, by go_simp⟩
  case rest =>
    obtain ⟨g, rfl, g0, g1, hBx, hgW, hgl, gq0, gq1⟩ := hcut
    have d0 := cell_later hBx c0
    have d1 := cell_later hBx c1
    have d2 := cell_later hBx c2
    have d3 := cell_later hBx c3
    have hsz1 := hBx.size
    go_upto_region 7 with fail
    go_cut [] (fun wx => wx.cell? ⟨g, 0, none⟩ = some (.int .u64 (hi (lsh (lowN (cat 0 0) (widthS f - precS f)) (precS f - 1) + lowN (cat h l) (precS f - 1)))) ∧ wx.cell? ⟨g, 1, none⟩ = some (.int .u64 (lo (lsh (lowN (cat 0 0) (widthS f - precS f)) (precS f - 1) + lowN (cat h l) (precS f - 1)))) ∧ Below W0.heap.size W0 wx ∧ g < wx.heap.size ∧ wx.frozen? ⟨g, 0, none⟩ = false ∧ wx.frozen? ⟨g, 1, none⟩ = false)
    case first =>
     as_aux_lemma =>
      go_region_with (first | (go_at_call 50; refine (format_low _ _ _ (by omega) (by omega) _).mono ?_; rintro en w4 ⟨rfl, hB4⟩; have hb4 : Below W0.heap.size W0 w4 := below_after (by go_grown) hB4; have hz4 := hB4.size; (try simp only [World.size_alloc, World.size_drew] at hz4); (have d0 := cell_later hB4 (cell_later (by go_grown) d0); have d1 := cell_later hB4 (cell_later (by go_grown) d1); have d2 := cell_later hB4 (cell_later (by go_grown) d2); have d3 := cell_later hB4 (cell_later (by go_grown) d3); have g0 := cell_later hB4 (cell_later (by go_grown) g0); have g1 := cell_later hB4 (cell_later (by go_grown) g1); have gq0 := frozen_later hB4 (frozen_later (by go_grown) gq0 (by first | omega | (simp; omega))) (by first | omega | (simp; omega)); have gq1 := frozen_later hB4 (frozen_later (by go_grown) gq1 (by first | omega | (simp; omega))) (by first | omega | (simp; omega)); skip)) | (go_at_call 66; refine (word_Add _ _ _ _ _).mono ?_; rw [hz.out, hfr.out]; rintro en w5 ⟨rfl, hB5⟩; have hb5 : Below W0.heap.size W0 w5 := below_after (by go_grown) hB5; have hz5 := hB5.size; (try simp only [World.size_alloc, World.size_drew] at hz5); (have d0 := cell_later hB5 (cell_later (by go_grown) d0); have d1 := cell_later hB5 (cell_later (by go_grown) d1); have d2 := cell_later hB5 (cell_later (by go_grown) d2); have d3 := cell_later hB5 (cell_later (by go_grown) d3); have g0 := cell_later hB5 (cell_later (by go_grown) g0); have g1 := cell_later hB5 (cell_later (by go_grown) g1); have gq0 := frozen_later hB5 (frozen_later (by go_grown) gq0 (by first | omega | (simp; omega))) (by first | omega | (simp; omega)); have gq1 := frozen_later hB5 (frozen_later (by go_grown) gq1 (by first | omega | (simp; omega))) (by first | omega | (simp; omega)); skip)))
      all_goals (go_wp2_with fail; go_meet)
      all_goals exact ⟨cell_two0 _ _ _ _ (by rw [g0]; rfl), cell_two1 _ _ _ _ (by rw [g1]; rfl), by go_grown, by simp; omega, by simpa using gq0, by simpa using gq1⟩
    case rest =>
    obtain ⟨g0, g1, hBy, hgl, gq0, gq1⟩ := hcut
    have r0W := r0; have r1W := r1; have q0W := q0; have q1W := q1; have hBW0 := hBW
    have d0 := cell_later hBy c0
    have r0 := cell_later hBy r0
    have r1 := cell_later hBy r1
    have q0 := frozen_later hBy q0 (by omega)
    have q1 := frozen_later hBy q1 (by omega)
    have hszy := hBy.size
    have hBW := below_after hBW hBy
    cases neg
    · go_wp2
      refine bodyPost_ret (by simp [results, Tryz.results35, go_sem, r0, r1]; try rfl) rfl ?_
      refine ⟨ret_bits ⟨?_, ?_⟩, by go_grown⟩
      · rw [makeF_f f 0 _ hf (by omega) (by omega)]
      · rw [makeF_f f 0 _ hf (by omega) (by omega)]
    · have d2 := cell_later hBy c2
      go_upto_region 9 with fail
      go_cut [] (fun wx => wx.cell? ⟨g, 0, none⟩ = some (.int .u64 (hi (lsh (lowN (cat 0 0) (widthS f - precS f)) (precS f - 1) + lowN (cat h l) (precS f - 1) + lsh (cat 0 1) (widthS f - 1)))) ∧ wx.cell? ⟨g, 1, none⟩ = some (.int .u64 (lo (lsh (lowN (cat 0 0) (widthS f - precS f)) (precS f - 1) + lowN (cat h l) (precS f - 1) + lsh (cat 0 1) (widthS f - 1)))) ∧ Below W0.heap.size W0 wx ∧ g < wx.heap.size)
      case first =>
       as_aux_lemma =>
        go_region_with (first | (go_at_call 65; refine (shift_Left' _ _ _ _).mono ?_; rintro en w6 ⟨rfl, hB6⟩; have hb6 : Below W0.heap.size W0 w6 := below_after (by go_grown) hB6; have hz6 := hB6.size; (try simp only [World.size_alloc, World.size_drew] at hz6); (have d2 := cell_later hB6 (cell_later (by go_grown) d2); have g0 := cell_later hB6 (cell_later (by go_grown) g0); have g1 := cell_later hB6 (cell_later (by go_grown) g1); have gq0 := frozen_later hB6 (frozen_later (by go_grown) gq0 (by first | omega | (simp; omega))) (by first | omega | (simp; omega)); have gq1 := frozen_later hB6 (frozen_later (by go_grown) gq1 (by first | omega | (simp; omega))) (by first | omega | (simp; omega)); skip)) | (go_at_call 66; refine (word_Add _ _ _ _ _).mono ?_; rw [hsum.out, hone.out]; rintro en w7 ⟨rfl, hB7⟩; have hb7 : Below W0.heap.size W0 w7 := below_after (by go_grown) hB7; have hz7 := hB7.size; (try simp only [World.size_alloc, World.size_drew] at hz7); (have d2 := cell_later hB7 (cell_later (by go_grown) d2); have g0 := cell_later hB7 (cell_later (by go_grown) g0); have g1 := cell_later hB7 (cell_later (by go_grown) g1); have gq0 := frozen_later hB7 (frozen_later (by go_grown) gq0 (by first | omega | (simp; omega))) (by first | omega | (simp; omega)); have gq1 := frozen_later hB7 (frozen_later (by go_grown) gq1 (by first | omega | (simp; omega))) (by first | omega | (simp; omega)); skip)))
        all_goals (go_wp2_with fail; go_meet)
        all_goals exact ⟨cell_two0 _ _ _ _ (by rw [g0]; rfl), cell_two1 _ _ _ _ (by rw [g1]; rfl), by go_grown, by simp; omega⟩
      case rest =>
        obtain ⟨g0, g1, hBz, hgl⟩ := hcut
        have r0 := cell_later hBz r0W
        have r1 := cell_later hBz r1W
        have q0 := frozen_later hBz q0W (by omega)
        have q1 := frozen_later hBz q1W (by omega)
        have hszz := hBz.size
        have hBW := below_after hBW0 hBz
        go_wp2
        refine bodyPost_ret (by simp [results, Tryz.results35, go_sem, r0, r1]; try rfl) rfl ?_
        refine ⟨ret_bits ⟨?_, ?_⟩, by go_grown⟩
        · rw [makeF_t f 0 _ hf (by omega) (by omega)]
        · rw [makeF_t f 0 _ hf (by omega) (by omega)]
end Go.Proofs.YtkldkchkhblndaaGreatDoor

namespace Go.Proofs.YtkldkchkhblndaaGreatDoor
open Go.RowKit Go.Hb
set_option maxHeartbeats 2000000 in
theorem format_Make (f e h l : Int) (neg : Bool) [hU : U8 f] [U64 h] [U64 l] (w : World) [Laid w] :
    Calls Tryz.prog 35 #[.int .u8 f, .bool neg, .int .i64 e, .agg #[.int .u64 (h), .int .u64 (l)]] w fun en w' => en = .returned (.agg #[.int .u64 (hi (makeF f neg e (cat h l))), .int .u64 (lo (makeF f neg e (cat h l)))]) ∧ Below w.heap.size w w' := by
  by_cases hf : f < 4
  · by_cases he : 0 ≤ e ∧ e ≤ 1048576
    · exact make_in f e h l neg w hf he.1 he.2
    · by_cases hn : e < 0
      · exact make_neg f e h l neg w hf hn
      · exact make_big f e h l neg w hf (by omega)
  · obtain ⟨e1, e2, e3⟩ := fmt_none f (by omega)
    have hs : makeF f neg e (cat h l) = 0 := by simp [makeF]; omega
    rw [hs]
    clear hs hf
    go_enter Tryz.func35, Tryz.ntmps35
    (go_wp2_with fail; refine (format_of _ _).mono ?_; rintro en w1 ⟨rfl, hB_w1⟩; have lay_w1 := laid_after hB_w1; (obtain ⟨hc_w1, hf_w1⟩ := bcell hB_w1; have hz_w1 := hB_w1.size; (try simp only [World.size_alloc, World.size_setCell, World.size_drew] at hz_w1 hc_w1 hf_w1); have k0_w1 := fun o => hc_w1 (w.heap.size) o (by omega); have l0_w1 := fun o => hf_w1 (w.heap.size) o (by omega); have k1_w1 := fun o => hc_w1 (w.heap.size + 1) o (by omega); have l1_w1 := fun o => hf_w1 (w.heap.size + 1) o (by omega); have z_w1 : w.heap.size < w1.heap.size ∧ w.heap.size ≤ w1.heap.size ∧ w.heap.size ≤ w1.heap.size + 1 ∧ w.heap.size ≤ w1.heap.size + 1 + 1 ∧ w.heap.size + 1 < w1.heap.size ∧ w.heap.size + 1 ≤ w1.heap.size ∧ w.heap.size + 1 ≤ w1.heap.size + 1 ∧ w.heap.size + 1 ≤ w1.heap.size + 1 + 1 := (by omega); clear hc_w1 hf_w1; have n_w1 : w.heap.size ≠ w1.heap.size ∧ w1.heap.size ≠ w.heap.size ∧ w.heap.size ≠ w1.heap.size + 1 ∧ w1.heap.size + 1 ≠ w.heap.size ∧ w.heap.size + 1 ≠ w1.heap.size ∧ w1.heap.size ≠ w.heap.size + 1 ∧ w.heap.size + 1 ≠ w1.heap.size + 1 ∧ w1.heap.size + 1 ≠ w.heap.size + 1 := (by omega); have hW_w1 : Below w.heap.size w w1 := below_after (by go_grown) hB_w1))
    go_wp2_with fail
    refine bodyPost_ret (by simp [results, Tryz.results35, go_sem, k1_w1, z_w1, e1]; try rfl) rfl ?_
    exact ⟨rfl, by go_grown⟩
theorem format_Inf (f : Int) (neg : Bool) [hU : U8 f] (w : World) [Laid w] :
    Calls Tryz.prog 48 #[.int .u8 f, .bool neg] w fun en w' => en = .returned (.agg #[.int .u64 (hi (makeF f neg (2 * emaxS f + 1) 0)), .int .u64 (lo (makeF f neg (2 * emaxS f + 1) 0))]) ∧ Below w.heap.size w w' := by
  obtain ⟨em0, em1⟩ := emaxS_bd f
  have c0 : cat 0 0 = 0 := rfl
  have hw1 : IntKind.i64.wrap (2 * emaxS f) = 2 * emaxS f := IntWalk.i64_in _ (by omega)
  have hw2 : IntKind.i64.wrap (2 * emaxS f + 1) = 2 * emaxS f + 1 := IntWalk.i64_in _ (by omega)
  go_enter Tryz.func48, Tryz.ntmps48
  (go_wp2_with fail; refine (format_Emax _ _).mono ?_; rintro en w1 ⟨rfl, hB_w1⟩; have lay_w1 := laid_after hB_w1; (obtain ⟨hc_w1, hf_w1⟩ := bcell hB_w1; have hz_w1 := hB_w1.size; (try simp only [World.size_alloc, World.size_setCell, World.size_drew] at hz_w1 hc_w1 hf_w1); have k0_w1 := fun o => hc_w1 (w.heap.size) o (by omega); have l0_w1 := fun o => hf_w1 (w.heap.size) o (by omega); have z_w1 : w.heap.size < w1.heap.size ∧ w.heap.size ≤ w1.heap.size ∧ w.heap.size ≤ w1.heap.size + 1 ∧ w.heap.size ≤ w1.heap.size + 1 + 1 := (by omega); clear hc_w1 hf_w1; have n_w1 : w.heap.size ≠ w1.heap.size ∧ w1.heap.size ≠ w.heap.size ∧ w.heap.size ≠ w1.heap.size + 1 ∧ w1.heap.size + 1 ≠ w.heap.size := (by omega); have hW_w1 : Below w.heap.size w w1 := below_after (by go_grown) hB_w1))
  (go_wp2_with fail; refine (format_Make _ _ _ _ _ _).mono ?_; rintro en w2 ⟨rfl, hB_w2⟩; (obtain ⟨hc_w2, hf_w2⟩ := bcell hB_w2; have hz_w2 := hB_w2.size; (try simp only [World.size_alloc, World.size_setCell, World.size_drew] at hz_w2 hc_w2 hf_w2); have k0_w2 := fun o => hc_w2 (w.heap.size) o (by omega); have l0_w2 := fun o => hf_w2 (w.heap.size) o (by omega); have z_w2 : w.heap.size < w2.heap.size ∧ w.heap.size ≤ w2.heap.size ∧ w.heap.size ≤ w2.heap.size + 1 ∧ w.heap.size ≤ w2.heap.size + 1 + 1 := (by omega); clear hc_w2 hf_w2; have hW_w2 : Below w.heap.size w w2 := below_after (by go_grown) hB_w2))
  go_wp2_with fail
  refine bodyPost_ret (by simp [results, Tryz.results48, go_sem, k0_w2, k0_w1, z_w2, z_w1, n_w1, c0]; try rfl) rfl ?_
  exact ⟨rfl, by go_grown⟩
end Go.Proofs.YtkldkchkhblndaaGreatDoor
