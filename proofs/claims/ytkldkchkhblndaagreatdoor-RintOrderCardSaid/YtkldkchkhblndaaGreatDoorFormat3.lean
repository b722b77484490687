/- The contract of format.Make: for every input. -/
import Derived.Test.YtkldkchkhblndaaGreatDoorFormat2
set_option linter.unusedSimpArgs false
set_option linter.unusedVariables false
namespace Go.Hb
/-- The bits of a sign, an exponent field and a fraction. -/
def makeF (f : Int) (neg : Bool) (exp : Int) (frac : Nat) : Nat :=
  if 4 ≤ f then 0 else (if exp < 0 ∨ 1048576 < exp then 0 else exp.toNat) % 2 ^ (widthS f - precS f).toNat * 2 ^ (precS f - 1).toNat + frac % 2 ^ (precS f - 1).toNat + (if neg then 2 ^ (widthS f - 1).toNat else 0)
end Go.Hb
namespace Go.Proofs.YtkldkchkhblndaaGreatDoor
open Go.RowKit Go.Hb
theorem mk_lt (f : Int) (x : Nat) (h0 : 0 ≤ f) (hf : f < 4) : x % 2 ^ (widthS f - precS f).toNat * 2 ^ (precS f - 1).toNat + 2 ^ (precS f - 1).toNat ≤ 2 ^ (widthS f - 1).toNat := by
  obtain ⟨b1, b2, b3, b4, b5, b6⟩ := fmt_bd f h0 hf
  have e : (2 : Nat) ^ (widthS f - 1).toNat = 2 ^ (widthS f - precS f).toNat * 2 ^ (precS f - 1).toNat := by rw [← Nat.pow_add]; congr 1; omega
  have h := Nat.mod_lt x (Nat.two_pow_pos (widthS f - precS f).toNat)
  have := Nat.mul_le_mul_right (2 ^ (precS f - 1).toNat) (Nat.succ_le_of_lt h)
  rw [e]
  rw [Nat.succ_mul] at this
  exact this
theorem mk_pow (f : Int) (h0 : 0 ≤ f) (hf : f < 4) : 2 ^ (widthS f - 1).toNat ≤ 170141183460469231731687303715884105728 := by
  obtain ⟨b1, b2, b3, b4, b5, b6⟩ := fmt_bd f h0 hf
  have : (2 : Nat) ^ (widthS f - 1).toNat ≤ 2 ^ 127 := Nat.pow_le_pow_right (by omega) (by omega)
  omega
theorem mk_z (f e : Int) (h0 : 0 ≤ f) (hf : f < 4) : cat (hi (lsh (lowN (cat 0 e) (widthS f - precS f)) (precS f - 1))) (lo (lsh (lowN (cat 0 e) (widthS f - precS f)) (precS f - 1))) = lsh (lowN (cat 0 e) (widthS f - precS f)) (precS f - 1) := by
  have h1 := mk_lt f (cat 0 e) h0 hf
  have h2 := mk_pow f h0 hf
  have h3 := Nat.two_pow_pos (precS f - 1).toNat
  apply cat_hl
  unfold lsh lowN at *
  omega
theorem mk_sum (f e : Int) (x : Nat) (h0 : 0 ≤ f) (hf : f < 4) : cat (hi (lsh (lowN (cat 0 e) (widthS f - precS f)) (precS f - 1) + lowN x (precS f - 1))) (lo (lsh (lowN (cat 0 e) (widthS f - precS f)) (precS f - 1) + lowN x (precS f - 1))) = lsh (lowN (cat 0 e) (widthS f - precS f)) (precS f - 1) + lowN x (precS f - 1) := by
  have h1 := mk_lt f (cat 0 e) h0 hf
  have h2 := mk_pow f h0 hf
  have h3 := Nat.mod_lt x (Nat.two_pow_pos (precS f - 1).toNat)
  apply cat_hl
  unfold lsh lowN at *
  omega
theorem mk_one (f : Int) (h0 : 0 ≤ f) (hf : f < 4) : cat (hi (lsh (cat 0 1) (widthS f - 1))) (lo (lsh (cat 0 1) (widthS f - 1))) = lsh (cat 0 1) (widthS f - 1) := by
  have h2 := mk_pow f h0 hf
  apply cat_hl
  have : cat 0 1 = 1 := rfl
  unfold lsh
  rw [this]
  omega
theorem makeF_f (f e : Int) (x : Nat) (hf : f < 4) (e0 : 0 ≤ e) (e1 : e ≤ 1048576) : makeF f false e x = lsh (lowN (cat 0 e) (widthS f - precS f)) (precS f - 1) + lowN x (precS f - 1) := by
  have ce : cat 0 e = e.toNat := by unfold cat; omega
  unfold makeF lsh lowN
  rw [if_neg (by omega), if_neg (by omega), ce]
  simp
theorem makeF_t (f e : Int) (x : Nat) (hf : f < 4) (e0 : 0 ≤ e) (e1 : e ≤ 1048576) : makeF f true e x = lsh (lowN (cat 0 e) (widthS f - precS f)) (precS f - 1) + lowN x (precS f - 1) + lsh (cat 0 1) (widthS f - 1) := by
  have c1 : cat 0 1 = 1 := rfl
  have ce : cat 0 e = e.toNat := by unfold cat; omega
  unfold makeF lsh lowN
  rw [if_neg (by omega), if_neg (by omega), c1, ce, Nat.one_mul, if_pos rfl]
set_option maxRecDepth 100000 in
set_option maxHeartbeats 8000000 in
theorem make_in (f e h l : Int) (neg : Bool) [U8 f] [U64 h] [U64 l] (w : World) [Laid w] (hf : f < 4) (e0 : 0 ≤ e) (e1 : e ≤ 1048576) :
    Calls Tryz.prog 35 #[.int .u8 f, .bool neg, .int .i64 e, .agg #[.int .u64 (h), .int .u64 (l)]] w fun en w' => en = .returned (.agg #[.int .u64 (hi (makeF f neg e (cat h l))), .int .u64 (lo (makeF f neg e (cat h l)))]) ∧ Below w.heap.size w w' := by
  obtain ⟨b1, b2, b3, b4, b5, b6⟩ := fmt_bd f U8.ge hf
  have hp1 : IntKind.i64.wrap (precS f - 1) = precS f - 1 := IntWalk.i64_in _ (by omega)
  have hp2 : IntKind.i64.wrap (widthS f - 1) = widthS f - 1 := IntWalk.i64_in _ (by omega)
  have hp3 : IntKind.i64.wrap (widthS f - precS f) = widthS f - precS f := IntWalk.i64_in _ (by omega)
  have hwe : IntKind.u64.wrap e = e := IntWalk.u64_in _ (by omega)
  haveI : U64 e := ⟨by omega, by omega⟩
  have hx := Lib.hid (cat_hl (lowN (cat 0 e) (widthS f - precS f)) (Nat.lt_of_le_of_lt (lowN_le _ _) (cat_lt 0 e)))
  have hz := Lib.hid (mk_z f e U8.ge hf)
  have hfr := Lib.hid (cat_hl (lowN (cat h l) (precS f - 1)) (Nat.lt_of_le_of_lt (lowN_le _ _) (cat_lt h l)))
  have hsum := Lib.hid (mk_sum f e (cat h l) U8.ge hf)
  have hone := Lib.hid (mk_one f U8.ge hf)
  go_enter Tryz.func35, Tryz.ntmps35
  (go_wp2_with fail; refine (format_of _ _).mono ?_; rintro en w1 ⟨rfl, hB_w1⟩; have lay_w1 := laid_after hB_w1; (obtain ⟨hc_w1, hf_w1⟩ := bcell hB_w1; have hz_w1 := hB_w1.size; (try simp only [World.size_alloc, World.size_setCell, World.size_drew] at hz_w1 hc_w1 hf_w1); have k0_w1 := fun o => hc_w1 (w.heap.size) o (by omega); have l0_w1 := fun o => hf_w1 (w.heap.size) o (by omega); have k1_w1 := fun o => hc_w1 (w.heap.size + 1) o (by omega); have l1_w1 := fun o => hf_w1 (w.heap.size + 1) o (by omega); have z_w1 : w.heap.size < w1.heap.size ∧ w.heap.size ≤ w1.heap.size ∧ w.heap.size ≤ w1.heap.size + 1 ∧ w.heap.size ≤ w1.heap.size + 1 + 1 ∧ w.heap.size + 1 < w1.heap.size ∧ w.heap.size + 1 ≤ w1.heap.size ∧ w.heap.size + 1 ≤ w1.heap.size + 1 ∧ w.heap.size + 1 ≤ w1.heap.size + 1 + 1 := (by omega); clear hc_w1 hf_w1; have n_w1 : w.heap.size ≠ w1.heap.size ∧ w1.heap.size ≠ w.heap.size ∧ w.heap.size ≠ w1.heap.size + 1 ∧ w1.heap.size + 1 ≠ w.heap.size ∧ w.heap.size + 1 ≠ w1.heap.size ∧ w1.heap.size ≠ w.heap.size + 1 ∧ w.heap.size + 1 ≠ w1.heap.size + 1 ∧ w1.heap.size + 1 ≠ w.heap.size + 1 := (by omega); have hW_w1 : Below w.heap.size w w1 := below_after (by go_grown) hB_w1))
  go_upto_region 6 with fail
  refine wp_rename ?_
  intro W0 hW0
  have c0 : W0.cell? ⟨w.heap.size, 0, none⟩ = some (.int .u64 h) := by rw [hW0]; go_simp
  have c1 : W0.cell? ⟨w.heap.size, 1, none⟩ = some (.int .u64 l) := by rw [hW0]; go_simp
  have c2 : W0.cell? ⟨w1.heap.size, 0, none⟩ = some (.int .i64 (widthS f)) := by rw [hW0]; go_simp
  have c3 : W0.cell? ⟨w1.heap.size, 1, none⟩ = some (.int .i64 (precS f)) := by rw [hW0]; go_simp
  have r0 : W0.cell? ⟨w.heap.size + 1, 0, none⟩ = some (.int .u64 0) := by rw [hW0]; go_simp
  have r1 : W0.cell? ⟨w.heap.size + 1, 1, none⟩ = some (.int .u64 0) := by rw [hW0]; go_simp
  have q0 : W0.frozen? ⟨w.heap.size + 1, 0, none⟩ = false := by rw [hW0]; go_simp
  have q1 : W0.frozen? ⟨w.heap.size + 1, 1, none⟩ = false := by rw [hW0]; go_simp
  have hBW : Below w.heap.size w W0 := by rw [hW0]; go_grown
  have hs0 : w1.heap.size + 1 ≤ W0.heap.size := by rw [hW0]; simp
  clear hW0 k0_w1 k1_w1 l0_w1 l1_w1 hW_w1 lay_w1 hB_w1 z_w1 n_w1
  go_cut [10] (fun s wx => ∃ g : Nat, s = .pointer (some ⟨g, 0, none⟩) ∧ wx.cell? ⟨g, 0, none⟩ = some (.int .u64 (hi (lsh (lowN (cat 0 e) (widthS f - precS f)) (precS f - 1)))) ∧ wx.cell? ⟨g, 1, none⟩ = some (.int .u64 (lo (lsh (lowN (cat 0 e) (widthS f - precS f)) (precS f - 1))))
    ∧ Below W0.heap.size W0 wx ∧ W0.heap.size ≤ g ∧ g < wx.heap.size ∧ wx.frozen? ⟨g, 0, none⟩ = false ∧ wx.frozen? ⟨g, 1, none⟩ = false)
  case first =>
   as_aux_lemma =>
    go_region_held3 (fun w' => w'.cell? ⟨w1.heap.size, 0, none⟩ = some (.int .i64 (widthS f)) ∧ w'.cell? ⟨w1.heap.size, 1, none⟩ = some (.int .i64 (precS f)))
      ((refine ⟨?_, ?_⟩ <;> (refine cell_later (w := W0) ?_ (by assumption); go_grown)))
      (first | (go_at_call 50; refine (format_low _ _ _ (by omega) (by omega) _).mono ?_; rintro en w2 ⟨rfl, hB2⟩; have hb2 : Below W0.heap.size W0 w2 := below_after (by go_grown) hB2; obtain ⟨hc2, hf2⟩ := bcell hB2; have hz2 := hB2.size; (try simp only [World.size_alloc, World.size_drew] at hz2 hc2 hf2); have z2 : W0.heap.size < w2.heap.size := (by omega)) | (go_at_call 50; refine (format_low _ _ _ (by omega) (by omega) _).mono ?_; rintro en w2 ⟨rfl, hB2⟩; have hb2 : Below W0.heap.size W0 w2 := below_after (by go_grown) hB2; obtain ⟨hc2, hf2⟩ := bcell hB2; have hz2 := hB2.size; (try simp only [World.size_alloc, World.size_drew] at hz2 hc2 hf2)) | (go_at_call 65; refine (shift_Left' _ _ _ _).mono ?_; rw [hx.out]; rintro en w3 ⟨rfl, hB3⟩; have hb3 : Below W0.heap.size W0 w3 := below_after (by go_grown) hB3; obtain ⟨hc3, hf3⟩ := bcell hB3; have hz3 := hB3.size; (try simp only [World.size_alloc, World.size_drew] at hz3 hc3 hf3)))
    all_goals (go_wp2_with fail; go_meet)
    · exact ⟨_, rfl, by go_cell, by go_cell, by go_grown, by omega, by simp, by go_simp, by go_simp⟩
    · exact ⟨_, rfl, cell_two0 _ _ _ _ (by go_simp), cell_two1 _ _ _ _ (by go_simp), by go_grown, by omega, by simp; omega, by go_simp, by go_simp⟩
    · exact ⟨_, rfl, cell_two0 _ _ _ _ (by go_simp), cell_two1 _ _ _ _ (by go_simp), by go_grown, by omega, by simp; omega, by go_simp, by go_simp⟩
  case rest =>
    obtain ⟨g, rfl, g0, g1, hBx, hgW, hgl, gq0, gq1⟩ := hcut
    have d0 := cell_later hBx c0
    have d1 := cell_later hBx c1
    have d2 := cell_later hBx c2
    have d3 := cell_later hBx c3
    have hsz1 := hBx.size
    go_upto_region 7 with fail
    go_cut [] (fun wx => wx.cell? ⟨g, 0, none⟩ = some (.int .u64 (hi (lsh (lowN (cat 0 e) (widthS f - precS f)) (precS f - 1) + lowN (cat h l) (precS f - 1)))) ∧ wx.cell? ⟨g, 1, none⟩ = some (.int .u64 (lo (lsh (lowN (cat 0 e) (widthS f - precS f)) (precS f - 1) + lowN (cat h l) (precS f - 1)))) ∧ Below W0.heap.size W0 wx ∧ g < wx.heap.size ∧ wx.frozen? ⟨g, 0, none⟩ = false ∧ wx.frozen? ⟨g, 1, none⟩ = false)
    case first =>
     as_aux_lemma =>
      go_region_with (first | (go_at_call 50; refine (format_low _ _ _ (by omega) (by omega) _).mono ?_; rintro en w4 ⟨rfl, hB4⟩; have hb4 : Below W0.heap.size W0 w4 := below_after (by go_grown) hB4; have hz4 := hB4.size; (try simp only [World.size_alloc, World.size_drew] at hz4); (have d0 := cell_later hB4 (cell_later (by go_grown) d0); have d1 := cell_later hB4 (cell_later (by go_grown) d1); have d2 := cell_later hB4 (cell_later (by go_grown) d2); have d3 := cell_later hB4 (cell_later (by go_grown) d3); have g0 := cell_later hB4 (cell_later (by go_grown) g0); have g1 := cell_later hB4 (cell_later (by go_grown) g1); have gq0 := frozen_later hB4 (frozen_later (by go_grown) gq0 (by first | omega | (simp; omega))) (by first | omega | (simp; omega)); have gq1 := frozen_later hB4 (frozen_later (by go_grown) gq1 (by first | omega | (simp; omega))) (by first | omega | (simp; omega)); skip)) | (go_at_call 66; refine (word_Add _ _ _ _ _).mono ?_; rw [hz.out, hfr.out]; rintro en w5 ⟨rfl, hB5⟩; have hb5 : Below W0.heap.size W0 w5 := below_after (by go_grown) hB5; have hz5 := hB5.size; (try simp only [World.size_alloc, World.size_drew] at hz5); (have d0 := cell_later hB5 (cell_later (by go_grown) d0); have d1 := cell_later hB5 (cell_later (by go_grown) d1); have d2 := cell_later hB5 (cell_later (by go_grown) d2); have d3 := cell_later hB5 (cell_later (by go_grown) d3); have g0 := cell_later hB5 (cell_later (by go_grown) g0); have g1 := cell_later hB5 (cell_later (by go_grown) g1); have gq0 := frozen_later hB5 (frozen_later (by go_grown) gq0 (by first | omega | (simp; omega))) (by first | omega | (simp; omega)); have gq1 := frozen_later hB5 (frozen_later (by go_grown) gq1 (by first | omega | (simp; omega))) (by first | omega | (simp; omega)); skip)))
      all_goals (go_wp2_with fail; go_meet)
      all_goals exact ⟨cell_two0 _ _ _ _ (by rw [g0]; rfl), cell_two1 _ _ _ _ (by rw [g1]; rfl), by go_grown, by simp; omega, by simpa using gq0, by simpa using gq1⟩
    case rest =>
    obtain ⟨g0, g1, hBy, hgl, gq0, gq1⟩ := hcut
    have r0W := r0; have r1W := r1; have q0W := q0; have q1W := q1; have hBW0 := hBW
    have d0 := cell_later hBy c0
    have r0 := cell_later hBy r0
    have r1 := cell_later hBy r1
    have q0 := frozen_later hBy q0 (by omega)
    have q1 := frozen_later hBy q1 (by omega)
    have hszy := hBy.size
    have hBW := below_after hBW hBy
    cases neg
    · go_wp2
      refine bodyPost_ret (by simp [results, Tryz.results35, go_sem, r0, r1]; try rfl) rfl ?_
      refine ⟨ret_bits ⟨?_, ?_⟩, by go_grown⟩
      · rw [makeF_f f e _ hf e0 e1]
      · rw [makeF_f f e _ hf e0 e1]
    · have d2 := cell_later hBy c2
      go_upto_region 9 with fail
      go_cut [] (fun wx => wx.cell? ⟨g, 0, none⟩ = some (.int .u64 (hi (lsh (lowN (cat 0 e) (widthS f - precS f)) (precS f - 1) + lowN (cat h l) (precS f - 1) + lsh (cat 0 1) (widthS f - 1)))) ∧ wx.cell? ⟨g, 1, none⟩ = some (.int .u64 (lo (lsh (lowN (cat 0 e) (widthS f - precS f)) (precS f - 1) + lowN (cat h l) (precS f - 1) + lsh (cat 0 1) (widthS f - 1)))) ∧ Below W0.heap.size W0 wx ∧ g < wx.heap.size)
      case first =>
       as_aux_lemma =>
        go_region_with (first | (go_at_call 65; refine (shift_Left' _ _ _ _).mono ?_; rintro en w6 ⟨rfl, hB6⟩; have hb6 : Below W0.heap.size W0 w6 := below_after (by go_grown) hB6; have hz6 := hB6.size; (try simp only [World.size_alloc, World.size_drew] at hz6); (have d2 := cell_later hB6 (cell_later (by go_grown) d2); have g0 := cell_later hB6 (cell_later (by go_grown) g0); have g1 := cell_later hB6 (cell_later (by go_grown) g1); have gq0 := frozen_later hB6 (frozen_later (by go_grown) gq0 (by first | omega | (simp; omega))) (by first | omega | (simp; omega)); have gq1 := frozen_later hB6 (frozen_later (by go_grown) gq1 (by first | omega | (simp; omega))) (by first | omega | (simp; omega)); skip)) | (go_at_call 66; refine (word_Add _ _ _ _ _).mono ?_; rw [hsum.out, hone.out]; rintro en w7 ⟨rfl, hB7⟩; have hb7 : Below W0.heap.size W0 w7 := below_after (by go_grown) hB7; have hz7 := hB7.size; (try simp only [World.size_alloc, World.size_drew] at hz7); (have d2 := cell_later hB7 (cell_later (by go_grown) d2); have g0 := cell_later hB7 (cell_later (by go_grown) g0); have g1 := cell_later hB7 (cell_later (by go_grown) g1); have gq0 := frozen_later hB7 (frozen_later (by go_grown) gq0 (by first | omega | (simp; omega))) (by first | omega | (simp; omega)); have gq1 := frozen_later hB7 (frozen_later (by go_grown) gq1 (by first | omega | (simp; omega))) (by first | omega | (simp; omega)); skip)))
        all_goals (go_wp2_with fail; go_meet)
        all_goals exact ⟨cell_two0 _ _ _ _ (by rw [g0]; rfl), cell_two1 _ _ _ _ (by rw [g1]; rfl), by go_grown, by simp; omega⟩
      case rest =>
        obtain ⟨g0, g1, hBz, hgl⟩ := hcut
        have r0 := cell_later hBz r0W
        have r1 := cell_later hBz r1W
        have q0 := frozen_later hBz q0W (by omega)
        have q1 := frozen_later hBz q1W (by omega)
        have hszz := hBz.size
        have hBW := below_after hBW0 hBz
        go_wp2
        refine bodyPost_ret (by simp [results, Tryz.results35, go_sem, r0, r1]; try rfl) rfl ?_
        refine ⟨ret_bits ⟨?_, ?_⟩, by go_grown⟩
        · rw [makeF_t f e _ hf e0 e1]
        · rw [makeF_t f e _ hf e0 e1]
end Go.Proofs.YtkldkchkhblndaaGreatDoor
