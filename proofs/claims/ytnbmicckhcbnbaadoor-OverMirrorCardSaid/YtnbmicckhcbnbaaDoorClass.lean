/- The contracts of package class: for every input. -/
import Derived.Test.YtnbmicckhcbnbaaDoorFormat2
set_option linter.unusedSimpArgs false
set_option linter.unusedVariables false
namespace Go.Proofs.YtnbmicckhcbnbaaDoor
open Go.RowKit Go.Hb
/-- The class of an encoding: 0 nought, 1 subnormal, 2 normal, 3 infinite, 4 quiet, 5 signaling. -/
def classF (f : Int) (v : Nat) : Int :=
  if 4 ≤ f then 0 else if expF f v = 0 then (if fracF f v = 0 then 0 else 1) else if (expF f v : Int) < 2 * emaxS f + 1 then 2 else if fracF f v = 0 then 3 else if (fracF f v).testBit ((precS f - 2).toNat) then 4 else 5
theorem classF_bd (f : Int) (v : Nat) : 0 ≤ classF f v ∧ classF f v ≤ 5 := by unfold classF; repeat' split <;> omega
set_option maxRecDepth 100000 in
set_option maxHeartbeats 8000000 in
theorem class_Of (f h l : Int) [hU : U8 f] [U64 h] [U64 l] (w : World) [Laid w] :
    Calls Tryd.prog 21 #[.int .u8 f, .agg #[.int .u64 (h), .int .u64 (l)]] w fun en w' => en = .returned (.tuple #[.int .u8 (classF f (cat h l)), .bool (sgnF f (cat h l))]) ∧ Below w.heap.size w w' := by
  by_cases hf : f < 4
  · have hd : decide (f < 4) = true := by simp; omega
    have hx := Lib.hid (cat_hl (fracF f (cat h l)) (Nat.lt_of_lt_of_le (fracF_lt f _ U8.ge) (by omega)))
    have hel := expF_lt f (cat h l) U8.ge
    obtain ⟨b1, b2, b3, b4, b5, b6⟩ := fmt_bd f U8.ge hf
    obtain ⟨em0, em1⟩ := emaxS_bd f
    have hw1 : IntKind.i64.wrap (2 * emaxS f) = 2 * emaxS f := IntWalk.i64_in _ (by omega)
    have hw2 : IntKind.i64.wrap (2 * emaxS f + 1) = 2 * emaxS f + 1 := IntWalk.i64_in _ (by omega)
    have hw3 : IntKind.i64.wrap (precS f - 2) = precS f - 2 := IntWalk.i64_in _ (by omega)
    have hp0 : decide (0 ≤ precS f - 2) = true := by simp; omega
    go_enter Tryd.func21, Tryd.ntmps21
    go_wp2_with (go_at_call 19; refine (format_Known _ _).mono ?_; rintro en w' ⟨rfl, rfl⟩)
    refine (format_Split _ _ _ _).mono ?_
    rintro en w1 ⟨rfl, hB1⟩
    have lay1 := laid_after hB1
    have hBW : Below w.heap.size w w1 := below_after (by go_grown) hB1
    have hs1 := hB1.size
    simp only [World.size_alloc] at hs1
    clear hB1
    go_wp2_with fail
    refine (word_Zero _ _ _).mono ?_
    rw [hx.out]
    rintro en wz ⟨rfl, hBz⟩
    have c0 := cell_later hBz (show World.cell? _ ⟨w1.heap.size, 0, none⟩ = some (.int .u64 (hi (fracF f (cat h l)))) by go_simp)
    have c1 := cell_later hBz (show World.cell? _ ⟨w1.heap.size, 1, none⟩ = some (.int .u64 (lo (fracF f (cat h l)))) by go_simp)
    have layz := laid_after hBz
    replace hBW := below_after (w := w) (w1 := wz) (by go_grown) hBz
    have hsz := hBz.size
    simp only [World.size_alloc] at hsz
    clear hBz
    go_wp2_with fail
    refine (format_Emax _ _).mono ?_
    rintro en w2 ⟨rfl, hB2⟩
    have lay2 := laid_after hB2
    replace hBW := below_after (w := w) (w1 := w2) (by go_grown) hB2
    have hs2 := hB2.size
    (replace c0 := cell_later hB2 (cell_later (by go_grown) c0); replace c1 := cell_later hB2 (cell_later (by go_grown) c1); skip)
    clear hB2
    by_cases hE : expF f (cat h l) = 0
    · have he : (((expF f (cat h l) : Nat) : Int) == 0) = true := by simp [hE]
      by_cases hF : fracF f (cat h l) = 0
      · have hfd : decide (fracF f (cat h l) = 0) = true := by simp [hF]
        have hc : classF f (cat h l) = 0 := by unfold classF; rw [if_neg (by omega), if_pos hE, if_pos hF]
        go_wp2_with fail
        go_returns
        exact ⟨by rw [hc]; rfl, by go_grown⟩
      · have hfd : decide (fracF f (cat h l) = 0) = false := by simp [hF]
        have hc : classF f (cat h l) = 1 := by unfold classF; rw [if_neg (by omega), if_pos hE, if_neg hF]
        go_wp2_with fail
        go_returns
        exact ⟨by rw [hc]; rfl, by go_grown⟩
    · have he : (((expF f (cat h l) : Nat) : Int) == 0) = false := by simp [hE]
      by_cases hT : ((expF f (cat h l) : Nat) : Int) < 2 * emaxS f + 1
      · have ht : decide (((expF f (cat h l) : Nat) : Int) < 2 * emaxS f + 1) = true := by simpa using hT
        have hc : classF f (cat h l) = 2 := by unfold classF; rw [if_neg (by omega), if_neg hE, if_pos hT]
        go_wp2_with fail
        go_returns
        exact ⟨by rw [hc]; rfl, by go_grown⟩
      · have ht : decide (((expF f (cat h l) : Nat) : Int) < 2 * emaxS f + 1) = false := by simpa using hT
        by_cases hF : fracF f (cat h l) = 0
        · have hfd : decide (fracF f (cat h l) = 0) = true := by simp [hF]
          have hc : classF f (cat h l) = 3 := by unfold classF; rw [if_neg (by omega), if_neg hE, if_neg hT, if_pos hF]
          go_wp2_with fail
          go_returns
          exact ⟨by rw [hc]; rfl, by go_grown⟩
        · have hfd : decide (fracF f (cat h l) = 0) = false := by simp [hF]
          have hc : classF f (cat h l) = if (fracF f (cat h l)).testBit ((precS f - 2).toNat) then 4 else 5 := by unfold classF; rw [if_neg (by omega), if_neg hE, if_neg hT, if_neg hF]
          go_upto_region 14 with fail
          go_region_held3 (fun w' => w'.cell? ⟨w1.heap.size, 0, none⟩ = some (.int .u64 (hi (fracF f (cat h l)))) ∧ w'.cell? ⟨w1.heap.size, 1, none⟩ = some (.int .u64 (lo (fracF f (cat h l)))))
            ((refine ⟨?_, ?_⟩ <;> (refine cell_later (w := w2) ?_ (by assumption); go_grown)))
            (first | (go_at_call 28; refine (format_Prec _ _).mono ?_; rintro en w3 ⟨rfl, hB3⟩; have hb3 : Below w2.heap.size w2 w3 := below_after (by go_grown) hB3; have lay3 := laid_after hb3) | (go_at_call 40; refine (word_Bit _ _ _ _).mono ?_; rw [hp0, Bool.true_and, hx.out]; rintro en w4 ⟨rfl, hB4⟩; have hb4 : Below w2.heap.size w2 w4 := below_after (by go_grown) hB4; have lay4 := laid_after hb4))
          replace hBW := below_after hBW hb4
          cases hbit : (fracF f (cat h l)).testBit ((precS f - 2).toNat)
          · rw [hbit, if_neg (by decide)] at hc
            go_wp2_with fail
            go_returns
            exact ⟨by rw [hc]; rfl, by go_grown⟩
          · rw [hbit, if_pos rfl] at hc
            go_wp2_with fail
            go_returns
            exact ⟨by rw [hc]; rfl, by go_grown⟩
  · have hd : decide (f < 4) = false := by simp; omega
    have hs : sgnF f (cat h l) = false := by simp [sgnF]; omega
    have hc : classF f (cat h l) = 0 := by simp [classF]; omega
    rw [hs, hc]
    clear hs hc
    go_enter Tryd.func21, Tryd.ntmps21
    go_wp2_with (go_at_call 19; refine (format_Known _ _).mono ?_; rintro en w' ⟨rfl, rfl⟩)
    go_returns
    exact ⟨rfl, by go_grown⟩
end Go.Proofs.YtnbmicckhcbnbaaDoor
