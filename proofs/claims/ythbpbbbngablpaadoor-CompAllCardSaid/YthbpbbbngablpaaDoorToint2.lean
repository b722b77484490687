/- The contract of toint.Int: for every input. Condition: the listed tables are laid. -/
import Derived.Test.YthbpbbbngablpaaDoorToint
set_option linter.unusedSimpArgs false
set_option linter.unusedVariables false
namespace Go.Proofs.YthbpbbbngablpaaDoor
open Go.RowKit Go.Hb
def okW (c e : Int) : Bool := !(c == 3 || decide (64 < e))
def whV (c e m : Int) (neg : Bool) (v : Nat) : Nat := if okW c e then whN e m neg v else 0
def whO (c e : Int) (v : Nat) : Bool := okW c e && whI e v
theorem okW_iff (c e : Int) : okW c e = true ↔ ¬ (c = 3 ∨ 64 < e) := by
  unfold okW; simp
theorem wh_far (c e m : Int) (neg : Bool) (v : Nat) (hk : c = 3 ∨ 64 < e) : okW c e = false ∧ hi (whV c e m neg v) = 0 ∧ lo (whV c e m neg v) = 0 ∧ whO c e v = false := by
  have ho : okW c e = false := by rw [← Bool.not_eq_true, okW_iff]; exact fun hn => hn hk
  have hv : whV c e m neg v = 0 := by unfold whV; rw [ho, if_neg (by decide)]
  have hw : whO c e v = false := by unfold whO; rw [ho, Bool.false_and]
  rw [hv]
  exact ⟨ho, rfl, rfl, hw⟩
theorem wh_low (c e m : Int) (neg : Bool) (v : Nat) (hk : ¬ (c = 3 ∨ 64 < e)) (hn : e < 0) : okW c e = true ∧ whV c e m neg v = cutS (jamS (v * 2 ^ 128) (-e - 1)) 0 m neg ∧ whO c e v = inexS (jamS (v * 2 ^ 128) (-e - 1)) 0 := by
  have ho : okW c e = true := (okW_iff c e).2 hk
  refine ⟨ho, ?_, ?_⟩
  · unfold whV whN; rw [ho, if_pos rfl, if_pos hn]
  · unfold whO whI; rw [ho, Bool.true_and, if_pos hn]
theorem wh_top (c e m : Int) (neg : Bool) (v : Nat) (hk : ¬ (c = 3 ∨ 64 < e)) (hn : ¬ e < 0) : okW c e = true ∧ whV c e m neg v = cutS (v * 2 ^ 128) (e + 1) m neg ∧ whO c e v = inexS (v * 2 ^ 128) (e + 1) := by
  have ho : okW c e = true := (okW_iff c e).2 hk
  refine ⟨ho, ?_, ?_⟩
  · unfold whV whN; rw [ho, if_pos rfl, if_neg hn]
  · unfold whO whI; rw [ho, Bool.true_and, if_neg hn]
theorem jam_parts (J : Nat) (h : cat4 (lo J) (w1 J) (w2 J) (w3 J) = J) : ∃ j0 j1 j2 j3 : Int, U64 j0 ∧ U64 j1 ∧ U64 j2 ∧ U64 j3 ∧ lo J = j0 ∧ w1 J = j1 ∧ w2 J = j2 ∧ w3 J = j3 ∧ cat4 j0 j1 j2 j3 = J :=
  ⟨_, _, _, _, inferInstance, inferInstance, inferInstance, inferInstance, rfl, rfl, rfl, rfl, h⟩
theorem toint_whole (c e h l m : Int) (neg : Bool) [U64 h] [U64 l] (w : World) [hLay : Laid w] (he : -100000 ≤ e) (m0 : 0 ≤ m) (m1 : m ≤ 4) :
    Calls Tryd.prog 37 #[.agg #[.bool neg, .int .u8 c, .int .i64 e, .int .u64 h, .int .u64 l], .int .u8 m] w fun en w' => en = .returned (.tuple #[.agg #[.int .u64 (hi (whV c e m neg (cat h l))), .int .u64 (lo (whV c e m neg (cat h l)))], .bool (whO c e (cat h l)), .bool (okW c e)]) ∧ Below w.heap.size w w' := by
  have hj := cat4_join h l
  have hlt : cat4 0 0 l h < 2 ^ 256 := by rw [two256]; exact cat4_lt 0 0 l h
  by_cases hk : c = 3 ∨ 64 < e
  · obtain ⟨a1, a2, a3, a4⟩ := wh_far c e m neg (cat h l) hk
    rw [a1, a2, a3, a4]
    exact whole_far c e h l m neg w hk
  · have h3 : c ≠ 3 := fun hn => hk (Or.inl hn)
    have h64 : e ≤ 64 := by omega
    by_cases hn : e < 0
    · obtain ⟨a1, a2, a3⟩ := wh_low c e m neg (cat h l) hk hn
      obtain ⟨j0, j1, j2, j3, i0, i1, i2, i3, y0, y1, y2, y3, hJ⟩ := jam_parts _ (jamS_cat (cat4 0 0 l h) (-e - 1) hlt)
      rw [a1, a2, a3, ← hj, ← hJ]
      exact whole_low c e h l m _ _ j0 j1 j2 j3 neg _ w h3 hn he m0 m1 (Lib.hid y0) (Lib.hid y1) (Lib.hid y2) (Lib.hid y3) (Lib.hid rfl) (Lib.hid rfl) (Lib.hid rfl)
    · obtain ⟨a1, a2, a3⟩ := wh_top c e m neg (cat h l) hk hn
      rw [a1, a2, a3, ← hj]
      exact whole_top c e h l m _ _ neg _ w h3 hn h64 m0 m1 (Lib.hid rfl) (Lib.hid rfl) (Lib.hid rfl)
set_option maxRecDepth 100000 in
set_option maxHeartbeats 4000000 in
theorem int_none (f k m h l : Int) [hU : U8 f] [hK : U8 k] [hM : U8 m] [U64 h] [U64 l] (w : World) [hLay : Laid w] [hLE : LaidE w] (hk : ¬ (f < 4 ∧ k < 4 ∧ m ≤ 4)) :
    Calls Tryd.prog 13 #[.int .u8 f, .int .u8 k, .int .u8 m, .agg #[.int .u64 (h), .int .u64 (l)]] w fun en w' => en = .returned (.agg #[.int .u64 0, .int .u8 0]) ∧ Below w.heap.size w w' := by
  by_cases hf : f < 4
  · have hfd : decide (f < 4) = true := decide_eq_true hf
    by_cases hkk : k < 4
    · have hkd : decide (k < 4) = true := decide_eq_true hkk
      have hmd : decide (m ≤ 4) = false := decide_eq_false (fun h => hk ⟨hf, hkk, h⟩)
      clear hk hf hkk
      go_enter Tryd.func13, Tryd.ntmps13
      skip
      (go_wp2_with fail; refine (format_Known_b _ _).mono ?_; rintro en v1 ⟨rfl, hB_v1⟩; have lay_v1 := laid_after hB_v1; (try have layE_v1 := laidE_after hB_v1); have cc1 := cl hB_v1 (show World.cell? _ ⟨w.heap.size, 0, none⟩ = some (.int .u64 h) by go_simp); have cc2 := cl hB_v1 (show World.cell? _ ⟨w.heap.size, 1, none⟩ = some (.int .u64 l) by go_simp); obtain ⟨cc3, fcc3⟩ := pf hB_v1 (show World.cell? _ ⟨w.heap.size + 1, 0, none⟩ = some (.int .u64 0) by go_simp) (by go_simp); obtain ⟨cc4, fcc4⟩ := pf hB_v1 (show World.cell? _ ⟨w.heap.size + 1, 1, none⟩ = some (.int .u8 0) by go_simp) (by go_simp); have hs_v1 := hB_v1.size; (try simp only [World.size_alloc, World.size_setCell, World.size_drew] at hs_v1); have hBW : Below w.heap.size w v1 := below_after (w := w) (by go_grown) hB_v1; have hn_v1 := an (nl cc1) (nl cc3); clear hB_v1)
      (go_wp2_with fail; refine (toint_KnownE _ _).mono ?_; rintro en v2 ⟨rfl, hB_v2⟩; have lay_v2 := laid_after hB_v2; (try have layE_v2 := laidE_after hB_v2); have hG := cell_grown cc1 (by go_grown) hB_v2; replace cc1 := cl hG cc1; replace cc2 := cl hG cc2; replace fcc3 := fl hG fcc3 cc3; replace cc3 := cl hG cc3; replace fcc4 := fl hG fcc4 cc4; replace cc4 := cl hG cc4; have hs_v2 := hG.size; clear hG; replace hBW : Below w.heap.size w v2 := below_after (w := w) (by go_grown) hB_v2; have hn_v2 := an (nl cc1) (nl cc3); clear hB_v2)
      (go_wp2_with fail; refine (mode_Known_b _ _).mono ?_; rintro en v3 ⟨rfl, hB_v3⟩; have lay_v3 := laid_after hB_v3; (try have layE_v3 := laidE_after hB_v3); have hG := cell_grown cc1 (by go_grown) hB_v3; replace cc1 := cl hG cc1; replace cc2 := cl hG cc2; replace fcc3 := fl hG fcc3 cc3; replace cc3 := cl hG cc3; replace fcc4 := fl hG fcc4 cc4; replace cc4 := cl hG cc4; have hs_v3 := hG.size; clear hG; replace hBW : Below w.heap.size w v3 := below_after (w := w) (by go_grown) hB_v3; have hn_v3 := an (nl cc1) (nl cc3); clear hB_v3)
      go_wp2_with fail
      refine bodyPost_ret (by simp [results, Tryd.results13, go_sem, cc3, cc4]; try rfl) rfl ?_
      exact ⟨rfl, by go_grown⟩
    · have hkd : decide (k < 4) = false := decide_eq_false hkk
      clear hk hf hkk
      go_enter Tryd.func13, Tryd.ntmps13
      skip
      (go_wp2_with fail; refine (format_Known_b _ _).mono ?_; rintro en v1 ⟨rfl, hB_v1⟩; have lay_v1 := laid_after hB_v1; (try have layE_v1 := laidE_after hB_v1); have cc1 := cl hB_v1 (show World.cell? _ ⟨w.heap.size, 0, none⟩ = some (.int .u64 h) by go_simp); have cc2 := cl hB_v1 (show World.cell? _ ⟨w.heap.size, 1, none⟩ = some (.int .u64 l) by go_simp); obtain ⟨cc3, fcc3⟩ := pf hB_v1 (show World.cell? _ ⟨w.heap.size + 1, 0, none⟩ = some (.int .u64 0) by go_simp) (by go_simp); obtain ⟨cc4, fcc4⟩ := pf hB_v1 (show World.cell? _ ⟨w.heap.size + 1, 1, none⟩ = some (.int .u8 0) by go_simp) (by go_simp); have hs_v1 := hB_v1.size; (try simp only [World.size_alloc, World.size_setCell, World.size_drew] at hs_v1); have hBW : Below w.heap.size w v1 := below_after (w := w) (by go_grown) hB_v1; have hn_v1 := an (nl cc1) (nl cc3); clear hB_v1)
      (go_wp2_with fail; refine (toint_KnownE _ _).mono ?_; rintro en v2 ⟨rfl, hB_v2⟩; have lay_v2 := laid_after hB_v2; (try have layE_v2 := laidE_after hB_v2); have hG := cell_grown cc1 (by go_grown) hB_v2; replace cc1 := cl hG cc1; replace cc2 := cl hG cc2; replace fcc3 := fl hG fcc3 cc3; replace cc3 := cl hG cc3; replace fcc4 := fl hG fcc4 cc4; replace cc4 := cl hG cc4; have hs_v2 := hG.size; clear hG; replace hBW : Below w.heap.size w v2 := below_after (w := w) (by go_grown) hB_v2; have hn_v2 := an (nl cc1) (nl cc3); clear hB_v2)
      go_wp2_with fail
      refine bodyPost_ret (by simp [results, Tryd.results13, go_sem, cc3, cc4]; try rfl) rfl ?_
      exact ⟨rfl, by go_grown⟩
  · have hfd : decide (f < 4) = false := decide_eq_false hf
    clear hk hf
    go_enter Tryd.func13, Tryd.ntmps13
    skip
    (go_wp2_with fail; refine (format_Known_b _ _).mono ?_; rintro en v1 ⟨rfl, hB_v1⟩; have lay_v1 := laid_after hB_v1; (try have layE_v1 := laidE_after hB_v1); have cc1 := cl hB_v1 (show World.cell? _ ⟨w.heap.size, 0, none⟩ = some (.int .u64 h) by go_simp); have cc2 := cl hB_v1 (show World.cell? _ ⟨w.heap.size, 1, none⟩ = some (.int .u64 l) by go_simp); obtain ⟨cc3, fcc3⟩ := pf hB_v1 (show World.cell? _ ⟨w.heap.size + 1, 0, none⟩ = some (.int .u64 0) by go_simp) (by go_simp); obtain ⟨cc4, fcc4⟩ := pf hB_v1 (show World.cell? _ ⟨w.heap.size + 1, 1, none⟩ = some (.int .u8 0) by go_simp) (by go_simp); have hs_v1 := hB_v1.size; (try simp only [World.size_alloc, World.size_setCell, World.size_drew] at hs_v1); have hBW : Below w.heap.size w v1 := below_after (w := w) (by go_grown) hB_v1; have hn_v1 := an (nl cc1) (nl cc3); clear hB_v1)
    go_wp2_with fail
    refine bodyPost_ret (by simp [results, Tryd.results13, go_sem, cc3, cc4]; try rfl) rfl ?_
    exact ⟨rfl, by go_grown⟩
set_option maxRecDepth 100000 in
set_option maxHeartbeats 4000000 in
theorem int_nan (f k m h l c : Int) [hU : U8 f] [hK : U8 k] [hM : U8 m] [U64 h] [U64 l] (w : World) [hLay : Laid w] [hLE : LaidE w] (hf : f < 4) (hk : k < 4) (hm : m ≤ 4) (u2 : Hid (classF f (cat h l) = c)) (hc : 4 ≤ c) :
    Calls Tryd.prog 13 #[.int .u8 f, .int .u8 k, .int .u8 m, .agg #[.int .u64 (h), .int .u64 (l)]] w fun en w' => en = .returned (.agg #[.int .u64 0, .int .u8 1]) ∧ Below w.heap.size w w' := by
  have hfd : decide (f < 4) = true := decide_eq_true hf
  have hkd : decide (k < 4) = true := decide_eq_true hk
  have hmd : decide (m ≤ 4) = true := decide_eq_true hm
  have hcd : decide (c ≥ 4) = true := decide_eq_true hc
  clear hf hk hm
  go_enter Tryd.func13, Tryd.ntmps13
  skip
  (go_wp2_with fail; refine (format_Known_b _ _).mono ?_; rintro en v1 ⟨rfl, hB_v1⟩; have lay_v1 := laid_after hB_v1; (try have layE_v1 := laidE_after hB_v1); have cc1 := cl hB_v1 (show World.cell? _ ⟨w.heap.size, 0, none⟩ = some (.int .u64 h) by go_simp); have cc2 := cl hB_v1 (show World.cell? _ ⟨w.heap.size, 1, none⟩ = some (.int .u64 l) by go_simp); obtain ⟨cc3, fcc3⟩ := pf hB_v1 (show World.cell? _ ⟨w.heap.size + 1, 0, none⟩ = some (.int .u64 0) by go_simp) (by go_simp); obtain ⟨cc4, fcc4⟩ := pf hB_v1 (show World.cell? _ ⟨w.heap.size + 1, 1, none⟩ = some (.int .u8 0) by go_simp) (by go_simp); have hs_v1 := hB_v1.size; (try simp only [World.size_alloc, World.size_setCell, World.size_drew] at hs_v1); have hBW : Below w.heap.size w v1 := below_after (w := w) (by go_grown) hB_v1; have hn_v1 := an (nl cc1) (nl cc3); clear hB_v1)
  (go_wp2_with fail; refine (toint_KnownE _ _).mono ?_; rintro en v2 ⟨rfl, hB_v2⟩; have lay_v2 := laid_after hB_v2; (try have layE_v2 := laidE_after hB_v2); have hG := cell_grown cc1 (by go_grown) hB_v2; replace cc1 := cl hG cc1; replace cc2 := cl hG cc2; replace fcc3 := fl hG fcc3 cc3; replace cc3 := cl hG cc3; replace fcc4 := fl hG fcc4 cc4; replace cc4 := cl hG cc4; have hs_v2 := hG.size; clear hG; replace hBW : Below w.heap.size w v2 := below_after (w := w) (by go_grown) hB_v2; have hn_v2 := an (nl cc1) (nl cc3); clear hB_v2)
  (go_wp2_with fail; refine (mode_Known_b _ _).mono ?_; rintro en v3 ⟨rfl, hB_v3⟩; have lay_v3 := laid_after hB_v3; (try have layE_v3 := laidE_after hB_v3); have hG := cell_grown cc1 (by go_grown) hB_v3; replace cc1 := cl hG cc1; replace cc2 := cl hG cc2; replace fcc3 := fl hG fcc3 cc3; replace cc3 := cl hG cc3; replace fcc4 := fl hG fcc4 cc4; replace cc4 := cl hG cc4; have hs_v3 := hG.size; clear hG; replace hBW : Below w.heap.size w v3 := below_after (w := w) (by go_grown) hB_v3; have hn_v3 := an (nl cc1) (nl cc3); clear hB_v3)
  (go_wp2_with fail; refine (fields_Unpack _ _ _ _).mono ?_; rw [u2.out]; rintro en v4 ⟨rfl, hB_v4⟩; have lay_v4 := laid_after hB_v4; (try have layE_v4 := laidE_after hB_v4); have hG := cell_grown cc1 (by go_grown) hB_v4; replace cc1 := cl hG cc1; replace cc2 := cl hG cc2; replace fcc3 := fl hG fcc3 cc3; replace cc3 := cl hG cc3; replace fcc4 := fl hG fcc4 cc4; replace cc4 := cl hG cc4; have hs_v4 := hG.size; clear hG; replace hBW : Below w.heap.size w v4 := below_after (w := w) (by go_grown) hB_v4; have hn_v4 := an (nl cc1) (nl cc3); clear hB_v4)
  go_upto_region 5 with fail
  ((first | refine wp_rename ?_ | refine goal_rename ?_); intro W5 hw_W5; have hG := named cc1 W5 (by rw [hw_W5]; first | with_reducible exact drewN_below (Below.refl _ _) _ | go_grown); replace cc1 := cl hG cc1; replace cc2 := cl hG cc2; replace fcc3 := fl hG fcc3 cc3; replace cc3 := cl hG cc3; replace fcc4 := fl hG fcc4 cc4; replace cc4 := cl hG cc4; have cc5 : W5.cell? ⟨v4.heap.size, 0, none⟩ = some (.bool (sgnF f (cat h l))) := (by rw [hw_W5]; go_simp); have cc6 : W5.cell? ⟨v4.heap.size, 1, none⟩ = some (.int .u8 c) := (by rw [hw_W5]; go_simp); have cc7 : W5.cell? ⟨v4.heap.size, 2, none⟩ = some (.int .i64 (unE f (cat h l))) := (by rw [hw_W5]; go_simp); have cc8 : W5.cell? ⟨v4.heap.size, 3, none⟩ = some (.int .u64 (hi (unS f (cat h l)))) := (by rw [hw_W5]; go_simp); have cc9 : W5.cell? ⟨v4.heap.size, 4, none⟩ = some (.int .u64 (lo (unS f (cat h l)))) := (by rw [hw_W5]; go_simp); replace hBW := below_after hBW hG; have hs_W5 := hG.size; clear hG; have hn_W5 := an (nl cc1) (an (nl cc3) (nl cc5)); have lay_W5 : Laid W5 := Laid.below (w := w) (by assumption) hBW; (try have layE_W5 : LaidE W5 := LaidE.below (w := w) (by assumption) hBW); clear hw_W5)
  go_wp2_with fail
  refine bodyPost_ret (by simp [results, Tryd.results13, go_sem, cc3, cc4]; try rfl) rfl ?_
  exact ⟨rfl, by go_grown⟩
theorem of_e (k : Int) : True := trivial
set_option maxRecDepth 100000 in
set_option maxHeartbeats 4000000 in
theorem int_far (f k m h l c e xh xl mo : Int) (s io : Bool) [hU : U8 f] [hK : U8 k] [hM : U8 m] [U64 h] [U64 l] [U64 xh] [U64 xl] (w : World) [hLay : Laid w] [hLE : LaidE w] (hf : f < 4) (hk : k < 4) (hm : m ≤ 4) (he : -100000 ≤ e) (m0 : 0 ≤ m)
    (u1 : Hid (sgnF f (cat h l) = s)) (u2 : Hid (classF f (cat h l) = c)) (u3 : Hid (unE f (cat h l) = e)) (u4 : Hid (hi (unS f (cat h l)) = xh)) (u5 : Hid (lo (unS f (cat h l)) = xl)) (hc : ¬ 4 ≤ c)
    (t1 : Hid (hi (whV c e m s (cat xh xl)) = 0)) (t2 : Hid (lo (whV c e m s (cat xh xl)) = 0)) (t3 : Hid (whO c e (cat xh xl) = io)) (t4 : Hid (okW c e = false)) (o1 : (if s then leastK k else mostK k) = mo) :
    Calls Tryd.prog 13 #[.int .u8 f, .int .u8 k, .int .u8 m, .agg #[.int .u64 (h), .int .u64 (l)]] w fun en w' => en = .returned (.agg #[.int .u64 (if s then IntKind.u64.wrap (-mo) else mo), .int .u8 1]) ∧ Below w.heap.size w w' := by
  have hfd : decide (f < 4) = true := decide_eq_true hf
  have hkd : decide (k < 4) = true := decide_eq_true hk
  have hmd : decide (m ≤ 4) = true := decide_eq_true hm
  have hcd : decide (c ≥ 4) = false := decide_eq_false hc
  clear hf hk
  cases s
  · have o2 : mostK k = mo := o1
    clear o1
    rw [if_neg (by decide)]
    go_enter Tryd.func13, Tryd.ntmps13
    skip
    (go_wp2_with fail; refine (format_Known_b _ _).mono ?_; rintro en v1 ⟨rfl, hB_v1⟩; have lay_v1 := laid_after hB_v1; (try have layE_v1 := laidE_after hB_v1); have cc1 := cl hB_v1 (show World.cell? _ ⟨w.heap.size, 0, none⟩ = some (.int .u64 h) by go_simp); have cc2 := cl hB_v1 (show World.cell? _ ⟨w.heap.size, 1, none⟩ = some (.int .u64 l) by go_simp); obtain ⟨cc3, fcc3⟩ := pf hB_v1 (show World.cell? _ ⟨w.heap.size + 1, 0, none⟩ = some (.int .u64 0) by go_simp) (by go_simp); obtain ⟨cc4, fcc4⟩ := pf hB_v1 (show World.cell? _ ⟨w.heap.size + 1, 1, none⟩ = some (.int .u8 0) by go_simp) (by go_simp); have hs_v1 := hB_v1.size; (try simp only [World.size_alloc, World.size_setCell, World.size_drew] at hs_v1); have hBW : Below w.heap.size w v1 := below_after (w := w) (by go_grown) hB_v1; have hn_v1 := an (nl cc1) (nl cc3); clear hB_v1)
    (go_wp2_with fail; refine (toint_KnownE _ _).mono ?_; rintro en v2 ⟨rfl, hB_v2⟩; have lay_v2 := laid_after hB_v2; (try have layE_v2 := laidE_after hB_v2); have hG := cell_grown cc1 (by go_grown) hB_v2; replace cc1 := cl hG cc1; replace cc2 := cl hG cc2; replace fcc3 := fl hG fcc3 cc3; replace cc3 := cl hG cc3; replace fcc4 := fl hG fcc4 cc4; replace cc4 := cl hG cc4; have hs_v2 := hG.size; clear hG; replace hBW : Below w.heap.size w v2 := below_after (w := w) (by go_grown) hB_v2; have hn_v2 := an (nl cc1) (nl cc3); clear hB_v2)
    (go_wp2_with fail; refine (mode_Known_b _ _).mono ?_; rintro en v3 ⟨rfl, hB_v3⟩; have lay_v3 := laid_after hB_v3; (try have layE_v3 := laidE_after hB_v3); have hG := cell_grown cc1 (by go_grown) hB_v3; replace cc1 := cl hG cc1; replace cc2 := cl hG cc2; replace fcc3 := fl hG fcc3 cc3; replace cc3 := cl hG cc3; replace fcc4 := fl hG fcc4 cc4; replace cc4 := cl hG cc4; have hs_v3 := hG.size; clear hG; replace hBW : Below w.heap.size w v3 := below_after (w := w) (by go_grown) hB_v3; have hn_v3 := an (nl cc1) (nl cc3); clear hB_v3)
    (go_wp2_with fail; refine (fields_Unpack _ _ _ _).mono ?_; rw [u1.out, u2.out, u3.out, u4.out, u5.out]; rintro en v4 ⟨rfl, hB_v4⟩; have lay_v4 := laid_after hB_v4; (try have layE_v4 := laidE_after hB_v4); have hG := cell_grown cc1 (by go_grown) hB_v4; replace cc1 := cl hG cc1; replace cc2 := cl hG cc2; replace fcc3 := fl hG fcc3 cc3; replace cc3 := cl hG cc3; replace fcc4 := fl hG fcc4 cc4; replace cc4 := cl hG cc4; have hs_v4 := hG.size; clear hG; replace hBW : Below w.heap.size w v4 := below_after (w := w) (by go_grown) hB_v4; have hn_v4 := an (nl cc1) (nl cc3); clear hB_v4)
    (go_wp2_with fail; refine (toint_of _ _).mono ?_; rintro en v5 ⟨rfl, hB_v5⟩; have lay_v5 := laid_after hB_v5; (try have layE_v5 := laidE_after hB_v5); have hG := cell_grown cc1 (by go_grown) hB_v5; replace cc1 := cl hG cc1; replace cc2 := cl hG cc2; replace fcc3 := fl hG fcc3 cc3; replace cc3 := cl hG cc3; replace fcc4 := fl hG fcc4 cc4; replace cc4 := cl hG cc4; have cc5 := cl hB_v5 (show World.cell? _ ⟨v4.heap.size, 0, none⟩ = some (.bool false) by go_simp); have cc6 := cl hB_v5 (show World.cell? _ ⟨v4.heap.size, 1, none⟩ = some (.int .u8 c) by go_simp); have cc7 := cl hB_v5 (show World.cell? _ ⟨v4.heap.size, 2, none⟩ = some (.int .i64 e) by go_simp); have cc8 := cl hB_v5 (show World.cell? _ ⟨v4.heap.size, 3, none⟩ = some (.int .u64 xh) by go_simp); have cc9 := cl hB_v5 (show World.cell? _ ⟨v4.heap.size, 4, none⟩ = some (.int .u64 xl) by go_simp); have hs_v5 := hG.size; clear hG; replace hBW : Below w.heap.size w v5 := below_after (w := w) (by go_grown) hB_v5; have hn_v5 := an (nl cc1) (an (nl cc3) (nl cc5)); clear hB_v5)
    (go_wp2_with fail; refine (toint_whole _ _ _ _ _ _ _ he m0 hm).mono ?_; rw [t1.out, t2.out, t3.out, t4.out]; rintro en v6 ⟨rfl, hB_v6⟩; have lay_v6 := laid_after hB_v6; (try have layE_v6 := laidE_after hB_v6); have hG := cell_grown cc1 (by go_grown) hB_v6; replace cc1 := cl hG cc1; replace cc2 := cl hG cc2; replace fcc3 := fl hG fcc3 cc3; replace cc3 := cl hG cc3; replace fcc4 := fl hG fcc4 cc4; replace cc4 := cl hG cc4; replace cc5 := cl hG cc5; replace cc6 := cl hG cc6; replace cc7 := cl hG cc7; replace cc8 := cl hG cc8; replace cc9 := cl hG cc9; have hs_v6 := hG.size; clear hG; replace hBW : Below w.heap.size w v6 := below_after (w := w) (by go_grown) hB_v6; have hn_v6 := an (nl cc1) (an (nl cc3) (nl cc5)); clear hB_v6)
    skip
    skip
    go_upto_region 15 with fail
    ((first | refine wp_rename ?_ | refine goal_rename ?_); intro W15 hw_W15; replace cc1 := rn hw_W15 cc1 (by go_simp); replace cc2 := rn hw_W15 cc2 (by go_simp); replace cc3 := rn hw_W15 cc3 (by go_simp); replace fcc3 := rf hw_W15 fcc3 (by go_simp); replace cc4 := rn hw_W15 cc4 (by go_simp); replace fcc4 := rf hw_W15 fcc4 (by go_simp); replace cc5 := rn hw_W15 cc5 (by go_simp); replace cc6 := rn hw_W15 cc6 (by go_simp); replace cc7 := rn hw_W15 cc7 (by go_simp); replace cc8 := rn hw_W15 cc8 (by go_simp); replace cc9 := rn hw_W15 cc9 (by go_simp); have cc10 : W15.cell? ⟨v6.heap.size, 0, none⟩ = some (.int .u64 0) := (by rw [hw_W15]; go_simp); have cc11 : W15.cell? ⟨v6.heap.size, 1, none⟩ = some (.int .u64 0) := (by rw [hw_W15]; go_simp); have cc12 : W15.cell? ⟨v6.heap.size + 1, 0, none⟩ = some (.int .u64 mo) := (by rw [hw_W15]; go_simp); have fcc12 : W15.frozen? ⟨v6.heap.size + 1, 0, none⟩ = false := (by rw [hw_W15]; go_simp); have cc13 : W15.cell? ⟨v6.heap.size + 1, 1, none⟩ = some (.int .u8 1) := (by rw [hw_W15]; go_simp); have fcc13 : W15.frozen? ⟨v6.heap.size + 1, 1, none⟩ = false := (by rw [hw_W15]; go_simp); replace hBW : Below w.heap.size w W15 := (by rw [hw_W15]; (first | with_reducible exact drewN_below (by assumption) _ | go_grown)); have hn_W15 := an (nl cc1) (an (nl cc3) (an (nl cc5) (an (nl cc10) (nl cc12)))); have lay_W15 : Laid W15 := Laid.below (w := w) (by assumption) hBW; (try have layE_W15 : LaidE W15 := LaidE.below (w := w) (by assumption) hBW); clear hw_W15)
    go_wp2_with fail
    refine bodyPost_ret (by simp [results, Tryd.results13, go_sem, cc3, cc4]; try rfl) rfl ?_
    exact ⟨rfl, by go_grown⟩
  · have o2 : leastK k = mo := o1
    clear o1
    rw [if_pos rfl]
    go_enter Tryd.func13, Tryd.ntmps13
    skip
    (go_wp2_with fail; refine (format_Known_b _ _).mono ?_; rintro en v1 ⟨rfl, hB_v1⟩; have lay_v1 := laid_after hB_v1; (try have layE_v1 := laidE_after hB_v1); have cc1 := cl hB_v1 (show World.cell? _ ⟨w.heap.size, 0, none⟩ = some (.int .u64 h) by go_simp); have cc2 := cl hB_v1 (show World.cell? _ ⟨w.heap.size, 1, none⟩ = some (.int .u64 l) by go_simp); obtain ⟨cc3, fcc3⟩ := pf hB_v1 (show World.cell? _ ⟨w.heap.size + 1, 0, none⟩ = some (.int .u64 0) by go_simp) (by go_simp); obtain ⟨cc4, fcc4⟩ := pf hB_v1 (show World.cell? _ ⟨w.heap.size + 1, 1, none⟩ = some (.int .u8 0) by go_simp) (by go_simp); have hs_v1 := hB_v1.size; (try simp only [World.size_alloc, World.size_setCell, World.size_drew] at hs_v1); have hBW : Below w.heap.size w v1 := below_after (w := w) (by go_grown) hB_v1; have hn_v1 := an (nl cc1) (nl cc3); clear hB_v1)
    (go_wp2_with fail; refine (toint_KnownE _ _).mono ?_; rintro en v2 ⟨rfl, hB_v2⟩; have lay_v2 := laid_after hB_v2; (try have layE_v2 := laidE_after hB_v2); have hG := cell_grown cc1 (by go_grown) hB_v2; replace cc1 := cl hG cc1; replace cc2 := cl hG cc2; replace fcc3 := fl hG fcc3 cc3; replace cc3 := cl hG cc3; replace fcc4 := fl hG fcc4 cc4; replace cc4 := cl hG cc4; have hs_v2 := hG.size; clear hG; replace hBW : Below w.heap.size w v2 := below_after (w := w) (by go_grown) hB_v2; have hn_v2 := an (nl cc1) (nl cc3); clear hB_v2)
    (go_wp2_with fail; refine (mode_Known_b _ _).mono ?_; rintro en v3 ⟨rfl, hB_v3⟩; have lay_v3 := laid_after hB_v3; (try have layE_v3 := laidE_after hB_v3); have hG := cell_grown cc1 (by go_grown) hB_v3; replace cc1 := cl hG cc1; replace cc2 := cl hG cc2; replace fcc3 := fl hG fcc3 cc3; replace cc3 := cl hG cc3; replace fcc4 := fl hG fcc4 cc4; replace cc4 := cl hG cc4; have hs_v3 := hG.size; clear hG; replace hBW : Below w.heap.size w v3 := below_after (w := w) (by go_grown) hB_v3; have hn_v3 := an (nl cc1) (nl cc3); clear hB_v3)
    (go_wp2_with fail; refine (fields_Unpack _ _ _ _).mono ?_; rw [u1.out, u2.out, u3.out, u4.out, u5.out]; rintro en v4 ⟨rfl, hB_v4⟩; have lay_v4 := laid_after hB_v4; (try have layE_v4 := laidE_after hB_v4); have hG := cell_grown cc1 (by go_grown) hB_v4; replace cc1 := cl hG cc1; replace cc2 := cl hG cc2; replace fcc3 := fl hG fcc3 cc3; replace cc3 := cl hG cc3; replace fcc4 := fl hG fcc4 cc4; replace cc4 := cl hG cc4; have hs_v4 := hG.size; clear hG; replace hBW : Below w.heap.size w v4 := below_after (w := w) (by go_grown) hB_v4; have hn_v4 := an (nl cc1) (nl cc3); clear hB_v4)
    (go_wp2_with fail; refine (toint_of _ _).mono ?_; rintro en v5 ⟨rfl, hB_v5⟩; have lay_v5 := laid_after hB_v5; (try have layE_v5 := laidE_after hB_v5); have hG := cell_grown cc1 (by go_grown) hB_v5; replace cc1 := cl hG cc1; replace cc2 := cl hG cc2; replace fcc3 := fl hG fcc3 cc3; replace cc3 := cl hG cc3; replace fcc4 := fl hG fcc4 cc4; replace cc4 := cl hG cc4; have cc5 := cl hB_v5 (show World.cell? _ ⟨v4.heap.size, 0, none⟩ = some (.bool true) by go_simp); have cc6 := cl hB_v5 (show World.cell? _ ⟨v4.heap.size, 1, none⟩ = some (.int .u8 c) by go_simp); have cc7 := cl hB_v5 (show World.cell? _ ⟨v4.heap.size, 2, none⟩ = some (.int .i64 e) by go_simp); have cc8 := cl hB_v5 (show World.cell? _ ⟨v4.heap.size, 3, none⟩ = some (.int .u64 xh) by go_simp); have cc9 := cl hB_v5 (show World.cell? _ ⟨v4.heap.size, 4, none⟩ = some (.int .u64 xl) by go_simp); have hs_v5 := hG.size; clear hG; replace hBW : Below w.heap.size w v5 := below_after (w := w) (by go_grown) hB_v5; have hn_v5 := an (nl cc1) (an (nl cc3) (nl cc5)); clear hB_v5)
    (go_wp2_with fail; refine (toint_of _ _).mono ?_; rintro en v7 ⟨rfl, hB_v7⟩; have lay_v7 := laid_after hB_v7; (try have layE_v7 := laidE_after hB_v7); have hG := cell_grown cc1 (by go_grown) hB_v7; replace cc1 := cl hG cc1; replace cc2 := cl hG cc2; replace fcc3 := fl hG fcc3 cc3; replace cc3 := cl hG cc3; replace fcc4 := fl hG fcc4 cc4; replace cc4 := cl hG cc4; replace cc5 := cl hG cc5; replace cc6 := cl hG cc6; replace cc7 := cl hG cc7; replace cc8 := cl hG cc8; replace cc9 := cl hG cc9; have hs_v7 := hG.size; clear hG; replace hBW : Below w.heap.size w v7 := below_after (w := w) (by go_grown) hB_v7; have hn_v7 := an (nl cc1) (an (nl cc3) (nl cc5)); clear hB_v7)
    (go_wp2_with fail; refine (toint_whole _ _ _ _ _ _ _ he m0 hm).mono ?_; rw [t1.out, t2.out, t3.out, t4.out]; rintro en v6 ⟨rfl, hB_v6⟩; have lay_v6 := laid_after hB_v6; (try have layE_v6 := laidE_after hB_v6); have hG := cell_grown cc1 (by go_grown) hB_v6; replace cc1 := cl hG cc1; replace cc2 := cl hG cc2; replace fcc3 := fl hG fcc3 cc3; replace cc3 := cl hG cc3; replace fcc4 := fl hG fcc4 cc4; replace cc4 := cl hG cc4; replace cc5 := cl hG cc5; replace cc6 := cl hG cc6; replace cc7 := cl hG cc7; replace cc8 := cl hG cc8; replace cc9 := cl hG cc9; have hs_v6 := hG.size; clear hG; replace hBW : Below w.heap.size w v6 := below_after (w := w) (by go_grown) hB_v6; have hn_v6 := an (nl cc1) (an (nl cc3) (nl cc5)); clear hB_v6)
    skip
    skip
    go_upto_region 15 with fail
    ((first | refine wp_rename ?_ | refine goal_rename ?_); intro W15 hw_W15; replace cc1 := rn hw_W15 cc1 (by go_simp); replace cc2 := rn hw_W15 cc2 (by go_simp); replace cc3 := rn hw_W15 cc3 (by go_simp); replace fcc3 := rf hw_W15 fcc3 (by go_simp); replace cc4 := rn hw_W15 cc4 (by go_simp); replace fcc4 := rf hw_W15 fcc4 (by go_simp); replace cc5 := rn hw_W15 cc5 (by go_simp); replace cc6 := rn hw_W15 cc6 (by go_simp); replace cc7 := rn hw_W15 cc7 (by go_simp); replace cc8 := rn hw_W15 cc8 (by go_simp); replace cc9 := rn hw_W15 cc9 (by go_simp); have cc10 : W15.cell? ⟨v6.heap.size, 0, none⟩ = some (.int .u64 0) := (by rw [hw_W15]; go_simp); have cc11 : W15.cell? ⟨v6.heap.size, 1, none⟩ = some (.int .u64 0) := (by rw [hw_W15]; go_simp); have cc12 : W15.cell? ⟨v6.heap.size + 1, 0, none⟩ = some (.int .u64 mo) := (by rw [hw_W15]; go_simp); have fcc12 : W15.frozen? ⟨v6.heap.size + 1, 0, none⟩ = false := (by rw [hw_W15]; go_simp); have cc13 : W15.cell? ⟨v6.heap.size + 1, 1, none⟩ = some (.int .u8 1) := (by rw [hw_W15]; go_simp); have fcc13 : W15.frozen? ⟨v6.heap.size + 1, 1, none⟩ = false := (by rw [hw_W15]; go_simp); replace hBW : Below w.heap.size w W15 := (by rw [hw_W15]; (first | with_reducible exact drewN_below (by assumption) _ | go_grown)); have hn_W15 := an (nl cc1) (an (nl cc3) (an (nl cc5) (an (nl cc10) (nl cc12)))); have lay_W15 : Laid W15 := Laid.below (w := w) (by assumption) hBW; (try have layE_W15 : LaidE W15 := LaidE.below (w := w) (by assumption) hBW); clear hw_W15)
    go_wp2_with fail
    refine bodyPost_ret (by simp [results, Tryd.results13, go_sem, cc3, cc4]; try rfl) rfl ?_
    exact ⟨rfl, by go_grown⟩
end Go.Proofs.YthbpbbbngablpaaDoor
