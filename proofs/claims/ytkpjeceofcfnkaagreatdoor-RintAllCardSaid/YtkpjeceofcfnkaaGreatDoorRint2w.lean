/- The contracts of rint.Rint and rint.Whole: for every input. Condition: the listed table is laid. -/
import Derived.Test.YtkpjeceofcfnkaaGreatDoorRint1
set_option linter.unusedSimpArgs false
set_option linter.unusedVariables false
namespace Go.Proofs.YtkpjeceofcfnkaaGreatDoor
open Go.RowKit Go.Hb
def keepB (f : Int) (v : Nat) : Bool := classF f v == 0 || classF f v == 3 || decide (precS f - 1 ≤ unE f v)
/-- What rint.Rint answers. -/
def rintB (f m : Int) (v : Nat) : Nat := if f < 4 ∧ m ≤ 4 then (if nanB f v then quietF f v else if keepB f v then lowN v (widthS f) else exB f (sgnF f v) 255 (whN (unE f v) m (sgnF f v) (unS f v))) else 0
def rintFl (f m : Int) (ex : Bool) (v : Nat) : Int := if f < 4 ∧ m ≤ 4 then (if nanB f v then (if sigB f v then 1 else 0) else if keepB f v then 0 else if whI (unE f v) (unS f v) && ex then 16 else 0) else 0
set_option maxRecDepth 100000 in
set_option maxHeartbeats 4000000 in
theorem rint_nf (f m h l : Int) (ex : Bool) [hU : U8 f] [hM : U8 m] [U64 h] [U64 l] (w : World) [hLay : Laid w] (hf : ¬ f < 4) :
    Calls Tryz.prog 8 #[.int .u8 f, .int .u8 m, .bool ex, .agg #[.int .u64 (h), .int .u64 (l)]] w fun en w' => en = .returned (.agg #[.int .u64 0, .int .u64 0, .int .u8 0]) ∧ Below w.heap.size w w' := by
  have hfd : decide (f < 4) = false := decide_eq_false hf
  clear hf
  go_enter Tryz.func8, Tryz.ntmps8
  skip
  (go_wp2_with fail; refine (format_Known_b _ _).mono ?_; rintro en v1 ⟨rfl, hB_v1⟩; have lay_v1 := laid_after hB_v1; have cc1 := cl hB_v1 (show World.cell? _ ⟨w.heap.size, 0, none⟩ = some (.int .u64 h) by go_simp); have cc2 := cl hB_v1 (show World.cell? _ ⟨w.heap.size, 1, none⟩ = some (.int .u64 l) by go_simp); obtain ⟨cc3, fcc3⟩ := pf hB_v1 (show World.cell? _ ⟨w.heap.size + 1, 0, none⟩ = some (.int .u64 0) by go_simp) (by go_simp); obtain ⟨cc4, fcc4⟩ := pf hB_v1 (show World.cell? _ ⟨w.heap.size + 1, 1, none⟩ = some (.int .u64 0) by go_simp) (by go_simp); obtain ⟨cc5, fcc5⟩ := pf hB_v1 (show World.cell? _ ⟨w.heap.size + 1, 2, none⟩ = some (.int .u8 0) by go_simp) (by go_simp); have hs_v1 := hB_v1.size; (try simp only [World.size_alloc, World.size_setCell, World.size_drew] at hs_v1); have hBW : Below w.heap.size w v1 := below_after (w := w) (by go_grown) hB_v1; have hn_v1 := an (nl cc1) (nl cc3); clear hB_v1)
  go_wp2_with fail
  refine bodyPost_ret (by simp [results, Tryz.results8, go_sem, cc3, cc4, cc5]; try rfl) rfl ?_
  exact ⟨rfl, by go_grown⟩
set_option maxRecDepth 100000 in
set_option maxHeartbeats 4000000 in
theorem rint_nm (f m h l : Int) (ex : Bool) [hU : U8 f] [hM : U8 m] [U64 h] [U64 l] (w : World) [hLay : Laid w] (hf : f < 4) (hm : ¬ m ≤ 4) :
    Calls Tryz.prog 8 #[.int .u8 f, .int .u8 m, .bool ex, .agg #[.int .u64 (h), .int .u64 (l)]] w fun en w' => en = .returned (.agg #[.int .u64 0, .int .u64 0, .int .u8 0]) ∧ Below w.heap.size w w' := by
  have hfd : decide (f < 4) = true := decide_eq_true hf
  have hmd : decide (m ≤ 4) = false := decide_eq_false hm
  clear hf hm
  go_enter Tryz.func8, Tryz.ntmps8
  skip
  (go_wp2_with fail; refine (format_Known_b _ _).mono ?_; rintro en v1 ⟨rfl, hB_v1⟩; have lay_v1 := laid_after hB_v1; have cc1 := cl hB_v1 (show World.cell? _ ⟨w.heap.size, 0, none⟩ = some (.int .u64 h) by go_simp); have cc2 := cl hB_v1 (show World.cell? _ ⟨w.heap.size, 1, none⟩ = some (.int .u64 l) by go_simp); obtain ⟨cc3, fcc3⟩ := pf hB_v1 (show World.cell? _ ⟨w.heap.size + 1, 0, none⟩ = some (.int .u64 0) by go_simp) (by go_simp); obtain ⟨cc4, fcc4⟩ := pf hB_v1 (show World.cell? _ ⟨w.heap.size + 1, 1, none⟩ = some (.int .u64 0) by go_simp) (by go_simp); obtain ⟨cc5, fcc5⟩ := pf hB_v1 (show World.cell? _ ⟨w.heap.size + 1, 2, none⟩ = some (.int .u8 0) by go_simp) (by go_simp); have hs_v1 := hB_v1.size; (try simp only [World.size_alloc, World.size_setCell, World.size_drew] at hs_v1); have hBW : Below w.heap.size w v1 := below_after (w := w) (by go_grown) hB_v1; have hn_v1 := an (nl cc1) (nl cc3); clear hB_v1)
  (go_wp2_with fail; refine (mode_Known_b _ _).mono ?_; rintro en v2 ⟨rfl, hB_v2⟩; have lay_v2 := laid_after hB_v2; have hG := cell_grown cc1 (by go_grown) hB_v2; replace cc1 := cl hG cc1; replace cc2 := cl hG cc2; replace fcc3 := fl hG fcc3 cc3; replace cc3 := cl hG cc3; replace fcc4 := fl hG fcc4 cc4; replace cc4 := cl hG cc4; replace fcc5 := fl hG fcc5 cc5; replace cc5 := cl hG cc5; have hs_v2 := hG.size; clear hG; replace hBW : Below w.heap.size w v2 := below_after (w := w) (by go_grown) hB_v2; have hn_v2 := an (nl cc1) (nl cc3); clear hB_v2)
  go_wp2_with fail
  refine bodyPost_ret (by simp [results, Tryz.results8, go_sem, cc3, cc4, cc5]; try rfl) rfl ?_
  exact ⟨rfl, by go_grown⟩
set_option maxRecDepth 100000 in
set_option maxHeartbeats 4000000 in
theorem rint_nan (f m h l qh ql fq : Int) (ex : Bool) [hU : U8 f] [hM : U8 m] [U64 h] [U64 l] (w : World) [hLay : Laid w] (hf : f < 4) (hm : m ≤ 4)
    (HP : ∀ (W : World) (b : Nat), Laid W → W.cell? ⟨b, 0, none⟩ = some (.int .u64 h) → W.cell? ⟨b, 1, none⟩ = some (.int .u64 l) → Calls Tryz.prog 29 #[.int .u8 f, .bool false, .slice (some ⟨b, 0, none⟩) 1 1] W fun en w' => en = .returned (.tuple #[.agg #[.int .u64 qh, .int .u64 ql, .int .u8 fq], .bool true]) ∧ Below W.heap.size W w') :
    Calls Tryz.prog 8 #[.int .u8 f, .int .u8 m, .bool ex, .agg #[.int .u64 (h), .int .u64 (l)]] w fun en w' => en = .returned (.agg #[.int .u64 qh, .int .u64 ql, .int .u8 fq]) ∧ Below w.heap.size w w' := by
  have hfd : decide (f < 4) = true := decide_eq_true hf
  have hmd : decide (m ≤ 4) = true := decide_eq_true hm
  go_enter Tryz.func8, Tryz.ntmps8
  skip
  (go_wp2_with fail; refine (format_Known_b _ _).mono ?_; rintro en v1 ⟨rfl, hB_v1⟩; have lay_v1 := laid_after hB_v1; have cc1 := cl hB_v1 (show World.cell? _ ⟨w.heap.size, 0, none⟩ = some (.int .u64 h) by go_simp); have cc2 := cl hB_v1 (show World.cell? _ ⟨w.heap.size, 1, none⟩ = some (.int .u64 l) by go_simp); obtain ⟨cc3, fcc3⟩ := pf hB_v1 (show World.cell? _ ⟨w.heap.size + 1, 0, none⟩ = some (.int .u64 0) by go_simp) (by go_simp); obtain ⟨cc4, fcc4⟩ := pf hB_v1 (show World.cell? _ ⟨w.heap.size + 1, 1, none⟩ = some (.int .u64 0) by go_simp) (by go_simp); obtain ⟨cc5, fcc5⟩ := pf hB_v1 (show World.cell? _ ⟨w.heap.size + 1, 2, none⟩ = some (.int .u8 0) by go_simp) (by go_simp); have hs_v1 := hB_v1.size; (try simp only [World.size_alloc, World.size_setCell, World.size_drew] at hs_v1); have hBW : Below w.heap.size w v1 := below_after (w := w) (by go_grown) hB_v1; have hn_v1 := an (nl cc1) (nl cc3); clear hB_v1)
  (go_wp2_with fail; refine (mode_Known_b _ _).mono ?_; rintro en v2 ⟨rfl, hB_v2⟩; have lay_v2 := laid_after hB_v2; have hG := cell_grown cc1 (by go_grown) hB_v2; replace cc1 := cl hG cc1; replace cc2 := cl hG cc2; replace fcc3 := fl hG fcc3 cc3; replace cc3 := cl hG cc3; replace fcc4 := fl hG fcc4 cc4; replace cc4 := cl hG cc4; replace fcc5 := fl hG fcc5 cc5; replace cc5 := cl hG cc5; have hs_v2 := hG.size; clear hG; replace hBW : Below w.heap.size w v2 := below_after (w := w) (by go_grown) hB_v2; have hn_v2 := an (nl cc1) (nl cc3); clear hB_v2)
  (go_wp2_with fail; refine (HP _ _ (by first | assumption | infer_instance) (by first | assumption | go_simp) (by first | assumption | go_simp)).mono ?_; rintro en v3 ⟨rfl, hB_v3⟩; have lay_v3 := laid_after hB_v3; have hG := cell_grown cc1 (by go_grown) hB_v3; replace cc1 := cl hG cc1; replace cc2 := cl hG cc2; replace fcc3 := fl hG fcc3 cc3; replace cc3 := cl hG cc3; replace fcc4 := fl hG fcc4 cc4; replace cc4 := cl hG cc4; replace fcc5 := fl hG fcc5 cc5; replace cc5 := cl hG cc5; have hs_v3 := hG.size; clear hG; replace hBW : Below w.heap.size w v3 := below_after (w := w) (by go_grown) hB_v3; have hn_v3 := an (nl cc1) (nl cc3); clear hB_v3)
  go_upto_region 5 with fail
  ((first | refine wp_rename ?_ | refine goal_rename ?_); intro W5 hw_W5; have hG := named cc1 W5 (by rw [hw_W5]; first | with_reducible exact drewN_below (Below.refl _ _) _ | go_grown); replace cc1 := cl hG cc1; replace cc2 := cl hG cc2; replace fcc3 := fl hG fcc3 cc3; replace cc3 := cl hG cc3; replace fcc4 := fl hG fcc4 cc4; replace cc4 := cl hG cc4; replace fcc5 := fl hG fcc5 cc5; replace cc5 := cl hG cc5; have cc6 : W5.cell? ⟨v3.heap.size, 0, none⟩ = some (.int .u64 qh) := (by rw [hw_W5]; go_simp); have cc7 : W5.cell? ⟨v3.heap.size, 1, none⟩ = some (.int .u64 ql) := (by rw [hw_W5]; go_simp); have cc8 : W5.cell? ⟨v3.heap.size, 2, none⟩ = some (.int .u8 fq) := (by rw [hw_W5]; go_simp); replace hBW := below_after hBW hG; have hs_W5 := hG.size; clear hG; have hn_W5 := an (nl cc1) (an (nl cc3) (nl cc6)); have lay_W5 : Laid W5 := Laid.below (w := w) (by assumption) hBW; clear hw_W5)
  go_wp2_with fail
  refine bodyPost_ret (by simp [results, Tryz.results8, go_sem, cc3, cc4, cc5]; try rfl) rfl ?_
  exact ⟨rfl, by go_grown⟩
/-- The ways of a number made whole, that is no NaN. -/
def RintW (f m h l c e xh xl n1 n0 rh rl rx : Int) (ex s io rk : Bool) : Prop :=
  ((c == 0) = true ∧ hi (lowN (cat h l) (widthS f)) = rh ∧ lo (lowN (cat h l) (widthS f)) = rl ∧ rx = 0) ∨ ((c == 0) = false ∧ (c == 3) = true ∧ hi (lowN (cat h l) (widthS f)) = rh ∧ lo (lowN (cat h l) (widthS f)) = rl ∧ rx = 0) ∨ ((c == 0) = false ∧ (c == 3) = false ∧ decide (e ≥ precS f - 1) = true ∧ hi (lowN (cat h l) (widthS f)) = rh ∧ lo (lowN (cat h l) (widthS f)) = rl ∧ rx = 0) ∨
  ((c == 0) = false ∧ (c == 3) = false ∧ decide (e ≥ precS f - 1) = false ∧ -100000 ≤ e ∧ e ≤ 126 ∧ hi (whN e m s (cat xh xl)) = n1 ∧ lo (whN e m s (cat xh xl)) = n0 ∧ whI e (cat xh xl) = io ∧ hi (exB f s 255 (cat4 n0 n1 0 0)) = rh ∧ lo (exB f s 255 (cat4 n0 n1 0 0)) = rl ∧ exOk f s 255 (cat4 n0 n1 0 0) = rk ∧ ((io = true ∧ ex = true ∧ rx = 16) ∨ (io = true ∧ ex = false ∧ rx = 0) ∨ (io = false ∧ rx = 0)))
set_option maxRecDepth 100000 in
set_option maxHeartbeats 8000000 in
theorem rint_in (f m h l c e xh xl n1 n0 rh rl rx : Int) (ex s io rk : Bool) [hU : U8 f] [hM : U8 m] [U64 h] [U64 l] [U64 xh] [U64 xl] [U64 n1] [U64 n0] [U64 rh] [U64 rl] (w : World) [hLay : Laid w] (hf : f < 4) (hm : m ≤ 4) (nn : Hid (nanB f (cat h l) = false)) (u1 : Hid (sgnF f (cat h l) = s)) (u2 : Hid (classF f (cat h l) = c)) (u3 : Hid (unE f (cat h l) = e)) (u4 : Hid (hi (unS f (cat h l)) = xh)) (u5 : Hid (lo (unS f (cat h l)) = xl))
    (hk : RintW f m h l c e xh xl n1 n0 rh rl rx ex s io rk) :
    Calls Tryz.prog 8 #[.int .u8 f, .int .u8 m, .bool ex, .agg #[.int .u64 (h), .int .u64 (l)]] w fun en w' => en = .returned (.agg #[.int .u64 rh, .int .u64 rl, .int .u8 rx]) ∧ Below w.heap.size w w' := by
  have hfd : decide (f < 4) = true := decide_eq_true hf
  have hmd : decide (m ≤ 4) = true := decide_eq_true hm
  have hm0 := hM.ge
  obtain ⟨p0, p1⟩ := precS_bd f
  have hw1 : IntKind.i64.wrap (precS f - 1) = precS f - 1 := IntWalk.i64_in _ (by omega)
  clear p0 p1
  unfold RintW at hk
  go_enter Tryz.func8, Tryz.ntmps8
  skip
  (go_wp2_with fail; refine (format_Known_b _ _).mono ?_; rintro en v1 ⟨rfl, hB_v1⟩; have lay_v1 := laid_after hB_v1; have cc1 := cl hB_v1 (show World.cell? _ ⟨w.heap.size, 0, none⟩ = some (.int .u64 h) by go_simp); have cc2 := cl hB_v1 (show World.cell? _ ⟨w.heap.size, 1, none⟩ = some (.int .u64 l) by go_simp); obtain ⟨cc3, fcc3⟩ := pf hB_v1 (show World.cell? _ ⟨w.heap.size + 1, 0, none⟩ = some (.int .u64 0) by go_simp) (by go_simp); obtain ⟨cc4, fcc4⟩ := pf hB_v1 (show World.cell? _ ⟨w.heap.size + 1, 1, none⟩ = some (.int .u64 0) by go_simp) (by go_simp); obtain ⟨cc5, fcc5⟩ := pf hB_v1 (show World.cell? _ ⟨w.heap.size + 1, 2, none⟩ = some (.int .u8 0) by go_simp) (by go_simp); have hs_v1 := hB_v1.size; (try simp only [World.size_alloc, World.size_setCell, World.size_drew] at hs_v1); have hBW : Below w.heap.size w v1 := below_after (w := w) (by go_grown) hB_v1; have hn_v1 := an (nl cc1) (nl cc3); clear hB_v1)
  (go_wp2_with fail; refine (mode_Known_b _ _).mono ?_; rintro en v2 ⟨rfl, hB_v2⟩; have lay_v2 := laid_after hB_v2; have hG := cell_grown cc1 (by go_grown) hB_v2; replace cc1 := cl hG cc1; replace cc2 := cl hG cc2; replace fcc3 := fl hG fcc3 cc3; replace cc3 := cl hG cc3; replace fcc4 := fl hG fcc4 cc4; replace cc4 := cl hG cc4; replace fcc5 := fl hG fcc5 cc5; replace cc5 := cl hG cc5; have hs_v2 := hG.size; clear hG; replace hBW : Below w.heap.size w v2 := below_after (w := w) (by go_grown) hB_v2; have hn_v2 := an (nl cc1) (nl cc3); clear hB_v2)
  (go_wp2_with fail; refine (pick1_no f h l _ _ (by go_simp) (by go_simp) hf nn).mono ?_; rintro en v3 ⟨rfl, hB_v3⟩; have lay_v3 := laid_after hB_v3; have hG := cell_grown cc1 (by go_grown) hB_v3; replace cc1 := cl hG cc1; replace cc2 := cl hG cc2; replace fcc3 := fl hG fcc3 cc3; replace cc3 := cl hG cc3; replace fcc4 := fl hG fcc4 cc4; replace cc4 := cl hG cc4; replace fcc5 := fl hG fcc5 cc5; replace cc5 := cl hG cc5; have hs_v3 := hG.size; clear hG; replace hBW : Below w.heap.size w v3 := below_after (w := w) (by go_grown) hB_v3; have hn_v3 := an (nl cc1) (nl cc3); clear hB_v3)
  (go_wp2_with fail; refine (fields_Unpack _ _ _ _).mono ?_; rw [u1.out, u2.out, u3.out, u4.out, u5.out]; rintro en v4 ⟨rfl, hB_v4⟩; have lay_v4 := laid_after hB_v4; have hG := cell_grown cc1 (by go_grown) hB_v4; replace cc1 := cl hG cc1; replace cc2 := cl hG cc2; replace fcc3 := fl hG fcc3 cc3; replace cc3 := cl hG cc3; replace fcc4 := fl hG fcc4 cc4; replace cc4 := cl hG cc4; replace fcc5 := fl hG fcc5 cc5; replace cc5 := cl hG cc5; have cc6 := cl hB_v4 (show World.cell? _ ⟨v3.heap.size, 0, none⟩ = some (.int .u64 0) by go_simp); have cc7 := cl hB_v4 (show World.cell? _ ⟨v3.heap.size, 1, none⟩ = some (.int .u64 0) by go_simp); have cc8 := cl hB_v4 (show World.cell? _ ⟨v3.heap.size, 2, none⟩ = some (.int .u8 0) by go_simp); have hs_v4 := hG.size; clear hG; replace hBW : Below w.heap.size w v4 := below_after (w := w) (by go_grown) hB_v4; have hn_v4 := an (nl cc1) (an (nl cc3) (nl cc6)); clear hB_v4)
  go_upto_region 7 with fail
  ((first | refine wp_rename ?_ | refine goal_rename ?_); intro W7 hw_W7; have hG := named cc1 W7 (by rw [hw_W7]; first | with_reducible exact drewN_below (Below.refl _ _) _ | go_grown); replace cc1 := cl hG cc1; replace cc2 := cl hG cc2; replace fcc3 := fl hG fcc3 cc3; replace cc3 := cl hG cc3; replace fcc4 := fl hG fcc4 cc4; replace cc4 := cl hG cc4; replace fcc5 := fl hG fcc5 cc5; replace cc5 := cl hG cc5; replace cc6 := cl hG cc6; replace cc7 := cl hG cc7; replace cc8 := cl hG cc8; have cc9 : W7.cell? ⟨v4.heap.size, 0, none⟩ = some (.bool s) := (by rw [hw_W7]; go_simp); have cc10 : W7.cell? ⟨v4.heap.size, 1, none⟩ = some (.int .u8 c) := (by rw [hw_W7]; go_simp); have cc11 : W7.cell? ⟨v4.heap.size, 2, none⟩ = some (.int .i64 e) := (by rw [hw_W7]; go_simp); have cc12 : W7.cell? ⟨v4.heap.size, 3, none⟩ = some (.int .u64 xh) := (by rw [hw_W7]; go_simp); have cc13 : W7.cell? ⟨v4.heap.size, 4, none⟩ = some (.int .u64 xl) := (by rw [hw_W7]; go_simp); replace hBW := below_after hBW hG; have hs_W7 := hG.size; clear hG; have hn_W7 := an (nl cc1) (an (nl cc3) (an (nl cc6) (nl cc9))); have lay_W7 : Laid W7 := Laid.below (w := w) (by assumption) hBW; clear hw_W7)
  rcases hk with ⟨g1, k0, k1, rfl⟩ | ⟨g1, g2, k0, k1, rfl⟩ | ⟨g1, g2, g3, k0, k1, rfl⟩ | ⟨g1, g2, g3, he, he2, t1, t2, t3, r0, r1, r2, hx⟩
  skip
  ·
    refine Lin.wp_region_lin (by kernel_rfl) (by intro _ _ d _ _ h; cases d <;> exact h) (by kernel_rfl) (fun w' => Below W7.heap.size W7 w' ∧ w'.cell? ⟨v4.heap.size, 0, none⟩ = some (.bool s) ∧ w'.cell? ⟨v4.heap.size, 1, none⟩ = some (.int .u8 c) ∧ w'.cell? ⟨v4.heap.size, 2, none⟩ = some (.int .i64 e) ∧ w'.cell? ⟨v4.heap.size, 3, none⟩ = some (.int .u64 xh) ∧ w'.cell? ⟨v4.heap.size, 4, none⟩ = some (.int .u64 xl)) ⟨(Below.refl _ _).drew, by go_simp, by go_simp, by go_simp, by go_simp, by go_simp⟩ ?_
    simp only [List.length_cons, List.length_nil, Nat.reduceAdd]
    refine Lin.Blk.out ?_
    iterate 4 (refine Lin.bl_val rfl rfl rfl ?_; apply Exists.intro; refine ⟨fun w' hw' => ?_, ?_⟩; (focus (have hBw := hw'.1; have hSw := hw'.2; clear hw'; (try dsimp only at hBw hSw); go_simp; first | with_reducible exact Lin.lin_value | with_reducible exact Lin.lin_skip)); (try simp only [Act.put, List.setIfInBounds_toArray, List.set_cons_zero, List.set_cons_succ]))
    iterate 3 (refine Lin.bl_skip rfl (by kernel_rfl) ?_; (try simp only [Act.put, List.setIfInBounds_toArray, List.set_cons_zero, List.set_cons_succ]))
    iterate 2 (refine Lin.bl_val rfl rfl rfl ?_; apply Exists.intro; refine ⟨fun w' hw' => ?_, ?_⟩; (focus (have hBw := hw'.1; have hSw := hw'.2; clear hw'; (try dsimp only at hBw hSw); go_simp; first | with_reducible exact Lin.lin_value | with_reducible exact Lin.lin_skip)); (try simp only [Act.put, List.setIfInBounds_toArray, List.set_cons_zero, List.set_cons_succ]))
    iterate 6 (refine Lin.bl_skip rfl (by kernel_rfl) ?_; (try simp only [Act.put, List.setIfInBounds_toArray, List.set_cons_zero, List.set_cons_succ]))
    (refine Lin.bl_val rfl rfl rfl ?_; apply Exists.intro; refine ⟨fun w' hw' => ?_, ?_⟩; (focus (have hBw := hw'.1; have hSw := hw'.2; clear hw'; (try dsimp only at hBw hSw); go_simp; first | with_reducible exact Lin.lin_value | with_reducible exact Lin.lin_skip)); (try simp only [Act.put, List.setIfInBounds_toArray, List.set_cons_zero, List.set_cons_succ]))
    refine Lin.bl_end ?_
    refine Lin.fin0 (fun wa wb hc hb => ⟨hc.1.trans (hb.mono hc.1.size), cell_later hb hc.2.1, cell_later hb hc.2.2.1, cell_later hb hc.2.2.2.1, cell_later hb hc.2.2.2.2.1, cell_later hb hc.2.2.2.2.2⟩) (by kernel_rfl) ?_
    intro X hw_X
    have hb_X := hw_X.1; clear hw_X
    have lay_X : Laid X := Laid.below lay_W7 hb_X
    (replace cc1 := cl hb_X cc1; replace cc2 := cl hb_X cc2; replace fcc3 := fl hb_X fcc3 cc3; replace cc3 := cl hb_X cc3; replace fcc4 := fl hb_X fcc4 cc4; replace cc4 := cl hb_X cc4; replace fcc5 := fl hb_X fcc5 cc5; replace cc5 := cl hb_X cc5; replace cc6 := cl hb_X cc6; replace cc7 := cl hb_X cc7; replace cc8 := cl hb_X cc8; replace cc9 := cl hb_X cc9; replace cc10 := cl hb_X cc10; replace cc11 := cl hb_X cc11; replace cc12 := cl hb_X cc12; replace cc13 := cl hb_X cc13; replace hBW := below_after hBW hb_X; have hsb_X := hb_X.size; have hn_X := an (nl cc1) (an (nl cc3) (an (nl cc6) (nl cc9))))
    refine wpAny_done (by kernel_rfl) ?_ _
    apply_assumption
    (first | refine wp_rename ?_ | refine goal_rename ?_); intro X_ hw_X; subst hw_X
    (go_wp2_with fail; refine (format_Cut _ _ _ _).mono ?_; rw [k0, k1]; rintro en v8 ⟨rfl, hB_v8⟩; have lay_v8 := laid_after hB_v8; have hG := cell_grown cc1 (by go_grown) hB_v8; replace cc1 := cl hG cc1; replace cc2 := cl hG cc2; replace fcc3 := fl hG fcc3 cc3; replace cc3 := cl hG cc3; replace fcc4 := fl hG fcc4 cc4; replace cc4 := cl hG cc4; replace fcc5 := fl hG fcc5 cc5; replace cc5 := cl hG cc5; replace cc6 := cl hG cc6; replace cc7 := cl hG cc7; replace cc8 := cl hG cc8; replace cc9 := cl hG cc9; replace cc10 := cl hG cc10; replace cc11 := cl hG cc11; replace cc12 := cl hG cc12; replace cc13 := cl hG cc13; have hs_v8 := hG.size; clear hG; replace hBW : Below w.heap.size w v8 := below_after (w := w) (by go_grown) hB_v8; have hn_v8 := an (nl cc1) (an (nl cc3) (an (nl cc6) (nl cc9))); clear hB_v8)
    go_wp2_with fail
    refine bodyPost_ret (by simp [results, Tryz.results8, go_sem, cc3, cc4, cc5]; try rfl) rfl ?_
    exact ⟨rfl, by go_grown⟩
  skip
  ·
    refine Lin.wp_region_lin (by kernel_rfl) (by intro _ _ d _ _ h; cases d <;> exact h) (by kernel_rfl) (fun w' => Below W7.heap.size W7 w' ∧ w'.cell? ⟨v4.heap.size, 0, none⟩ = some (.bool s) ∧ w'.cell? ⟨v4.heap.size, 1, none⟩ = some (.int .u8 c) ∧ w'.cell? ⟨v4.heap.size, 2, none⟩ = some (.int .i64 e) ∧ w'.cell? ⟨v4.heap.size, 3, none⟩ = some (.int .u64 xh) ∧ w'.cell? ⟨v4.heap.size, 4, none⟩ = some (.int .u64 xl)) ⟨(Below.refl _ _).drew, by go_simp, by go_simp, by go_simp, by go_simp, by go_simp⟩ ?_
    simp only [List.length_cons, List.length_nil, Nat.reduceAdd]
    refine Lin.Blk.out ?_
    iterate 4 (refine Lin.bl_val rfl rfl rfl ?_; apply Exists.intro; refine ⟨fun w' hw' => ?_, ?_⟩; (focus (have hBw := hw'.1; have hSw := hw'.2; clear hw'; (try dsimp only at hBw hSw); go_simp; first | with_reducible exact Lin.lin_value | with_reducible exact Lin.lin_skip)); (try simp only [Act.put, List.setIfInBounds_toArray, List.set_cons_zero, List.set_cons_succ]))
    iterate 3 (refine Lin.bl_val rfl rfl (by kernel_rfl) ?_; apply Exists.intro; refine ⟨fun w' hw' => ?_, ?_⟩; (focus (have hBw := hw'.1; have hSw := hw'.2; clear hw'; (try dsimp only at hBw hSw); go_simp; first | with_reducible exact Lin.lin_value | with_reducible exact Lin.lin_skip)); (try simp only [Act.put, List.setIfInBounds_toArray, List.set_cons_zero, List.set_cons_succ]))
    iterate 2 (refine Lin.bl_val rfl rfl rfl ?_; apply Exists.intro; refine ⟨fun w' hw' => ?_, ?_⟩; (focus (have hBw := hw'.1; have hSw := hw'.2; clear hw'; (try dsimp only at hBw hSw); go_simp; first | with_reducible exact Lin.lin_value | with_reducible exact Lin.lin_skip)); (try simp only [Act.put, List.setIfInBounds_toArray, List.set_cons_zero, List.set_cons_succ]))
    iterate 6 (refine Lin.bl_skip rfl (by kernel_rfl) ?_; (try simp only [Act.put, List.setIfInBounds_toArray, List.set_cons_zero, List.set_cons_succ]))
    (refine Lin.bl_val rfl rfl rfl ?_; apply Exists.intro; refine ⟨fun w' hw' => ?_, ?_⟩; (focus (have hBw := hw'.1; have hSw := hw'.2; clear hw'; (try dsimp only at hBw hSw); go_simp; first | with_reducible exact Lin.lin_value | with_reducible exact Lin.lin_skip)); (try simp only [Act.put, List.setIfInBounds_toArray, List.set_cons_zero, List.set_cons_succ]))
    refine Lin.bl_end ?_
    refine Lin.fin0 (fun wa wb hc hb => ⟨hc.1.trans (hb.mono hc.1.size), cell_later hb hc.2.1, cell_later hb hc.2.2.1, cell_later hb hc.2.2.2.1, cell_later hb hc.2.2.2.2.1, cell_later hb hc.2.2.2.2.2⟩) (by kernel_rfl) ?_
    intro X hw_X
    have hb_X := hw_X.1; clear hw_X
    have lay_X : Laid X := Laid.below lay_W7 hb_X
    (replace cc1 := cl hb_X cc1; replace cc2 := cl hb_X cc2; replace fcc3 := fl hb_X fcc3 cc3; replace cc3 := cl hb_X cc3; replace fcc4 := fl hb_X fcc4 cc4; replace cc4 := cl hb_X cc4; replace fcc5 := fl hb_X fcc5 cc5; replace cc5 := cl hb_X cc5; replace cc6 := cl hb_X cc6; replace cc7 := cl hb_X cc7; replace cc8 := cl hb_X cc8; replace cc9 := cl hb_X cc9; replace cc10 := cl hb_X cc10; replace cc11 := cl hb_X cc11; replace cc12 := cl hb_X cc12; replace cc13 := cl hb_X cc13; replace hBW := below_after hBW hb_X; have hsb_X := hb_X.size; have hn_X := an (nl cc1) (an (nl cc3) (an (nl cc6) (nl cc9))))
    refine wpAny_done (by kernel_rfl) ?_ _
    apply_assumption
    (first | refine wp_rename ?_ | refine goal_rename ?_); intro X_ hw_X; subst hw_X
    (go_wp2_with fail; refine (format_Cut _ _ _ _).mono ?_; rw [k0, k1]; rintro en v8 ⟨rfl, hB_v8⟩; have lay_v8 := laid_after hB_v8; have hG := cell_grown cc1 (by go_grown) hB_v8; replace cc1 := cl hG cc1; replace cc2 := cl hG cc2; replace fcc3 := fl hG fcc3 cc3; replace cc3 := cl hG cc3; replace fcc4 := fl hG fcc4 cc4; replace cc4 := cl hG cc4; replace fcc5 := fl hG fcc5 cc5; replace cc5 := cl hG cc5; replace cc6 := cl hG cc6; replace cc7 := cl hG cc7; replace cc8 := cl hG cc8; replace cc9 := cl hG cc9; replace cc10 := cl hG cc10; replace cc11 := cl hG cc11; replace cc12 := cl hG cc12; replace cc13 := cl hG cc13; have hs_v8 := hG.size; clear hG; replace hBW : Below w.heap.size w v8 := below_after (w := w) (by go_grown) hB_v8; have hn_v8 := an (nl cc1) (an (nl cc3) (an (nl cc6) (nl cc9))); clear hB_v8)
    go_wp2_with fail
    refine bodyPost_ret (by simp [results, Tryz.results8, go_sem, cc3, cc4, cc5]; try rfl) rfl ?_
    exact ⟨rfl, by go_grown⟩
  skip
  ·
    refine Lin.wp_region_lin (by kernel_rfl) (by intro _ _ d _ _ h; cases d <;> exact h) (by kernel_rfl) (fun w' => Below W7.heap.size W7 w' ∧ w'.cell? ⟨v4.heap.size, 0, none⟩ = some (.bool s) ∧ w'.cell? ⟨v4.heap.size, 1, none⟩ = some (.int .u8 c) ∧ w'.cell? ⟨v4.heap.size, 2, none⟩ = some (.int .i64 e) ∧ w'.cell? ⟨v4.heap.size, 3, none⟩ = some (.int .u64 xh) ∧ w'.cell? ⟨v4.heap.size, 4, none⟩ = some (.int .u64 xl)) ⟨(Below.refl _ _).drew, by go_simp, by go_simp, by go_simp, by go_simp, by go_simp⟩ ?_
    simp only [List.length_cons, List.length_nil, Nat.reduceAdd]
    refine Lin.Blk.out ?_
    iterate 4 (refine Lin.bl_val rfl rfl rfl ?_; apply Exists.intro; refine ⟨fun w' hw' => ?_, ?_⟩; (focus (have hBw := hw'.1; have hSw := hw'.2; clear hw'; (try dsimp only at hBw hSw); go_simp; first | with_reducible exact Lin.lin_value | with_reducible exact Lin.lin_skip)); (try simp only [Act.put, List.setIfInBounds_toArray, List.set_cons_zero, List.set_cons_succ]))
    iterate 3 (refine Lin.bl_val rfl rfl (by kernel_rfl) ?_; apply Exists.intro; refine ⟨fun w' hw' => ?_, ?_⟩; (focus (have hBw := hw'.1; have hSw := hw'.2; clear hw'; (try dsimp only at hBw hSw); go_simp; first | with_reducible exact Lin.lin_value | with_reducible exact Lin.lin_skip)); (try simp only [Act.put, List.setIfInBounds_toArray, List.set_cons_zero, List.set_cons_succ]))
    iterate 2 (refine Lin.bl_val rfl rfl rfl ?_; apply Exists.intro; refine ⟨fun w' hw' => ?_, ?_⟩; (focus (have hBw := hw'.1; have hSw := hw'.2; clear hw'; (try dsimp only at hBw hSw); go_simp; first | with_reducible exact Lin.lin_value | with_reducible exact Lin.lin_skip)); (try simp only [Act.put, List.setIfInBounds_toArray, List.set_cons_zero, List.set_cons_succ]))
    iterate 3 (refine Lin.bl_val rfl rfl (by kernel_rfl) ?_; apply Exists.intro; refine ⟨fun w' hw' => ?_, ?_⟩; (focus (have hBw := hw'.1; have hSw := hw'.2; clear hw'; (try dsimp only at hBw hSw); go_simp; first | with_reducible exact Lin.lin_value | with_reducible exact Lin.lin_skip)); (try simp only [Act.put, List.setIfInBounds_toArray, List.set_cons_zero, List.set_cons_succ]))
    (refine Lin.bl_val rfl rfl (by kernel_rfl) ?_; apply Exists.intro; refine ⟨fun w' hw' => ?_, ?_⟩; (focus (have hBw := hw'.1; have hSw := hw'.2; clear hw'; (try dsimp only at hBw hSw); have lay' : Laid w' := Laid.below lay_W7 hBw; go_simp; first | exact Lin.lin_ret (format_Prec _ _) rfl)); (try simp only [Act.put, List.setIfInBounds_toArray, List.set_cons_zero, List.set_cons_succ]))
    iterate 2 (refine Lin.bl_val rfl rfl (by kernel_rfl) ?_; apply Exists.intro; refine ⟨fun w' hw' => ?_, ?_⟩; (focus (have hBw := hw'.1; have hSw := hw'.2; clear hw'; (try dsimp only at hBw hSw); go_simp; first | with_reducible exact Lin.lin_value | with_reducible exact Lin.lin_skip)); (try simp only [Act.put, List.setIfInBounds_toArray, List.set_cons_zero, List.set_cons_succ]))
    (refine Lin.bl_val rfl rfl rfl ?_; apply Exists.intro; refine ⟨fun w' hw' => ?_, ?_⟩; (focus (have hBw := hw'.1; have hSw := hw'.2; clear hw'; (try dsimp only at hBw hSw); go_simp; first | with_reducible exact Lin.lin_value | with_reducible exact Lin.lin_skip)); (try simp only [Act.put, List.setIfInBounds_toArray, List.set_cons_zero, List.set_cons_succ]))
    refine Lin.bl_end ?_
    refine Lin.fin0 (fun wa wb hc hb => ⟨hc.1.trans (hb.mono hc.1.size), cell_later hb hc.2.1, cell_later hb hc.2.2.1, cell_later hb hc.2.2.2.1, cell_later hb hc.2.2.2.2.1, cell_later hb hc.2.2.2.2.2⟩) (by kernel_rfl) ?_
    intro X hw_X
    have hb_X := hw_X.1; clear hw_X
    have lay_X : Laid X := Laid.below lay_W7 hb_X
    (replace cc1 := cl hb_X cc1; replace cc2 := cl hb_X cc2; replace fcc3 := fl hb_X fcc3 cc3; replace cc3 := cl hb_X cc3; replace fcc4 := fl hb_X fcc4 cc4; replace cc4 := cl hb_X cc4; replace fcc5 := fl hb_X fcc5 cc5; replace cc5 := cl hb_X cc5; replace cc6 := cl hb_X cc6; replace cc7 := cl hb_X cc7; replace cc8 := cl hb_X cc8; replace cc9 := cl hb_X cc9; replace cc10 := cl hb_X cc10; replace cc11 := cl hb_X cc11; replace cc12 := cl hb_X cc12; replace cc13 := cl hb_X cc13; replace hBW := below_after hBW hb_X; have hsb_X := hb_X.size; have hn_X := an (nl cc1) (an (nl cc3) (an (nl cc6) (nl cc9))))
    refine wpAny_done (by kernel_rfl) ?_ _
    apply_assumption
    (first | refine wp_rename ?_ | refine goal_rename ?_); intro X_ hw_X; subst hw_X
    (go_wp2_with fail; refine (format_Cut _ _ _ _).mono ?_; rw [k0, k1]; rintro en v8 ⟨rfl, hB_v8⟩; have lay_v8 := laid_after hB_v8; have hG := cell_grown cc1 (by go_grown) hB_v8; replace cc1 := cl hG cc1; replace cc2 := cl hG cc2; replace fcc3 := fl hG fcc3 cc3; replace cc3 := cl hG cc3; replace fcc4 := fl hG fcc4 cc4; replace cc4 := cl hG cc4; replace fcc5 := fl hG fcc5 cc5; replace cc5 := cl hG cc5; replace cc6 := cl hG cc6; replace cc7 := cl hG cc7; replace cc8 := cl hG cc8; replace cc9 := cl hG cc9; replace cc10 := cl hG cc10; replace cc11 := cl hG cc11; replace cc12 := cl hG cc12; replace cc13 := cl hG cc13; have hs_v8 := hG.size; clear hG; replace hBW : Below w.heap.size w v8 := below_after (w := w) (by go_grown) hB_v8; have hn_v8 := an (nl cc1) (an (nl cc3) (an (nl cc6) (nl cc9))); clear hB_v8)
    go_wp2_with fail
    refine bodyPost_ret (by simp [results, Tryz.results8, go_sem, cc3, cc4, cc5]; try rfl) rfl ?_
    exact ⟨rfl, by go_grown⟩
  skip
  refine Lin.wp_region_lin (by kernel_rfl) (by intro _ _ d _ _ h; cases d <;> exact h) (by kernel_rfl) (fun w' => Below W7.heap.size W7 w' ∧ w'.cell? ⟨v4.heap.size, 0, none⟩ = some (.bool s) ∧ w'.cell? ⟨v4.heap.size, 1, none⟩ = some (.int .u8 c) ∧ w'.cell? ⟨v4.heap.size, 2, none⟩ = some (.int .i64 e) ∧ w'.cell? ⟨v4.heap.size, 3, none⟩ = some (.int .u64 xh) ∧ w'.cell? ⟨v4.heap.size, 4, none⟩ = some (.int .u64 xl)) ⟨(Below.refl _ _).drew, by go_simp, by go_simp, by go_simp, by go_simp, by go_simp⟩ ?_
  simp only [List.length_cons, List.length_nil, Nat.reduceAdd]
  refine Lin.Blk.out ?_
  iterate 4 (refine Lin.bl_val rfl rfl rfl ?_; apply Exists.intro; refine ⟨fun w' hw' => ?_, ?_⟩; (focus (have hBw := hw'.1; have hSw := hw'.2; clear hw'; (try dsimp only at hBw hSw); go_simp; first | with_reducible exact Lin.lin_value | with_reducible exact Lin.lin_skip)); (try simp only [Act.put, List.setIfInBounds_toArray, List.set_cons_zero, List.set_cons_succ]))
  iterate 3 (refine Lin.bl_val rfl rfl (by kernel_rfl) ?_; apply Exists.intro; refine ⟨fun w' hw' => ?_, ?_⟩; (focus (have hBw := hw'.1; have hSw := hw'.2; clear hw'; (try dsimp only at hBw hSw); go_simp; first | with_reducible exact Lin.lin_value | with_reducible exact Lin.lin_skip)); (try simp only [Act.put, List.setIfInBounds_toArray, List.set_cons_zero, List.set_cons_succ]))
  iterate 2 (refine Lin.bl_val rfl rfl rfl ?_; apply Exists.intro; refine ⟨fun w' hw' => ?_, ?_⟩; (focus (have hBw := hw'.1; have hSw := hw'.2; clear hw'; (try dsimp only at hBw hSw); go_simp; first | with_reducible exact Lin.lin_value | with_reducible exact Lin.lin_skip)); (try simp only [Act.put, List.setIfInBounds_toArray, List.set_cons_zero, List.set_cons_succ]))
  iterate 3 (refine Lin.bl_val rfl rfl (by kernel_rfl) ?_; apply Exists.intro; refine ⟨fun w' hw' => ?_, ?_⟩; (focus (have hBw := hw'.1; have hSw := hw'.2; clear hw'; (try dsimp only at hBw hSw); go_simp; first | with_reducible exact Lin.lin_value | with_reducible exact Lin.lin_skip)); (try simp only [Act.put, List.setIfInBounds_toArray, List.set_cons_zero, List.set_cons_succ]))
  (refine Lin.bl_val rfl rfl (by kernel_rfl) ?_; apply Exists.intro; refine ⟨fun w' hw' => ?_, ?_⟩; (focus (have hBw := hw'.1; have hSw := hw'.2; clear hw'; (try dsimp only at hBw hSw); have lay' : Laid w' := Laid.below lay_W7 hBw; go_simp; first | exact Lin.lin_ret (format_Prec _ _) rfl)); (try simp only [Act.put, List.setIfInBounds_toArray, List.set_cons_zero, List.set_cons_succ]))
  iterate 2 (refine Lin.bl_val rfl rfl (by kernel_rfl) ?_; apply Exists.intro; refine ⟨fun w' hw' => ?_, ?_⟩; (focus (have hBw := hw'.1; have hSw := hw'.2; clear hw'; (try dsimp only at hBw hSw); go_simp; first | with_reducible exact Lin.lin_value | with_reducible exact Lin.lin_skip)); (try simp only [Act.put, List.setIfInBounds_toArray, List.set_cons_zero, List.set_cons_succ]))
  (refine Lin.bl_val rfl rfl rfl ?_; apply Exists.intro; refine ⟨fun w' hw' => ?_, ?_⟩; (focus (have hBw := hw'.1; have hSw := hw'.2; clear hw'; (try dsimp only at hBw hSw); go_simp; first | with_reducible exact Lin.lin_value | with_reducible exact Lin.lin_skip)); (try simp only [Act.put, List.setIfInBounds_toArray, List.set_cons_zero, List.set_cons_succ]))
  refine Lin.bl_end ?_
  refine Lin.fin0 (fun wa wb hc hb => ⟨hc.1.trans (hb.mono hc.1.size), cell_later hb hc.2.1, cell_later hb hc.2.2.1, cell_later hb hc.2.2.2.1, cell_later hb hc.2.2.2.2.1, cell_later hb hc.2.2.2.2.2⟩) (by kernel_rfl) ?_
  intro X hw_X
  have hb_X := hw_X.1; clear hw_X
  have lay_X : Laid X := Laid.below lay_W7 hb_X
  (replace cc1 := cl hb_X cc1; replace cc2 := cl hb_X cc2; replace fcc3 := fl hb_X fcc3 cc3; replace cc3 := cl hb_X cc3; replace fcc4 := fl hb_X fcc4 cc4; replace cc4 := cl hb_X cc4; replace fcc5 := fl hb_X fcc5 cc5; replace cc5 := cl hb_X cc5; replace cc6 := cl hb_X cc6; replace cc7 := cl hb_X cc7; replace cc8 := cl hb_X cc8; replace cc9 := cl hb_X cc9; replace cc10 := cl hb_X cc10; replace cc11 := cl hb_X cc11; replace cc12 := cl hb_X cc12; replace cc13 := cl hb_X cc13; replace hBW := below_after hBW hb_X; have hsb_X := hb_X.size; have hn_X := an (nl cc1) (an (nl cc3) (an (nl cc6) (nl cc9))))
  refine wpAny_done (by kernel_rfl) ?_ _
  apply_assumption
  (first | refine wp_rename ?_ | refine goal_rename ?_); intro X_ hw_X; subst hw_X
  (go_wp2_with fail; refine (rint_whole _ _ _ _ _ _ _ he he2 hm0 hm).mono ?_; rw [t1, t2, t3]; rintro en v9 ⟨rfl, hB_v9⟩; have lay_v9 := laid_after hB_v9; have hG := cell_grown cc1 (by go_grown) hB_v9; replace cc1 := cl hG cc1; replace cc2 := cl hG cc2; replace fcc3 := fl hG fcc3 cc3; replace cc3 := cl hG cc3; replace fcc4 := fl hG fcc4 cc4; replace cc4 := cl hG cc4; replace fcc5 := fl hG fcc5 cc5; replace cc5 := cl hG cc5; replace cc6 := cl hG cc6; replace cc7 := cl hG cc7; replace cc8 := cl hG cc8; replace cc9 := cl hG cc9; replace cc10 := cl hG cc10; replace cc11 := cl hG cc11; replace cc12 := cl hG cc12; replace cc13 := cl hG cc13; have hs_v9 := hG.size; clear hG; replace hBW : Below w.heap.size w v9 := below_after (w := w) (by go_grown) hB_v9; have hn_v9 := an (nl cc1) (an (nl cc3) (an (nl cc6) (nl cc9))); clear hB_v9)
  go_upto_region 10 with fail
  ((first | refine wp_rename ?_ | refine goal_rename ?_); intro W10 hw_W10; have hG := named cc1 W10 (by rw [hw_W10]; first | with_reducible exact drewN_below (Below.refl _ _) _ | go_grown); replace cc1 := cl hG cc1; replace cc2 := cl hG cc2; replace fcc3 := fl hG fcc3 cc3; replace cc3 := cl hG cc3; replace fcc4 := fl hG fcc4 cc4; replace cc4 := cl hG cc4; replace fcc5 := fl hG fcc5 cc5; replace cc5 := cl hG cc5; replace cc6 := cl hG cc6; replace cc7 := cl hG cc7; replace cc8 := cl hG cc8; replace cc9 := cl hG cc9; replace cc10 := cl hG cc10; replace cc11 := cl hG cc11; replace cc12 := cl hG cc12; replace cc13 := cl hG cc13; have cc14 : W10.cell? ⟨v9.heap.size, 0, none⟩ = some (.int .u64 n1) := (by rw [hw_W10]; go_simp); have cc15 : W10.cell? ⟨v9.heap.size, 1, none⟩ = some (.int .u64 n0) := (by rw [hw_W10]; go_simp); replace hBW := below_after hBW hG; have hs_W10 := hG.size; clear hG; have hn_W10 := an (nl cc1) (an (nl cc3) (an (nl cc6) (an (nl cc9) (nl cc14)))); have lay_W10 : Laid W10 := Laid.below (w := w) (by assumption) hBW; clear hw_W10)
  refine Lin.wp_region_lin (by kernel_rfl) (by intro _ _ d _ _ h; cases d <;> exact h) (by kernel_rfl) (fun w' => Below W10.heap.size W10 w' ∧ w'.cell? ⟨v4.heap.size, 0, none⟩ = some (.bool s) ∧ w'.cell? ⟨v4.heap.size, 1, none⟩ = some (.int .u8 c) ∧ w'.cell? ⟨v4.heap.size, 2, none⟩ = some (.int .i64 e) ∧ w'.cell? ⟨v4.heap.size, 3, none⟩ = some (.int .u64 xh) ∧ w'.cell? ⟨v4.heap.size, 4, none⟩ = some (.int .u64 xl) ∧ w'.cell? ⟨v9.heap.size, 0, none⟩ = some (.int .u64 n1) ∧ w'.cell? ⟨v9.heap.size, 1, none⟩ = some (.int .u64 n0)) ⟨(Below.refl _ _).drew, by go_simp, by go_simp, by go_simp, by go_simp, by go_simp, by go_simp, by go_simp⟩ ?_
  simp only [List.length_cons, List.length_nil, Nat.reduceAdd]
  refine Lin.Blk.out ?_
  iterate 4 (refine Lin.bl_val rfl rfl rfl ?_; apply Exists.intro; refine ⟨fun w' hw' => ?_, ?_⟩; (focus (have hBw := hw'.1; have hSw := hw'.2; clear hw'; (try dsimp only at hBw hSw); go_simp; first | with_reducible exact Lin.lin_value | with_reducible exact Lin.lin_skip)); (try simp only [Act.put, List.setIfInBounds_toArray, List.set_cons_zero, List.set_cons_succ]))
  iterate 2 (refine Lin.bl_val rfl rfl rfl ?_; apply Exists.intro; refine ⟨fun w' hw' => ?_, ?_⟩; (focus (have hBw := hw'.1; have hSw := hw'.2; clear hw'; (try dsimp only at hBw hSw); have lay' : Laid w' := Laid.below lay_W10 hBw; go_simp; first | exact Lin.lin_ret (wide_Of _ _ _) rfl | exact Lin.lin_ret (pack_Exact _ _ _ _ _ _ _ _) (by rw [r0, r1, r2]))); (try simp only [Act.put, List.setIfInBounds_toArray, List.set_cons_zero, List.set_cons_succ]))
  (refine Lin.bl_val rfl rfl rfl ?_; apply Exists.intro; refine ⟨fun w' hw' => ?_, ?_⟩; (focus (have hBw := hw'.1; have hSw := hw'.2; clear hw'; (try dsimp only at hBw hSw); go_simp; first | with_reducible exact Lin.lin_value | with_reducible exact Lin.lin_skip)); (try simp only [Act.put, List.setIfInBounds_toArray, List.set_cons_zero, List.set_cons_succ]))
  iterate 2 (refine Lin.bl_loose rfl rfl rfl ?_; apply Exists.intro; refine ⟨fun w' => ?_, ?_⟩; (focus (go_simp; try with_reducible rfl)); (try simp only [Act.put, List.setIfInBounds_toArray, List.set_cons_zero, List.set_cons_succ]))
  refine Lin.bl_rest rfl ?_
  refine Lin.bl_rest rfl ?_
  refine Lin.bl_rest rfl ?_
  refine Lin.bl_end ?_
  refine Lin.new1 W10.heap.size (fun wa wb hc hb => ⟨hc.1.trans (hb.mono hc.1.size), cell_later hb hc.2.1, cell_later hb hc.2.2.1, cell_later hb hc.2.2.2.1, cell_later hb hc.2.2.2.2.1, cell_later hb hc.2.2.2.2.2.1, cell_later hb hc.2.2.2.2.2.2.1, cell_later hb hc.2.2.2.2.2.2.2⟩) (fun wa hc => hc.1.size) 9 _ rfl rfl (by kernel_rfl) (by kernel_rfl) rfl (.agg #[.int .u64 0, .int .u64 0]) (by intro t ht; cases ht <;> (intro w; kernel_rfl)) ?_
  intro g Y hw_Y lo_g ho_g
  have hb_Y := hw_Y.1; clear hw_Y
  have lay_Y : Laid Y := Laid.below lay_W10 hb_Y
  (replace cc1 := cl hb_Y cc1; replace cc2 := cl hb_Y cc2; replace fcc3 := fl hb_Y fcc3 cc3; replace cc3 := cl hb_Y cc3; replace fcc4 := fl hb_Y fcc4 cc4; replace cc4 := cl hb_Y cc4; replace fcc5 := fl hb_Y fcc5 cc5; replace cc5 := cl hb_Y cc5; replace cc6 := cl hb_Y cc6; replace cc7 := cl hb_Y cc7; replace cc8 := cl hb_Y cc8; replace cc9 := cl hb_Y cc9; replace cc10 := cl hb_Y cc10; replace cc11 := cl hb_Y cc11; replace cc12 := cl hb_Y cc12; replace cc13 := cl hb_Y cc13; replace cc14 := cl hb_Y cc14; replace cc15 := cl hb_Y cc15; replace hBW := below_after hBW hb_Y; have hsb_Y := hb_Y.size; have hn_Y := an (nl cc1) (an (nl cc3) (an (nl cc6) (an (nl cc9) (nl cc14)))))
  have hi_g := Lin.heap_lt ho_g
  have cc16 : Y.cell? ⟨g, 0, none⟩ = some (.int .u64 0) := Lin.heap_cell ho_g rfl; have fcc16 : Y.frozen? ⟨g, 0, none⟩ = false := Lin.heap_free ho_g
  have cc17 : Y.cell? ⟨g, 1, none⟩ = some (.int .u64 0) := Lin.heap_cell ho_g rfl; have fcc17 : Y.frozen? ⟨g, 1, none⟩ = false := Lin.heap_free ho_g
  clear ho_g
  have hN_Y : g ≠ Y.heap.size ∧ Y.heap.size ≠ g ∧ w.heap.size ≤ g := (by omega)
  unfold Lin.ptrOf
  (try simp only [Act.put, List.setIfInBounds_toArray, List.set_cons_zero, List.set_cons_succ])
  have hM_Y : w.heap.size ≠ g ∧ g ≠ w.heap.size ∧ w.heap.size + 1 ≠ g ∧ g ≠ w.heap.size + 1 ∧ v3.heap.size ≠ g ∧ g ≠ v3.heap.size ∧ v4.heap.size ≠ g ∧ g ≠ v4.heap.size ∧ v9.heap.size ≠ g ∧ g ≠ v9.heap.size := (by omega)
  (refine wpAny_ready (rs := [10]) (by kernel_rfl) (by simp) ?_; refine AllReady.cons rfl (fun K hK => ?_) AllReady.nil; go_simp; refine hK _ _ ?_; clear hK K)
  (refine wpAny_ready (rs := [11]) (by kernel_rfl) (by simp) ?_; refine AllReady.cons rfl (fun K hK => ?_) AllReady.nil; go_simp; refine hK _ _ ?_; clear hK K)
  refine wpAny_done (by kernel_rfl) ?_ _
  apply_assumption
  ((first | refine wp_rename ?_ | refine goal_rename ?_); intro Ys hw_Ys; replace cc1 := rn hw_Ys cc1 (by go_simp); replace cc2 := rn hw_Ys cc2 (by go_simp); replace cc3 := rn hw_Ys cc3 (by go_simp); replace fcc3 := rf hw_Ys fcc3 (by go_simp); replace cc4 := rn hw_Ys cc4 (by go_simp); replace fcc4 := rf hw_Ys fcc4 (by go_simp); replace cc5 := rn hw_Ys cc5 (by go_simp); replace fcc5 := rf hw_Ys fcc5 (by go_simp); replace cc6 := rn hw_Ys cc6 (by go_simp); replace cc7 := rn hw_Ys cc7 (by go_simp); replace cc8 := rn hw_Ys cc8 (by go_simp); replace cc9 := rn hw_Ys cc9 (by go_simp); replace cc10 := rn hw_Ys cc10 (by go_simp); replace cc11 := rn hw_Ys cc11 (by go_simp); replace cc12 := rn hw_Ys cc12 (by go_simp); replace cc13 := rn hw_Ys cc13 (by go_simp); replace cc14 := rn hw_Ys cc14 (by go_simp); replace cc15 := rn hw_Ys cc15 (by go_simp); replace cc16 : Ys.cell? ⟨g, 0, none⟩ = some (.int .u64 rh) := (by rw [hw_Ys]; go_simp); replace fcc16 := rf hw_Ys fcc16 (by go_simp); replace cc17 : Ys.cell? ⟨g, 1, none⟩ = some (.int .u64 rl) := (by rw [hw_Ys]; go_simp); replace fcc17 := rf hw_Ys fcc17 (by go_simp); replace hBW : Below w.heap.size w Ys := (by rw [hw_Ys]; (first | with_reducible exact drewN_below (by assumption) _ | go_grown)); have hn_Ys := an (nl cc1) (an (nl cc3) (an (nl cc6) (an (nl cc9) (an (nl cc14) (nl cc16))))); have lay_Ys : Laid Ys := Laid.below (w := w) (by assumption) hBW; clear hw_Ys)
  rcases hx with ⟨rfl, rfl, rfl⟩ | ⟨rfl, rfl, rfl⟩ | ⟨rfl, rfl⟩
  all_goals (
  go_wp2_with fail
  refine bodyPost_ret (by simp [results, Tryz.results8, go_sem, cc3, cc4, cc5]; try rfl) rfl ?_
  exact ⟨rfl, by go_grown⟩)
end Go.Proofs.YtkpjeceofcfnkaaGreatDoor
