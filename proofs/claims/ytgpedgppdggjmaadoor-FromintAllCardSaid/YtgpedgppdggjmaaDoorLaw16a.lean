/- The walks of chapter 16: top, goes. No condition. -/
import Derived.Test.YtgpedgppdggjmaaDoorPack6
import Derived.Test.YtgpedgppdggjmaaDoorKit
set_option linter.unusedSimpArgs false
set_option linter.unusedVariables false
namespace Go.Proofs.YtgpedgppdggjmaaDoor
open Go.RowKit Go.Hb
theorem top_bit : Go.bits BinOp.or IntKind.u64 0 9223372036854775808 = 9223372036854775808 := by decide
theorem law16_top (x0 x1 x2 x3 : Int) (w : World) [Laid w] :
    Calls Tryd.prog 72 #[.agg #[.int .u64 (x0), .int .u64 (x1), .int .u64 (x2), .int .u64 (x3)]] w fun en w' => en = .returned (.agg #[.int .u64 (x0), .int .u64 (x1), .int .u64 (x2), .int .u64 (Go.bits BinOp.or IntKind.u64 x3 9223372036854775808)]) ∧ Below w.heap.size w w' := by
  go_enter Tryd.func72, Tryd.ntmps72
  go_wp2_with fail
  refine bodyPost_ret (by simp [results, Tryd.results72, go_sem]; try rfl) rfl ?_
  exact ⟨rfl, by go_grown⟩
instance u64_Law16a1 : U64 9223372036854775808 := ⟨by omega, by omega⟩
instance u64_Law16a2 : U64 9227875636482146304 := ⟨by omega, by omega⟩
set_option maxRecDepth 100000 in
set_option maxHeartbeats 8000000 in
theorem law16_goes (w : World) [Laid w] :
    Calls Tryd.prog 23 #[] w fun en w' => en = .returned (.bool true) ∧ Below w.heap.size w w' := by
  have t1 : Go.bits BinOp.or IntKind.u64 4503599627370496 9223372036854775808 = 9227875636482146304 := by decide
  have a0 : hi (resB 0 0 false 0 (cat4 0 0 0 9223372036854775808)) = 0 := by decide +kernel
  have a1 : lo (resB 0 0 false 0 (cat4 0 0 0 9223372036854775808)) = 15360 := by decide +kernel
  have a2 : resFl 0 0 false false 0 (cat4 0 0 0 9223372036854775808) = 0 := by decide +kernel
  have b0 : hi (resB 0 0 false 0 (cat4 0 0 0 9227875636482146304)) = 0 := by decide +kernel
  have b1 : lo (resB 0 0 false 0 (cat4 0 0 0 9227875636482146304)) = 15360 := by decide +kernel
  have b2 : resFl 0 0 false false 0 (cat4 0 0 0 9227875636482146304) = 16 := by decide +kernel
  have c0 : hi (resB 0 2 false 0 (cat4 0 0 0 9227875636482146304)) = 0 := by decide +kernel
  have c1 : lo (resB 0 2 false 0 (cat4 0 0 0 9227875636482146304)) = 15361 := by decide +kernel
  have c2 : resFl 0 2 false false 0 (cat4 0 0 0 9227875636482146304) = 16 := by decide +kernel
  have d0 : hi (resB 0 4 false 16 (cat4 0 0 0 9227875636482146304)) = 0 := by decide +kernel
  have d1 : lo (resB 0 4 false 16 (cat4 0 0 0 9227875636482146304)) = 31743 := by decide +kernel
  have d2 : resFl 0 4 false false 16 (cat4 0 0 0 9227875636482146304) = 20 := by decide +kernel
  have e0 : hi (resB 0 2 false (-25) (cat4 0 0 0 9227875636482146304)) = 0 := by decide +kernel
  have e1 : lo (resB 0 2 false (-25) (cat4 0 0 0 9227875636482146304)) = 1 := by decide +kernel
  have e2 : resFl 0 2 false false (-25) (cat4 0 0 0 9227875636482146304) = 24 := by decide +kernel
  go_enter Tryd.func23, Tryd.ntmps23
  skip
  (go_wp2_with fail; refine (law16_top _ _ _ _ _).mono ?_; rw [t1]; rintro en v1 ⟨rfl, hB_v1⟩; have lay_v1 := laid_after hB_v1; have hs_v1 := hB_v1.size; (try simp only [World.size_alloc, World.size_setCell, World.size_drew] at hs_v1); have hBW : Below w.heap.size w v1 := below_after (w := w) (by go_grown) hB_v1; clear hB_v1)
  (go_wp2_with fail; refine (law16_top _ _ _ _ _).mono ?_; rw [top_bit]; rintro en v2 ⟨rfl, hB_v2⟩; have lay_v2 := laid_after hB_v2; have cc1 := cl hB_v2 (show World.cell? _ ⟨v1.heap.size, 0, none⟩ = some (.int .u64 0) by go_simp); have cc2 := cl hB_v2 (show World.cell? _ ⟨v1.heap.size, 1, none⟩ = some (.int .u64 0) by go_simp); have cc3 := cl hB_v2 (show World.cell? _ ⟨v1.heap.size, 2, none⟩ = some (.int .u64 0) by go_simp); have cc4 := cl hB_v2 (show World.cell? _ ⟨v1.heap.size, 3, none⟩ = some (.int .u64 9227875636482146304) by go_simp); have hs_v2 := hB_v2.size; (try simp only [World.size_alloc, World.size_setCell, World.size_drew] at hs_v2); replace hBW : Below w.heap.size w v2 := below_after (w := w) (by go_grown) hB_v2; have hn_v2 := nl cc1; clear hB_v2)
  (go_wp2_with fail; refine (pack_Round _ _ _ _ _ _ _ _ _ _).mono ?_; rw [a0, a1, a2]; rintro en v3 ⟨rfl, hB_v3⟩; have lay_v3 := laid_after hB_v3; have hG := cell_grown cc1 (by go_grown) hB_v3; replace cc1 := cl hG cc1; replace cc2 := cl hG cc2; replace cc3 := cl hG cc3; replace cc4 := cl hG cc4; have hs_v3 := hG.size; clear hG; replace hBW : Below w.heap.size w v3 := below_after (w := w) (by go_grown) hB_v3; have hn_v3 := nl cc1; clear hB_v3)
  (go_wp2_with fail; refine (pack_Round _ _ _ _ _ _ _ _ _ _).mono ?_; rw [b0, b1, b2]; rintro en v4 ⟨rfl, hB_v4⟩; have lay_v4 := laid_after hB_v4; have hG := cell_grown cc1 (by go_grown) hB_v4; replace cc1 := cl hG cc1; replace cc2 := cl hG cc2; replace cc3 := cl hG cc3; replace cc4 := cl hG cc4; have cc5 := cl hB_v4 (show World.cell? _ ⟨v3.heap.size, 0, none⟩ = some (.int .u64 0) by go_simp); have cc6 := cl hB_v4 (show World.cell? _ ⟨v3.heap.size, 1, none⟩ = some (.int .u64 15360) by go_simp); have cc7 := cl hB_v4 (show World.cell? _ ⟨v3.heap.size, 2, none⟩ = some (.int .u8 0) by go_simp); have hs_v4 := hG.size; clear hG; replace hBW : Below w.heap.size w v4 := below_after (w := w) (by go_grown) hB_v4; have hn_v4 := an (nl cc1) (nl cc5); clear hB_v4)
  (go_wp2_with fail; refine (pack_Round _ _ _ _ _ _ _ _ _ _).mono ?_; rw [c0, c1, c2]; rintro en v5 ⟨rfl, hB_v5⟩; have lay_v5 := laid_after hB_v5; have hG := cell_grown cc1 (by go_grown) hB_v5; replace cc1 := cl hG cc1; replace cc2 := cl hG cc2; replace cc3 := cl hG cc3; replace cc4 := cl hG cc4; replace cc5 := cl hG cc5; replace cc6 := cl hG cc6; replace cc7 := cl hG cc7; have cc8 := cl hB_v5 (show World.cell? _ ⟨v4.heap.size, 0, none⟩ = some (.int .u64 0) by go_simp); have cc9 := cl hB_v5 (show World.cell? _ ⟨v4.heap.size, 1, none⟩ = some (.int .u64 15360) by go_simp); have cc10 := cl hB_v5 (show World.cell? _ ⟨v4.heap.size, 2, none⟩ = some (.int .u8 16) by go_simp); have hs_v5 := hG.size; clear hG; replace hBW : Below w.heap.size w v5 := below_after (w := w) (by go_grown) hB_v5; have hn_v5 := an (nl cc1) (an (nl cc5) (nl cc8)); clear hB_v5)
  (go_wp2_with fail; refine (pack_Round _ _ _ _ _ _ _ _ _ _).mono ?_; rw [d0, d1, d2]; rintro en v6 ⟨rfl, hB_v6⟩; have lay_v6 := laid_after hB_v6; have hG := cell_grown cc1 (by go_grown) hB_v6; replace cc1 := cl hG cc1; replace cc2 := cl hG cc2; replace cc3 := cl hG cc3; replace cc4 := cl hG cc4; replace cc5 := cl hG cc5; replace cc6 := cl hG cc6; replace cc7 := cl hG cc7; replace cc8 := cl hG cc8; replace cc9 := cl hG cc9; replace cc10 := cl hG cc10; have cc11 := cl hB_v6 (show World.cell? _ ⟨v5.heap.size, 0, none⟩ = some (.int .u64 0) by go_simp); have cc12 := cl hB_v6 (show World.cell? _ ⟨v5.heap.size, 1, none⟩ = some (.int .u64 15361) by go_simp); have cc13 := cl hB_v6 (show World.cell? _ ⟨v5.heap.size, 2, none⟩ = some (.int .u8 16) by go_simp); have hs_v6 := hG.size; clear hG; replace hBW : Below w.heap.size w v6 := below_after (w := w) (by go_grown) hB_v6; have hn_v6 := an (nl cc1) (an (nl cc5) (an (nl cc8) (nl cc11))); clear hB_v6)
  (go_wp2_with fail; refine (pack_Round _ _ _ _ _ _ _ _ _ _).mono ?_; rw [e0, e1, e2]; rintro en v7 ⟨rfl, hB_v7⟩; have lay_v7 := laid_after hB_v7; have hG := cell_grown cc1 (by go_grown) hB_v7; replace cc1 := cl hG cc1; replace cc2 := cl hG cc2; replace cc3 := cl hG cc3; replace cc4 := cl hG cc4; replace cc5 := cl hG cc5; replace cc6 := cl hG cc6; replace cc7 := cl hG cc7; replace cc8 := cl hG cc8; replace cc9 := cl hG cc9; replace cc10 := cl hG cc10; replace cc11 := cl hG cc11; replace cc12 := cl hG cc12; replace cc13 := cl hG cc13; have cc14 := cl hB_v7 (show World.cell? _ ⟨v6.heap.size, 0, none⟩ = some (.int .u64 0) by go_simp); have cc15 := cl hB_v7 (show World.cell? _ ⟨v6.heap.size, 1, none⟩ = some (.int .u64 31743) by go_simp); have cc16 := cl hB_v7 (show World.cell? _ ⟨v6.heap.size, 2, none⟩ = some (.int .u8 20) by go_simp); have hs_v7 := hG.size; clear hG; replace hBW : Below w.heap.size w v7 := below_after (w := w) (by go_grown) hB_v7; have hn_v7 := an (nl cc1) (an (nl cc5) (an (nl cc8) (an (nl cc11) (nl cc14)))); clear hB_v7)
  go_wp2_with fail
  go_returns
  exact ⟨rfl, by go_grown⟩
end Go.Proofs.YtgpedgppdggjmaaDoor
