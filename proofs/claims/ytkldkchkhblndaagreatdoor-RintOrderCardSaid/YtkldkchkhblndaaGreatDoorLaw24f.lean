/- Chapter 24's size. Condition: the listed table is laid. -/
import Derived.Test.YtkldkchkhblndaaGreatDoorLaw24a
import Derived.Test.YtkldkchkhblndaaGreatDoorSumX
import Derived.Test.YtkldkchkhblndaaGreatDoorRintQ
set_option linter.unusedSimpArgs false
set_option linter.unusedVariables false
namespace Go.Proofs.YtkldkchkhblndaaGreatDoor
open Go.RowKit Go.Hb
set_option maxRecDepth 100000 in
theorem law24_size (f h l : Int) [hU : U8 f] [U64 h] [U64 l] (w : World) [hLay : Laid w] :
    Calls Tryz.prog 32 #[.int .u8 f, .agg #[.int .u64 (h), .int .u64 (l)]] w fun en w' => en = .returned (.agg #[.int .u64 (hi (sizeF f (cat h l))), .int .u64 (lo (sizeF f (cat h l)))]) ∧ Below w.heap.size w w' := by
  go_enter Tryz.func32, Tryz.ntmps32
  skip
  (go_wp2_with fail; refine (format_Split _ _ _ _).mono ?_; rintro en v1 ⟨rfl, hB_v1⟩; have lay_v1 := laid_after hB_v1; have cc1 := cl hB_v1 (show World.cell? _ ⟨w.heap.size, 0, none⟩ = some (.int .u64 h) by go_simp); have cc2 := cl hB_v1 (show World.cell? _ ⟨w.heap.size, 1, none⟩ = some (.int .u64 l) by go_simp); obtain ⟨cc3, fcc3⟩ := pf hB_v1 (show World.cell? _ ⟨w.heap.size + 1, 0, none⟩ = some (.int .u64 0) by go_simp) (by go_simp); obtain ⟨cc4, fcc4⟩ := pf hB_v1 (show World.cell? _ ⟨w.heap.size + 1, 1, none⟩ = some (.int .u64 0) by go_simp) (by go_simp); have hs_v1 := hB_v1.size; (try simp only [World.size_alloc, World.size_setCell, World.size_drew] at hs_v1); have hBW : Below w.heap.size w v1 := below_after (w := w) (by go_grown) hB_v1; have hn_v1 := an (nl cc1) (nl cc3); clear hB_v1)
  (go_wp2_with fail; refine (format_Make _ _ _ _ _ _).mono ?_; rintro en v2 ⟨rfl, hB_v2⟩; have lay_v2 := laid_after hB_v2; have hG := cell_grown cc1 (by go_grown) hB_v2; replace cc1 := cl hG cc1; replace cc2 := cl hG cc2; replace fcc3 := fl hG fcc3 cc3; replace cc3 := cl hG cc3; replace fcc4 := fl hG fcc4 cc4; replace cc4 := cl hG cc4; have cc5 := cl hB_v2 (show World.cell? _ ⟨v1.heap.size, 0, none⟩ = some (.int .u64 (hi (fracF f (cat h l)))) by go_simp); have cc6 := cl hB_v2 (show World.cell? _ ⟨v1.heap.size, 1, none⟩ = some (.int .u64 (lo (fracF f (cat h l)))) by go_simp); have hs_v2 := hG.size; clear hG; replace hBW : Below w.heap.size w v2 := below_after (w := w) (by go_grown) hB_v2; have hn_v2 := an (nl cc1) (an (nl cc3) (nl cc5)); clear hB_v2)
  go_wp2_with fail
  refine bodyPost_ret (by simp [results, Tryz.results32, go_sem, cc3, cc4]; try rfl) rfl ?_
  exact ⟨rfl, by go_grown⟩
end Go.Proofs.YtkldkchkhblndaaGreatDoor
