/- The walks of chapter 14: goes, OverKnown: for every input. -/
import Derived.Test.YtgpedgppdggjmaaDoorOver
set_option linter.unusedSimpArgs false
set_option linter.unusedVariables false
namespace Go.Proofs.YtgpedgppdggjmaaDoor
open Go.RowKit Go.Hb
theorem cat_01 : cat 0 1 = 1 := rfl
set_option maxRecDepth 100000 in
set_option maxHeartbeats 4000000 in
theorem law14_goes (w : World) [Laid w] :
    Calls Tryd.prog 19 #[] w fun en w' => en = .returned (.bool true) ∧ Below w.heap.size w w' := by
  have a1 : hi (overO 0 0 false) = 0 := by decide +kernel
  have a2 : lo (overO 0 0 false) = 31744 := by decide +kernel
  have a3 : overFl 0 0 = 20 := by decide +kernel
  have b1 : hi (overO 0 4 true) = 0 := by decide +kernel
  have b2 : lo (overO 0 4 true) = 64511 := by decide +kernel
  have b3 : overFl 0 4 = 20 := by decide +kernel
  have c1 : hi (makeF 1 true 0 (cat 0 1)) = 0 := by decide +kernel
  have c2 : lo (makeF 1 true 0 (cat 0 1)) = 2147483649 := by decide +kernel
  have d1 : hi (makeF 0 false 1 0) = 0 := by decide +kernel
  have d2 : lo (makeF 0 false 1 0) = 1024 := by decide +kernel
  have e1 : beyondS 0 16 = true := by decide +kernel
  have e2 : tinyO 0 (-15) = true := by decide +kernel
  go_enter Tryd.func19, Tryd.ntmps19
  (go_wp2_with fail; refine (over_all _ _ _ _).mono ?_; rintro en v1 ⟨rfl, hB_v1⟩; have lay_v1 := laid_after hB_v1; have hW_v1 : Below w.heap.size w v1 := below_after (w := w) (by go_grown) hB_v1; have hz_v1 := hW_v1.size; clear hB_v1)
  (go_wp2_with fail; refine (over_all _ _ _ _).mono ?_; rintro en v2 ⟨rfl, hB_v2⟩; have lay_v2 := laid_after hB_v2; have hW_v2 : Below w.heap.size w v2 := below_after (w := w) (by go_grown) hB_v2; have hz_v2 := hW_v2.size; clear hB_v2)
  (go_wp2_with fail; refine (over_Least _ _ _).mono ?_; rintro en v3 ⟨rfl, hB_v3⟩; have lay_v3 := laid_after hB_v3; have hW_v3 : Below w.heap.size w v3 := below_after (w := w) (by go_grown) hB_v3; have hz_v3 := hW_v3.size; clear hB_v3)
  (go_wp2_with fail; refine (over_Normal _ _ _).mono ?_; rintro en v4 ⟨rfl, hB_v4⟩; have lay_v4 := laid_after hB_v4; have hW_v4 : Below w.heap.size w v4 := below_after (w := w) (by go_grown) hB_v4; have hz_v4 := hW_v4.size; clear hB_v4)
  (go_wp2_with fail; refine (over_Beyond_all _ _ _).mono ?_; rintro en v5 ⟨rfl, hB_v5⟩; have lay_v5 := laid_after hB_v5; have hW_v5 : Below w.heap.size w v5 := below_after (w := w) (by go_grown) hB_v5; have hz_v5 := hW_v5.size; clear hB_v5)
  (go_wp2_with fail; refine (over_Tiny_all _ _ _).mono ?_; rintro en v6 ⟨rfl, hB_v6⟩; have lay_v6 := laid_after hB_v6; have hW_v6 : Below w.heap.size w v6 := below_after (w := w) (by go_grown) hB_v6; have hz_v6 := hW_v6.size; clear hB_v6)
  go_wp2_with fail
  go_returns
  exact ⟨rfl, by go_grown⟩
end Go.Proofs.YtgpedgppdggjmaaDoor
