/- CompLeast: the law's row and its tied card: it returns true at every input. Condition: the listed table is as the program's start lays it (the card ties it). -/
import Derived.Test.YtkmgheabjcieaaaDoorRowL
import Derived.Test.YtkmgheabjcieaaaDoorLaw28l
import Derived.Test.YtkmgheabjcieaaaDoorCards
import Derived.Test.YtkmgheabjcieaaaDoorTie
import Derived.SevenTiedAt
set_option linter.unusedSimpArgs false
set_option linter.unusedVariables false
namespace Go.Proofs.YtkmgheabjcieaaaDoor
open Go.ChangeShapes Go.WideShapes Go.RowKit Go.Hb
set_option maxRecDepth 100000 in
theorem compLeast_lifted (os : Os) (started : os.Started) (H : Type) (enc : TypeId × Value → H) :
    ReturnsInHanded {} Tryd.checked os 3 .any (fun w args => (Rows.compLeastSpec.pre enc Tryd.prog Tryd.f3 [] false w args ∧ laidMetH Tryd.prog [("hairsbreadth/format.table", Rows.laid_hairsbreadth_format_table)] w) ∧ sizedMet enc Tryd.prog Tryd.f3 (OpenSpec.ofChange Rows.compLeastSpec) false w args)
      (Rows.compLeastSpec.post enc Tryd.prog Tryd.f3 false true false false) := by
  refine returnsInHanded_of_change_and (C := Tryd.checked) (X := fun w _ => laidMetH Tryd.prog [("hairsbreadth/format.table", Rows.laid_hairsbreadth_format_table)] w) (fun _ _ _ hh h => h.of_heap hh) own0 started (by kernel_rfl) Tryd.func3
    (ChangeSpec.witness_shaped (enc := enc) (C := Tryd.checked) (os := os) (X := fun w _ => laidMetH Tryd.prog [("hairsbreadth/format.table", Rows.laid_hairsbreadth_format_table)] w) false (World.doorLaid Tryd.prog 400 os) #[.int .u8 0, .slice none 0 0] 8 rfl (World.shaped_of_RefB (by kernel_rfl) (by kernel_rfl)) (by kernel_rfl) (by kernel_rfl) (by kernel_rfl) (door_met os _)) ?_
  intro W base args ds gs before hval0 hW _ _ hL _
  have hval : ∀ (j : Nat) t v, Tryd.f3.params[j]? = some t → args[j]? = some v → Value.okWide Tryd.prog W .any base t v := hval0
  have hW' := hW
  obtain ⟨p, q, hA0, hV, rfl, hfz, hnd⟩ := hW
  have hA : DataW.TrodAll enc Tryd.prog W 0 (fun _ => true) true Tryd.f3.params.toList args.toList ds p := hA0
  rw [Tryd.params3] at hA hval
  obtain ⟨al⟩ := args
  have hlay := laid_of hL
  obtain ⟨rfl, rfl⟩ := trodVars_none hV
  obtain ⟨v0, vs0, d0, ds0, p0, q0, rfl, rfl, h0, hA1, rfl⟩ := trodAll_peel hA
  obtain ⟨v1, vs1, d1, ds1, p1, q1, rfl, rfl, h1, hA2, rfl⟩ := trodAll_peel hA1
  obtain ⟨rfl, rfl, rfl⟩ := trodAll_end hA2
  obtain ⟨x0, rfl, rfl, wf0, pl0⟩ := plain_int Tryd.underlying22 (hval 0 22 v0 rfl rfl) h0
  obtain ⟨ad, n, cap, rfl, hq⟩ := open_list Tryd.underlying23 Tryd.underlying26 (by kernel_rfl) rfl rfl (by kernel_rfl) (by kernel_rfl) Tryd.underlying24 Tryd.underlying24 (hval 1 23 v1 rfl rfl) h1
  haveI : U8 x0 := u8_wf wf0
  refine (walk_CompLeast x0 n ad cap W hq).mono fun e W' ⟨he, hb⟩ => ?_
  subst he
  have ht := Below.trod (by kernel_rfl) (by kernel_rfl) (of_decide_eq_true (by kernel_rfl)) h1 hb (fun x hx => hW'.lt x (by simp [hx]))
  exact ⟨_, rfl, post_old hW' (fun b sp hd => trodAll_mk1 (shut_bool Tryd.underlying4 _)) ⟨[], p1 ++ [], pl0 _ _ _ _, ⟨p1, [], ht, trodAll_none, rfl⟩, rfl⟩ (fun sp => rfl) hb⟩
theorem compLeast_holds : Rows.CompLeastSaid :=
  OpenClaim.holds_of_wide 3 Tryd.f3 rfl rfl rfl rfl rfl rfl rfl ⟨rfl, rfl, rfl, rfl, rfl⟩ rfl rfl rfl rfl rfl (by kernel_rfl) Tryd.func3 (by kernel_rfl)
    (of_decide_eq_true (by kernel_rfl)) (by unfold Func.isWrapper; first | (rw [if_pos (by decide +kernel)]; kernel_rfl) | (rw [if_neg (by decide +kernel)]; exact ⟨rfl, rfl⟩))
    (fun os started H enc _ => compLeast_lifted os started H enc)
/-- The tied card. -/
theorem compLeast_card : Rows.CompLeastCardSaid :=
  Claim7.holds_tied_plain_at .later [] [.data] true (true, "78b6db589a81f1361ed2c9a30a98075489766deefa5e43c3b4c42576f668351f") false
    compLeast_holds (fun _ h => by cases h) (by kernel_rfl) (fun _ h => by cases h) compLeast_row_tie rfl ⟨rfl, rfl⟩ (by kernel_rfl) rfl
    (fun f fn hf hfn => by
      obtain rfl : f = 3 := Option.some.inj ((show Tryd.prog.funcNamed "hairsbreadth/hairsbreadthlaw28.CompLeast" = some 3 by kernel_rfl).symm.trans hf) |>.symm
      obtain rfl : fn = Tryd.f3 := (Option.some.inj (Tryd.func3.symm.trans hfn)).symm
      exact ⟨by kernel_rfl, fun j t ht => by
        rw [Tryd.params3] at ht
        have hm : t ∈ [22, 23] := by simpa using Array.mem_of_getElem? ht
        have hall : ([22, 23].all fun u => !Tryd.prog.wantsStandIn u) = true := by kernel_rfl
        exact (show Tryd.prog.wantsStandIn t = false by simpa using List.all_eq_true.1 hall t hm)⟩)
    (by kernel_rfl)
#print axioms compLeast_card
end Go.Proofs.YtkmgheabjcieaaaDoor
