/- AddsubKnown: the law's row and its tied card: it returns true at every input. Condition: the listed table is as the program's start lays it (the card ties it). -/
import Derived.Test.YtkldkchkhblndaaGreatDoorRow
import Derived.Test.YtkldkchkhblndaaGreatDoorLaw18k
import Derived.Test.YtkldkchkhblndaaGreatDoorCards
import Derived.Test.YtkldkchkhblndaaGreatDoorTie
import Derived.SevenTiedAt
set_option linter.unusedSimpArgs false
set_option linter.unusedVariables false
namespace Go.Proofs.YtkldkchkhblndaaGreatDoor
open Go.ChangeShapes Go.WideShapes Go.RowKit Go.Hb
set_option maxRecDepth 100000 in
theorem addsubKnown_lifted (os : Os) (started : os.Started) (H : Type) (enc : TypeId × Value → H) :
    ReturnsInHanded {} Tryz.checked os 4 .any (fun w args => (Rows.addsubKnownSpec.pre enc Tryz.prog Tryz.f4 [] false w args ∧ laidMetH Tryz.prog [("hairsbreadth/format.table", Rows.laid_hairsbreadth_format_table)] w) ∧ sizedMet enc Tryz.prog Tryz.f4 (OpenSpec.ofChange Rows.addsubKnownSpec) false w args)
      (Rows.addsubKnownSpec.post enc Tryz.prog Tryz.f4 false true false false) := by
  refine returnsInHanded_of_change_and (C := Tryz.checked) (X := fun w _ => laidMetH Tryz.prog [("hairsbreadth/format.table", Rows.laid_hairsbreadth_format_table)] w) (fun _ _ _ hh h => h.of_heap hh) own0 started (by kernel_rfl) Tryz.func4
    (ChangeSpec.witness_shaped (enc := enc) (C := Tryz.checked) (os := os) (X := fun w _ => laidMetH Tryz.prog [("hairsbreadth/format.table", Rows.laid_hairsbreadth_format_table)] w) false (World.doorLaid Tryz.prog 400 os) #[] 8 rfl (World.shaped_of_RefB (by kernel_rfl) (by kernel_rfl)) (by kernel_rfl) (by kernel_rfl) (by kernel_rfl) (door_met os _)) ?_
  intro W base args ds gs before hval0 hW _ _ hL _
  have hval : ∀ (j : Nat) t v, Tryz.f4.params[j]? = some t → args[j]? = some v → Value.okWide Tryz.prog W .any base t v := hval0
  have hW' := hW
  obtain ⟨p, q, hA0, hV, rfl, hfz, hnd⟩ := hW
  have hA : DataW.TrodAll enc Tryz.prog W 0 (fun _ => true) true Tryz.f4.params.toList args.toList ds p := hA0
  rw [Tryz.params4] at hA hval
  obtain ⟨al⟩ := args
  have hlay := laid_of hL
  obtain ⟨rfl, rfl⟩ := trodVars_none hV
  obtain ⟨rfl, rfl, rfl⟩ := trodAll_end hA
  refine (walk_AddsubKnown  W).mono fun e W' ⟨he, hb⟩ => ?_
  subst he
  refine ⟨_, rfl, post_plain hW' (fun b sp hd => trodAll_mk1 (shut_bool Tryz.underlying4 _)) (fun sp => trodAll_none) (fun sp => ?_) hb ?_⟩
  · rfl
  · exact ok_one (by kernel_rfl) rfl (okWide_bool_mk Tryz.underlying4 _)
theorem addsubKnown_holds : Rows.AddsubKnownSaid :=
  OpenClaim.holds_of_wide 4 Tryz.f4 rfl rfl rfl rfl rfl rfl rfl ⟨rfl, rfl, rfl, rfl, rfl⟩ rfl rfl rfl rfl rfl (by kernel_rfl) Tryz.func4 (by kernel_rfl)
    (of_decide_eq_true (by kernel_rfl)) (by unfold Func.isWrapper; first | (rw [if_pos (by decide +kernel)]; kernel_rfl) | (rw [if_neg (by decide +kernel)]; exact ⟨rfl, rfl⟩))
    (fun os started H enc _ => addsubKnown_lifted os started H enc)
/-- The tied card. -/
theorem addsubKnown_card : Rows.AddsubKnownCardSaid :=
  Claim7.holds_tied_plain_at .later [] [.data] true (true, "02336ac2c7ca58b9d8dbf78d3df614bff89a78abb5a6641bfbae9df8b37e6c3e") false
    addsubKnown_holds (fun _ h => by cases h) (by kernel_rfl) (fun _ h => by cases h) addsubKnown_row_tie rfl ⟨rfl, rfl⟩ (by kernel_rfl) rfl
    (fun f fn hf hfn => by
      obtain rfl : f = 4 := Option.some.inj ((show Tryz.prog.funcNamed "hairsbreadth/hairsbreadthlaw18.AddsubKnown" = some 4 by kernel_rfl).symm.trans hf) |>.symm
      obtain rfl : fn = Tryz.f4 := (Option.some.inj (Tryz.func4.symm.trans hfn)).symm
      exact ⟨by kernel_rfl, fun j t ht => by
        rw [Tryz.params4] at ht
        simp at ht⟩)
    (by kernel_rfl)
#print axioms addsubKnown_card
end Go.Proofs.YtkldkchkhblndaaGreatDoor
