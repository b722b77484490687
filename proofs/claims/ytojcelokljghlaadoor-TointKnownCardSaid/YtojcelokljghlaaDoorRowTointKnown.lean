/- TointKnown: the law's row and its tied card: it returns true at every input. Condition: the listed table is as the program's start lays it (the card ties it). -/
import Derived.Test.YtojcelokljghlaaDoorRowE
import Derived.Test.YtojcelokljghlaaDoorLaw26a
import Derived.Test.YtojcelokljghlaaDoorCards
import Derived.Test.YtojcelokljghlaaDoorTie
import Derived.SevenTiedAt
set_option linter.unusedSimpArgs false
set_option linter.unusedVariables false
namespace Go.Proofs.YtojcelokljghlaaDoor
open Go.ChangeShapes Go.WideShapes Go.RowKit Go.Hb
set_option maxRecDepth 100000 in
theorem tointKnown_lifted (os : Os) (started : os.Started) (H : Type) (enc : TypeId × Value → H) :
    ReturnsInHanded {} Tryd.checked os 5 .any (fun w args => (Rows.tointKnownSpec.pre enc Tryd.prog Tryd.f5 [] false w args ∧ laidMetH Tryd.prog [("hairsbreadth/format.table", Rows.laid_hairsbreadth_format_table), ("hairsbreadth/toint.ends", Rows.laid_hairsbreadth_toint_ends)] w) ∧ sizedMet enc Tryd.prog Tryd.f5 (OpenSpec.ofChange Rows.tointKnownSpec) false w args)
      (Rows.tointKnownSpec.post enc Tryd.prog Tryd.f5 false true false false) := by
  refine returnsInHanded_of_change_and (C := Tryd.checked) (X := fun w _ => laidMetH Tryd.prog [("hairsbreadth/format.table", Rows.laid_hairsbreadth_format_table), ("hairsbreadth/toint.ends", Rows.laid_hairsbreadth_toint_ends)] w) (fun _ _ _ hh h => h.of_heap hh) own0 started (by kernel_rfl) Tryd.func5
    (ChangeSpec.witness_shaped (enc := enc) (C := Tryd.checked) (os := os) (X := fun w _ => laidMetH Tryd.prog [("hairsbreadth/format.table", Rows.laid_hairsbreadth_format_table), ("hairsbreadth/toint.ends", Rows.laid_hairsbreadth_toint_ends)] w) false (World.doorLaid Tryd.prog 400 os) #[] 8 rfl (World.shaped_of_RefB (by kernel_rfl) (by kernel_rfl)) (by kernel_rfl) (by kernel_rfl) (by kernel_rfl) (door_met2 os _)) ?_
  intro W base args ds gs before hval0 hW _ _ hL _
  have hval : ∀ (j : Nat) t v, Tryd.f5.params[j]? = some t → args[j]? = some v → Value.okWide Tryd.prog W .any base t v := hval0
  have hW' := hW
  obtain ⟨p, q, hA0, hV, rfl, hfz, hnd⟩ := hW
  have hA : DataW.TrodAll enc Tryd.prog W 0 (fun _ => true) true Tryd.f5.params.toList args.toList ds p := hA0
  rw [Tryd.params5] at hA hval
  obtain ⟨al⟩ := args
  obtain ⟨hlay, hlayE⟩ := laid2_of hL
  obtain ⟨rfl, rfl⟩ := trodVars_none hV
  obtain ⟨rfl, rfl, rfl⟩ := trodAll_end hA
  refine (walk_TointKnown  W).mono fun e W' ⟨he, hb⟩ => ?_
  subst he
  refine ⟨_, rfl, post_plain hW' (fun b sp hd => trodAll_mk1 (shut_bool Tryd.underlying4 _)) (fun sp => trodAll_none) (fun sp => ?_) hb ?_⟩
  · rfl
  · exact ok_one (by kernel_rfl) rfl (okWide_bool_mk Tryd.underlying4 _)
theorem tointKnown_holds : Rows.TointKnownSaid :=
  OpenClaim.holds_of_wide 5 Tryd.f5 rfl rfl rfl rfl rfl rfl rfl ⟨rfl, rfl, rfl, rfl, rfl⟩ rfl rfl rfl rfl rfl (by kernel_rfl) Tryd.func5 (by kernel_rfl)
    (of_decide_eq_true (by kernel_rfl)) (by unfold Func.isWrapper; first | (rw [if_pos (by decide +kernel)]; kernel_rfl) | (rw [if_neg (by decide +kernel)]; exact ⟨rfl, rfl⟩))
    (fun os started H enc _ => tointKnown_lifted os started H enc)
/-- The tied card. -/
theorem tointKnown_card : Rows.TointKnownCardSaid :=
  Claim7.holds_tied_plain_at .later [] [.data, .data] true (true, "dc17ec693574d7a9d2e2d9ccb3151059af66f907f4f2c9eb975a7b6a34d68d18") false
    tointKnown_holds (fun _ h => by cases h) (by kernel_rfl) (fun _ h => by cases h) tointKnown_row_tie rfl ⟨rfl, rfl⟩ (by kernel_rfl) rfl
    (fun f fn hf hfn => by
      obtain rfl : f = 5 := Option.some.inj ((show Tryd.prog.funcNamed "hairsbreadth/hairsbreadthlaw26.TointKnown" = some 5 by kernel_rfl).symm.trans hf) |>.symm
      obtain rfl : fn = Tryd.f5 := (Option.some.inj (Tryd.func5.symm.trans hfn)).symm
      exact ⟨by kernel_rfl, fun j t ht => by
        rw [Tryd.params5] at ht
        simp at ht⟩)
    (by kernel_rfl)
#print axioms tointKnown_card
end Go.Proofs.YtojcelokljghlaaDoor
