/- FromintKnown: the law's row and its tied card: it returns true at every input. Condition: the listed table is as the program's start lays it (the card ties it). -/
import Derived.Test.YthlimkjebfdbgaaDoorRow
import Derived.Test.YthlimkjebfdbgaaDoorFromint2
import Derived.Test.YthlimkjebfdbgaaDoorCards
import Derived.Test.YthlimkjebfdbgaaDoorTie
import Derived.SevenTiedAt
set_option linter.unusedSimpArgs false
set_option linter.unusedVariables false
namespace Go.Proofs.YthlimkjebfdbgaaDoor
open Go.ChangeShapes Go.WideShapes Go.RowKit Go.Hb
set_option maxRecDepth 100000 in
theorem fromintKnown_lifted (os : Os) (started : os.Started) (H : Type) (enc : TypeId × Value → H) :
    ReturnsInHanded {} Tryd.checked os 6 .any (fun w args => (Rows.fromintKnownSpec.pre enc Tryd.prog Tryd.f6 [] false w args ∧ laidMetH Tryd.prog [("hairsbreadth/format.table", Rows.laid_hairsbreadth_format_table)] w) ∧ sizedMet enc Tryd.prog Tryd.f6 (OpenSpec.ofChange Rows.fromintKnownSpec) false w args)
      (Rows.fromintKnownSpec.post enc Tryd.prog Tryd.f6 false true false false) := by
  refine returnsInHanded_of_change_and (C := Tryd.checked) (X := fun w _ => laidMetH Tryd.prog [("hairsbreadth/format.table", Rows.laid_hairsbreadth_format_table)] w) (fun _ _ _ hh h => h.of_heap hh) own0 started (by kernel_rfl) Tryd.func6
    (ChangeSpec.witness_shaped (enc := enc) (C := Tryd.checked) (os := os) (X := fun w _ => laidMetH Tryd.prog [("hairsbreadth/format.table", Rows.laid_hairsbreadth_format_table)] w) false (World.doorLaid Tryd.prog 400 os) #[] 8 rfl (World.shaped_of_RefB (by kernel_rfl) (by kernel_rfl)) (by kernel_rfl) (by kernel_rfl) (by kernel_rfl) (door_met os _)) ?_
  intro W base args ds gs before hval0 hW _ _ hL _
  have hval : ∀ (j : Nat) t v, Tryd.f6.params[j]? = some t → args[j]? = some v → Value.okWide Tryd.prog W .any base t v := hval0
  have hW' := hW
  obtain ⟨p, q, hA0, hV, rfl, hfz, hnd⟩ := hW
  have hA : DataW.TrodAll enc Tryd.prog W 0 (fun _ => true) true Tryd.f6.params.toList args.toList ds p := hA0
  rw [Tryd.params6] at hA hval
  obtain ⟨al⟩ := args
  have hlay := laid_of hL
  obtain ⟨rfl, rfl⟩ := trodVars_none hV
  obtain ⟨rfl, rfl, rfl⟩ := trodAll_end hA
  refine (walk_FromintKnown  W).mono fun e W' ⟨he, hb⟩ => ?_
  subst he
  refine ⟨_, rfl, post_plain hW' (fun b sp hd => trodAll_mk1 (shut_bool Tryd.underlying4 _)) (fun sp => trodAll_none) (fun sp => ?_) hb ?_⟩
  · rfl
  · exact ok_one (by kernel_rfl) rfl (okWide_bool_mk Tryd.underlying4 _)
theorem fromintKnown_holds : Rows.FromintKnownSaid :=
  OpenClaim.holds_of_wide 6 Tryd.f6 rfl rfl rfl rfl rfl rfl rfl ⟨rfl, rfl, rfl, rfl, rfl⟩ rfl rfl rfl rfl rfl (by kernel_rfl) Tryd.func6 (by kernel_rfl)
    (of_decide_eq_true (by kernel_rfl)) (by unfold Func.isWrapper; first | (rw [if_pos (by decide +kernel)]; kernel_rfl) | (rw [if_neg (by decide +kernel)]; exact ⟨rfl, rfl⟩))
    (fun os started H enc _ => fromintKnown_lifted os started H enc)
/-- The tied card. -/
theorem fromintKnown_card : Rows.FromintKnownCardSaid :=
  Claim7.holds_tied_plain_at .later [] [.data] true (true, "1738ebbf63000c8361f5221253ecfc78b5231204565b9da60bf3299fec0d5187") false
    fromintKnown_holds (fun _ h => by cases h) (by kernel_rfl) (fun _ h => by cases h) fromintKnown_row_tie rfl ⟨rfl, rfl⟩ (by kernel_rfl) rfl
    (fun f fn hf hfn => by
      obtain rfl : f = 6 := Option.some.inj ((show Tryd.prog.funcNamed "hairsbreadth/hairsbreadthlaw27.FromintKnown" = some 6 by kernel_rfl).symm.trans hf) |>.symm
      obtain rfl : fn = Tryd.f6 := (Option.some.inj (Tryd.func6.symm.trans hfn)).symm
      exact ⟨by kernel_rfl, fun j t ht => by
        rw [Tryd.params6] at ht
        simp at ht⟩)
    (by kernel_rfl)
#print axioms fromintKnown_card
end Go.Proofs.YthlimkjebfdbgaaDoor
