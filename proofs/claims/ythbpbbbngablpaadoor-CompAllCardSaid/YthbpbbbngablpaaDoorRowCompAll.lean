/- CompAll: the law's row and its tied card: it returns true at every input. Condition: the listed table is as the program's start lays it (the card ties it). -/
import Derived.Test.YthbpbbbngablpaaDoorRow
import Derived.Test.YthbpbbbngablpaaDoorLaw28r
import Derived.Test.YthbpbbbngablpaaDoorCards
import Derived.Test.YthbpbbbngablpaaDoorTie
import Derived.SevenTiedAt
set_option linter.unusedSimpArgs false
set_option linter.unusedVariables false
namespace Go.Proofs.YthbpbbbngablpaaDoor
open Go.ChangeShapes Go.WideShapes Go.RowKit Go.Hb
set_option maxRecDepth 100000 in
theorem compAll_lifted (os : Os) (started : os.Started) (H : Type) (enc : TypeId × Value → H) :
    ReturnsInHanded {} Tryd.checked os 3 .any (fun w args => (Rows.compAllSpec.pre enc Tryd.prog Tryd.f3 [] false w args ∧ laidMetH Tryd.prog [("hairsbreadth/format.table", Rows.laid_hairsbreadth_format_table)] w) ∧ sizedMet enc Tryd.prog Tryd.f3 (OpenSpec.ofChange Rows.compAllSpec) false w args)
      (Rows.compAllSpec.post enc Tryd.prog Tryd.f3 false true false false) := by
  refine returnsInHanded_of_change_and (C := Tryd.checked) (X := fun w _ => laidMetH Tryd.prog [("hairsbreadth/format.table", Rows.laid_hairsbreadth_format_table)] w) (fun _ _ _ hh h => h.of_heap hh) own0 started (by kernel_rfl) Tryd.func3
    (ChangeSpec.witness_shaped (enc := enc) (C := Tryd.checked) (os := os) (X := fun w _ => laidMetH Tryd.prog [("hairsbreadth/format.table", Rows.laid_hairsbreadth_format_table)] w) false (World.doorLaid Tryd.prog 400 os) #[.int .u8 0, .agg #[.int .u64 0, .int .u64 0], .agg #[.int .u64 0, .int .u64 0]] 8 rfl (World.shaped_of_RefB (by kernel_rfl) (by kernel_rfl)) (by kernel_rfl) (by kernel_rfl) (by kernel_rfl) (door_met os _)) ?_
  intro W base args ds gs before hval0 hW _ _ hL _
  have hval : ∀ (j : Nat) t v, Tryd.f3.params[j]? = some t → args[j]? = some v → Value.okWide Tryd.prog W .any base t v := hval0
  have hW' := hW
  obtain ⟨p, q, hA0, hV, rfl, hfz, hnd⟩ := hW
  have hA : DataW.TrodAll enc Tryd.prog W 0 (fun _ => true) true Tryd.f3.params.toList args.toList ds p := hA0
  rw [Tryd.params3] at hA hval
  obtain ⟨al⟩ := args
  have hlay := laid_of hL
  obtain ⟨rfl, rfl⟩ := trodVars_none hV
  obtain ⟨v0, vs0, d0, ds0, p0, q0, rfl, rfl, h0, hA1, rfl⟩ := trodAll_peel hA
  obtain ⟨v1, vs1, d1, ds1, p1, q1, rfl, rfl, h1, hA2, rfl⟩ := trodAll_peel hA1
  obtain ⟨v2, vs2, d2, ds2, p2, q2, rfl, rfl, h2, hA3, rfl⟩ := trodAll_peel hA2
  obtain ⟨rfl, rfl, rfl⟩ := trodAll_end hA3
  obtain ⟨x0, rfl, rfl, wf0, pl0⟩ := plain_int Tryd.underlying22 (hval 0 22 v0 rfl rfl) h0
  obtain ⟨x1, x2, rfl, rfl, wf1, wf2, pl1⟩ := plain_two Tryd.underlying25 (by kernel_rfl) (by kernel_rfl) Tryd.underlying23 Tryd.underlying23 (hval 1 25 v1 rfl rfl) h1
  obtain ⟨x3, x4, rfl, rfl, wf3, wf4, pl2⟩ := plain_two Tryd.underlying25 (by kernel_rfl) (by kernel_rfl) Tryd.underlying23 Tryd.underlying23 (hval 2 25 v2 rfl rfl) h2
  haveI : U8 x0 := u8_wf wf0
  haveI : U64 x1 := u64_wf wf1
  haveI : U64 x2 := u64_wf wf2
  haveI : U64 x3 := u64_wf wf3
  haveI : U64 x4 := u64_wf wf4
  refine (walk_CompAll x0 x1 x2 x3 x4 W).mono fun e W' ⟨he, hb⟩ => ?_
  subst he
  refine ⟨_, rfl, post_plain hW' (fun b sp hd => trodAll_mk1 (shut_bool Tryd.underlying4 _)) (fun sp => (trodAll_nil_mk (pl0 _ _ _ _) (trodAll_nil_mk (pl1 _ _ _ _) (trodAll_nil_mk (pl2 _ _ _ _) trodAll_none)))) (fun sp => ?_) hb ?_⟩
  · rfl
  · exact ok_one (by kernel_rfl) rfl (okWide_bool_mk Tryd.underlying4 _)
theorem compAll_holds : Rows.CompAllSaid :=
  OpenClaim.holds_of_wide 3 Tryd.f3 rfl rfl rfl rfl rfl rfl rfl ⟨rfl, rfl, rfl, rfl, rfl⟩ rfl rfl rfl rfl rfl (by kernel_rfl) Tryd.func3 (by kernel_rfl)
    (of_decide_eq_true (by kernel_rfl)) (by unfold Func.isWrapper; first | (rw [if_pos (by decide +kernel)]; kernel_rfl) | (rw [if_neg (by decide +kernel)]; exact ⟨rfl, rfl⟩))
    (fun os started H enc _ => compAll_lifted os started H enc)
/-- The tied card. -/
theorem compAll_card : Rows.CompAllCardSaid :=
  Claim7.holds_tied_plain_at .later [] [.data] true (true, "26cb57c89925c6f182e5c5a73a8b4e68bae4bf315ff34efcbea7ad01bb631cee") false
    compAll_holds (fun _ h => by cases h) (by kernel_rfl) (fun _ h => by cases h) compAll_row_tie rfl ⟨rfl, rfl⟩ (by kernel_rfl) rfl
    (fun f fn hf hfn => by
      obtain rfl : f = 3 := Option.some.inj ((show Tryd.prog.funcNamed "hairsbreadth/hairsbreadthlaw28.CompAll" = some 3 by kernel_rfl).symm.trans hf) |>.symm
      obtain rfl : fn = Tryd.f3 := (Option.some.inj (Tryd.func3.symm.trans hfn)).symm
      exact ⟨by kernel_rfl, fun j t ht => by
        rw [Tryd.params3] at ht
        have hm : t ∈ [22, 25, 25] := by simpa using Array.mem_of_getElem? ht
        have hall : ([22, 25, 25].all fun u => !Tryd.prog.wantsStandIn u) = true := by kernel_rfl
        exact (show Tryd.prog.wantsStandIn t = false by simpa using List.all_eq_true.1 hall t hm)⟩)
    (by kernel_rfl)
#print axioms compAll_card
end Go.Proofs.YthbpbbbngablpaaDoor
