/- AddsubSubs: the law's row and its tied card: it returns true at every input. Condition: the listed table is as the program's start lays it (the card ties it). -/
import Derived.Test.YtkpjeceofcfnkaaGreatDoorRow
import Derived.Test.YtkpjeceofcfnkaaGreatDoorLaw18e
import Derived.Test.YtkpjeceofcfnkaaGreatDoorCards
import Derived.Test.YtkpjeceofcfnkaaGreatDoorTie
import Derived.SevenTiedAt
set_option maxRecDepth 100000
set_option maxHeartbeats 1000000
set_option linter.unusedSimpArgs false
set_option linter.unusedVariables false
namespace Go.Proofs.YtkpjeceofcfnkaaGreatDoor
open Go.ChangeShapes Go.WideShapes Go.RowKit Go.Hb
theorem addsubSubs_lifted (os : Os) (started : os.Started) (H : Type) (enc : TypeId × Value → H) :
    ReturnsInHanded {} Tryz.checked os 5 .any (fun w args => (Rows.addsubSubsSpec.pre enc Tryz.prog Tryz.f5 [] false w args ∧ laidMetH Tryz.prog [("hairsbreadth/format.table", Rows.laid_hairsbreadth_format_table)] w) ∧ sizedMet enc Tryz.prog Tryz.f5 (OpenSpec.ofChange Rows.addsubSubsSpec) false w args)
      (Rows.addsubSubsSpec.post enc Tryz.prog Tryz.f5 false true false false) := by
  refine returnsInHanded_of_change_and (C := Tryz.checked) (X := fun w _ => laidMetH Tryz.prog [("hairsbreadth/format.table", Rows.laid_hairsbreadth_format_table)] w) (fun _ _ _ hh h => h.of_heap hh) own0 started (by kernel_rfl) Tryz.func5
    (ChangeSpec.witness_shaped (enc := enc) (C := Tryz.checked) (os := os) (X := fun w _ => laidMetH Tryz.prog [("hairsbreadth/format.table", Rows.laid_hairsbreadth_format_table)] w) false (World.doorLaid Tryz.prog 400 os) #[.int .u8 0, .agg #[.int .u8 0, .bool false], .agg #[.int .u64 0, .int .u64 0], .agg #[.int .u64 0, .int .u64 0], .bool false, .bool false] 8 rfl (World.shaped_of_RefB (by kernel_rfl) (by kernel_rfl)) (by kernel_rfl) (by kernel_rfl) (by kernel_rfl) (door_met os _)) ?_
  intro W base args ds gs before hval0 hW _ _ hL _
  have hval : ∀ (j : Nat) t v, Tryz.f5.params[j]? = some t → args[j]? = some v → Value.okWide Tryz.prog W .any base t v := hval0
  have hW' := hW
  obtain ⟨p, q, hA0, hV, rfl, hfz, hnd⟩ := hW
  have hA : DataW.TrodAll enc Tryz.prog W 0 (fun _ => true) true Tryz.f5.params.toList args.toList ds p := hA0
  rw [Tryz.params5] at hA hval
  obtain ⟨al⟩ := args
  have hlay := laid_of hL
  obtain ⟨rfl, rfl⟩ := trodVars_none hV
  obtain ⟨v0, vs0, d0, ds0, p0, q0, rfl, rfl, h0, hA1, rfl⟩ := trodAll_peel hA
  obtain ⟨v1, vs1, d1, ds1, p1, q1, rfl, rfl, h1, hA2, rfl⟩ := trodAll_peel hA1
  obtain ⟨v2, vs2, d2, ds2, p2, q2, rfl, rfl, h2, hA3, rfl⟩ := trodAll_peel hA2
  obtain ⟨v3, vs3, d3, ds3, p3, q3, rfl, rfl, h3, hA4, rfl⟩ := trodAll_peel hA3
  obtain ⟨v4, vs4, d4, ds4, p4, q4, rfl, rfl, h4, hA5, rfl⟩ := trodAll_peel hA4
  obtain ⟨v5, vs5, d5, ds5, p5, q5, rfl, rfl, h5, hA6, rfl⟩ := trodAll_peel hA5
  obtain ⟨rfl, rfl, rfl⟩ := trodAll_end hA6
  obtain ⟨x0, rfl, rfl, wf0, pl0⟩ := plain_int Tryz.underlying22 (hval 0 22 v0 rfl rfl) h0
  obtain ⟨x1, x2, rfl, rfl, wf1, pl1⟩ := plain_env Tryz.underlying42 (by kernel_rfl) (by kernel_rfl) Tryz.underlying23 Tryz.underlying4 (hval 1 42 v1 rfl rfl) h1
  obtain ⟨x3, x4, rfl, rfl, wf3, wf4, pl2⟩ := plain_two Tryz.underlying26 (by kernel_rfl) (by kernel_rfl) Tryz.underlying24 Tryz.underlying24 (hval 2 26 v2 rfl rfl) h2
  obtain ⟨x5, x6, rfl, rfl, wf5, wf6, pl3⟩ := plain_two Tryz.underlying26 (by kernel_rfl) (by kernel_rfl) Tryz.underlying24 Tryz.underlying24 (hval 3 26 v3 rfl rfl) h3
  obtain ⟨x7, rfl, rfl, pl4⟩ := plain_bool Tryz.underlying4 (hval 4 4 v4 rfl rfl) h4
  obtain ⟨x8, rfl, rfl, pl5⟩ := plain_bool Tryz.underlying4 (hval 5 4 v5 rfl rfl) h5
  haveI : U8 x0 := u8_wf wf0
  haveI : U8 x1 := u8_wf wf1
  haveI : U64 x3 := u64_wf wf3
  haveI : U64 x4 := u64_wf wf4
  haveI : U64 x5 := u64_wf wf5
  haveI : U64 x6 := u64_wf wf6
  refine (walk_AddsubSubs x0 x1 x2 x3 x4 x5 x6 x7 x8 W).mono fun e W' ⟨he, hb⟩ => ?_
  subst he
  refine ⟨_, rfl, post_plain hW' (fun b sp hd => trodAll_mk1 (shut_bool Tryz.underlying4 _)) (fun sp => (trodAll_nil_mk (pl0 _ _ _ _) (trodAll_nil_mk (pl1 _ _ _ _) (trodAll_nil_mk (pl2 _ _ _ _) (trodAll_nil_mk (pl3 _ _ _ _) (trodAll_nil_mk (pl4 _ _ _ _) (trodAll_nil_mk (pl5 _ _ _ _) trodAll_none))))))) (fun sp => ?_) hb ?_⟩
  · rfl
  · exact ok_one (by kernel_rfl) rfl (okWide_bool_mk Tryz.underlying4 _)
theorem addsubSubs_holds : Rows.AddsubSubsSaid :=
  OpenClaim.holds_of_wide 5 Tryz.f5 rfl rfl rfl rfl rfl rfl rfl ⟨rfl, rfl, rfl, rfl, rfl⟩ rfl rfl rfl rfl rfl (by kernel_rfl) Tryz.func5 (by kernel_rfl)
    (of_decide_eq_true (by kernel_rfl)) (by unfold Func.isWrapper; first | (rw [if_pos (by decide +kernel)]; kernel_rfl) | (rw [if_neg (by decide +kernel)]; exact ⟨rfl, rfl⟩))
    (fun os started H enc _ => addsubSubs_lifted os started H enc)
/-- The tied card. -/
theorem addsubSubs_card : Rows.AddsubSubsCardSaid :=
  Claim7.holds_tied_plain_at .later [] [.data] true (true, "a1ae15681c4a786a6a34cee195a82ef76e3deff3255ad99d31664bc9555ccc6e") false
    addsubSubs_holds (fun _ h => by cases h) (by kernel_rfl) (fun _ h => by cases h) addsubSubs_row_tie rfl ⟨rfl, rfl⟩ (by kernel_rfl) rfl
    (fun f fn hf hfn => by
      obtain rfl : f = 5 := Option.some.inj ((show Tryz.prog.funcNamed "hairsbreadth/hairsbreadthlaw18.AddsubSubs" = some 5 by kernel_rfl).symm.trans hf) |>.symm
      obtain rfl : fn = Tryz.f5 := (Option.some.inj (Tryz.func5.symm.trans hfn)).symm
      exact ⟨by kernel_rfl, fun j t ht => by
        rw [Tryz.params5] at ht
        have hm : t ∈ [22, 42, 26, 26, 4, 4] := by simpa using Array.mem_of_getElem? ht
        have hall : ([22, 42, 26, 26, 4, 4].all fun u => !Tryz.prog.wantsStandIn u) = true := by kernel_rfl
        exact (show Tryz.prog.wantsStandIn t = false by simpa using List.all_eq_true.1 hall t hm)⟩)
    (by kernel_rfl)
#print axioms addsubSubs_card
end Go.Proofs.YtkpjeceofcfnkaaGreatDoor
