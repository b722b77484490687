/- PackSame: the law's row and its tied card: it returns true at every input. Condition: the listed table is as the program's start lays it (the card ties it). -/
import Derived.Test.YtgdbdbjegiaifaaDoorRow
import Derived.Test.YtgdbdbjegiaifaaDoorLaw16s
import Derived.Test.YtgdbdbjegiaifaaDoorCards
import Derived.Test.YtgdbdbjegiaifaaDoorTie
import Derived.SevenTiedAt
set_option linter.unusedSimpArgs false
set_option linter.unusedVariables false
namespace Go.Proofs.YtgdbdbjegiaifaaDoor
open Go.ChangeShapes Go.WideShapes Go.RowKit Go.Hb
set_option maxRecDepth 100000 in
theorem packSame_lifted (os : Os) (started : os.Started) (H : Type) (enc : TypeId × Value → H) :
    ReturnsInHanded {} Tryd.checked os 11 .any (fun w args => (Rows.packSameSpec.pre enc Tryd.prog Tryd.f11 [] false w args ∧ laidMetH Tryd.prog [("hairsbreadth/format.table", Rows.laid_hairsbreadth_format_table)] w) ∧ sizedMet enc Tryd.prog Tryd.f11 (OpenSpec.ofChange Rows.packSameSpec) false w args)
      (Rows.packSameSpec.post enc Tryd.prog Tryd.f11 false true false false) := by
  refine returnsInHanded_of_change_and (C := Tryd.checked) (X := fun w _ => laidMetH Tryd.prog [("hairsbreadth/format.table", Rows.laid_hairsbreadth_format_table)] w) (fun _ _ _ hh h => h.of_heap hh) own0 started (by kernel_rfl) Tryd.func11
    (ChangeSpec.witness_shaped (enc := enc) (C := Tryd.checked) (os := os) (X := fun w _ => laidMetH Tryd.prog [("hairsbreadth/format.table", Rows.laid_hairsbreadth_format_table)] w) false (World.doorLaid Tryd.prog 400 os) #[.int .u8 0, .agg #[.int .u8 0, .bool false], .agg #[.int .u8 0, .bool false], .bool false, .int .i64 0, .agg #[.int .u64 0, .int .u64 0, .int .u64 0, .int .u64 0], .agg #[.int .u64 0, .int .u64 0]] 8 rfl (World.shaped_of_RefB (by kernel_rfl) (by kernel_rfl)) (by kernel_rfl) (by kernel_rfl) (by kernel_rfl) (door_met os _)) ?_
  intro W base args ds gs before hval0 hW _ _ hL _
  have hval : ∀ (j : Nat) t v, Tryd.f11.params[j]? = some t → args[j]? = some v → Value.okWide Tryd.prog W .any base t v := hval0
  have hW' := hW
  obtain ⟨p, q, hA0, hV, rfl, hfz, hnd⟩ := hW
  have hA : DataW.TrodAll enc Tryd.prog W 0 (fun _ => true) true Tryd.f11.params.toList args.toList ds p := hA0
  rw [Tryd.params11] at hA hval
  obtain ⟨al⟩ := args
  have hlay := laid_of hL
  obtain ⟨rfl, rfl⟩ := trodVars_none hV
  obtain ⟨v0, vs0, d0, ds0, p0, q0, rfl, rfl, h0, hA1, rfl⟩ := trodAll_peel hA
  obtain ⟨v1, vs1, d1, ds1, p1, q1, rfl, rfl, h1, hA2, rfl⟩ := trodAll_peel hA1
  obtain ⟨v2, vs2, d2, ds2, p2, q2, rfl, rfl, h2, hA3, rfl⟩ := trodAll_peel hA2
  obtain ⟨v3, vs3, d3, ds3, p3, q3, rfl, rfl, h3, hA4, rfl⟩ := trodAll_peel hA3
  obtain ⟨v4, vs4, d4, ds4, p4, q4, rfl, rfl, h4, hA5, rfl⟩ := trodAll_peel hA4
  obtain ⟨v5, vs5, d5, ds5, p5, q5, rfl, rfl, h5, hA6, rfl⟩ := trodAll_peel hA5
  obtain ⟨v6, vs6, d6, ds6, p6, q6, rfl, rfl, h6, hA7, rfl⟩ := trodAll_peel hA6
  obtain ⟨rfl, rfl, rfl⟩ := trodAll_end hA7
  obtain ⟨x0, rfl, rfl, wf0, pl0⟩ := plain_int Tryd.underlying22 (hval 0 22 v0 rfl rfl) h0
  obtain ⟨x1, x2, rfl, rfl, wf1, pl1⟩ := plain_env Tryd.underlying25 (by kernel_rfl) (by kernel_rfl) Tryd.underlying23 Tryd.underlying4 (hval 1 25 v1 rfl rfl) h1
  obtain ⟨x3, x4, rfl, rfl, wf3, pl2⟩ := plain_env Tryd.underlying25 (by kernel_rfl) (by kernel_rfl) Tryd.underlying23 Tryd.underlying4 (hval 2 25 v2 rfl rfl) h2
  obtain ⟨x5, rfl, rfl, pl3⟩ := plain_bool Tryd.underlying4 (hval 3 4 v3 rfl rfl) h3
  obtain ⟨x6, rfl, rfl, wf6, pl4⟩ := plain_int Tryd.underlying3 (hval 4 3 v4 rfl rfl) h4
  obtain ⟨x7, x8, x9, x10, rfl, rfl, wf7, wf8, wf9, wf10, pl5⟩ := plain_four Tryd.underlying28 (by kernel_rfl) (by kernel_rfl) Tryd.underlying26 (hval 5 28 v5 rfl rfl) h5
  obtain ⟨x11, x12, rfl, rfl, wf11, wf12, pl6⟩ := plain_two Tryd.underlying30 (by kernel_rfl) (by kernel_rfl) Tryd.underlying26 Tryd.underlying26 (hval 6 30 v6 rfl rfl) h6
  haveI : U8 x0 := u8_wf wf0
  haveI : U8 x1 := u8_wf wf1
  haveI : U8 x3 := u8_wf wf3
  haveI : I64 x6 := i64_wf wf6
  haveI : U64 x7 := u64_wf wf7
  haveI : U64 x8 := u64_wf wf8
  haveI : U64 x9 := u64_wf wf9
  haveI : U64 x10 := u64_wf wf10
  haveI : U64 x11 := u64_wf wf11
  haveI : U64 x12 := u64_wf wf12
  refine (walk_PackSame x0 x1 x3 x2 x4 x5 x6 x7 x8 x9 x10 x11 x12 W).mono fun e W' ⟨he, hb⟩ => ?_
  subst he
  refine ⟨_, rfl, post_plain hW' (fun b sp hd => trodAll_mk1 (shut_bool Tryd.underlying4 _)) (fun sp => (trodAll_nil_mk (pl0 _ _ _ _) (trodAll_nil_mk (pl1 _ _ _ _) (trodAll_nil_mk (pl2 _ _ _ _) (trodAll_nil_mk (pl3 _ _ _ _) (trodAll_nil_mk (pl4 _ _ _ _) (trodAll_nil_mk (pl5 _ _ _ _) (trodAll_nil_mk (pl6 _ _ _ _) trodAll_none)))))))) (fun sp => ?_) hb ?_⟩
  · rfl
  · exact ok_one (by kernel_rfl) rfl (okWide_bool_mk Tryd.underlying4 _)
theorem packSame_holds : Rows.PackSameSaid :=
  OpenClaim.holds_of_wide 11 Tryd.f11 rfl rfl rfl rfl rfl rfl rfl ⟨rfl, rfl, rfl, rfl, rfl⟩ rfl rfl rfl rfl rfl (by kernel_rfl) Tryd.func11 (by kernel_rfl)
    (of_decide_eq_true (by kernel_rfl)) (by unfold Func.isWrapper; first | (rw [if_pos (by decide +kernel)]; kernel_rfl) | (rw [if_neg (by decide +kernel)]; exact ⟨rfl, rfl⟩))
    (fun os started H enc _ => packSame_lifted os started H enc)
/-- The tied card. -/
theorem packSame_card : Rows.PackSameCardSaid :=
  Claim7.holds_tied_plain_at .later [] [.data] true (true, "4db97d08db5956eef6cf927498c9b645af3816c7f0e969b6df6a2d180e29bd99") false
    packSame_holds (fun _ h => by cases h) (by kernel_rfl) (fun _ h => by cases h) packSame_row_tie rfl ⟨rfl, rfl⟩ (by kernel_rfl) rfl
    (fun f fn hf hfn => by
      obtain rfl : f = 11 := Option.some.inj ((show Tryd.prog.funcNamed "hairsbreadth/hairsbreadthlaw16.PackSame" = some 11 by kernel_rfl).symm.trans hf) |>.symm
      obtain rfl : fn = Tryd.f11 := (Option.some.inj (Tryd.func11.symm.trans hfn)).symm
      exact ⟨by kernel_rfl, fun j t ht => by
        rw [Tryd.params11] at ht
        have hm : t ∈ [22, 25, 25, 4, 3, 28, 30] := by simpa using Array.mem_of_getElem? ht
        have hall : ([22, 25, 25, 4, 3, 28, 30].all fun u => !Tryd.prog.wantsStandIn u) = true := by kernel_rfl
        exact (show Tryd.prog.wantsStandIn t = false by simpa using List.all_eq_true.1 hall t hm)⟩)
    (by kernel_rfl)
#print axioms packSame_card
end Go.Proofs.YtgdbdbjegiaifaaDoor
