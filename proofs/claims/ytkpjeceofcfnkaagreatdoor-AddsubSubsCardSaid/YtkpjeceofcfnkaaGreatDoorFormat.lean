/- The contracts of package format: for every input; the table of formats as the program lays it. Names for the world at hand; draws. No condition. -/
import Derived.Test.YtkpjeceofcfnkaaGreatDoorShift5
set_option maxRecDepth 100000
set_option maxHeartbeats 1000000
set_option linter.unusedSimpArgs false
set_option linter.unusedVariables false
namespace Go.Hb
def widthS (f : Int) : Int := if f = 0 then 16 else if f = 1 then 32 else if f = 2 then 64 else if f = 3 then 128 else 0
def precS (f : Int) : Int := if f = 0 then 11 else if f = 1 then 24 else if f = 2 then 53 else if f = 3 then 113 else 0
def emaxS (f : Int) : Int := if f = 0 then 15 else if f = 1 then 127 else if f = 2 then 1023 else if f = 3 then 16383 else 0
end Go.Hb
namespace Go.Proofs.YtkpjeceofcfnkaaGreatDoor
open Go.RowKit Go.Hb
/-- The table of formats lies in the world as the program's start lays it. -/
class Laid (w : World) : Prop where
  c0 : w.cell? ⟨0, 0, none⟩ = some (.int .i64 16)
  c1 : w.cell? ⟨0, 1, none⟩ = some (.int .i64 11)
  c2 : w.cell? ⟨0, 2, none⟩ = some (.int .i64 15)
  c3 : w.cell? ⟨0, 3, none⟩ = some (.int .i64 32)
  c4 : w.cell? ⟨0, 4, none⟩ = some (.int .i64 24)
  c5 : w.cell? ⟨0, 5, none⟩ = some (.int .i64 127)
  c6 : w.cell? ⟨0, 6, none⟩ = some (.int .i64 64)
  c7 : w.cell? ⟨0, 7, none⟩ = some (.int .i64 53)
  c8 : w.cell? ⟨0, 8, none⟩ = some (.int .i64 1023)
  c9 : w.cell? ⟨0, 9, none⟩ = some (.int .i64 128)
  c10 : w.cell? ⟨0, 10, none⟩ = some (.int .i64 113)
  c11 : w.cell? ⟨0, 11, none⟩ = some (.int .i64 16383)
theorem Laid.below {w w' : World} (h : Laid w) (hb : Below w.heap.size w w') : Laid w' :=
  ⟨cell_later hb h.c0, cell_later hb h.c1, cell_later hb h.c2, cell_later hb h.c3, cell_later hb h.c4, cell_later hb h.c5, cell_later hb h.c6, cell_later hb h.c7, cell_later hb h.c8, cell_later hb h.c9, cell_later hb h.c10, cell_later hb h.c11⟩
instance (w : World) (o : Obj) [h : Laid w] : Laid (w.alloc o) := h.below ((Below.refl _ _).alloc (Nat.le_refl _) _)
instance (w : World) [h : Laid w] : Laid w.drew := h.below (Below.refl _ _).drew
theorem frozen_later {w wx : World} {b o : Nat} (hb : Below w.heap.size w wx) (h : w.frozen? ⟨b, o, none⟩ = false) (hlt : b < w.heap.size) : wx.frozen? ⟨b, o, none⟩ = false :=
  (hb.frozen (p := ⟨b, o, none⟩) hlt).trans h
theorem wp_rename {P : Program} {c : Code} {Q : Exit → Act → World → Prop} {a : Act} {w : World} (h : ∀ W, W = w → c.wp P Q a W) : c.wp P Q a w := h w rfl
theorem laid_after {W w1 : World} [h : Laid W] (hB : Below W.heap.size W w1) : Laid w1 := h.below hB
theorem format_Known (f : Int) [h : U8 f] (w : World) :
    Calls Tryz.prog 27 #[.int .u8 f] w fun e w' => e = .returned (.bool (decide (f < 4))) ∧ w = w' := by
  have h0 := h.ge; have h1 := h.le
  go_enter Tryz.func27, Tryz.ntmps27
  go_wp2
  go_returns
  exact ⟨ret_bool rfl, rfl⟩
theorem format_of (f : Int) [h : U8 f] (w : World) [hL : Laid w] :
    Calls Tryz.prog 72 #[.int .u8 f] w fun e w' => e = .returned (.agg #[.int .i64 (widthS f), .int .i64 (precS f), .int .i64 (emaxS f)]) ∧ Below w.heap.size w w' := by
  have h0 := h.ge
  have hz : 0 < w.heap.size := World.block_lt_of_cell? w _ hL.c0
  have := hL.c0; have := hL.c1; have := hL.c2; have := hL.c3; have := hL.c4; have := hL.c5; have := hL.c6; have := hL.c7; have := hL.c8; have := hL.c9; have := hL.c10; have := hL.c11
  have : 4 ≤ f ∨ f = 0 ∨ f = 1 ∨ f = 2 ∨ f = 3 := by omega
  rcases this with hm | rfl | rfl | rfl | rfl
  · have hd : decide (f < 4) = false := by simp; omega
    go_enter Tryz.func72, Tryz.ntmps72
    go_wp2_with (go_at_call 27; refine (format_Known _ _).mono ?_; rintro e w' ⟨rfl, rfl⟩)
    go_returns
    refine ⟨?_, by go_grown⟩
    simp [widthS, precS, emaxS, show ¬ f = 0 by omega, show ¬ f = 1 by omega, show ¬ f = 2 by omega, show ¬ f = 3 by omega]
  all_goals go_enter Tryz.func72, Tryz.ntmps72
  all_goals go_wp2_with (go_at_call 27; refine (format_Known _ _).mono ?_; rintro e w' ⟨rfl, rfl⟩)
  all_goals go_returns
  all_goals exact ⟨rfl, by go_grown⟩
@[go_sem] theorem numbers0 (a b c : Int) (W : World) : (Instr.field 114 (.agg #[.int .i64 a, .int .i64 b, .int .i64 c]) 0).run Tryz.prog W = .ok (.int .i64 a) W := by kernel_rfl
@[go_sem] theorem numbers1 (a b c : Int) (W : World) : (Instr.field 114 (.agg #[.int .i64 a, .int .i64 b, .int .i64 c]) 1).run Tryz.prog W = .ok (.int .i64 b) W := by kernel_rfl
@[go_sem] theorem numbers2 (a b c : Int) (W : World) : (Instr.field 114 (.agg #[.int .i64 a, .int .i64 b, .int .i64 c]) 2).run Tryz.prog W = .ok (.int .i64 c) W := by kernel_rfl
theorem format_Width (f : Int) [h : U8 f] (w : World) [hL : Laid w] :
    Calls Tryz.prog 74 #[.int .u8 f] w fun e w' => e = .returned (.int .i64 (widthS f)) ∧ Below w.heap.size w w' := by
  go_enter Tryz.func74, Tryz.ntmps74
  (go_wp2_with fail; refine (format_of _ _).mono ?_; rintro en w1 ⟨rfl, hB_w1⟩; (obtain ⟨hc_w1, hf_w1⟩ := bcell hB_w1; have hz_w1 := hB_w1.size; (try simp only [World.size_alloc, World.size_setCell, World.size_drew] at hz_w1 hc_w1 hf_w1); clear hc_w1 hf_w1; have hW_w1 : Below w.heap.size w w1 := below_after (by go_grown) hB_w1))
  go_wp2_with fail
  go_returns
  exact ⟨rfl, by go_grown⟩
theorem format_Prec (f : Int) [h : U8 f] (w : World) [hL : Laid w] :
    Calls Tryz.prog 31 #[.int .u8 f] w fun e w' => e = .returned (.int .i64 (precS f)) ∧ Below w.heap.size w w' := by
  go_enter Tryz.func31, Tryz.ntmps31
  (go_wp2_with fail; refine (format_of _ _).mono ?_; rintro en w1 ⟨rfl, hB_w1⟩; (obtain ⟨hc_w1, hf_w1⟩ := bcell hB_w1; have hz_w1 := hB_w1.size; (try simp only [World.size_alloc, World.size_setCell, World.size_drew] at hz_w1 hc_w1 hf_w1); clear hc_w1 hf_w1; have hW_w1 : Below w.heap.size w w1 := below_after (by go_grown) hB_w1))
  go_wp2_with fail
  go_returns
  exact ⟨rfl, by go_grown⟩
theorem format_Emax (f : Int) [h : U8 f] (w : World) [hL : Laid w] :
    Calls Tryz.prog 85 #[.int .u8 f] w fun e w' => e = .returned (.int .i64 (emaxS f)) ∧ Below w.heap.size w w' := by
  go_enter Tryz.func85, Tryz.ntmps85
  (go_wp2_with fail; refine (format_of _ _).mono ?_; rintro en w1 ⟨rfl, hB_w1⟩; (obtain ⟨hc_w1, hf_w1⟩ := bcell hB_w1; have hz_w1 := hB_w1.size; (try simp only [World.size_alloc, World.size_setCell, World.size_drew] at hz_w1 hc_w1 hf_w1); clear hc_w1 hf_w1; have hW_w1 : Below w.heap.size w w1 := below_after (by go_grown) hB_w1))
  go_wp2_with fail
  go_returns
  exact ⟨rfl, by go_grown⟩
end Go.Proofs.YtkpjeceofcfnkaaGreatDoor

namespace Go.Proofs.YtkpjeceofcfnkaaGreatDoor
open Go.RowKit Go.Hb
theorem goal_rename {α : Type} {Q : α → World → Prop} {a : α} {w : World} (h : ∀ W, W = w → Q a W) : Q a w := h w rfl
theorem drewN_below {B : Nat} {a w : World} (h : Below B a w) (n : Nat) : Below B a (w.drewN n) := h.trans ⟨rfl, rfl, rfl, Nat.le_refl _, fun _ _ => rfl⟩
theorem drewN_size (w : World) (n : Nat) : (w.drewN n).heap.size = w.heap.size := rfl
end Go.Proofs.YtkpjeceofcfnkaaGreatDoor
