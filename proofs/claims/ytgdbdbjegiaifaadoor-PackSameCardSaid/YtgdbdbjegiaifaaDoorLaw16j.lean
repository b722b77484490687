/- The walk of PackJam: for every input. -/
import Derived.Test.YtgdbdbjegiaifaaDoorLaw16a
import Derived.Test.YtgdbdbjegiaifaaDoorCodes
import Derived.Test.YtgdbdbjegiaifaaDoorFormat
import Derived.Test.YtgdbdbjegiaifaaDoorKit
set_option linter.unusedSimpArgs false
set_option linter.unusedVariables false
namespace Go.Proofs.YtgdbdbjegiaifaaDoor
open Go.RowKit Go.Hb
/-- A word, its highest bit set. -/
def topW (x : Int) : Int := Go.bits BinOp.or IntKind.u64 x 9223372036854775808
theorem topW_bd (x : Int) [h : U64 x] : 9223372036854775808 ≤ topW x ∧ topW x < 18446744073709551616 := by
  obtain ⟨n, hn⟩ := Int.eq_ofNat_of_zero_le h.ge
  have hl : n < 2 ^ 64 := by have := h.lt; omega
  have e := (bits_nat .u64 64 (by decide) (fun n h1 h2 => by rw [IntKind.wrap_u64]; omega) n 9223372036854775808 hl (by decide)).2
  unfold topW
  rw [hn]
  show 9223372036854775808 ≤ Go.bits BinOp.or IntKind.u64 ((n : Nat) : Int) ((9223372036854775808 : Nat) : Int) ∧ Go.bits BinOp.or IntKind.u64 ((n : Nat) : Int) ((9223372036854775808 : Nat) : Int) < 18446744073709551616
  rw [e]
  have h1 : 9223372036854775808 ≤ n ||| 9223372036854775808 := Nat.right_le_or
  have h2 : n ||| 9223372036854775808 < 2 ^ 64 := Nat.or_lt_two_pow hl (by decide)
  omega
instance u64_topW (x : Int) [h : U64 x] : U64 (topW x) := ⟨by have := (topW_bd x).1; omega, (topW_bd x).2⟩
theorem top_blen (x0 x1 x2 x3 : Int) [h0 : U64 x0] [h1 : U64 x1] [h2 : U64 x2] [h3 : U64 x3] : blen (cat4 x0 x1 x2 (topW x3)) = 256 := by
  obtain ⟨t0, t1⟩ := topW_bd x3
  have hv := cat4_lt x0 x1 x2 (topW x3)
  apply blen_unique
  · rw [two256]; exact hv
  · right
    have e : (2 : Nat) ^ (256 - 1) = 57896044618658097711785492504343953926634992332820282019728792003956564819968 := by rfl
    rw [e]
    clear hv
    unfold cat4
    omega
def eJ (e : Int) : Int := max (-1073741824) (min e 1073741824)
set_option maxRecDepth 100000 in
set_option maxHeartbeats 16000000 in
theorem walk_PackJam (f m : Int) (aft neg : Bool) (e x0 x1 x2 x3 b : Int) [hU : U8 f] [hM : U8 m] [U64 x0] [U64 x1] [U64 x2] [U64 x3] [hb : U8 b] (w : World) [hLay : Laid w] :
    Calls Tryd.prog 5 #[.int .u8 f, .agg #[.int .u8 m, .bool aft], .bool neg, .int .i64 e, .agg #[.int .u64 (x0), .int .u64 (x1), .int .u64 (x2), .int .u64 (x3)], .int .u8 b] w fun en w' => en = .returned (.bool true) ∧ Below w.heap.size w w' := by
  have hv : cat4 x0 x1 x2 (topW x3) < 2 ^ 256 := by rw [two256]; exact cat4_lt x0 x1 x2 (topW x3)
  have hn : 0 ≤ b % 140 ∧ b % 140 ≤ 139 := by omega
  have he : -1073741824 ≤ eJ e ∧ eJ e ≤ 1073741824 := by unfold eJ; omega
  obtain ⟨jb, _⟩ := jam_bits f m (eJ e) aft (cat4 x0 x1 x2 (topW x3)) (b % 140) neg U8.ge (top_blen x0 x1 x2 x3) hv hn.1 hn.2 he.1 he.2
  obtain ⟨_, jf⟩ := jam_bits f m (eJ e) aft (cat4 x0 x1 x2 (topW x3)) (b % 140) neg U8.ge (top_blen x0 x1 x2 x3) hv hn.1 hn.2 he.1 he.2
  have hJ := Lib.hid (jamS_cat (cat4 x0 x1 x2 (topW x3)) (b % 140) hv)
  have hB := Lib.hid jb
  have hF := Lib.hid jf
  have ht : Go.bits BinOp.or IntKind.u64 x3 9223372036854775808 = topW x3 := rfl
  have hb0 := hb.ge
  have hb1 := hb.le
  have hw : IntKind.i64.wrap (eJ e + b % 140) = eJ e + b % 140 := wrap_in _ (by omega) (by omega)
  clear jb jf hv
  have hE1 : max (-1073741824) (min e 1073741824) = eJ e := rfl
  go_enter Tryd.func5, Tryd.ntmps5
  skip
  go_upto_region 4 with fail
  clear hE1 ht
  have he := fun W => eql_res_same W (hi (resB f m neg (eJ e) (cat4 x0 x1 x2 (topW x3)))) (lo (resB f m neg (eJ e) (cat4 x0 x1 x2 (topW x3)))) (resFl f m aft neg (eJ e) (cat4 x0 x1 x2 (topW x3)))
  ((first | refine wp_rename ?_ | refine goal_rename ?_); intro W0 hw_W0; have cc1 : W0.cell? ⟨w.heap.size, 0, none⟩ = some (.int .u8 m) := (by rw [hw_W0]; go_simp); have cc2 : W0.cell? ⟨w.heap.size, 1, none⟩ = some (.bool aft) := (by rw [hw_W0]; go_simp); have cc3 : W0.cell? ⟨w.heap.size + 1, 0, none⟩ = some (.int .u64 x0) := (by rw [hw_W0]; go_simp); have cc4 : W0.cell? ⟨w.heap.size + 1, 1, none⟩ = some (.int .u64 x1) := (by rw [hw_W0]; go_simp); have cc5 : W0.cell? ⟨w.heap.size + 1, 2, none⟩ = some (.int .u64 x2) := (by rw [hw_W0]; go_simp); have cc6 : W0.cell? ⟨w.heap.size + 1, 3, none⟩ = some (.int .u64 (topW x3)) := (by rw [hw_W0]; go_simp); have hBW : Below w.heap.size w W0 := (by rw [hw_W0]; (first | with_reducible exact drewN_below (by assumption) _ | go_grown)); have hl_W0 : w.heap.size < W0.heap.size ∧ w.heap.size + 1 < W0.heap.size := (by rw [hw_W0]; (try simp only [World.size_alloc, World.size_setCell, World.size_drew, drewN_size]); omega); have lay_W0 : Laid W0 := Laid.below (w := w) (by assumption) hBW; clear hw_W0)
  go_region_held3 (fun w' => w'.cell? ⟨w.heap.size, 0, none⟩ = some (.int .u8 m) ∧ w'.cell? ⟨w.heap.size, 1, none⟩ = some (.bool aft) ∧ w'.cell? ⟨w.heap.size + 1, 0, none⟩ = some (.int .u64 x0) ∧ w'.cell? ⟨w.heap.size + 1, 1, none⟩ = some (.int .u64 x1) ∧ w'.cell? ⟨w.heap.size + 1, 2, none⟩ = some (.int .u64 x2) ∧ w'.cell? ⟨w.heap.size + 1, 3, none⟩ = some (.int .u64 (topW x3))) ((refine ⟨?_, ?_, ?_, ?_, ?_, ?_⟩ <;> (refine cell_later (w := W0) ?_ (by assumption); go_grown))) (first | (go_at_call 19; refine (shift_WideJam _ _ _ _ _ _).mono ?_; rintro en z1 ⟨rfl, hB_z1⟩; have hb_z1 : Below W0.heap.size W0 z1 := below_after (by go_grown) hB_z1; have hs_z1 := hb_z1.size; have lay_z1 := laid_after hB_z1) | (go_at_call 12; refine (pack_Round _ _ _ _ _ _ _ _ _ _).mono ?_; rw [hJ.out, hB.out, hF.out]; rintro en z2 ⟨rfl, hB_z2⟩; have hb_z2 : Below W0.heap.size W0 z2 := below_after (by go_grown) hB_z2; have hs_z2 := hb_z2.size; have lay_z2 := laid_after hB_z2) | (go_at_call 12; refine (pack_Round _ _ _ _ _ _ _ _ _ _).mono ?_; rintro en z3 ⟨rfl, hB_z3⟩; have hb_z3 : Below W0.heap.size W0 z3 := below_after (by go_grown) hB_z3; have hs_z3 := hb_z3.size; have lay_z3 := laid_after hB_z3) | (go_at_call 15; refine (law16_goes _).mono ?_; rintro en z4 ⟨rfl, hB_z4⟩; have hb_z4 : Below W0.heap.size W0 z4 := below_after (by go_grown) hB_z4; have hs_z4 := hb_z4.size; have lay_z4 := laid_after hB_z4))
  (replace cc1 := cell_later hb_z4 cc1; replace cc2 := cell_later hb_z4 cc2; replace cc3 := cell_later hb_z4 cc3; replace cc4 := cell_later hb_z4 cc4; replace cc5 := cell_later hb_z4 cc5; replace cc6 := cell_later hb_z4 cc6; replace hBW := below_after hBW hb_z4; have hsb_z4 := hb_z4.size; have hl_z4 : w.heap.size < z4.heap.size ∧ w.heap.size + 1 < z4.heap.size := (by omega); have hn_z4 : w.heap.size ≠ z4.heap.size ∧ z4.heap.size ≠ w.heap.size ∧ w.heap.size ≠ z4.heap.size + 1 ∧ z4.heap.size + 1 ≠ w.heap.size ∧ w.heap.size + 1 ≠ z4.heap.size ∧ z4.heap.size ≠ w.heap.size + 1 ∧ w.heap.size + 1 ≠ z4.heap.size + 1 ∧ z4.heap.size + 1 ≠ w.heap.size + 1 := (by omega))
  go_wp2_with fail
  go_returns
  exact ⟨rfl, by go_grown⟩
end Go.Proofs.YtgdbdbjegiaifaaDoor
