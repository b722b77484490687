/- The plain law of the total order, by keys. The contracts of comp.Order: for every input. Condition: the listed table is laid. -/
import Derived.Test.YthbpbbbngablpaaDoorWholes
import Derived.Test.YthbpbbbngablpaaDoorWidecmp
import Derived.Test.YthbpbbbngablpaaDoorFormat4
import Derived.Test.YthbpbbbngablpaaDoorFormat3
import Derived.Test.YthbpbbbngablpaaDoorMode
import Derived.Test.YthbpbbbngablpaaDoorTurn
set_option linter.unusedSimpArgs false
set_option linter.unusedVariables false
namespace Go.Proofs.YthbpbbbngablpaaDoor
open Go.RowKit Go.Hb
def keyF (f : Int) (v : Nat) : Int := if sgnF f v then -(codeF f v : Int) - 1 else codeF f v
def sgnI (x : Int) : Int := if x < 0 then -1 else if x = 0 then 0 else 1
def ordF (f : Int) (a b : Nat) : Int := if f < 4 then (if sgnF f a && !(sgnF f b) then -1 else if sgnF f b && !(sgnF f a) then 1 else if sgnF f a then -(cmpN (codeF f a) (codeF f b)) else cmpN (codeF f a) (codeF f b)) else 0
theorem ord_key (f : Int) (a b : Nat) (hf : f < 4) : ordF f a b = sgnI (keyF f a - keyF f b) := by
  unfold ordF keyF
  rw [if_pos hf]
  generalize codeF f a = x
  generalize codeF f b = y
  cases sgnF f a <;> cases sgnF f b <;> simp only [Bool.not_true, Bool.not_false, Bool.and_true, Bool.and_false, Bool.false_eq_true, if_true, if_false] <;> unfold sgnI
  all_goals (try unfold cmpN)
  all_goals repeat' split
  all_goals omega
theorem ord_bd (f : Int) (a b : Nat) : -1 ≤ ordF f a b ∧ ordF f a b ≤ 1 := by
  by_cases hf : f < 4
  · rw [ord_key f a b hf]; unfold sgnI; repeat' split <;> omega
  · unfold ordF; rw [if_neg hf]; omega
theorem ord_anti (f : Int) (a b : Nat) : ordF f b a = -(ordF f a b) := by
  by_cases hf : f < 4
  · rw [ord_key _ _ _ hf, ord_key _ _ _ hf]; unfold sgnI; repeat' split <;> omega
  · unfold ordF; rw [if_neg hf, if_neg hf]; rfl
theorem ord_trans (f : Int) (a b c : Nat) (h1 : ordF f a b ≤ 0) (h2 : ordF f b c ≤ 0) : ordF f a c ≤ 0 := by
  by_cases hf : f < 4
  · rw [ord_key _ _ _ hf] at *
    unfold sgnI at *
    repeat' split at h1
    all_goals repeat' split at h2
    all_goals repeat' split
    all_goals omega
  · unfold ordF; rw [if_neg hf]; omega
theorem key_cut (f : Int) (a b : Nat) (h0 : 0 ≤ f) (hf : f < 4) : keyF f a = keyF f b ↔ lowN a (widthS f) = lowN b (widthS f) := by
  have ca := code_lt f a h0 hf
  have cb := code_lt f b h0 hf
  rw [cut_code f a h0 hf, cut_code f b h0 hf]
  unfold keyF signN
  cases sgnF f a <;> cases sgnF f b <;> simp only [Bool.false_eq_true, if_true, if_false] <;> constructor <;> intro h <;> omega
theorem ord_zero (f : Int) (a b : Nat) (h0 : 0 ≤ f) (hf : f < 4) : ordF f a b = 0 ↔ lowN a (widthS f) = lowN b (widthS f) := by
  rw [← key_cut f a b h0 hf, ord_key _ _ _ hf]
  unfold sgnI
  constructor <;> intro h
  · repeat' split at h
    all_goals omega
  · rw [if_neg (by omega), if_pos (by omega)]
end Go.Proofs.YthbpbbbngablpaaDoor

namespace Go.Proofs.YthbpbbbngablpaaDoor
open Go.RowKit Go.Hb
/-- The bits without a sign. -/
def sizeF (f : Int) (v : Nat) : Nat := makeF f false (expF f v) (cat (hi (fracF f v)) (lo (fracF f v)))
theorem sizeF_c (f : Int) (v : Nat) (h0 : 0 ≤ f) (hf : f < 4) : sizeF f v = codeF f v := by
  unfold sizeF
  rw [cat_small _ (fracF_lt128 f v h0 hf), makeF_c f _ _ _ h0 hf (by omega) (expF_bd f v h0 hf)]
  unfold codeF signN
  rw [Nat.mod_eq_of_lt (frac_lt_p f v h0 hf), Int.toNat_natCast]
  rfl
theorem sizeF_cat (f : Int) (v : Nat) (h0 : 0 ≤ f) : cat (hi (sizeF f v)) (lo (sizeF f v)) = sizeF f v := cat_small _ (makeF_lt _ _ _ _ h0)
set_option maxRecDepth 100000 in
set_option maxHeartbeats 4000000 in
theorem order_size (f h l : Int) (bf : Nat) [hU : U8 f] [U64 h] [U64 l] (w : World) [hLay : Laid w] (cf : w.cell? ⟨bf, 0, none⟩ = some (.int .u8 f)) (sf : bf < w.heap.size) :
    Calls Tryd.prog 21 #[.agg #[.int .u64 (h), .int .u64 (l)], .pointer (some ⟨bf, 0, none⟩)] w fun en w' => en = .returned (.tuple #[.agg #[.int .u64 (hi (sizeF f (cat h l))), .int .u64 (lo (sizeF f (cat h l)))], .bool (sgnF f (cat h l))]) ∧ Below w.heap.size w w' := by
  go_enter Tryd.func21, Tryd.ntmps21
  skip
  (go_wp2_with fail; refine (format_Split _ _ _ _).mono ?_; rintro en v1 ⟨rfl, hB_v1⟩; have lay_v1 := laid_after hB_v1; have cc1 := cl hB_v1 (show World.cell? _ ⟨bf, 0, none⟩ = some (.int .u8 f) by go_simp); have cc2 := cl hB_v1 (show World.cell? _ ⟨w.heap.size, 0, none⟩ = some (.int .u64 h) by go_simp); have cc3 := cl hB_v1 (show World.cell? _ ⟨w.heap.size, 1, none⟩ = some (.int .u64 l) by go_simp); obtain ⟨cc4, fcc4⟩ := pf hB_v1 (show World.cell? _ ⟨w.heap.size + 1, 0, none⟩ = some (.int .u64 0) by go_simp) (by go_simp); obtain ⟨cc5, fcc5⟩ := pf hB_v1 (show World.cell? _ ⟨w.heap.size + 1, 1, none⟩ = some (.int .u64 0) by go_simp) (by go_simp); have hs_v1 := hB_v1.size; (try simp only [World.size_alloc, World.size_setCell, World.size_drew] at hs_v1); have hBW : Below w.heap.size w v1 := below_after (w := w) (by go_grown) hB_v1; have hn_v1 := an (nl cc1) (an (nl cc2) (nl cc4)); clear hB_v1)
  (go_wp2_with fail; refine (format_Make _ _ _ _ _ _).mono ?_; rintro en v2 ⟨rfl, hB_v2⟩; have lay_v2 := laid_after hB_v2; have hG := cell_grown cc1 (by go_grown) hB_v2; replace cc1 := cl hG cc1; replace cc2 := cl hG cc2; replace cc3 := cl hG cc3; replace fcc4 := fl hG fcc4 cc4; replace cc4 := cl hG cc4; replace fcc5 := fl hG fcc5 cc5; replace cc5 := cl hG cc5; have cc6 := cl hB_v2 (show World.cell? _ ⟨v1.heap.size, 0, none⟩ = some (.int .u64 (hi (fracF f (cat h l)))) by go_simp); have cc7 := cl hB_v2 (show World.cell? _ ⟨v1.heap.size, 1, none⟩ = some (.int .u64 (lo (fracF f (cat h l)))) by go_simp); have hs_v2 := hG.size; clear hG; replace hBW : Below w.heap.size w v2 := below_after (w := w) (by go_grown) hB_v2; have hn_v2 := an (nl cc1) (an (nl cc2) (an (nl cc4) (nl cc6))); clear hB_v2)
  go_wp2_with fail
  refine bodyPost_ret (by simp [results, Tryd.results21, go_sem, cc4, cc5]; try rfl) rfl ?_
  exact ⟨rfl, by go_grown⟩
set_option maxRecDepth 100000 in
set_option maxHeartbeats 4000000 in
theorem order_in (f h l h' l' xh xl yh yl c : Int) (s t : Bool) [hU : U8 f] [U64 h] [U64 l] [U64 h'] [U64 l'] [U64 xh] [U64 xl] [U64 yh] [U64 yl] (w : World) [hLay : Laid w] (hf : f < 4)
    (x0 : Hid (hi (sizeF f (cat h l)) = xh)) (x1 : Hid (lo (sizeF f (cat h l)) = xl)) (x2 : Hid (sgnF f (cat h l) = s)) (y0 : Hid (hi (sizeF f (cat h' l')) = yh)) (y1 : Hid (lo (sizeF f (cat h' l')) = yl)) (y2 : Hid (sgnF f (cat h' l') = t)) (c0 : Hid (cmpN (cat xh xl) (cat yh yl) = c)) (c1 : -1 ≤ c) (c2 : c ≤ 1) :
    Calls Tryd.prog 8 #[.int .u8 f, .agg #[.int .u64 (h), .int .u64 (l)], .agg #[.int .u64 (h'), .int .u64 (l')]] w fun en w' => en = .returned (.int .i64 (if s && !t then -1 else if t && !s then 1 else if s then -c else c)) ∧ Below w.heap.size w w' := by
  have hfd : decide (f < 4) = true := decide_eq_true hf
  have hw1 : IntKind.i64.wrap (-c) = -c := wrap_in _ (by omega) (by omega)
  clear hf c1 c2
  cases s <;> cases t
  all_goals go_enter Tryd.func8, Tryd.ntmps8
  all_goals skip
  all_goals (go_wp2_with fail; refine (format_Known_b _ _).mono ?_; rintro en v1 ⟨rfl, hB_v1⟩; have lay_v1 := laid_after hB_v1; have cc1 := cl hB_v1 (show World.cell? _ ⟨w.heap.size, 0, none⟩ = some (.int .u8 f) by go_simp); have cc2 := cl hB_v1 (show World.cell? _ ⟨w.heap.size + 1, 0, none⟩ = some (.int .u64 h) by go_simp); have cc3 := cl hB_v1 (show World.cell? _ ⟨w.heap.size + 1, 1, none⟩ = some (.int .u64 l) by go_simp); have cc4 := cl hB_v1 (show World.cell? _ ⟨w.heap.size + 1 + 1, 0, none⟩ = some (.int .u64 h') by go_simp); have cc5 := cl hB_v1 (show World.cell? _ ⟨w.heap.size + 1 + 1, 1, none⟩ = some (.int .u64 l') by go_simp); have hs_v1 := hB_v1.size; (try simp only [World.size_alloc, World.size_setCell, World.size_drew] at hs_v1); have hBW : Below w.heap.size w v1 := below_after (w := w) (by go_grown) hB_v1; have hn_v1 := an (nl cc1) (an (nl cc2) (nl cc4)); clear hB_v1)
  all_goals (go_wp2_with fail; refine (order_size f _ _ _ _ (by assumption) (by omega)).mono ?_; rw [x0.out, x1.out, x2.out]; rintro en v2 ⟨rfl, hB_v2⟩; have lay_v2 := laid_after hB_v2; have hG := cell_grown cc1 (by go_grown) hB_v2; replace cc1 := cl hG cc1; replace cc2 := cl hG cc2; replace cc3 := cl hG cc3; replace cc4 := cl hG cc4; replace cc5 := cl hG cc5; have hs_v2 := hG.size; clear hG; replace hBW : Below w.heap.size w v2 := below_after (w := w) (by go_grown) hB_v2; have hn_v2 := an (nl cc1) (an (nl cc2) (nl cc4)); clear hB_v2)
  all_goals (go_wp2_with fail; refine (order_size f _ _ _ _ (by first | assumption | go_simp) (by first | omega | (go_simp; done) | (go_simp; omega))).mono ?_; rw [y0.out, y1.out, y2.out]; rintro en v3 ⟨rfl, hB_v3⟩; have lay_v3 := laid_after hB_v3; have hG := cell_grown cc1 (by go_grown) hB_v3; replace cc1 := cl hG cc1; replace cc2 := cl hG cc2; replace cc3 := cl hG cc3; replace cc4 := cl hG cc4; replace cc5 := cl hG cc5; have cc6 := cl hB_v3 (show World.cell? _ ⟨v2.heap.size, 0, none⟩ = some (.int .u64 xh) by go_simp); have cc7 := cl hB_v3 (show World.cell? _ ⟨v2.heap.size, 1, none⟩ = some (.int .u64 xl) by go_simp); have hs_v3 := hG.size; clear hG; replace hBW : Below w.heap.size w v3 := below_after (w := w) (by go_grown) hB_v3; have hn_v3 := an (nl cc1) (an (nl cc2) (an (nl cc4) (nl cc6))); clear hB_v3)
  all_goals (go_wp2_with fail; refine (word_Cmp _ _ _ _ _).mono ?_; rw [c0.out]; rintro en v4 ⟨rfl, hB_v4⟩; have lay_v4 := laid_after hB_v4; have hG := cell_grown cc1 (by go_grown) hB_v4; replace cc1 := cl hG cc1; replace cc2 := cl hG cc2; replace cc3 := cl hG cc3; replace cc4 := cl hG cc4; replace cc5 := cl hG cc5; replace cc6 := cl hG cc6; replace cc7 := cl hG cc7; have cc8 := cl hB_v4 (show World.cell? _ ⟨v3.heap.size, 0, none⟩ = some (.int .u64 yh) by go_simp); have cc9 := cl hB_v4 (show World.cell? _ ⟨v3.heap.size, 1, none⟩ = some (.int .u64 yl) by go_simp); have hs_v4 := hG.size; clear hG; replace hBW : Below w.heap.size w v4 := below_after (w := w) (by go_grown) hB_v4; have hn_v4 := an (nl cc1) (an (nl cc2) (an (nl cc4) (an (nl cc6) (nl cc8)))); clear hB_v4)
  all_goals go_wp2_with fail
  all_goals go_returns
  all_goals exact ⟨rfl, by go_grown⟩
theorem comp_Order (f h l h' l' : Int) [hU : U8 f] [U64 h] [U64 l] [U64 h'] [U64 l'] (w : World) [hLay : Laid w] :
    Calls Tryd.prog 8 #[.int .u8 f, .agg #[.int .u64 (h), .int .u64 (l)], .agg #[.int .u64 (h'), .int .u64 (l')]] w fun en w' => en = .returned (.int .i64 (ordF f (cat h l) (cat h' l'))) ∧ Below w.heap.size w w' := by
  by_cases hf : f < 4
  · have hb := cmpN_bd (cat (hi (sizeF f (cat h l))) (lo (sizeF f (cat h l)))) (cat (hi (sizeF f (cat h' l'))) (lo (sizeF f (cat h' l'))))
    refine (order_in f h l h' l' _ _ _ _ _ _ _ w hf (Lib.hid rfl) (Lib.hid rfl) (Lib.hid rfl) (Lib.hid rfl) (Lib.hid rfl) (Lib.hid rfl) (Lib.hid rfl) hb.1 hb.2).mono ?_
    rintro en v ⟨rfl, hB⟩
    refine ⟨ret_int ?_, hB⟩
    rw [sizeF_cat f _ hU.ge, sizeF_cat f _ hU.ge, sizeF_c f _ hU.ge hf, sizeF_c f _ hU.ge hf]
    unfold ordF
    rw [if_pos hf]
  · have hfd : decide (f < 4) = false := decide_eq_false hf
    have hz : ordF f (cat h l) (cat h' l') = 0 := by unfold ordF; rw [if_neg hf]
    rw [hz]
    clear hz hf
    go_enter Tryd.func8, Tryd.ntmps8
    skip
    (go_wp2_with fail; refine (format_Known_b _ _).mono ?_; rintro en v1 ⟨rfl, hB_v1⟩; have lay_v1 := laid_after hB_v1; have cc1 := cl hB_v1 (show World.cell? _ ⟨w.heap.size, 0, none⟩ = some (.int .u8 f) by go_simp); have cc2 := cl hB_v1 (show World.cell? _ ⟨w.heap.size + 1, 0, none⟩ = some (.int .u64 h) by go_simp); have cc3 := cl hB_v1 (show World.cell? _ ⟨w.heap.size + 1, 1, none⟩ = some (.int .u64 l) by go_simp); have cc4 := cl hB_v1 (show World.cell? _ ⟨w.heap.size + 1 + 1, 0, none⟩ = some (.int .u64 h') by go_simp); have cc5 := cl hB_v1 (show World.cell? _ ⟨w.heap.size + 1 + 1, 1, none⟩ = some (.int .u64 l') by go_simp); have hs_v1 := hB_v1.size; (try simp only [World.size_alloc, World.size_setCell, World.size_drew] at hs_v1); have hBW : Below w.heap.size w v1 := below_after (w := w) (by go_grown) hB_v1; have hn_v1 := an (nl cc1) (an (nl cc2) (nl cc4)); clear hB_v1)
    go_wp2_with fail
    go_returns
    exact ⟨rfl, by go_grown⟩
end Go.Proofs.YthbpbbbngablpaaDoor
