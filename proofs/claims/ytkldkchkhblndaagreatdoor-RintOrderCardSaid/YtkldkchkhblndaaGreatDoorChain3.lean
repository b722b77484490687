/- The contracts of wide.Add and wide.Sub, where nothing is carried out. -/
import Derived.Test.YtkldkchkhblndaaGreatDoorChain2
import Derived.Test.YtkldkchkhblndaaGreatDoorShift6
import Derived.Test.YtkldkchkhblndaaGreatDoorWide
import Derived.Test.YtkldkchkhblndaaGreatDoorFormat
set_option linter.unusedSimpArgs false
set_option linter.unusedVariables false
namespace Go.Proofs.YtkldkchkhblndaaGreatDoor
open Go.RowKit Go.Hb
theorem chain_add_v (a0 a1 a2 a3 b0 b1 b2 b3 : Int) [U64 a0] [U64 a1] [U64 a2] [U64 a3] [U64 b0] [U64 b1] [U64 b2] [U64 b3] (w : World) :
    Calls Tryz.prog 137 #[.agg #[.int .u64 (a0), .int .u64 (a1), .int .u64 (a2), .int .u64 (a3)], .agg #[.int .u64 (b0), .int .u64 (b1), .int .u64 (b2), .int .u64 (b3)], .func (.func 105) #[] #[]] w fun e W' => e = .returned (.tuple #[.agg #[.int .u64 (s64 a0 b0 0), .int .u64 (s64 a1 b1 (c64 a0 b0 0)), .int .u64 (s64 a2 b2 (c64 a1 b1 (c64 a0 b0 0))), .int .u64 (s64 a3 b3 (c64 a2 b2 (c64 a1 b1 (c64 a0 b0 0))))], .bool (c64 a3 b3 (c64 a2 b2 (c64 a1 b1 (c64 a0 b0 0))) != 0)]) ∧ Below w.heap.size w W' := by
  refine (chain_add a0 a1 a2 a3 b0 b1 b2 b3 w).mono ?_
  rintro e W' ⟨⟨o0, o1, o2, o3, c, h, rfl⟩, hB⟩
  have h' : (o0, o1, o2, o3, c) = (s64 a0 b0 0, s64 a1 b1 (c64 a0 b0 0), s64 a2 b2 (c64 a1 b1 (c64 a0 b0 0)), s64 a3 b3 (c64 a2 b2 (c64 a1 b1 (c64 a0 b0 0))), c64 a3 b3 (c64 a2 b2 (c64 a1 b1 (c64 a0 b0 0)))) := h
  cases h'
  exact ⟨rfl, hB⟩
theorem chain_sub_v (a0 a1 a2 a3 b0 b1 b2 b3 : Int) [U64 a0] [U64 a1] [U64 a2] [U64 a3] [U64 b0] [U64 b1] [U64 b2] [U64 b3] (w : World) :
    Calls Tryz.prog 137 #[.agg #[.int .u64 (a0), .int .u64 (a1), .int .u64 (a2), .int .u64 (a3)], .agg #[.int .u64 (b0), .int .u64 (b1), .int .u64 (b2), .int .u64 (b3)], .func (.func 140) #[] #[]] w fun e W' => e = .returned (.tuple #[.agg #[.int .u64 (dd64 a0 b0 0), .int .u64 (dd64 a1 b1 (bb64 a0 b0 0)), .int .u64 (dd64 a2 b2 (bb64 a1 b1 (bb64 a0 b0 0))), .int .u64 (dd64 a3 b3 (bb64 a2 b2 (bb64 a1 b1 (bb64 a0 b0 0))))], .bool (bb64 a3 b3 (bb64 a2 b2 (bb64 a1 b1 (bb64 a0 b0 0))) != 0)]) ∧ Below w.heap.size w W' := by
  refine (chain_sub a0 a1 a2 a3 b0 b1 b2 b3 w).mono ?_
  rintro e W' ⟨⟨o0, o1, o2, o3, c, h, rfl⟩, hB⟩
  have h' : (o0, o1, o2, o3, c) = (dd64 a0 b0 0, dd64 a1 b1 (bb64 a0 b0 0), dd64 a2 b2 (bb64 a1 b1 (bb64 a0 b0 0)), dd64 a3 b3 (bb64 a2 b2 (bb64 a1 b1 (bb64 a0 b0 0))), bb64 a3 b3 (bb64 a2 b2 (bb64 a1 b1 (bb64 a0 b0 0)))) := h
  cases h'
  exact ⟨rfl, hB⟩
theorem s64_eq (x y c : Int) : x + y + c = s64 x y c + 18446744073709551616 * c64 x y c := by unfold s64 c64; omega
theorem dd64_eq (x y c : Int) [hx : U64 x] [hy : U64 y] (h0 : 0 ≤ c) (h1 : c ≤ 1) : x - y - c = dd64 x y c - 18446744073709551616 * bb64 x y c := by
  have := hx.ge; have := hx.lt; have := hy.ge; have := hy.lt
  unfold dd64 bb64; split <;> omega
theorem cat4_int (a b c d : Int) [ha : U64 a] [hb : U64 b] [hc : U64 c] [hd : U64 d] : (cat4 a b c d : Int) = a + b * 18446744073709551616 + c * 340282366920938463463374607431768211456 + d * 6277101735386680763835789423207666416102355444464034512896 := by
  have := ha.ge; have := hb.ge; have := hc.ge; have := hd.ge
  unfold cat4; omega
theorem sum_words (a0 a1 a2 a3 b0 b1 b2 b3 : Int) [U64 a0] [U64 a1] [U64 a2] [U64 a3] [U64 b0] [U64 b1] [U64 b2] [U64 b3] (h : cat4 a0 a1 a2 a3 + cat4 b0 b1 b2 b3 < 2 ^ 256) :
    cat4 (s64 a0 b0 0) (s64 a1 b1 (c64 a0 b0 0)) (s64 a2 b2 (c64 a1 b1 (c64 a0 b0 0))) (s64 a3 b3 (c64 a2 b2 (c64 a1 b1 (c64 a0 b0 0)))) = cat4 a0 a1 a2 a3 + cat4 b0 b1 b2 b3 ∧ c64 a3 b3 (c64 a2 b2 (c64 a1 b1 (c64 a0 b0 0))) = 0 := by
  have k0 := c64_bd a0 b0 0 (by decide) (by decide)
  have k1 := c64_bd a1 b1 _ k0.1 k0.2
  have k2 := c64_bd a2 b2 _ k1.1 k1.2
  have k3 := c64_bd a3 b3 _ k2.1 k2.2
  have e0 := s64_eq a0 b0 0
  have e1 := s64_eq a1 b1 (c64 a0 b0 0)
  have e2 := s64_eq a2 b2 (c64 a1 b1 (c64 a0 b0 0))
  have e3 := s64_eq a3 b3 (c64 a2 b2 (c64 a1 b1 (c64 a0 b0 0)))
  have x1 := cat4_int a0 a1 a2 a3
  have x2 := cat4_int b0 b1 b2 b3
  have x3 := cat4_int (s64 a0 b0 0) (s64 a1 b1 (c64 a0 b0 0)) (s64 a2 b2 (c64 a1 b1 (c64 a0 b0 0))) (s64 a3 b3 (c64 a2 b2 (c64 a1 b1 (c64 a0 b0 0))))
  have h256 : (2 : Nat) ^ 256 = 115792089237316195423570985008687907853269984665640564039457584007913129639936 := by decide
  rw [h256] at h
  generalize s64 a0 b0 0 = t0 at *
  generalize c64 a0 b0 0 = d0 at *
  generalize s64 a1 b1 d0 = t1 at *
  generalize c64 a1 b1 d0 = d1 at *
  generalize s64 a2 b2 d1 = t2 at *
  generalize c64 a2 b2 d1 = d2 at *
  generalize s64 a3 b3 d2 = t3 at *
  generalize c64 a3 b3 d2 = d3 at *
  generalize cat4 a0 a1 a2 a3 = A at *
  generalize cat4 b0 b1 b2 b3 = B at *
  generalize cat4 t0 t1 t2 t3 = S at *
  omega
theorem dif_words (a0 a1 a2 a3 b0 b1 b2 b3 : Int) [U64 a0] [U64 a1] [U64 a2] [U64 a3] [U64 b0] [U64 b1] [U64 b2] [U64 b3] (h : cat4 b0 b1 b2 b3 ≤ cat4 a0 a1 a2 a3) :
    cat4 (dd64 a0 b0 0) (dd64 a1 b1 (bb64 a0 b0 0)) (dd64 a2 b2 (bb64 a1 b1 (bb64 a0 b0 0))) (dd64 a3 b3 (bb64 a2 b2 (bb64 a1 b1 (bb64 a0 b0 0)))) = cat4 a0 a1 a2 a3 - cat4 b0 b1 b2 b3 ∧ bb64 a3 b3 (bb64 a2 b2 (bb64 a1 b1 (bb64 a0 b0 0))) = 0 := by
  have k0 := bb64_bd a0 b0 0 (by decide) (by decide)
  have k1 := bb64_bd a1 b1 _ k0.1 k0.2
  have k2 := bb64_bd a2 b2 _ k1.1 k1.2
  have k3 := bb64_bd a3 b3 _ k2.1 k2.2
  have e0 := dd64_eq a0 b0 0 (by decide) (by decide)
  have e1 := dd64_eq a1 b1 (bb64 a0 b0 0) k0.1 k0.2
  have e2 := dd64_eq a2 b2 (bb64 a1 b1 (bb64 a0 b0 0)) k1.1 k1.2
  have e3 := dd64_eq a3 b3 (bb64 a2 b2 (bb64 a1 b1 (bb64 a0 b0 0))) k2.1 k2.2
  have x1 := cat4_int a0 a1 a2 a3
  have x2 := cat4_int b0 b1 b2 b3
  have x3 := cat4_int (dd64 a0 b0 0) (dd64 a1 b1 (bb64 a0 b0 0)) (dd64 a2 b2 (bb64 a1 b1 (bb64 a0 b0 0))) (dd64 a3 b3 (bb64 a2 b2 (bb64 a1 b1 (bb64 a0 b0 0))))
  have l3 := cat4_lt (dd64 a0 b0 0) (dd64 a1 b1 (bb64 a0 b0 0)) (dd64 a2 b2 (bb64 a1 b1 (bb64 a0 b0 0))) (dd64 a3 b3 (bb64 a2 b2 (bb64 a1 b1 (bb64 a0 b0 0))))
  generalize dd64 a0 b0 0 = t0 at *
  generalize bb64 a0 b0 0 = d0 at *
  generalize dd64 a1 b1 d0 = t1 at *
  generalize bb64 a1 b1 d0 = d1 at *
  generalize dd64 a2 b2 d1 = t2 at *
  generalize bb64 a2 b2 d1 = d2 at *
  generalize dd64 a3 b3 d2 = t3 at *
  generalize bb64 a3 b3 d2 = d3 at *
  generalize cat4 a0 a1 a2 a3 = A at *
  generalize cat4 b0 b1 b2 b3 = B at *
  generalize cat4 t0 t1 t2 t3 = S at *
  omega
set_option maxRecDepth 100000 in
theorem wide_Add_w (a0 a1 a2 a3 b0 b1 b2 b3 o0 o1 o2 o3 : Int) [U64 a0] [U64 a1] [U64 a2] [U64 a3] [U64 b0] [U64 b1] [U64 b2] [U64 b3] (w : World) (c : Bool)
    (h0 : Hid (s64 a0 b0 0 = o0)) (h1 : Hid (s64 a1 b1 (c64 a0 b0 0) = o1)) (h2 : Hid (s64 a2 b2 (c64 a1 b1 (c64 a0 b0 0)) = o2)) (h3 : Hid (s64 a3 b3 (c64 a2 b2 (c64 a1 b1 (c64 a0 b0 0))) = o3)) (h4 : Hid ((c64 a3 b3 (c64 a2 b2 (c64 a1 b1 (c64 a0 b0 0))) != 0) = c)) :
    Calls Tryz.prog 116 #[.agg #[.int .u64 (a0), .int .u64 (a1), .int .u64 (a2), .int .u64 (a3)], .agg #[.int .u64 (b0), .int .u64 (b1), .int .u64 (b2), .int .u64 (b3)]] w fun e W' => e = .returned (.tuple #[.agg #[.int .u64 (o0), .int .u64 (o1), .int .u64 (o2), .int .u64 (o3)], .bool c]) ∧ Below w.heap.size w W' := by
  go_enter Tryz.func116, Tryz.ntmps116
  go_wp2_with fail
  refine (chain_add_v a0 a1 a2 a3 b0 b1 b2 b3 _).mono ?_
  rw [h0.out, h1.out, h2.out, h3.out, h4.out]
  rintro en v1 ⟨rfl, hB⟩
  have hf0 := frozen_later hB (show World.frozen? _ ⟨w.heap.size + 1 + 1, 0, none⟩ = false by go_simp) (by first | omega | (simp; done) | (simp; omega))
  have hf1 := frozen_later hB (show World.frozen? _ ⟨w.heap.size + 1 + 1, 1, none⟩ = false by go_simp) (by first | omega | (simp; done) | (simp; omega))
  have hf2 := frozen_later hB (show World.frozen? _ ⟨w.heap.size + 1 + 1, 2, none⟩ = false by go_simp) (by first | omega | (simp; done) | (simp; omega))
  have hf3 := frozen_later hB (show World.frozen? _ ⟨w.heap.size + 1 + 1, 3, none⟩ = false by go_simp) (by first | omega | (simp; done) | (simp; omega))
  have hc0 := cell_later hB (show World.cell? _ ⟨w.heap.size + 1 + 1, 0, none⟩ = some (.int .u64 0) by go_simp)
  have hc1 := cell_later hB (show World.cell? _ ⟨w.heap.size + 1 + 1, 1, none⟩ = some (.int .u64 0) by go_simp)
  have hc2 := cell_later hB (show World.cell? _ ⟨w.heap.size + 1 + 1, 2, none⟩ = some (.int .u64 0) by go_simp)
  have hc3 := cell_later hB (show World.cell? _ ⟨w.heap.size + 1 + 1, 3, none⟩ = some (.int .u64 0) by go_simp)
  have hBW : Below w.heap.size w v1 := below_after (w := w) (by go_grown) hB
  clear hB
  go_wp2_with fail
  refine bodyPost_ret (by simp [results, Tryz.results116, go_sem, hc0, hc1, hc2, hc3]; try rfl) rfl ?_
  exact ⟨rfl, by go_grown⟩
set_option maxRecDepth 100000 in
theorem wide_Sub_w (a0 a1 a2 a3 b0 b1 b2 b3 o0 o1 o2 o3 : Int) [U64 a0] [U64 a1] [U64 a2] [U64 a3] [U64 b0] [U64 b1] [U64 b2] [U64 b3] (w : World) (c : Bool)
    (h0 : Hid (dd64 a0 b0 0 = o0)) (h1 : Hid (dd64 a1 b1 (bb64 a0 b0 0) = o1)) (h2 : Hid (dd64 a2 b2 (bb64 a1 b1 (bb64 a0 b0 0)) = o2)) (h3 : Hid (dd64 a3 b3 (bb64 a2 b2 (bb64 a1 b1 (bb64 a0 b0 0))) = o3)) (h4 : Hid ((bb64 a3 b3 (bb64 a2 b2 (bb64 a1 b1 (bb64 a0 b0 0))) != 0) = c)) :
    Calls Tryz.prog 119 #[.agg #[.int .u64 (a0), .int .u64 (a1), .int .u64 (a2), .int .u64 (a3)], .agg #[.int .u64 (b0), .int .u64 (b1), .int .u64 (b2), .int .u64 (b3)]] w fun e W' => e = .returned (.tuple #[.agg #[.int .u64 (o0), .int .u64 (o1), .int .u64 (o2), .int .u64 (o3)], .bool c]) ∧ Below w.heap.size w W' := by
  go_enter Tryz.func119, Tryz.ntmps119
  go_wp2_with fail
  refine (chain_sub_v a0 a1 a2 a3 b0 b1 b2 b3 _).mono ?_
  rw [h0.out, h1.out, h2.out, h3.out, h4.out]
  rintro en v1 ⟨rfl, hB⟩
  have hf0 := frozen_later hB (show World.frozen? _ ⟨w.heap.size + 1 + 1, 0, none⟩ = false by go_simp) (by first | omega | (simp; done) | (simp; omega))
  have hf1 := frozen_later hB (show World.frozen? _ ⟨w.heap.size + 1 + 1, 1, none⟩ = false by go_simp) (by first | omega | (simp; done) | (simp; omega))
  have hf2 := frozen_later hB (show World.frozen? _ ⟨w.heap.size + 1 + 1, 2, none⟩ = false by go_simp) (by first | omega | (simp; done) | (simp; omega))
  have hf3 := frozen_later hB (show World.frozen? _ ⟨w.heap.size + 1 + 1, 3, none⟩ = false by go_simp) (by first | omega | (simp; done) | (simp; omega))
  have hc0 := cell_later hB (show World.cell? _ ⟨w.heap.size + 1 + 1, 0, none⟩ = some (.int .u64 0) by go_simp)
  have hc1 := cell_later hB (show World.cell? _ ⟨w.heap.size + 1 + 1, 1, none⟩ = some (.int .u64 0) by go_simp)
  have hc2 := cell_later hB (show World.cell? _ ⟨w.heap.size + 1 + 1, 2, none⟩ = some (.int .u64 0) by go_simp)
  have hc3 := cell_later hB (show World.cell? _ ⟨w.heap.size + 1 + 1, 3, none⟩ = some (.int .u64 0) by go_simp)
  have hBW : Below w.heap.size w v1 := below_after (w := w) (by go_grown) hB
  clear hB
  go_wp2_with fail
  refine bodyPost_ret (by simp [results, Tryz.results119, go_sem, hc0, hc1, hc2, hc3]; try rfl) rfl ?_
  exact ⟨rfl, by go_grown⟩
theorem wide_Add (a0 a1 a2 a3 b0 b1 b2 b3 : Int) [U64 a0] [U64 a1] [U64 a2] [U64 a3] [U64 b0] [U64 b1] [U64 b2] [U64 b3] (w : World) (h : cat4 a0 a1 a2 a3 + cat4 b0 b1 b2 b3 < 2 ^ 256) :
    Calls Tryz.prog 116 #[.agg #[.int .u64 (a0), .int .u64 (a1), .int .u64 (a2), .int .u64 (a3)], .agg #[.int .u64 (b0), .int .u64 (b1), .int .u64 (b2), .int .u64 (b3)]] w fun e W' => e = .returned (.tuple #[.agg #[.int .u64 (lo (cat4 a0 a1 a2 a3 + cat4 b0 b1 b2 b3)), .int .u64 (w1 (cat4 a0 a1 a2 a3 + cat4 b0 b1 b2 b3)), .int .u64 (w2 (cat4 a0 a1 a2 a3 + cat4 b0 b1 b2 b3)), .int .u64 (w3 (cat4 a0 a1 a2 a3 + cat4 b0 b1 b2 b3))], .bool false]) ∧ Below w.heap.size w W' := by
  obtain ⟨e1, e2⟩ := sum_words a0 a1 a2 a3 b0 b1 b2 b3 h
  rw [← e1]
  obtain ⟨p0, p1, p2, p3⟩ := parts_cat4 (s64 a0 b0 0) (s64 a1 b1 (c64 a0 b0 0)) (s64 a2 b2 (c64 a1 b1 (c64 a0 b0 0))) (s64 a3 b3 (c64 a2 b2 (c64 a1 b1 (c64 a0 b0 0))))
  rw [p0, p1, p2, p3]
  exact wide_Add_w a0 a1 a2 a3 b0 b1 b2 b3 _ _ _ _ w _ (Lib.hid rfl) (Lib.hid rfl) (Lib.hid rfl) (Lib.hid rfl) (Lib.hid (by rw [e2]; rfl))
theorem wide_Sub (a0 a1 a2 a3 b0 b1 b2 b3 : Int) [U64 a0] [U64 a1] [U64 a2] [U64 a3] [U64 b0] [U64 b1] [U64 b2] [U64 b3] (w : World) (h : cat4 b0 b1 b2 b3 ≤ cat4 a0 a1 a2 a3) :
    Calls Tryz.prog 119 #[.agg #[.int .u64 (a0), .int .u64 (a1), .int .u64 (a2), .int .u64 (a3)], .agg #[.int .u64 (b0), .int .u64 (b1), .int .u64 (b2), .int .u64 (b3)]] w fun e W' => e = .returned (.tuple #[.agg #[.int .u64 (lo (cat4 a0 a1 a2 a3 - cat4 b0 b1 b2 b3)), .int .u64 (w1 (cat4 a0 a1 a2 a3 - cat4 b0 b1 b2 b3)), .int .u64 (w2 (cat4 a0 a1 a2 a3 - cat4 b0 b1 b2 b3)), .int .u64 (w3 (cat4 a0 a1 a2 a3 - cat4 b0 b1 b2 b3))], .bool false]) ∧ Below w.heap.size w W' := by
  obtain ⟨e1, e2⟩ := dif_words a0 a1 a2 a3 b0 b1 b2 b3 h
  rw [← e1]
  obtain ⟨p0, p1, p2, p3⟩ := parts_cat4 (dd64 a0 b0 0) (dd64 a1 b1 (bb64 a0 b0 0)) (dd64 a2 b2 (bb64 a1 b1 (bb64 a0 b0 0))) (dd64 a3 b3 (bb64 a2 b2 (bb64 a1 b1 (bb64 a0 b0 0))))
  rw [p0, p1, p2, p3]
  exact wide_Sub_w a0 a1 a2 a3 b0 b1 b2 b3 _ _ _ _ w _ (Lib.hid rfl) (Lib.hid rfl) (Lib.hid rfl) (Lib.hid rfl) (Lib.hid (by rw [e2]; rfl))
end Go.Proofs.YtkldkchkhblndaaGreatDoor
