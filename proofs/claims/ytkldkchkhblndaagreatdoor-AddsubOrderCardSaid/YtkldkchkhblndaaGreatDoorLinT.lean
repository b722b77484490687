/- A drawn region that lays three boxes, in lexical order. -/
import Derived.Test.YtkldkchkhblndaaGreatDoorLin
set_option linter.unusedSimpArgs false
set_option linter.unusedVariables false
namespace Go.Lin
open Go.RowKit
section
variable {P : Program} {ops : Array Oper} {md : Region.Mode} {C : World → Prop} {Q : Exit → Act → World → Prop} {m : Nat} {listed : Array Bool} {a : Act}
theorem new3 (N : Nat) (hC : ∀ w w', C w → Below w.heap.size w w' → C w') (hN : ∀ w, C w → N ≤ w.heap.size) (i j k : Nat) (oi oj ok : Oper) (hi : ops[i]? = some oi) (hj : ops[j]? = some oj) (hk : ops[k]? = some ok) (hij : i ≠ j) (hik : i ≠ k) (hjk : j ≠ k) (hs : Region.noSelect ops = true)
    (hw : Region.wanted oi (yielded ops a.tmps) = true) (hwj : Region.wanted oj (yielded ops a.tmps) = true) (hwk : Region.wanted ok (yielded ops a.tmps) = true) (ha1 : oi.apart ops oj = true) (ha2 : oi.apart ops ok = true) (ha3 : oj.apart ops ok = true)
    (hB : lateB md ops listed i = true) (hBj : lateB md ops (listed.setIfInBounds i true) j = true) (hBk : lateB md ops ((listed.setIfInBounds i true).setIfInBounds j true) k = true)
    (hr : only md ops (((listed.setIfInBounds i true).setIfInBounds j true).setIfInBounds k true) [] = true) (hn : newOp oi.op = true) (hnj : newOp oj.op = true) (hnk : newOp ok.op = true)
    (z y x : Value) (hz : ∀ t, oi.op = .alloc t → ∀ w, (zeroValue t).run P w = .ok z w) (hy : ∀ t, oj.op = .alloc t → ∀ w, (zeroValue t).run P w = .ok y w) (hx : ∀ t, ok.op = .alloc t → ∀ w, (zeroValue t).run P w = .ok x w)
    (h : ∀ b c d w, C w → N ≤ b → N ≤ c → N ≤ d → b ≠ c → b ≠ d → c ≠ d → w.heap[b]? = some (objOf z a oi.op) → w.heap[c]? = some (objOf y a oj.op) → w.heap[d]? = some (objOf x a ok.op) → wpAny P md ops Q m (((listed.setIfInBounds i true).setIfInBounds j true).setIfInBounds k true) (((a.put oi.dst (ptrOf b)).put oj.dst (ptrOf c)).put ok.dst (ptrOf d)) w) : FinG P md ops C Q (m + 1 + 1 + 1) listed a := by
  obtain ⟨p1, p2, p3⟩ := Oper.apart_spec ha1
  obtain ⟨q1, q2, q3⟩ := Oper.apart_spec ha2
  obtain ⟨r1, r2, r3⟩ := Oper.apart_spec ha3
  refine ⟨FreshD N (fun n => if n = i then objOf z a oi.op else if n = j then objOf y a oj.op else objOf x a ok.op) (fun _ => ptrOf), fresh_stable hC, late_step hi hB (fresh_late hC hN hw (fun w _ => by rw [if_pos rfl]; exact run_new hn hz w)) fun b => late_step hj hBj (fresh_late hC hN (by rw [wanted_put oj a oi.dst _ p1]; exact hwj) (fun w _ => by rw [execOp_put oj (fun cs b => Region.noSelect_spec hs j oj cs b hj) a oi.dst _ p1, if_neg (Ne.symm hij), if_pos rfl]; exact run_new hnj hy w)) fun c => late_step hk hBk (fresh_late hC hN (by rw [wanted_put ok _ oj.dst _ r1, wanted_put ok a oi.dst _ q1]; exact hwk) (fun w _ => by rw [execOp_put ok (fun cs b => Region.noSelect_spec hs k ok cs b hk) _ oj.dst _ r1, execOp_put ok (fun cs b => Region.noSelect_spec hs k ok cs b hk) a oi.dst _ q1, if_neg (Ne.symm hik), if_neg (Ne.symm hjk)]; exact run_new hnk hx w)) fun d => g_end hr fun w hR => ?_⟩
  obtain ⟨u, rfl, hu, ho⟩ := hR.2.1 i b (by simp [upd, hij, hik])
  obtain ⟨v, rfl, hv, ho'⟩ := hR.2.1 j c (by simp [upd, hjk])
  obtain ⟨t, rfl, ht, ho''⟩ := hR.2.1 k d (by simp [upd])
  have ho : w.heap[u]? = some (objOf z a oi.op) := by have h0 := ho; simp only [if_true] at h0; exact h0
  have ho' : w.heap[v]? = some (objOf y a oj.op) := by have h0 := ho'; simp only [if_neg (Ne.symm hij), if_true] at h0; exact h0
  have ho'' : w.heap[t]? = some (objOf x a ok.op) := by have h0 := ho''; simp only [if_neg (Ne.symm hik), if_neg (Ne.symm hjk)] at h0; exact h0
  have n1 : u ≠ v := fun e => hij (hR.2.2 i j u (by simp [upd, hij, hik]) (by simp [upd, hjk, e]))
  have n2 : u ≠ t := fun e => hik (hR.2.2 i k u (by simp [upd, hij, hik]) (by simp [upd, e]))
  have n3 : v ≠ t := fun e => hjk (hR.2.2 j k v (by simp [upd, hjk]) (by simp [upd, e]))
  have := h u v t w hR.1 hu hv ht n1 n2 n3 ho ho' ho''
  simpa [FreshD] using this
end
end Go.Lin
