/- The contracts of wide.Add and wide.Sub, where nothing is carried out. -/
import Derived.RangeFuncNested
import Derived.RangeFuncCalls
import Derived.Shelf.RegionOpen
import Derived.OwnWalkIn
import Derived.TacticsInMore
import Derived.Test.YtkpjeceofcfnkaaGreatDoorLin
import Derived.RangeFuncBound
import Derived.RangeFuncLeaves
import Derived.RangeFuncFrom
import Derived.Shelf.Abstract
import Derived.WalkKit
import Derived.LoopNIn
import Derived.LoopIn
import Derived.RegionIn
import Derived.Test.YtkpjeceofcfnkaaGreatDoorWord
import Derived.Test.YtkpjeceofcfnkaaGreatDoorShift6
import Derived.Test.YtkpjeceofcfnkaaGreatDoorWide
import Derived.Test.YtkpjeceofcfnkaaGreatDoorFormat
set_option maxRecDepth 100000
set_option maxHeartbeats 8000000
set_option linter.unusedSimpArgs false
set_option linter.unusedVariables false
namespace Go.LinI
open Go.RowKit Go.Lin
section
variable {F : Fence} {n : Nat} {P : Program} {ops : Array Oper} {md : Region.Mode} {T L : Nat} {w : World} {Q : Exit → Act → World → Prop}
def qOp (P : Program) (ops : Array Oper) (w : World) (i : Nat) (K : Act → Prop) (a : Act) : Prop :=
  match ops[i]? with
  | none => K a
  | some o => if Region.wanted o (yielded ops a.tmps) then ∃ v, (execOp a.eval o).run P w = .ok (.value v) w ∧ K (a.put o.dst v) else K (a.put o.dst undef)
theorem qOp_mono {i : Nat} {a : Act} {K K' : Act → Prop} (h : ∀ a, K a → K' a) (hh : qOp P ops w i K a) : qOp P ops w i K' a := by
  unfold qOp at *
  split
  · rename_i ho; simp only [ho] at hh; exact h _ hh
  · rename_i o ho
    simp only [ho] at hh
    split
    · rename_i hw; simp only [hw, if_true] at hh; obtain ⟨v, h1, h2⟩ := hh; exact ⟨v, h1, h _ h2⟩
    · rename_i hw; simp only [hw] at hh; exact h _ hh
def NoDefer (ops : Array Oper) : Prop := ∀ (j : Nat) (o : Oper) c, ops[j]? = some o → o.op ≠ .defer c
theorem wpOp_of_q (hF : ∀ f, F.fn f) (hd : NoDefer ops) {i : Nat} {a : Act} {K : Act → Prop} {K' : Act → World → Prop} (h : ∀ a, K a → K' a w) (hh : qOp P ops w i K a) : wpOpIn F n P ops Q i K' a w := by
  unfold qOp at hh
  unfold wpOpIn
  split
  · rename_i ho; simp only [ho] at hh; exact h _ hh
  · rename_i o ho
    simp only [ho] at hh
    split
    · rename_i hw
      simp only [hw, if_true] at hh
      obtain ⟨v, h1, h2⟩ := hh
      unfold Oper.wpIn
      refine ⟨fun f _ => hF f, ?_⟩
      rw [Oper.semAt_eq F.round a.eval o (fun c => hd i o c ho), h1]
      exact h _ h2
    · rename_i hw; simp only [hw] at hh; exact ⟨fun f _ => hF f, h _ hh⟩
def allT (T : Nat) (listed : Array Bool) : Bool := (List.range T).all fun i => listed.getD i true
def wpQ (F : Fence) (n : Nat) (P : Program) (md : Region.Mode) (ops : Array Oper) (T L : Nat) (w : World) (Q : Exit → Act → World → Prop) : Nat → Array Bool → Act → Prop
  | 0, listed, a => (∀ i ∈ Region.ready md ops listed, T ≤ i ∧ i ≠ L) ∧ wpAnyIn F n P md ops Q 0 listed a w
  | fuel + 1, listed, a =>
    ((allT T listed = true ∨ Region.ready md ops listed = []) → wpAnyIn F n P md ops Q (fuel + 1) listed a w) ∧
    ∀ i ∈ Region.ready md ops listed, (i < T ∨ i = L) → qOp P ops w i (wpQ F n P md ops T L w Q fuel (listed.setIfInBounds i true)) a
def TailOk (md : Region.Mode) (ops : Array Oper) (T L : Nat) : Prop := ∀ listed, Down md ops listed → ∀ k ∈ Region.ready md ops listed, T ≤ k → k ≠ L → allT T listed = true
theorem wpAny_of_q (hF : ∀ f, F.fn f) (hd : NoDefer ops) (hT : TailOk md ops T L) : ∀ (fuel : Nat) (listed : Array Bool) (a : Act), Down md ops listed → wpQ F n P md ops T L w Q fuel listed a → wpAnyIn F n P md ops Q fuel listed a w
  | 0, _, _, _, h => h.2
  | fuel + 1, listed, _, hdn, h => by
    unfold wpQ at h
    by_cases hE : allT T listed = true ∨ Region.ready md ops listed = []
    · exact h.1 hE
    · refine ⟨fun h0 => absurd (Or.inr h0) hE, fun i hi => ?_⟩
      have ht : i < T ∨ i = L := by
        rcases Nat.lt_or_ge i T with h1 | h1
        · exact Or.inl h1
        · by_cases h2 : i = L
          · exact Or.inr h2
          · exact absurd (Or.inl (hT listed hdn i hi h1 h2)) hE
      exact wpOp_of_q hF hd (fun a' => wpAny_of_q hF hd hT fuel _ a' (hdn.step hi)) (h.2 i hi ht)
def YieldsQ (P : Program) (ops : Array Oper) (w : World) (o : Oper) (v : Value) (a : Act) : Prop :=
  (Region.wanted o (yielded ops a.tmps) = true ∧ (execOp a.eval o).run P w = .ok (.value v) w) ∨
  (Region.wanted o (yielded ops a.tmps) = false ∧ v = undef)
theorem YieldsQ.qOp {i : Nat} {o : Oper} {v : Value} {a : Act} (hi : ops[i]? = some o) (hy : YieldsQ P ops w o v a) {K : Act → Prop} (h : K (a.put o.dst v)) : qOp P ops w i K a := by
  unfold LinI.qOp
  simp only [hi]
  rcases hy with ⟨hw, hv⟩ | ⟨hw, rfl⟩
  · simp only [hw, if_true]; exact ⟨v, hv, h⟩
  · simp only [hw, Bool.false_eq_true, if_false]; exact h
theorem YieldsQ.of_same {o : Oper} {v : Value} {a a' : Act} (hy : YieldsQ P ops w o v a) (he : execOp a'.eval o = execOp a.eval o)
    (hw : Region.wanted o (yielded ops a'.tmps) = Region.wanted o (yielded ops a.tmps)) : YieldsQ P ops w o v a' := by
  unfold YieldsQ at *
  rw [he, hw]
  exact hy
theorem qOp_put {j : Nat} {oi oj : Oper} {v : Value} (hj : ops[j]? = some oj) (hap : oi.apart ops oj = true)
    (hsi : ∀ cs b, oi.op ≠ .select cs b) (hsj : ∀ cs b, oj.op ≠ .select cs b) {K : Act → Prop} {a : Act}
    (hy : YieldsQ P ops w oi v a) (h : qOp P ops w j K (a.put oi.dst v)) :
    qOp P ops w j (fun a' => YieldsQ P ops w oi v a' ∧ K (a'.put oi.dst v)) a := by
  obtain ⟨h1, h2, h3⟩ := Oper.apart_spec hap
  have keep : ∀ (a : Act), YieldsQ P ops w oi v a → ∀ u, YieldsQ P ops w oi v (a.put oj.dst u) := fun a hy u =>
    hy.of_same (execOp_put oi hsi a oj.dst u h3) (wanted_put oi a oj.dst u h3)
  unfold qOp at *
  simp only [hj] at *
  rw [wanted_put oj a oi.dst v h1] at h
  split
  · rename_i hw
    simp only [hw, if_true] at h
    obtain ⟨u, hu, hn⟩ := h
    rw [execOp_put oj hsj a oi.dst v h1] at hu
    exact ⟨u, hu, keep a hy u, by rw [← Act.put_comm a v u h2]; exact hn⟩
  · rename_i hw
    simp only [hw] at h
    exact ⟨keep a hy _, by rw [← Act.put_comm a v undef h2]; exact h⟩
theorem not_end {i : Nat} {listed : Array Bool} (hq : i < T) (hr : i ∈ Region.ready md ops listed) : ¬ (allT T listed = true ∨ Region.ready md ops listed = []) := by
  rintro (h | h)
  · have h1 := List.all_eq_true.1 h i (List.mem_range.2 hq)
    rw [(mem_ready.1 hr).1] at h1
    cases h1
  · rw [h] at hr; cases hr
theorem wpQ_first {i : Nat} {oi : Oper} {v : Value} (hi : ops[i]? = some oi) (hsel : ∀ (j : Nat) (o : Oper) cs b, ops[j]? = some o → o.op ≠ .select cs b) (hq : i < T) :
    ∀ (fuel : Nat) (listed : Array Bool) (a : Act),
      (∀ j oj, ops[j]? = some oj → j ≠ i → listed.getD j true = false → (∀ e ∈ oj.after, Region.binds md e = true → e.on ≠ i) → oi.apart ops oj = true) →
      i ∈ Region.ready md ops listed → YieldsQ P ops w oi v a →
      wpQ F n P md ops T L w Q fuel (listed.setIfInBounds i true) (a.put oi.dst v) → wpQ F n P md ops T L w Q (fuel + 1) listed a := by
  intro fuel
  induction fuel with
  | zero =>
    intro listed a _ hr hy H
    refine ⟨fun h => absurd h (not_end hq hr), fun j hj htj => ?_⟩
    by_cases hji : j = i
    · subst hji; exact hy.qOp hi H
    · have := H.1 j (ready_mono hj hji)
      omega
  | succ fuel ih =>
    intro listed a hfree hr hy H
    refine ⟨fun h => absurd h (not_end hq hr), fun j hj htj => ?_⟩
    by_cases hji : j = i
    · subst hji; exact hy.qOp hi H
    · have h1 := H.2 j (ready_mono hj hji) htj
      obtain ⟨hjun, oj, hoj, hall⟩ := mem_ready.1 hj
      have hnot := ready_not hr hall
      have h2 := qOp_put hoj (hfree j oj hoj hji hjun hnot) (fun cs b => hsel i oi cs b hi) (fun cs b => hsel j oj cs b hoj) hy h1
      have hfree' : ∀ k ok, ops[k]? = some ok → k ≠ i → (listed.setIfInBounds j true).getD k true = false →
          (∀ e ∈ ok.after, Region.binds md e = true → e.on ≠ i) → oi.apart ops ok = true := fun k ok hk hki hun hno => by
        refine hfree k ok hk hki ?_ hno
        by_cases hjk : j = k
        · subst hjk; exact hjun
        · rw [getD_set_ne true hjk] at hun; exact hun
      refine qOp_mono (fun a' h3 => ih (listed.setIfInBounds j true) a' hfree' (ready_mono hr (Ne.symm hji)) h3.1 ?_) h2
      rw [Array.setIfInBounds_comm _ _ hji]
      exact h3.2
def tailB (md : Region.Mode) (ops : Array Oper) (T L : Nat) : Bool :=
  (List.range ops.size).all fun k => (decide (k < T) || decide (k = L)) || (List.range T).all fun i => (ancs md ops k (preds md ops k)).contains i
theorem tailB_ok (h : tailB md ops T L = true) : TailOk md ops T L := fun listed hd k hk ht hkl => by
  unfold tailB at h
  obtain ⟨_, o, ho, hall⟩ := mem_ready.1 hk
  have h1 := List.all_eq_true.1 h k (List.mem_range.2 (Array.getElem?_eq_some_iff.1 ho).1)
  rw [decide_eq_false (by omega : ¬ k < T), decide_eq_false hkl, Bool.false_or, Bool.false_or] at h1
  unfold allT
  rw [List.all_eq_true]
  intro i hi
  have h2 := List.all_eq_true.1 h1 i hi
  have h3 := ancs_listed hd k (preds md ops k) (fun j hj => by
    unfold preds at hj
    rw [ho] at hj
    simp only [List.mem_map, List.mem_filter, Array.mem_toList_iff] at hj
    obtain ⟨e, ⟨he, hb⟩, rfl⟩ := hj
    exact hall e he hb) i (by simpa using h2)
  rcases Nat.lt_or_ge i listed.size with h' | h'
  · simpa [h'] using h3
  · simp [Array.getElem?_eq_none h']
def isVal (w : World) (v : Value) : Result Next → Prop
  | .ok (.value u) w' => w' = w ∧ u = v
  | _ => False
theorem is_val {w : World} {v : Value} : isVal w v (.ok (.value v) w) := ⟨rfl, rfl⟩
theorem isVal_eq {w : World} {v : Value} {r : Result Next} (h : isVal w v r) : r = .ok (.value v) w := by
  cases r with
  | ok x w' =>
    cases x <;> simp only [isVal] at h
    obtain ⟨e1, e2⟩ := h
    rw [e1, e2]
  | halt x w' => simp only [isVal] at h
def noDeferB1 (o : Oper) : Bool := match o.op with | .defer _ => false | _ => true
def lexB (md : Region.Mode) (ops : Array Oper) : Nat → Nat → Array Bool → Bool
  | 0, _, _ => true
  | c + 1, k, listed => (Region.ready md ops listed).contains k && Region.free md ops listed k && lexB md ops c (k + 1) (listed.setIfInBounds k true)
structure Lex (F : Fence) (n : Nat) (P : Program) (md : Region.Mode) (ops : Array Oper) (T L : Nat) (w : World) (Q : Exit → Act → World → Prop) (c k m : Nat) (listed : Array Bool) (a : Act) : Prop where
  out : lexB md ops c k listed = true → c + k = T → allT k listed = true → wpQ F n P md ops T L w Q m listed a
variable {c k m : Nat} {listed : Array Bool} {a : Act} {o : Oper}
theorem allT_succ (h : allT k listed = true) : allT (k + 1) (listed.setIfInBounds k true) = true := by
  unfold allT at *
  rw [List.all_eq_true] at *
  intro i hi
  rw [List.mem_range] at hi
  by_cases hik : i = k
  · subst hik
    rcases Nat.lt_or_ge i listed.size with h' | h'
    · simp [h']
    · simp [h']
  · rw [getD_set_ne true (fun e => hik e.symm)]; exact h i (List.mem_range.2 (by omega))
theorem lex_val (hs : Region.noSelect ops = true) (ho : ops[k]? = some o) (hw : Region.wanted o (yielded ops a.tmps) = true) (hv : ∃ v, isVal w v ((execOp a.eval o).run P w) ∧ Lex F n P md ops T L w Q c (k + 1) m (listed.setIfInBounds k true) (a.put o.dst v)) : Lex F n P md ops T L w Q (c + 1) k (m + 1) listed a := ⟨fun hB hc hl => by
  obtain ⟨v, h1, h2⟩ := hv
  unfold lexB at hB
  simp only [Bool.and_eq_true] at hB
  obtain ⟨⟨b1, b2⟩, b3⟩ := hB
  exact wpQ_first ho (Region.noSelect_spec hs) (by omega) m listed a (Region.free_spec ho b2) (by simpa using b1) (.inl ⟨hw, isVal_eq h1⟩) (h2.out b3 (by omega) (allT_succ hl))⟩
theorem fin_of (hl : allT T listed = true) (hL : ∀ i ∈ Region.ready md ops listed, i ≠ L) (h : wpAnyIn F n P md ops Q m listed a w) : wpQ F n P md ops T L w Q m listed a := by
  have hno : ∀ i ∈ Region.ready md ops listed, ¬ i < T := fun i hi ht => by
    have h1 := List.all_eq_true.1 hl i (List.mem_range.2 ht)
    rw [(mem_ready.1 hi).1] at h1
    cases h1
  cases m with
  | zero => exact ⟨fun i hi => ⟨by have := hno i hi; omega, hL i hi⟩, h⟩
  | succ m => exact ⟨fun _ => h, fun i hi ht => by
      rcases ht with ht | ht
      · exact absurd ht (hno i hi)
      · exact absurd ht (hL i hi)⟩
theorem allT_set {i : Nat} (h : allT k listed = true) : allT k (listed.setIfInBounds i true) = true := by
  unfold allT at *
  rw [List.all_eq_true] at *
  intro j hj
  by_cases hij : i = j
  · subst hij
    rcases Nat.lt_or_ge i listed.size with h' | h'
    · simp [h']
    · simp [h']
  · rw [getD_set_ne true hij]; exact h j hj
theorem lex_end0 (hL : decide (ops.size ≤ L) = true) (h : wpAnyIn F n P md ops Q m listed a w) : Lex F n P md ops T L w Q 0 k m listed a := ⟨fun _ hc hl => by
  have hk : k = T := by omega
  subst hk
  refine fin_of hl (fun i hi e => ?_) h
  obtain ⟨_, o, ho, _⟩ := mem_ready.1 hi
  have h1 := (Array.getElem?_eq_some_iff.1 ho).1
  have h2 := of_decide_eq_true hL
  omega⟩
theorem lex_end {oL : Oper} (hoL : ops[L]? = some oL) (hv : ∃ v, isVal w v ((execOp a.eval oL).run P w)) (hd : noDeferB1 oL = true) (h : wpAnyIn F n P md ops Q m listed a w) : Lex F n P md ops T L w Q 0 k m listed a := ⟨fun _ hc hl => by
  have hk : k = T := by omega
  subst hk
  by_cases hr : ∀ i ∈ Region.ready md ops listed, i ≠ L
  · exact fin_of hl hr h
  · have hLr : L ∈ Region.ready md ops listed := by
      apply Classical.byContradiction
      intro hn
      exact hr fun i hi e => hn (e ▸ hi)
    have hno : ∀ i ∈ Region.ready md ops listed, ¬ i < k := fun i hi ht => by
      have h1 := List.all_eq_true.1 hl i (List.mem_range.2 ht)
      rw [(mem_ready.1 hi).1] at h1
      cases h1
    cases m with
    | zero => rw [h.1] at hLr; cases hLr
    | succ m =>
      refine ⟨fun _ => h, fun i hi ht => ?_⟩
      have hiL : i = L := by
        rcases ht with ht | ht
        · exact absurd ht (hno i hi)
        · exact ht
      subst hiL
      have hj := h.2 i hi
      have hready : ∀ j ∈ Region.ready md ops (listed.setIfInBounds i true), j ≠ i := fun j hj e => by
        subst e
        have h1 := (mem_ready.1 hj).1
        have h0 := (mem_ready.1 hi).1
        rcases Nat.lt_or_ge j listed.size with h' | h'
        · simp [h'] at h1
        · simp [Array.getElem?_eq_none h'] at h0
      unfold wpOpIn at hj
      unfold qOp
      simp only [hoL] at hj ⊢
      split
      · rename_i hw
        simp only [hw, if_true] at hj
        obtain ⟨v, hv⟩ := hv
        have hv := isVal_eq hv
        refine ⟨v, hv, fin_of (allT_set hl) hready ?_⟩
        have h2 := hj.2
        rw [Oper.semAt_eq F.round a.eval oL (fun c e => by unfold noDeferB1 at hd; rw [e] at hd; cases hd), hv] at h2
        exact h2
      · rename_i hw
        simp only [hw] at hj
        exact fin_of (allT_set hl) hready hj.2⟩
def noDeferB (ops : Array Oper) : Bool := ops.toList.all fun o => match o.op with | .defer _ => false | _ => true
theorem noDefer_ok (h : noDeferB ops = true) : NoDefer ops := fun j o c ho he => by
  unfold noDeferB at h
  have h1 := List.all_eq_true.1 h o (by
    rw [Array.getElem?_eq_some_iff] at ho
    obtain ⟨hj, rfl⟩ := ho
    simp)
  rw [he] at h1
  cases h1
def startB (md : Region.Mode) (ops : Array Oper) (T L : Nat) : Bool := noDeferB ops && tailB md ops T L && lexB md ops T 0 (Array.replicate ops.size false)
theorem wpIn_region_lin {id : Nat} (T L M : Nat) (hM : ops.size = M) (hF : ∀ f, F.fn f) (hm : P.follows .mixedOrders = true) (hB : startB .any ops T L = true)
    (h : Lex F n P .any ops T L w.drew Q T 0 M (Array.replicate M false) a) : (Code.region id ops true).wpIn F n P Q a w := by
  subst hM
  unfold startB at hB
  simp only [Bool.and_eq_true] at hB
  obtain ⟨⟨hd, ht⟩, hl⟩ := hB
  refine wpIn_region_any hm ?_
  exact wpAny_of_q (w := w.drew) hF (noDefer_ok hd) (tailB_ok ht) _ _ _ (fun k o ho hk => by simp only [Array.getD_eq_getD_getElem?, Array.getElem?_replicate] at hk; split at hk <;> simp at hk) (h.out hl (by omega) (by unfold allT; simp))
end
end Go.LinI
namespace Go.Proofs.YtkpjeceofcfnkaaGreatDoor
end Go.Proofs.YtkpjeceofcfnkaaGreatDoor

namespace Go.Proofs.YtkpjeceofcfnkaaGreatDoor
open Go.RowKit Go.Shelf Go.Hb
attribute [local go_sem] Oper.semAt_some
def pl : Fin 4 → Int
  | 0 => 0
  | 1 => 1
  | 2 => 2
  | 3 => 3
theorem places_stops (n : Nat) (hn : 1 ≤ n) (B : Nat) (w : World) :
    SeqStopsK Fence.wide n Tryz.prog 157 #[] (fun x : Fin 4 => #[Value.int .i64 (pl x)]) (Below B) (fun xs => xs = [0, 1, 2, 3]) (fun _ => True) 4 w := fun l J Jx W _ _ _ hY h0 => by
  refine callsIn_of_wp Tryz.func157 rfl trivial ?_ rfl
  simp only [Tryz.ntmps157, List.size_toArray, List.length_cons, List.length_nil, Nat.reduceAdd, Nat.reduceSub, Array.replicate_succ, Array.replicate_zero, List.push_toArray, List.append_toArray, List.nil_append, List.cons_append]
  have p0 : pl 0 = 0 := rfl
  have p1 : pl 1 = 1 := rfl
  have p2 : pl 2 = 2 := rfl
  have p3 : pl 3 = 3 := rfl
  obtain ⟨f1, t1, a1, b1, hy1, hR1⟩ := hY [] 0 W h0 (by simp)
  simp only [p0] at hy1
  gi_wp2
  refine wpIn_loop_rounds 5 ?_
  rw [roundsIn_succ]
  gi_wp2
  refine hR1.mono ?_
  rintro e W1 (⟨rfl, hJ1, _⟩ | ⟨rfl, hx1⟩)
  · obtain ⟨f2, t2, a2, b2, hy2, hR2⟩ := hY _ 1 W1 hJ1 (by simp)
    simp only [p1] at hy2
    gi_wp2
    rw [roundsIn_succ]
    gi_wp2
    refine hR2.mono ?_
    rintro e W2 (⟨rfl, hJ2, _⟩ | ⟨rfl, hx2⟩)
    · obtain ⟨f3, t3, a3, b3, hy3, hR3⟩ := hY _ 2 W2 hJ2 (by simp)
      simp only [p2] at hy3
      gi_wp2
      rw [roundsIn_succ]
      gi_wp2
      refine hR3.mono ?_
      rintro e W3 (⟨rfl, hJ3, _⟩ | ⟨rfl, hx3⟩)
      · obtain ⟨f4, t4, a4, b4, hy4, hR4⟩ := hY _ 3 W3 hJ3 (by simp)
        simp only [p3] at hy4
        gi_wp2
        rw [roundsIn_succ]
        gi_wp2
        refine hR4.mono ?_
        rintro e W4 (⟨rfl, hJ4, _⟩ | ⟨rfl, hx4⟩)
        · gi_wp2
          rw [roundsIn_succ]
          gi_wp2
          refine ⟨fun _ h => (by cases h), ?_⟩
          gi_wp2
          go_end0
          exact ⟨⟨_, rfl⟩, .inl ⟨_, rfl, hJ4⟩⟩
        · gi_wp2
          go_end0
          exact ⟨⟨_, rfl⟩, .inr ⟨_, trivial, hx4⟩⟩
      · gi_wp2
        go_end0
        exact ⟨⟨_, rfl⟩, .inr ⟨_, trivial, hx3⟩⟩
    · gi_wp2
      go_end0
      exact ⟨⟨_, rfl⟩, .inr ⟨_, trivial, hx2⟩⟩
  · gi_wp2
    go_end0
    exact ⟨⟨_, rfl⟩, .inr ⟨_, trivial, hx1⟩⟩
end Go.Proofs.YtkpjeceofcfnkaaGreatDoor

namespace Go.Proofs.YtkpjeceofcfnkaaGreatDoor
open Go.RowKit Go.Shelf Go.Hb
attribute [local go_sem] Oper.semAt_some
/-- The model's entry for math/bits.Sub64. -/
def subEntry2 : Array Value → Sem Value := fun args => do
  let (x, y, b) ← Extern.MathBitsCarry.three "Sub64" args
  pure (Extern.MathBitsCarry.pair ((x + Extern.MathBitsCarry.m64 - y - b) % Extern.MathBitsCarry.m64) (if x < y + b then 1 else 0))
theorem run_sub642 {P : Program} (x y b : Nat) (hb : b ≤ 1) (w : World) :
    (subEntry2 #[.int .u64 x, .int .u64 y, .int .u64 b]).run P w =
      .ok (.tuple #[.int .u64 (((x + 18446744073709551616 - y - b) % 18446744073709551616 : Nat) : Int), .int .u64 ((if x < y + b then 1 else 0 : Nat) : Int)]) w := by
  have : b = 0 ∨ b = 1 := by omega
  rcases this with rfl | rfl <;> rfl
def dd64 (x y c : Int) : Int := (x - y - c) % 18446744073709551616
def bb64 (x y c : Int) : Int := if x < y + c then 1 else 0
instance u64_dd64 (x y c : Int) : U64 (dd64 x y c) := ⟨by unfold dd64; omega, by unfold dd64; omega⟩
theorem sub64_call2 (x y c : Int) (hx : 0 ≤ x) (hy : 0 ≤ y) (hy1 : y < 18446744073709551616) (hc0 : 0 ≤ c) (hc : c ≤ 1) (w : World) :
    (callFunc 147 #[.int .u64 x, .int .u64 y, .int .u64 c]).run Tryz.prog w = .ok (.value (.tuple #[.int .u64 (dd64 x y c), .int .u64 (bb64 x y c)])) w := by
  obtain ⟨x, rfl⟩ := Int.eq_ofNat_of_zero_le hx
  obtain ⟨y, rfl⟩ := Int.eq_ofNat_of_zero_le hy
  obtain ⟨c, rfl⟩ := Int.eq_ofNat_of_zero_le hc0
  rw [run_callFunc_extern Tryz.func147 (by kernel_rfl) (by kernel_rfl) (by kernel_rfl) (e := subEntry2) (by kernel_rfl), run_sub642 x y c (by omega)]
  simp only [Result.andThen]
  congr 5
  · unfold dd64; congr 1; omega
  · unfold bb64; congr 3; split <;> split <;> omega
theorem c64_bd (x y c : Int) [hx : U64 x] [hy : U64 y] (h2 : 0 ≤ c) (h3 : c ≤ 1) : 0 ≤ c64 x y c ∧ c64 x y c ≤ 1 := by
  have := hx.ge; have := hx.lt; have := hy.ge; have := hy.lt
  unfold c64; omega
theorem bb64_bd (x y c : Int) [hx : U64 x] [hy : U64 y] (h2 : 0 ≤ c) (h3 : c ≤ 1) : 0 ≤ bb64 x y c ∧ bb64 x y c ≤ 1 := by
  unfold bb64; split <;> omega
theorem wpIn_rename {F : Fence} {n : Nat} {P : Program} {c : Code} {Q : Exit → Act → World → Prop} {a : Act} {w : World} (h : ∀ W, W = w → c.wpIn F n P Q a W) : c.wpIn F n P Q a w := h w rfl
theorem places_c (n : Nat) (w : World) : CallsIn Fence.wide n Tryz.prog 155 #[] w fun e w' => e = .returned (.func (.func 157) #[] #[]) ∧ w = w' := by
  refine callsIn_of_wp Tryz.func155 rfl trivial ?_ rfl
  simp only [Tryz.ntmps155, List.size_toArray, List.length_cons, List.length_nil, Nat.reduceAdd, Nat.reduceSub, Array.replicate_succ, Array.replicate_zero, List.push_toArray, List.append_toArray, List.nil_append, List.cons_append]
  gi_wp2
  go_ret
  exact ⟨rfl, rfl⟩
/-- What the loop's own cells hold. -/
def ChC (w W : World) (o0 o1 o2 o3 c : Int) : Prop :=
  W.cell? ⟨w.heap.size + 1 + 1 + 1 + 1, 0, none⟩ = some (.int .u64 o0) ∧ W.cell? ⟨w.heap.size + 1 + 1 + 1 + 1, 1, none⟩ = some (.int .u64 o1) ∧ W.cell? ⟨w.heap.size + 1 + 1 + 1 + 1, 2, none⟩ = some (.int .u64 o2) ∧ W.cell? ⟨w.heap.size + 1 + 1 + 1 + 1, 3, none⟩ = some (.int .u64 o3) ∧ W.cell? ⟨w.heap.size + 1 + 1 + 1 + 1 + 1, 0, none⟩ = some (.int .u64 c) ∧
  W.frozen? ⟨w.heap.size + 1 + 1 + 1 + 1, 0, none⟩ = false ∧ W.frozen? ⟨w.heap.size + 1 + 1 + 1 + 1, 1, none⟩ = false ∧ W.frozen? ⟨w.heap.size + 1 + 1 + 1 + 1, 2, none⟩ = false ∧ W.frozen? ⟨w.heap.size + 1 + 1 + 1 + 1, 3, none⟩ = false ∧ W.frozen? ⟨w.heap.size + 1 + 1 + 1 + 1 + 1, 0, none⟩ = false
def st_gen (Sx Cx : Int → Int → Int → Int) (a0 a1 a2 a3 b0 b1 b2 b3 : Int) (s : Int × Int × Int × Int × Int) : Fin 4 → Int × Int × Int × Int × Int
  | 0 => (Sx a0 b0 s.2.2.2.2, s.2.1, s.2.2.1, s.2.2.2.1, Cx a0 b0 s.2.2.2.2)
  | 1 => (s.1, Sx a1 b1 s.2.2.2.2, s.2.2.1, s.2.2.2.1, Cx a1 b1 s.2.2.2.2)
  | 2 => (s.1, s.2.1, Sx a2 b2 s.2.2.2.2, s.2.2.2.1, Cx a2 b2 s.2.2.2.2)
  | 3 => (s.1, s.2.1, s.2.2.1, Sx a3 b3 s.2.2.2.2, Cx a3 b3 s.2.2.2.2)
theorem stp_gen0 (Sx Cx : Int → Int → Int → Int) (a0 a1 a2 a3 b0 b1 b2 b3 o0 o1 o2 o3 c : Int) (pre : List (Fin 4)) (h1 : (o0, o1, o2, o3, c) = pre.foldl (st_gen Sx Cx a0 a1 a2 a3 b0 b1 b2 b3) (0, 0, 0, 0, 0)) : (Sx a0 b0 c, o1, o2, o3, Cx a0 b0 c) = (pre ++ [0]).foldl (st_gen Sx Cx a0 a1 a2 a3 b0 b1 b2 b3) (0, 0, 0, 0, 0) := by
  rw [List.foldl_append, ← h1]; rfl
theorem stp_gen1 (Sx Cx : Int → Int → Int → Int) (a0 a1 a2 a3 b0 b1 b2 b3 o0 o1 o2 o3 c : Int) (pre : List (Fin 4)) (h1 : (o0, o1, o2, o3, c) = pre.foldl (st_gen Sx Cx a0 a1 a2 a3 b0 b1 b2 b3) (0, 0, 0, 0, 0)) : (o0, Sx a1 b1 c, o2, o3, Cx a1 b1 c) = (pre ++ [1]).foldl (st_gen Sx Cx a0 a1 a2 a3 b0 b1 b2 b3) (0, 0, 0, 0, 0) := by
  rw [List.foldl_append, ← h1]; rfl
theorem stp_gen2 (Sx Cx : Int → Int → Int → Int) (a0 a1 a2 a3 b0 b1 b2 b3 o0 o1 o2 o3 c : Int) (pre : List (Fin 4)) (h1 : (o0, o1, o2, o3, c) = pre.foldl (st_gen Sx Cx a0 a1 a2 a3 b0 b1 b2 b3) (0, 0, 0, 0, 0)) : (o0, o1, Sx a2 b2 c, o3, Cx a2 b2 c) = (pre ++ [2]).foldl (st_gen Sx Cx a0 a1 a2 a3 b0 b1 b2 b3) (0, 0, 0, 0, 0) := by
  rw [List.foldl_append, ← h1]; rfl
theorem stp_gen3 (Sx Cx : Int → Int → Int → Int) (a0 a1 a2 a3 b0 b1 b2 b3 o0 o1 o2 o3 c : Int) (pre : List (Fin 4)) (h1 : (o0, o1, o2, o3, c) = pre.foldl (st_gen Sx Cx a0 a1 a2 a3 b0 b1 b2 b3) (0, 0, 0, 0, 0)) : (o0, o1, o2, Sx a3 b3 c, Cx a3 b3 c) = (pre ++ [3]).foldl (st_gen Sx Cx a0 a1 a2 a3 b0 b1 b2 b3) (0, 0, 0, 0, 0) := by
  rw [List.foldl_append, ← h1]; rfl
def Ch_gen (Sx Cx : Int → Int → Int → Int) (a0 a1 a2 a3 b0 b1 b2 b3 : Int) (w : World) (pre : List (Fin 4)) (W : World) : Prop := ∃ o0 o1 o2 o3 c : Int, (o0, o1, o2, o3, c) = pre.foldl (st_gen Sx Cx a0 a1 a2 a3 b0 b1 b2 b3) (0, 0, 0, 0, 0) ∧ 0 ≤ c ∧ c ≤ 1 ∧ ChC w W o0 o1 o2 o3 c
theorem Ch_gen_own (Sx Cx : Int → Int → Int → Int) (a0 a1 a2 a3 b0 b1 b2 b3 : Int) (w : World) : Own (Ch_gen Sx Cx a0 a1 a2 a3 b0 b1 b2 b3 w) := fun s A B row hs hg hr => by
  obtain ⟨o0, o1, o2, o3, c, h1, h2, h3, q0, q1, q2, q3, q4, z0, z1, z2, z3, z4⟩ := hs
  exact ⟨o0, o1, o2, o3, c, h1, h2, h3, cell_kept q0 hg hr, cell_kept q1 hg hr, cell_kept q2 hg hr, cell_kept q3 hg hr, cell_kept q4 hg hr, (frozen_kept q0 hg hr).trans z0, (frozen_kept q1 hg hr).trans z1, (frozen_kept q2 hg hr).trans z2, (frozen_kept q3 hg hr).trans z3, (frozen_kept q4 hg hr).trans z4⟩
theorem chain_gen (Sx Cx : Int → Int → Int → Int) (F : FuncId) [hSx : ∀ x y c, U64 (Sx x y c)] (HB : ∀ (x y c : Int) [U64 x] [U64 y], 0 ≤ c → c ≤ 1 → 0 ≤ Cx x y c ∧ Cx x y c ≤ 1) (HF : ∀ x y c : Int, 0 ≤ x → 0 ≤ y → y < 18446744073709551616 → 0 ≤ c → c ≤ 1 → ∀ w : World, (callFunc F #[.int .u64 x, .int .u64 y, .int .u64 c]).run Tryz.prog w = .ok (.value (.tuple #[.int .u64 (Sx x y c), .int .u64 (Cx x y c)])) w) (a0 a1 a2 a3 b0 b1 b2 b3 : Int) [U64 a0] [U64 a1] [U64 a2] [U64 a3] [U64 b0] [U64 b1] [U64 b2] [U64 b3] (w : World) :
    Calls Tryz.prog 144 #[.agg #[.int .u64 (a0), .int .u64 (a1), .int .u64 (a2), .int .u64 (a3)], .agg #[.int .u64 (b0), .int .u64 (b1), .int .u64 (b2), .int .u64 (b3)], .func (.func F) #[] #[]] w fun e W' => (∃ o0 o1 o2 o3 c : Int, (o0, o1, o2, o3, c) = [0, 1, 2, 3].foldl (st_gen Sx Cx a0 a1 a2 a3 b0 b1 b2 b3) (0, 0, 0, 0, 0) ∧ e = .returned (.tuple #[.agg #[.int .u64 (o0), .int .u64 (o1), .int .u64 (o2), .int .u64 (o3)], .bool (c != 0)])) ∧ Below w.heap.size w W' := by
  refine (callsIn_wide (n := 3)).1 ?_
  refine callsIn_of_wp_marks Tryz.func144 rfl trivial ?_ rfl
  simp only [Tryz.ntmps144, List.size_toArray, List.length_cons, List.length_nil, Nat.reduceAdd, Nat.reduceSub, Array.replicate_succ, Array.replicate_zero, List.push_toArray, List.append_toArray, List.nil_append, List.cons_append]
  gi_wp2_with (refine ⟨trivial, ?_⟩; gi_at_call 155; refine (places_c _ _).mono ?_; rintro e w' ⟨rfl, rfl⟩)
  refine wpIn_rename ?_
  intro W0 hW0
  have f0 : W0.cell? ⟨w.heap.size, 0, none⟩ = some (.int .u64 a0) := by rw [hW0]; go_simp
  have f1 : W0.cell? ⟨w.heap.size, 1, none⟩ = some (.int .u64 a1) := by rw [hW0]; go_simp
  have f2 : W0.cell? ⟨w.heap.size, 2, none⟩ = some (.int .u64 a2) := by rw [hW0]; go_simp
  have f3 : W0.cell? ⟨w.heap.size, 3, none⟩ = some (.int .u64 a3) := by rw [hW0]; go_simp
  have f4 : W0.cell? ⟨w.heap.size + 1, 0, none⟩ = some (.int .u64 b0) := by rw [hW0]; go_simp
  have f5 : W0.cell? ⟨w.heap.size + 1, 1, none⟩ = some (.int .u64 b1) := by rw [hW0]; go_simp
  have f6 : W0.cell? ⟨w.heap.size + 1, 2, none⟩ = some (.int .u64 b2) := by rw [hW0]; go_simp
  have f7 : W0.cell? ⟨w.heap.size + 1, 3, none⟩ = some (.int .u64 b3) := by rw [hW0]; go_simp
  have f8 : W0.cell? ⟨w.heap.size + 1 + 1, 0, none⟩ = some (.func (.func F) #[] #[]) := by rw [hW0]; go_simp
  have f9 : W0.cell? ⟨w.heap.size + 1 + 1 + 1, 0, none⟩ = some (.int .u64 0) := by rw [hW0]; go_simp
  have f10 : W0.cell? ⟨w.heap.size + 1 + 1 + 1, 1, none⟩ = some (.int .u64 0) := by rw [hW0]; go_simp
  have f11 : W0.cell? ⟨w.heap.size + 1 + 1 + 1, 2, none⟩ = some (.int .u64 0) := by rw [hW0]; go_simp
  have f12 : W0.cell? ⟨w.heap.size + 1 + 1 + 1, 3, none⟩ = some (.int .u64 0) := by rw [hW0]; go_simp
  have g0 : W0.frozen? ⟨w.heap.size + 1 + 1 + 1, 0, none⟩ = false := by rw [hW0]; go_simp
  have g1 : W0.frozen? ⟨w.heap.size + 1 + 1 + 1, 1, none⟩ = false := by rw [hW0]; go_simp
  have g2 : W0.frozen? ⟨w.heap.size + 1 + 1 + 1, 2, none⟩ = false := by rw [hW0]; go_simp
  have g3 : W0.frozen? ⟨w.heap.size + 1 + 1 + 1, 3, none⟩ = false := by rw [hW0]; go_simp
  have hC0 : ChC w W0 0 0 0 0 0 := by rw [hW0]; exact ⟨by go_simp, by go_simp, by go_simp, by go_simp, by go_simp, by go_simp, by go_simp, by go_simp, by go_simp, by go_simp⟩
  have hs0 : W0.heap.size = w.heap.size + 1 + 1 + 1 + 1 + 1 + 1 := by rw [hW0]; simp
  have hB0 : Below w.heap.size w W0 := by rw [hW0]; go_grown
  clear hW0
  refine wpIn_rangeFunc_ownF rfl (by omega) (gf := 157) (lb := #[]) rfl trivial (enters_of Tryz.func157 (by kernel_rfl) rfl)
    (places_stops _ (by omega) w.heap.size _) belowK_t (belowK_b (by omega)) (Below.refl _ _) (fun _ => rfl)
    (fun pre W => Ch_gen Sx Cx a0 a1 a2 a3 b0 b1 b2 b3 w pre W ∧ Below (w.heap.size + 1 + 1 + 1 + 1) W0 W) (fun _ _ _ => False)
    (OwnFrom.and (Own.from (Ch_gen_own Sx Cx a0 a1 a2 a3 b0 b1 b2 b3 w) _) (ownFrom_below (by omega) (by omega)))
    (fun _ _ _ _ _ hs _ _ => hs)
    ⟨⟨0, 0, 0, 0, 0, rfl, by decide, by decide, hC0⟩, Below.refl _ _⟩
    (fun x => { tmps := #[.agg #[.int .u64 (a0), .int .u64 (a1), .int .u64 (a2), .int .u64 (a3)], .agg #[.int .u64 (b0), .int .u64 (b1), .int .u64 (b2), .int .u64 (b3)], .func (.func F) #[] #[], .pointer (some ⟨w.heap.size, 0, none⟩), .pointer (some ⟨w.heap.size + 1, 0, none⟩), .pointer (some ⟨w.heap.size + 1 + 1, 0, none⟩), .pointer (some ⟨w.heap.size + 1 + 1 + 1, 0, none⟩), .bool false, .pointer (some ⟨w.heap.size + 1 + 1 + 1 + 1, 0, none⟩), .pointer (some ⟨w.heap.size + 1 + 1 + 1 + 1 + 1, 0, none⟩), .int .i64 (pl x), .func (.func 157) #[] #[], .int .i64 (pl x), undef, undef, undef, undef, undef, undef, undef, undef, undef, undef, undef, undef, undef, undef, undef, undef, undef], defers := [] }) ?assign ?body ?done ?stop
  case assign =>
    intro l x W K hK
    gi_wp2
    exact hK
  case body =>
    clear hC0 g0 g1 g2 g3 f9 f10 f11 f12 hB0
    rintro l pre x W ⟨⟨o0, o1, o2, o3, c, h1, h2, h3, q0, q1, q2, q3, q4, z0, z1, z2, z3, z4⟩, hB⟩ _
    have hx : x = 0 ∨ x = 1 ∨ x = 2 ∨ x = 3 := by omega
    have k8 := (hB.cell (p := ⟨w.heap.size + 1 + 1, 0, none⟩) (by show w.heap.size + 1 + 1 < w.heap.size + 1 + 1 + 1 + 1; omega)).trans f8
    have hN : w.heap.size + 1 + 1 + 1 + 1 ≠ w.heap.size + 1 + 1 + 1 + 1 + 1 ∧ w.heap.size + 1 + 1 + 1 + 1 + 1 ≠ w.heap.size + 1 + 1 + 1 + 1 := (by omega)
    rcases hx with rfl | rfl | rfl | rfl
    · have p0 : pl 0 = 0 := rfl
      have e0 : ∀ W, (callFunc F #[.int .u64 a0, .int .u64 b0, .int .u64 c]).run Tryz.prog W = .ok (.value (.tuple #[.int .u64 (Sx a0 b0 c), .int .u64 (Cx a0 b0 c)])) W := fun W => HF a0 b0 c U64.ge U64.ge U64.lt h2 h3 W
      have hfn : Fence.wide.fn F := trivial
      have ka := (hB.cell (p := ⟨w.heap.size, 0, none⟩) (by show w.heap.size < w.heap.size + 1 + 1 + 1 + 1; omega)).trans f0
      have kb := (hB.cell (p := ⟨w.heap.size + 1, 0, none⟩) (by show w.heap.size + 1 < w.heap.size + 1 + 1 + 1 + 1; omega)).trans f4
      have A1 := Lib.hid (stp_gen0 Sx Cx a0 a1 a2 a3 b0 b1 b2 b3 o0 o1 o2 o3 c pre h1)
      have A2 := Lib.hid (HB a0 b0 c h2 h3)
      have A3 := Lib.hid (And.intro hB (And.intro q1 (And.intro q2 q3)))
      have A4 := Lib.hid (And.intro z1 (And.intro z2 z3))
      clear h1 h2 h3 hB f0 f1 f2 f3 f4 f5 f6 f7 f8 q1 z1 q2 z2 q3 z3 hs0
      simp only [p0]
      gi_wp2
      refine LinI.wpIn_region_lin 12 12 16 rfl (fun _ => trivial) (by kernel_rfl) (by kernel_rfl) ?_
      iterate 12 (refine LinI.lex_val (by kernel_rfl) rfl (by kernel_rfl) ?_; apply Exists.intro; refine ⟨?_, ?_⟩; (focus (go_simp; with_reducible exact LinI.is_val)); (try simp only [Act.put, List.setIfInBounds_toArray, List.set_cons_zero, List.set_cons_succ]))
      refine LinI.lex_end rfl (by apply Exists.intro; go_simp; with_reducible exact LinI.is_val) (by kernel_rfl) ?_
      refine wpAnyIn_ready (rs := [12, 13]) (by kernel_rfl) (by simp) ?_
      refine AllReadyIn.cons rfl (fun K hK => ?_) ?_
      · go_simp
        refine hK _ _ ?_
        clear hK K
        refine wpAnyIn_ready (rs := [13]) (by kernel_rfl) (by simp) ?_
        refine AllReadyIn.cons rfl (fun K hK => ?_) AllReadyIn.nil
        go_simp
        refine hK _ _ ?_
        clear hK K
        refine wpAnyIn_ready (rs := [14]) (by kernel_rfl) (by simp) ?_
        refine AllReadyIn.cons rfl (fun K hK => ?_) AllReadyIn.nil
        go_simp
        refine hK _ _ ?_
        clear hK K
        refine wpAnyIn_ready (rs := [15]) (by kernel_rfl) (by simp) ?_
        refine AllReadyIn.cons rfl (fun K hK => ?_) AllReadyIn.nil
        go_simp
        refine hK _ _ ?_
        clear hK K
        refine wpAnyIn_done (by kernel_rfl) ?_ _
        gi_wp2
        obtain ⟨hB, q1, q2, q3⟩ := A3.out
        obtain ⟨z1, z2, z3⟩ := A4.out
        exact ⟨by first | exact (KeepsOthers.setCell _ _ _).trans ((KeepsOthers.setCell _ _ _).trans (KeepsOthers.drew _)) | exact ((KeepsOthers.drew _).trans (KeepsOthers.setCell _ _ _)).trans (KeepsOthers.setCell _ _ _), by go_grown, ⟨Sx a0 b0 c, o1, o2, o3, Cx a0 b0 c, A1.out, A2.out.1, A2.out.2, by go_simp, by go_simp, by go_simp, by go_simp, by go_simp, by go_simp, by go_simp, by go_simp, by go_simp, by go_simp⟩, hB.trans (by go_grown)⟩
      refine AllReadyIn.cons rfl (fun K hK => ?_) AllReadyIn.nil
      go_simp
      refine hK _ _ ?_
      clear hK K
      refine wpAnyIn_ready (rs := [12, 14]) (by kernel_rfl) (by simp) ?_
      refine AllReadyIn.cons rfl (fun K hK => ?_) ?_
      · go_simp
        refine hK _ _ ?_
        clear hK K
        refine wpAnyIn_ready (rs := [14]) (by kernel_rfl) (by simp) ?_
        refine AllReadyIn.cons rfl (fun K hK => ?_) AllReadyIn.nil
        go_simp
        refine hK _ _ ?_
        clear hK K
        refine wpAnyIn_ready (rs := [15]) (by kernel_rfl) (by simp) ?_
        refine AllReadyIn.cons rfl (fun K hK => ?_) AllReadyIn.nil
        go_simp
        refine hK _ _ ?_
        clear hK K
        refine wpAnyIn_done (by kernel_rfl) ?_ _
        gi_wp2
        obtain ⟨hB, q1, q2, q3⟩ := A3.out
        obtain ⟨z1, z2, z3⟩ := A4.out
        exact ⟨by first | exact (KeepsOthers.setCell _ _ _).trans ((KeepsOthers.setCell _ _ _).trans (KeepsOthers.drew _)) | exact ((KeepsOthers.drew _).trans (KeepsOthers.setCell _ _ _)).trans (KeepsOthers.setCell _ _ _), by go_grown, ⟨Sx a0 b0 c, o1, o2, o3, Cx a0 b0 c, A1.out, A2.out.1, A2.out.2, by go_simp, by go_simp, by go_simp, by go_simp, by go_simp, by go_simp, by go_simp, by go_simp, by go_simp, by go_simp⟩, hB.trans (by go_grown)⟩
      refine AllReadyIn.cons rfl (fun K hK => ?_) AllReadyIn.nil
      go_simp
      refine hK _ _ ?_
      clear hK K
      refine wpAnyIn_ready (rs := [12]) (by kernel_rfl) (by simp) ?_
      refine AllReadyIn.cons rfl (fun K hK => ?_) AllReadyIn.nil
      go_simp
      refine hK _ _ ?_
      clear hK K
      refine wpAnyIn_ready (rs := [15]) (by kernel_rfl) (by simp) ?_
      refine AllReadyIn.cons rfl (fun K hK => ?_) AllReadyIn.nil
      go_simp
      refine hK _ _ ?_
      clear hK K
      refine wpAnyIn_done (by kernel_rfl) ?_ _
      gi_wp2
      obtain ⟨hB, q1, q2, q3⟩ := A3.out
      obtain ⟨z1, z2, z3⟩ := A4.out
      exact ⟨by first | exact (KeepsOthers.setCell _ _ _).trans ((KeepsOthers.setCell _ _ _).trans (KeepsOthers.drew _)) | exact ((KeepsOthers.drew _).trans (KeepsOthers.setCell _ _ _)).trans (KeepsOthers.setCell _ _ _), by go_grown, ⟨Sx a0 b0 c, o1, o2, o3, Cx a0 b0 c, A1.out, A2.out.1, A2.out.2, by go_simp, by go_simp, by go_simp, by go_simp, by go_simp, by go_simp, by go_simp, by go_simp, by go_simp, by go_simp⟩, hB.trans (by go_grown)⟩
    · have p0 : pl 1 = 1 := rfl
      have e0 : ∀ W, (callFunc F #[.int .u64 a1, .int .u64 b1, .int .u64 c]).run Tryz.prog W = .ok (.value (.tuple #[.int .u64 (Sx a1 b1 c), .int .u64 (Cx a1 b1 c)])) W := fun W => HF a1 b1 c U64.ge U64.ge U64.lt h2 h3 W
      have hfn : Fence.wide.fn F := trivial
      have ka := (hB.cell (p := ⟨w.heap.size, 1, none⟩) (by show w.heap.size < w.heap.size + 1 + 1 + 1 + 1; omega)).trans f1
      have kb := (hB.cell (p := ⟨w.heap.size + 1, 1, none⟩) (by show w.heap.size + 1 < w.heap.size + 1 + 1 + 1 + 1; omega)).trans f5
      have A1 := Lib.hid (stp_gen1 Sx Cx a0 a1 a2 a3 b0 b1 b2 b3 o0 o1 o2 o3 c pre h1)
      have A2 := Lib.hid (HB a1 b1 c h2 h3)
      have A3 := Lib.hid (And.intro hB (And.intro q0 (And.intro q2 q3)))
      have A4 := Lib.hid (And.intro z0 (And.intro z2 z3))
      clear h1 h2 h3 hB f0 f1 f2 f3 f4 f5 f6 f7 f8 q0 z0 q2 z2 q3 z3 hs0
      simp only [p0]
      gi_wp2
      refine LinI.wpIn_region_lin 12 12 16 rfl (fun _ => trivial) (by kernel_rfl) (by kernel_rfl) ?_
      iterate 12 (refine LinI.lex_val (by kernel_rfl) rfl (by kernel_rfl) ?_; apply Exists.intro; refine ⟨?_, ?_⟩; (focus (go_simp; with_reducible exact LinI.is_val)); (try simp only [Act.put, List.setIfInBounds_toArray, List.set_cons_zero, List.set_cons_succ]))
      refine LinI.lex_end rfl (by apply Exists.intro; go_simp; with_reducible exact LinI.is_val) (by kernel_rfl) ?_
      refine wpAnyIn_ready (rs := [12, 13]) (by kernel_rfl) (by simp) ?_
      refine AllReadyIn.cons rfl (fun K hK => ?_) ?_
      · go_simp
        refine hK _ _ ?_
        clear hK K
        refine wpAnyIn_ready (rs := [13]) (by kernel_rfl) (by simp) ?_
        refine AllReadyIn.cons rfl (fun K hK => ?_) AllReadyIn.nil
        go_simp
        refine hK _ _ ?_
        clear hK K
        refine wpAnyIn_ready (rs := [14]) (by kernel_rfl) (by simp) ?_
        refine AllReadyIn.cons rfl (fun K hK => ?_) AllReadyIn.nil
        go_simp
        refine hK _ _ ?_
        clear hK K
        refine wpAnyIn_ready (rs := [15]) (by kernel_rfl) (by simp) ?_
        refine AllReadyIn.cons rfl (fun K hK => ?_) AllReadyIn.nil
        go_simp
        refine hK _ _ ?_
        clear hK K
        refine wpAnyIn_done (by kernel_rfl) ?_ _
        gi_wp2
        obtain ⟨hB, q0, q2, q3⟩ := A3.out
        obtain ⟨z0, z2, z3⟩ := A4.out
        exact ⟨by first | exact (KeepsOthers.setCell _ _ _).trans ((KeepsOthers.setCell _ _ _).trans (KeepsOthers.drew _)) | exact ((KeepsOthers.drew _).trans (KeepsOthers.setCell _ _ _)).trans (KeepsOthers.setCell _ _ _), by go_grown, ⟨o0, Sx a1 b1 c, o2, o3, Cx a1 b1 c, A1.out, A2.out.1, A2.out.2, by go_simp, by go_simp, by go_simp, by go_simp, by go_simp, by go_simp, by go_simp, by go_simp, by go_simp, by go_simp⟩, hB.trans (by go_grown)⟩
      refine AllReadyIn.cons rfl (fun K hK => ?_) AllReadyIn.nil
      go_simp
      refine hK _ _ ?_
      clear hK K
      refine wpAnyIn_ready (rs := [12, 14]) (by kernel_rfl) (by simp) ?_
      refine AllReadyIn.cons rfl (fun K hK => ?_) ?_
      · go_simp
        refine hK _ _ ?_
        clear hK K
        refine wpAnyIn_ready (rs := [14]) (by kernel_rfl) (by simp) ?_
        refine AllReadyIn.cons rfl (fun K hK => ?_) AllReadyIn.nil
        go_simp
        refine hK _ _ ?_
        clear hK K
        refine wpAnyIn_ready (rs := [15]) (by kernel_rfl) (by simp) ?_
        refine AllReadyIn.cons rfl (fun K hK => ?_) AllReadyIn.nil
        go_simp
        refine hK _ _ ?_
        clear hK K
        refine wpAnyIn_done (by kernel_rfl) ?_ _
        gi_wp2
        obtain ⟨hB, q0, q2, q3⟩ := A3.out
        obtain ⟨z0, z2, z3⟩ := A4.out
        exact ⟨by first | exact (KeepsOthers.setCell _ _ _).trans ((KeepsOthers.setCell _ _ _).trans (KeepsOthers.drew _)) | exact ((KeepsOthers.drew _).trans (KeepsOthers.setCell _ _ _)).trans (KeepsOthers.setCell _ _ _), by go_grown, ⟨o0, Sx a1 b1 c, o2, o3, Cx a1 b1 c, A1.out, A2.out.1, A2.out.2, by go_simp, by go_simp, by go_simp, by go_simp, by go_simp, by go_simp, by go_simp, by go_simp, by go_simp, by go_simp⟩, hB.trans (by go_grown)⟩
      refine AllReadyIn.cons rfl (fun K hK => ?_) AllReadyIn.nil
      go_simp
      refine hK _ _ ?_
      clear hK K
      refine wpAnyIn_ready (rs := [12]) (by kernel_rfl) (by simp) ?_
      refine AllReadyIn.cons rfl (fun K hK => ?_) AllReadyIn.nil
      go_simp
      refine hK _ _ ?_
      clear hK K
      refine wpAnyIn_ready (rs := [15]) (by kernel_rfl) (by simp) ?_
      refine AllReadyIn.cons rfl (fun K hK => ?_) AllReadyIn.nil
      go_simp
      refine hK _ _ ?_
      clear hK K
      refine wpAnyIn_done (by kernel_rfl) ?_ _
      gi_wp2
      obtain ⟨hB, q0, q2, q3⟩ := A3.out
      obtain ⟨z0, z2, z3⟩ := A4.out
      exact ⟨by first | exact (KeepsOthers.setCell _ _ _).trans ((KeepsOthers.setCell _ _ _).trans (KeepsOthers.drew _)) | exact ((KeepsOthers.drew _).trans (KeepsOthers.setCell _ _ _)).trans (KeepsOthers.setCell _ _ _), by go_grown, ⟨o0, Sx a1 b1 c, o2, o3, Cx a1 b1 c, A1.out, A2.out.1, A2.out.2, by go_simp, by go_simp, by go_simp, by go_simp, by go_simp, by go_simp, by go_simp, by go_simp, by go_simp, by go_simp⟩, hB.trans (by go_grown)⟩
    · have p0 : pl 2 = 2 := rfl
      have e0 : ∀ W, (callFunc F #[.int .u64 a2, .int .u64 b2, .int .u64 c]).run Tryz.prog W = .ok (.value (.tuple #[.int .u64 (Sx a2 b2 c), .int .u64 (Cx a2 b2 c)])) W := fun W => HF a2 b2 c U64.ge U64.ge U64.lt h2 h3 W
      have hfn : Fence.wide.fn F := trivial
      have ka := (hB.cell (p := ⟨w.heap.size, 2, none⟩) (by show w.heap.size < w.heap.size + 1 + 1 + 1 + 1; omega)).trans f2
      have kb := (hB.cell (p := ⟨w.heap.size + 1, 2, none⟩) (by show w.heap.size + 1 < w.heap.size + 1 + 1 + 1 + 1; omega)).trans f6
      have A1 := Lib.hid (stp_gen2 Sx Cx a0 a1 a2 a3 b0 b1 b2 b3 o0 o1 o2 o3 c pre h1)
      have A2 := Lib.hid (HB a2 b2 c h2 h3)
      have A3 := Lib.hid (And.intro hB (And.intro q0 (And.intro q1 q3)))
      have A4 := Lib.hid (And.intro z0 (And.intro z1 z3))
      clear h1 h2 h3 hB f0 f1 f2 f3 f4 f5 f6 f7 f8 q0 z0 q1 z1 q3 z3 hs0
      simp only [p0]
      gi_wp2
      refine LinI.wpIn_region_lin 12 12 16 rfl (fun _ => trivial) (by kernel_rfl) (by kernel_rfl) ?_
      iterate 12 (refine LinI.lex_val (by kernel_rfl) rfl (by kernel_rfl) ?_; apply Exists.intro; refine ⟨?_, ?_⟩; (focus (go_simp; with_reducible exact LinI.is_val)); (try simp only [Act.put, List.setIfInBounds_toArray, List.set_cons_zero, List.set_cons_succ]))
      refine LinI.lex_end rfl (by apply Exists.intro; go_simp; with_reducible exact LinI.is_val) (by kernel_rfl) ?_
      refine wpAnyIn_ready (rs := [12, 13]) (by kernel_rfl) (by simp) ?_
      refine AllReadyIn.cons rfl (fun K hK => ?_) ?_
      · go_simp
        refine hK _ _ ?_
        clear hK K
        refine wpAnyIn_ready (rs := [13]) (by kernel_rfl) (by simp) ?_
        refine AllReadyIn.cons rfl (fun K hK => ?_) AllReadyIn.nil
        go_simp
        refine hK _ _ ?_
        clear hK K
        refine wpAnyIn_ready (rs := [14]) (by kernel_rfl) (by simp) ?_
        refine AllReadyIn.cons rfl (fun K hK => ?_) AllReadyIn.nil
        go_simp
        refine hK _ _ ?_
        clear hK K
        refine wpAnyIn_ready (rs := [15]) (by kernel_rfl) (by simp) ?_
        refine AllReadyIn.cons rfl (fun K hK => ?_) AllReadyIn.nil
        go_simp
        refine hK _ _ ?_
        clear hK K
        refine wpAnyIn_done (by kernel_rfl) ?_ _
        gi_wp2
        obtain ⟨hB, q0, q1, q3⟩ := A3.out
        obtain ⟨z0, z1, z3⟩ := A4.out
        exact ⟨by first | exact (KeepsOthers.setCell _ _ _).trans ((KeepsOthers.setCell _ _ _).trans (KeepsOthers.drew _)) | exact ((KeepsOthers.drew _).trans (KeepsOthers.setCell _ _ _)).trans (KeepsOthers.setCell _ _ _), by go_grown, ⟨o0, o1, Sx a2 b2 c, o3, Cx a2 b2 c, A1.out, A2.out.1, A2.out.2, by go_simp, by go_simp, by go_simp, by go_simp, by go_simp, by go_simp, by go_simp, by go_simp, by go_simp, by go_simp⟩, hB.trans (by go_grown)⟩
      refine AllReadyIn.cons rfl (fun K hK => ?_) AllReadyIn.nil
      go_simp
      refine hK _ _ ?_
      clear hK K
      refine wpAnyIn_ready (rs := [12, 14]) (by kernel_rfl) (by simp) ?_
      refine AllReadyIn.cons rfl (fun K hK => ?_) ?_
      · go_simp
        refine hK _ _ ?_
        clear hK K
        refine wpAnyIn_ready (rs := [14]) (by kernel_rfl) (by simp) ?_
        refine AllReadyIn.cons rfl (fun K hK => ?_) AllReadyIn.nil
        go_simp
        refine hK _ _ ?_
        clear hK K
        refine wpAnyIn_ready (rs := [15]) (by kernel_rfl) (by simp) ?_
        refine AllReadyIn.cons rfl (fun K hK => ?_) AllReadyIn.nil
        go_simp
        refine hK _ _ ?_
        clear hK K
        refine wpAnyIn_done (by kernel_rfl) ?_ _
        gi_wp2
        obtain ⟨hB, q0, q1, q3⟩ := A3.out
        obtain ⟨z0, z1, z3⟩ := A4.out
        exact ⟨by first | exact (KeepsOthers.setCell _ _ _).trans ((KeepsOthers.setCell _ _ _).trans (KeepsOthers.drew _)) | exact ((KeepsOthers.drew _).trans (KeepsOthers.setCell _ _ _)).trans (KeepsOthers.setCell _ _ _), by go_grown, ⟨o0, o1, Sx a2 b2 c, o3, Cx a2 b2 c, A1.out, A2.out.1, A2.out.2, by go_simp, by go_simp, by go_simp, by go_simp, by go_simp, by go_simp, by go_simp, by go_simp, by go_simp, by go_simp⟩, hB.trans (by go_grown)⟩
      refine AllReadyIn.cons rfl (fun K hK => ?_) AllReadyIn.nil
      go_simp
      refine hK _ _ ?_
      clear hK K
      refine wpAnyIn_ready (rs := [12]) (by kernel_rfl) (by simp) ?_
      refine AllReadyIn.cons rfl (fun K hK => ?_) AllReadyIn.nil
      go_simp
      refine hK _ _ ?_
      clear hK K
      refine wpAnyIn_ready (rs := [15]) (by kernel_rfl) (by simp) ?_
      refine AllReadyIn.cons rfl (fun K hK => ?_) AllReadyIn.nil
      go_simp
      refine hK _ _ ?_
      clear hK K
      refine wpAnyIn_done (by kernel_rfl) ?_ _
      gi_wp2
      obtain ⟨hB, q0, q1, q3⟩ := A3.out
      obtain ⟨z0, z1, z3⟩ := A4.out
      exact ⟨by first | exact (KeepsOthers.setCell _ _ _).trans ((KeepsOthers.setCell _ _ _).trans (KeepsOthers.drew _)) | exact ((KeepsOthers.drew _).trans (KeepsOthers.setCell _ _ _)).trans (KeepsOthers.setCell _ _ _), by go_grown, ⟨o0, o1, Sx a2 b2 c, o3, Cx a2 b2 c, A1.out, A2.out.1, A2.out.2, by go_simp, by go_simp, by go_simp, by go_simp, by go_simp, by go_simp, by go_simp, by go_simp, by go_simp, by go_simp⟩, hB.trans (by go_grown)⟩
    · have p0 : pl 3 = 3 := rfl
      have e0 : ∀ W, (callFunc F #[.int .u64 a3, .int .u64 b3, .int .u64 c]).run Tryz.prog W = .ok (.value (.tuple #[.int .u64 (Sx a3 b3 c), .int .u64 (Cx a3 b3 c)])) W := fun W => HF a3 b3 c U64.ge U64.ge U64.lt h2 h3 W
      have hfn : Fence.wide.fn F := trivial
      have ka := (hB.cell (p := ⟨w.heap.size, 3, none⟩) (by show w.heap.size < w.heap.size + 1 + 1 + 1 + 1; omega)).trans f3
      have kb := (hB.cell (p := ⟨w.heap.size + 1, 3, none⟩) (by show w.heap.size + 1 < w.heap.size + 1 + 1 + 1 + 1; omega)).trans f7
      have A1 := Lib.hid (stp_gen3 Sx Cx a0 a1 a2 a3 b0 b1 b2 b3 o0 o1 o2 o3 c pre h1)
      have A2 := Lib.hid (HB a3 b3 c h2 h3)
      have A3 := Lib.hid (And.intro hB (And.intro q0 (And.intro q1 q2)))
      have A4 := Lib.hid (And.intro z0 (And.intro z1 z2))
      clear h1 h2 h3 hB f0 f1 f2 f3 f4 f5 f6 f7 f8 q0 z0 q1 z1 q2 z2 hs0
      simp only [p0]
      gi_wp2
      refine LinI.wpIn_region_lin 12 12 16 rfl (fun _ => trivial) (by kernel_rfl) (by kernel_rfl) ?_
      iterate 12 (refine LinI.lex_val (by kernel_rfl) rfl (by kernel_rfl) ?_; apply Exists.intro; refine ⟨?_, ?_⟩; (focus (go_simp; with_reducible exact LinI.is_val)); (try simp only [Act.put, List.setIfInBounds_toArray, List.set_cons_zero, List.set_cons_succ]))
      refine LinI.lex_end rfl (by apply Exists.intro; go_simp; with_reducible exact LinI.is_val) (by kernel_rfl) ?_
      refine wpAnyIn_ready (rs := [12, 13]) (by kernel_rfl) (by simp) ?_
      refine AllReadyIn.cons rfl (fun K hK => ?_) ?_
      · go_simp
        refine hK _ _ ?_
        clear hK K
        refine wpAnyIn_ready (rs := [13]) (by kernel_rfl) (by simp) ?_
        refine AllReadyIn.cons rfl (fun K hK => ?_) AllReadyIn.nil
        go_simp
        refine hK _ _ ?_
        clear hK K
        refine wpAnyIn_ready (rs := [14]) (by kernel_rfl) (by simp) ?_
        refine AllReadyIn.cons rfl (fun K hK => ?_) AllReadyIn.nil
        go_simp
        refine hK _ _ ?_
        clear hK K
        refine wpAnyIn_ready (rs := [15]) (by kernel_rfl) (by simp) ?_
        refine AllReadyIn.cons rfl (fun K hK => ?_) AllReadyIn.nil
        go_simp
        refine hK _ _ ?_
        clear hK K
        refine wpAnyIn_done (by kernel_rfl) ?_ _
        gi_wp2
        obtain ⟨hB, q0, q1, q2⟩ := A3.out
        obtain ⟨z0, z1, z2⟩ := A4.out
        exact ⟨by first | exact (KeepsOthers.setCell _ _ _).trans ((KeepsOthers.setCell _ _ _).trans (KeepsOthers.drew _)) | exact ((KeepsOthers.drew _).trans (KeepsOthers.setCell _ _ _)).trans (KeepsOthers.setCell _ _ _), by go_grown, ⟨o0, o1, o2, Sx a3 b3 c, Cx a3 b3 c, A1.out, A2.out.1, A2.out.2, by go_simp, by go_simp, by go_simp, by go_simp, by go_simp, by go_simp, by go_simp, by go_simp, by go_simp, by go_simp⟩, hB.trans (by go_grown)⟩
      refine AllReadyIn.cons rfl (fun K hK => ?_) AllReadyIn.nil
      go_simp
      refine hK _ _ ?_
      clear hK K
      refine wpAnyIn_ready (rs := [12, 14]) (by kernel_rfl) (by simp) ?_
      refine AllReadyIn.cons rfl (fun K hK => ?_) ?_
      · go_simp
        refine hK _ _ ?_
        clear hK K
        refine wpAnyIn_ready (rs := [14]) (by kernel_rfl) (by simp) ?_
        refine AllReadyIn.cons rfl (fun K hK => ?_) AllReadyIn.nil
        go_simp
        refine hK _ _ ?_
        clear hK K
        refine wpAnyIn_ready (rs := [15]) (by kernel_rfl) (by simp) ?_
        refine AllReadyIn.cons rfl (fun K hK => ?_) AllReadyIn.nil
        go_simp
        refine hK _ _ ?_
        clear hK K
        refine wpAnyIn_done (by kernel_rfl) ?_ _
        gi_wp2
        obtain ⟨hB, q0, q1, q2⟩ := A3.out
        obtain ⟨z0, z1, z2⟩ := A4.out
        exact ⟨by first | exact (KeepsOthers.setCell _ _ _).trans ((KeepsOthers.setCell _ _ _).trans (KeepsOthers.drew _)) | exact ((KeepsOthers.drew _).trans (KeepsOthers.setCell _ _ _)).trans (KeepsOthers.setCell _ _ _), by go_grown, ⟨o0, o1, o2, Sx a3 b3 c, Cx a3 b3 c, A1.out, A2.out.1, A2.out.2, by go_simp, by go_simp, by go_simp, by go_simp, by go_simp, by go_simp, by go_simp, by go_simp, by go_simp, by go_simp⟩, hB.trans (by go_grown)⟩
      refine AllReadyIn.cons rfl (fun K hK => ?_) AllReadyIn.nil
      go_simp
      refine hK _ _ ?_
      clear hK K
      refine wpAnyIn_ready (rs := [12]) (by kernel_rfl) (by simp) ?_
      refine AllReadyIn.cons rfl (fun K hK => ?_) AllReadyIn.nil
      go_simp
      refine hK _ _ ?_
      clear hK K
      refine wpAnyIn_ready (rs := [15]) (by kernel_rfl) (by simp) ?_
      refine AllReadyIn.cons rfl (fun K hK => ?_) AllReadyIn.nil
      go_simp
      refine hK _ _ ?_
      clear hK K
      refine wpAnyIn_done (by kernel_rfl) ?_ _
      gi_wp2
      obtain ⟨hB, q0, q1, q2⟩ := A3.out
      obtain ⟨z0, z1, z2⟩ := A4.out
      exact ⟨by first | exact (KeepsOthers.setCell _ _ _).trans ((KeepsOthers.setCell _ _ _).trans (KeepsOthers.drew _)) | exact ((KeepsOthers.drew _).trans (KeepsOthers.setCell _ _ _)).trans (KeepsOthers.setCell _ _ _), by go_grown, ⟨o0, o1, o2, Sx a3 b3 c, Cx a3 b3 c, A1.out, A2.out.1, A2.out.2, by go_simp, by go_simp, by go_simp, by go_simp, by go_simp, by go_simp, by go_simp, by go_simp, by go_simp, by go_simp⟩, hB.trans (by go_grown)⟩
  case done =>
    rintro D ys W hD rfl ⟨⟨o0, o1, o2, o3, c, h1, h2, h3, q0, q1, q2, q3, q4, z0, z1, z2, z3, z4⟩, hB⟩ hK
    have r0 := (hB.cell (p := ⟨w.heap.size + 1 + 1 + 1, 0, none⟩) (by show w.heap.size + 1 + 1 + 1 < w.heap.size + 1 + 1 + 1 + 1; omega)).trans f9
    have y0 := (hB.frozen (p := ⟨w.heap.size + 1 + 1 + 1, 0, none⟩) (by show w.heap.size + 1 + 1 + 1 < w.heap.size + 1 + 1 + 1 + 1; omega)).trans g0
    have r1 := (hB.cell (p := ⟨w.heap.size + 1 + 1 + 1, 1, none⟩) (by show w.heap.size + 1 + 1 + 1 < w.heap.size + 1 + 1 + 1 + 1; omega)).trans f10
    have y1 := (hB.frozen (p := ⟨w.heap.size + 1 + 1 + 1, 1, none⟩) (by show w.heap.size + 1 + 1 + 1 < w.heap.size + 1 + 1 + 1 + 1; omega)).trans g1
    have r2 := (hB.cell (p := ⟨w.heap.size + 1 + 1 + 1, 2, none⟩) (by show w.heap.size + 1 + 1 + 1 < w.heap.size + 1 + 1 + 1 + 1; omega)).trans f11
    have y2 := (hB.frozen (p := ⟨w.heap.size + 1 + 1 + 1, 2, none⟩) (by show w.heap.size + 1 + 1 + 1 < w.heap.size + 1 + 1 + 1 + 1; omega)).trans g2
    have r3 := (hB.cell (p := ⟨w.heap.size + 1 + 1 + 1, 3, none⟩) (by show w.heap.size + 1 + 1 + 1 < w.heap.size + 1 + 1 + 1 + 1; omega)).trans f12
    have y3 := (hB.frozen (p := ⟨w.heap.size + 1 + 1 + 1, 3, none⟩) (by show w.heap.size + 1 + 1 + 1 < w.heap.size + 1 + 1 + 1 + 1; omega)).trans g3
    have A1 := Lib.hid (And.intro hB (And.intro hB0 (And.intro h1 (And.intro hK hs0))))
    have hN : w.heap.size + 1 + 1 + 1 ≠ w.heap.size + 1 + 1 + 1 + 1 ∧ w.heap.size + 1 + 1 + 1 ≠ w.heap.size + 1 + 1 + 1 + 1 + 1 ∧ w.heap.size + 1 + 1 + 1 + 1 ≠ w.heap.size + 1 + 1 + 1 ∧ w.heap.size + 1 + 1 + 1 + 1 ≠ w.heap.size + 1 + 1 + 1 + 1 + 1 ∧ w.heap.size + 1 + 1 + 1 + 1 + 1 ≠ w.heap.size + 1 + 1 + 1 ∧ w.heap.size + 1 + 1 + 1 + 1 + 1 ≠ w.heap.size + 1 + 1 + 1 + 1 := (by omega)
    clear hB hB0 h1 h2 h3 hC0 hK hs0 f0 f1 f2 f3 f4 f5 f6 f7 f8 f9 f10 f11 f12 z0 z1 z2 z3 z4 g0 g1 g2 g3
    gi_wp2
    refine LinI.wpIn_region_lin 0 1000 5 rfl (fun _ => trivial) (by kernel_rfl) (by kernel_rfl) ?_
    refine LinI.lex_end0 (by kernel_rfl) ?_
    refine wpAnyIn_ready (rs := [0, 1]) (by kernel_rfl) (by simp) ?_
    refine AllReadyIn.cons rfl (fun K hK => ?_) ?_
    · go_simp
      refine hK _ _ ?_
      clear hK K
      refine wpAnyIn_ready (rs := [1, 3]) (by kernel_rfl) (by simp) ?_
      refine AllReadyIn.cons rfl (fun K hK => ?_) ?_
      · go_simp
        refine hK _ _ ?_
        clear hK K
        refine wpAnyIn_ready (rs := [2, 3]) (by kernel_rfl) (by simp) ?_
        refine AllReadyIn.cons rfl (fun K hK => ?_) ?_
        · go_simp
          refine hK _ _ ?_
          clear hK K
          refine wpAnyIn_ready (rs := [3]) (by kernel_rfl) (by simp) ?_
          refine AllReadyIn.cons rfl (fun K hK => ?_) AllReadyIn.nil
          go_simp
          refine hK _ _ ?_
          clear hK K
          refine wpAnyIn_ready (rs := [4]) (by kernel_rfl) (by simp) ?_
          refine AllReadyIn.cons rfl (fun K hK => ?_) AllReadyIn.nil
          go_simp
          refine hK _ _ ?_
          clear hK K
          refine wpAnyIn_done (by kernel_rfl) ?_ _
          gi_wp2
          obtain ⟨hB, hB0, h1, hK, hs0⟩ := A1.out
          have e0 : (((((W.setCell ⟨w.heap.size + 1 + 1 + 1, 0, none⟩ (.int .u64 o0)).setCell ⟨w.heap.size + 1 + 1 + 1, 1, none⟩ (.int .u64 o1)).setCell ⟨w.heap.size + 1 + 1 + 1, 2, none⟩ (.int .u64 o2)).setCell ⟨w.heap.size + 1 + 1 + 1, 3, none⟩ (.int .u64 o3)).drew).cell? ⟨w.heap.size + 1 + 1 + 1, 0, none⟩ = some (.int .u64 o0) := by go_simp
          have e1 : (((((W.setCell ⟨w.heap.size + 1 + 1 + 1, 0, none⟩ (.int .u64 o0)).setCell ⟨w.heap.size + 1 + 1 + 1, 1, none⟩ (.int .u64 o1)).setCell ⟨w.heap.size + 1 + 1 + 1, 2, none⟩ (.int .u64 o2)).setCell ⟨w.heap.size + 1 + 1 + 1, 3, none⟩ (.int .u64 o3)).drew).cell? ⟨w.heap.size + 1 + 1 + 1, 1, none⟩ = some (.int .u64 o1) := by go_simp
          have e2 : (((((W.setCell ⟨w.heap.size + 1 + 1 + 1, 0, none⟩ (.int .u64 o0)).setCell ⟨w.heap.size + 1 + 1 + 1, 1, none⟩ (.int .u64 o1)).setCell ⟨w.heap.size + 1 + 1 + 1, 2, none⟩ (.int .u64 o2)).setCell ⟨w.heap.size + 1 + 1 + 1, 3, none⟩ (.int .u64 o3)).drew).cell? ⟨w.heap.size + 1 + 1 + 1, 2, none⟩ = some (.int .u64 o2) := by go_simp
          have e3 : (((((W.setCell ⟨w.heap.size + 1 + 1 + 1, 0, none⟩ (.int .u64 o0)).setCell ⟨w.heap.size + 1 + 1 + 1, 1, none⟩ (.int .u64 o1)).setCell ⟨w.heap.size + 1 + 1 + 1, 2, none⟩ (.int .u64 o2)).setCell ⟨w.heap.size + 1 + 1 + 1, 3, none⟩ (.int .u64 o3)).drew).cell? ⟨w.heap.size + 1 + 1 + 1, 3, none⟩ = some (.int .u64 o3) := by go_simp
          have hKf : (((((W.setCell ⟨w.heap.size + 1 + 1 + 1, 0, none⟩ (.int .u64 o0)).setCell ⟨w.heap.size + 1 + 1 + 1, 1, none⟩ (.int .u64 o1)).setCell ⟨w.heap.size + 1 + 1 + 1, 2, none⟩ (.int .u64 o2)).setCell ⟨w.heap.size + 1 + 1 + 1, 3, none⟩ (.int .u64 o3)).drew).heap[D]? = some (.deferred (some [])) := (((((KeepsOthers.setCell W _ _).trans (KeepsOthers.setCell _ _ _)).trans (KeepsOthers.setCell _ _ _)).trans (KeepsOthers.setCell _ _ _)).trans (KeepsOthers.drew _)).same D _ hK rfl
          have d0 := cell_kept e0 (grownBy_putObj' _ D (.deferred none)) (fun r e => by cases e; exact ⟨_, hKf, rfl⟩)
          have d1 := cell_kept e1 (grownBy_putObj' _ D (.deferred none)) (fun r e => by cases e; exact ⟨_, hKf, rfl⟩)
          have d2 := cell_kept e2 (grownBy_putObj' _ D (.deferred none)) (fun r e => by cases e; exact ⟨_, hKf, rfl⟩)
          have d3 := cell_kept e3 (grownBy_putObj' _ D (.deferred none)) (fun r e => by cases e; exact ⟨_, hKf, rfl⟩)
          have hBf : Below w.heap.size w (((((W.setCell ⟨w.heap.size + 1 + 1 + 1, 0, none⟩ (.int .u64 o0)).setCell ⟨w.heap.size + 1 + 1 + 1, 1, none⟩ (.int .u64 o1)).setCell ⟨w.heap.size + 1 + 1 + 1, 2, none⟩ (.int .u64 o2)).setCell ⟨w.heap.size + 1 + 1 + 1, 3, none⟩ (.int .u64 o3)).drew) := (hB0.trans (hB.mono (by omega))).trans (by go_grown)
          refine ⟨by simp, .inl ⟨_, _, rfl, run_takeDeferred hKf, ?_⟩⟩
          refine ⟨.tuple #[.agg #[.int .u64 (o0), .int .u64 (o1), .int .u64 (o2), .int .u64 (o3)], .bool (c != 0)], ?_, ⟨o0, o1, o2, o3, c, h1, rfl⟩, hBf.trans (belowK_b (w := w) (Nat.le_refl _) _ D _ _ (by omega) hKf rfl rfl)⟩
          simp [results, Tryz.f144, go_sem, d0, d1, d2, d3]
        refine AllReadyIn.cons rfl (fun K hK => ?_) AllReadyIn.nil
        go_simp
        refine hK _ _ ?_
        clear hK K
        refine wpAnyIn_ready (rs := [2]) (by kernel_rfl) (by simp) ?_
        refine AllReadyIn.cons rfl (fun K hK => ?_) AllReadyIn.nil
        go_simp
        refine hK _ _ ?_
        clear hK K
        refine wpAnyIn_ready (rs := [4]) (by kernel_rfl) (by simp) ?_
        refine AllReadyIn.cons rfl (fun K hK => ?_) AllReadyIn.nil
        go_simp
        refine hK _ _ ?_
        clear hK K
        refine wpAnyIn_done (by kernel_rfl) ?_ _
        gi_wp2
        obtain ⟨hB, hB0, h1, hK, hs0⟩ := A1.out
        have e0 : (((((W.setCell ⟨w.heap.size + 1 + 1 + 1, 0, none⟩ (.int .u64 o0)).setCell ⟨w.heap.size + 1 + 1 + 1, 1, none⟩ (.int .u64 o1)).setCell ⟨w.heap.size + 1 + 1 + 1, 2, none⟩ (.int .u64 o2)).setCell ⟨w.heap.size + 1 + 1 + 1, 3, none⟩ (.int .u64 o3)).drew).cell? ⟨w.heap.size + 1 + 1 + 1, 0, none⟩ = some (.int .u64 o0) := by go_simp
        have e1 : (((((W.setCell ⟨w.heap.size + 1 + 1 + 1, 0, none⟩ (.int .u64 o0)).setCell ⟨w.heap.size + 1 + 1 + 1, 1, none⟩ (.int .u64 o1)).setCell ⟨w.heap.size + 1 + 1 + 1, 2, none⟩ (.int .u64 o2)).setCell ⟨w.heap.size + 1 + 1 + 1, 3, none⟩ (.int .u64 o3)).drew).cell? ⟨w.heap.size + 1 + 1 + 1, 1, none⟩ = some (.int .u64 o1) := by go_simp
        have e2 : (((((W.setCell ⟨w.heap.size + 1 + 1 + 1, 0, none⟩ (.int .u64 o0)).setCell ⟨w.heap.size + 1 + 1 + 1, 1, none⟩ (.int .u64 o1)).setCell ⟨w.heap.size + 1 + 1 + 1, 2, none⟩ (.int .u64 o2)).setCell ⟨w.heap.size + 1 + 1 + 1, 3, none⟩ (.int .u64 o3)).drew).cell? ⟨w.heap.size + 1 + 1 + 1, 2, none⟩ = some (.int .u64 o2) := by go_simp
        have e3 : (((((W.setCell ⟨w.heap.size + 1 + 1 + 1, 0, none⟩ (.int .u64 o0)).setCell ⟨w.heap.size + 1 + 1 + 1, 1, none⟩ (.int .u64 o1)).setCell ⟨w.heap.size + 1 + 1 + 1, 2, none⟩ (.int .u64 o2)).setCell ⟨w.heap.size + 1 + 1 + 1, 3, none⟩ (.int .u64 o3)).drew).cell? ⟨w.heap.size + 1 + 1 + 1, 3, none⟩ = some (.int .u64 o3) := by go_simp
        have hKf : (((((W.setCell ⟨w.heap.size + 1 + 1 + 1, 0, none⟩ (.int .u64 o0)).setCell ⟨w.heap.size + 1 + 1 + 1, 1, none⟩ (.int .u64 o1)).setCell ⟨w.heap.size + 1 + 1 + 1, 2, none⟩ (.int .u64 o2)).setCell ⟨w.heap.size + 1 + 1 + 1, 3, none⟩ (.int .u64 o3)).drew).heap[D]? = some (.deferred (some [])) := (((((KeepsOthers.setCell W _ _).trans (KeepsOthers.setCell _ _ _)).trans (KeepsOthers.setCell _ _ _)).trans (KeepsOthers.setCell _ _ _)).trans (KeepsOthers.drew _)).same D _ hK rfl
        have d0 := cell_kept e0 (grownBy_putObj' _ D (.deferred none)) (fun r e => by cases e; exact ⟨_, hKf, rfl⟩)
        have d1 := cell_kept e1 (grownBy_putObj' _ D (.deferred none)) (fun r e => by cases e; exact ⟨_, hKf, rfl⟩)
        have d2 := cell_kept e2 (grownBy_putObj' _ D (.deferred none)) (fun r e => by cases e; exact ⟨_, hKf, rfl⟩)
        have d3 := cell_kept e3 (grownBy_putObj' _ D (.deferred none)) (fun r e => by cases e; exact ⟨_, hKf, rfl⟩)
        have hBf : Below w.heap.size w (((((W.setCell ⟨w.heap.size + 1 + 1 + 1, 0, none⟩ (.int .u64 o0)).setCell ⟨w.heap.size + 1 + 1 + 1, 1, none⟩ (.int .u64 o1)).setCell ⟨w.heap.size + 1 + 1 + 1, 2, none⟩ (.int .u64 o2)).setCell ⟨w.heap.size + 1 + 1 + 1, 3, none⟩ (.int .u64 o3)).drew) := (hB0.trans (hB.mono (by omega))).trans (by go_grown)
        refine ⟨by simp, .inl ⟨_, _, rfl, run_takeDeferred hKf, ?_⟩⟩
        refine ⟨.tuple #[.agg #[.int .u64 (o0), .int .u64 (o1), .int .u64 (o2), .int .u64 (o3)], .bool (c != 0)], ?_, ⟨o0, o1, o2, o3, c, h1, rfl⟩, hBf.trans (belowK_b (w := w) (Nat.le_refl _) _ D _ _ (by omega) hKf rfl rfl)⟩
        simp [results, Tryz.f144, go_sem, d0, d1, d2, d3]
      refine AllReadyIn.cons rfl (fun K hK => ?_) AllReadyIn.nil
      go_simp
      refine hK _ _ ?_
      clear hK K
      refine wpAnyIn_ready (rs := [1]) (by kernel_rfl) (by simp) ?_
      refine AllReadyIn.cons rfl (fun K hK => ?_) AllReadyIn.nil
      go_simp
      refine hK _ _ ?_
      clear hK K
      refine wpAnyIn_ready (rs := [2]) (by kernel_rfl) (by simp) ?_
      refine AllReadyIn.cons rfl (fun K hK => ?_) AllReadyIn.nil
      go_simp
      refine hK _ _ ?_
      clear hK K
      refine wpAnyIn_ready (rs := [4]) (by kernel_rfl) (by simp) ?_
      refine AllReadyIn.cons rfl (fun K hK => ?_) AllReadyIn.nil
      go_simp
      refine hK _ _ ?_
      clear hK K
      refine wpAnyIn_done (by kernel_rfl) ?_ _
      gi_wp2
      obtain ⟨hB, hB0, h1, hK, hs0⟩ := A1.out
      have e0 : (((((W.setCell ⟨w.heap.size + 1 + 1 + 1, 0, none⟩ (.int .u64 o0)).setCell ⟨w.heap.size + 1 + 1 + 1, 1, none⟩ (.int .u64 o1)).setCell ⟨w.heap.size + 1 + 1 + 1, 2, none⟩ (.int .u64 o2)).setCell ⟨w.heap.size + 1 + 1 + 1, 3, none⟩ (.int .u64 o3)).drew).cell? ⟨w.heap.size + 1 + 1 + 1, 0, none⟩ = some (.int .u64 o0) := by go_simp
      have e1 : (((((W.setCell ⟨w.heap.size + 1 + 1 + 1, 0, none⟩ (.int .u64 o0)).setCell ⟨w.heap.size + 1 + 1 + 1, 1, none⟩ (.int .u64 o1)).setCell ⟨w.heap.size + 1 + 1 + 1, 2, none⟩ (.int .u64 o2)).setCell ⟨w.heap.size + 1 + 1 + 1, 3, none⟩ (.int .u64 o3)).drew).cell? ⟨w.heap.size + 1 + 1 + 1, 1, none⟩ = some (.int .u64 o1) := by go_simp
      have e2 : (((((W.setCell ⟨w.heap.size + 1 + 1 + 1, 0, none⟩ (.int .u64 o0)).setCell ⟨w.heap.size + 1 + 1 + 1, 1, none⟩ (.int .u64 o1)).setCell ⟨w.heap.size + 1 + 1 + 1, 2, none⟩ (.int .u64 o2)).setCell ⟨w.heap.size + 1 + 1 + 1, 3, none⟩ (.int .u64 o3)).drew).cell? ⟨w.heap.size + 1 + 1 + 1, 2, none⟩ = some (.int .u64 o2) := by go_simp
      have e3 : (((((W.setCell ⟨w.heap.size + 1 + 1 + 1, 0, none⟩ (.int .u64 o0)).setCell ⟨w.heap.size + 1 + 1 + 1, 1, none⟩ (.int .u64 o1)).setCell ⟨w.heap.size + 1 + 1 + 1, 2, none⟩ (.int .u64 o2)).setCell ⟨w.heap.size + 1 + 1 + 1, 3, none⟩ (.int .u64 o3)).drew).cell? ⟨w.heap.size + 1 + 1 + 1, 3, none⟩ = some (.int .u64 o3) := by go_simp
      have hKf : (((((W.setCell ⟨w.heap.size + 1 + 1 + 1, 0, none⟩ (.int .u64 o0)).setCell ⟨w.heap.size + 1 + 1 + 1, 1, none⟩ (.int .u64 o1)).setCell ⟨w.heap.size + 1 + 1 + 1, 2, none⟩ (.int .u64 o2)).setCell ⟨w.heap.size + 1 + 1 + 1, 3, none⟩ (.int .u64 o3)).drew).heap[D]? = some (.deferred (some [])) := (((((KeepsOthers.setCell W _ _).trans (KeepsOthers.setCell _ _ _)).trans (KeepsOthers.setCell _ _ _)).trans (KeepsOthers.setCell _ _ _)).trans (KeepsOthers.drew _)).same D _ hK rfl
      have d0 := cell_kept e0 (grownBy_putObj' _ D (.deferred none)) (fun r e => by cases e; exact ⟨_, hKf, rfl⟩)
      have d1 := cell_kept e1 (grownBy_putObj' _ D (.deferred none)) (fun r e => by cases e; exact ⟨_, hKf, rfl⟩)
      have d2 := cell_kept e2 (grownBy_putObj' _ D (.deferred none)) (fun r e => by cases e; exact ⟨_, hKf, rfl⟩)
      have d3 := cell_kept e3 (grownBy_putObj' _ D (.deferred none)) (fun r e => by cases e; exact ⟨_, hKf, rfl⟩)
      have hBf : Below w.heap.size w (((((W.setCell ⟨w.heap.size + 1 + 1 + 1, 0, none⟩ (.int .u64 o0)).setCell ⟨w.heap.size + 1 + 1 + 1, 1, none⟩ (.int .u64 o1)).setCell ⟨w.heap.size + 1 + 1 + 1, 2, none⟩ (.int .u64 o2)).setCell ⟨w.heap.size + 1 + 1 + 1, 3, none⟩ (.int .u64 o3)).drew) := (hB0.trans (hB.mono (by omega))).trans (by go_grown)
      refine ⟨by simp, .inl ⟨_, _, rfl, run_takeDeferred hKf, ?_⟩⟩
      refine ⟨.tuple #[.agg #[.int .u64 (o0), .int .u64 (o1), .int .u64 (o2), .int .u64 (o3)], .bool (c != 0)], ?_, ⟨o0, o1, o2, o3, c, h1, rfl⟩, hBf.trans (belowK_b (w := w) (Nat.le_refl _) _ D _ _ (by omega) hKf rfl rfl)⟩
      simp [results, Tryz.f144, go_sem, d0, d1, d2, d3]
    refine AllReadyIn.cons rfl (fun K hK => ?_) AllReadyIn.nil
    go_simp
    refine hK _ _ ?_
    clear hK K
    refine wpAnyIn_ready (rs := [0, 2]) (by kernel_rfl) (by simp) ?_
    refine AllReadyIn.cons rfl (fun K hK => ?_) ?_
    · go_simp
      refine hK _ _ ?_
      clear hK K
      refine wpAnyIn_ready (rs := [2, 3]) (by kernel_rfl) (by simp) ?_
      refine AllReadyIn.cons rfl (fun K hK => ?_) ?_
      · go_simp
        refine hK _ _ ?_
        clear hK K
        refine wpAnyIn_ready (rs := [3]) (by kernel_rfl) (by simp) ?_
        refine AllReadyIn.cons rfl (fun K hK => ?_) AllReadyIn.nil
        go_simp
        refine hK _ _ ?_
        clear hK K
        refine wpAnyIn_ready (rs := [4]) (by kernel_rfl) (by simp) ?_
        refine AllReadyIn.cons rfl (fun K hK => ?_) AllReadyIn.nil
        go_simp
        refine hK _ _ ?_
        clear hK K
        refine wpAnyIn_done (by kernel_rfl) ?_ _
        gi_wp2
        obtain ⟨hB, hB0, h1, hK, hs0⟩ := A1.out
        have e0 : (((((W.setCell ⟨w.heap.size + 1 + 1 + 1, 0, none⟩ (.int .u64 o0)).setCell ⟨w.heap.size + 1 + 1 + 1, 1, none⟩ (.int .u64 o1)).setCell ⟨w.heap.size + 1 + 1 + 1, 2, none⟩ (.int .u64 o2)).setCell ⟨w.heap.size + 1 + 1 + 1, 3, none⟩ (.int .u64 o3)).drew).cell? ⟨w.heap.size + 1 + 1 + 1, 0, none⟩ = some (.int .u64 o0) := by go_simp
        have e1 : (((((W.setCell ⟨w.heap.size + 1 + 1 + 1, 0, none⟩ (.int .u64 o0)).setCell ⟨w.heap.size + 1 + 1 + 1, 1, none⟩ (.int .u64 o1)).setCell ⟨w.heap.size + 1 + 1 + 1, 2, none⟩ (.int .u64 o2)).setCell ⟨w.heap.size + 1 + 1 + 1, 3, none⟩ (.int .u64 o3)).drew).cell? ⟨w.heap.size + 1 + 1 + 1, 1, none⟩ = some (.int .u64 o1) := by go_simp
        have e2 : (((((W.setCell ⟨w.heap.size + 1 + 1 + 1, 0, none⟩ (.int .u64 o0)).setCell ⟨w.heap.size + 1 + 1 + 1, 1, none⟩ (.int .u64 o1)).setCell ⟨w.heap.size + 1 + 1 + 1, 2, none⟩ (.int .u64 o2)).setCell ⟨w.heap.size + 1 + 1 + 1, 3, none⟩ (.int .u64 o3)).drew).cell? ⟨w.heap.size + 1 + 1 + 1, 2, none⟩ = some (.int .u64 o2) := by go_simp
        have e3 : (((((W.setCell ⟨w.heap.size + 1 + 1 + 1, 0, none⟩ (.int .u64 o0)).setCell ⟨w.heap.size + 1 + 1 + 1, 1, none⟩ (.int .u64 o1)).setCell ⟨w.heap.size + 1 + 1 + 1, 2, none⟩ (.int .u64 o2)).setCell ⟨w.heap.size + 1 + 1 + 1, 3, none⟩ (.int .u64 o3)).drew).cell? ⟨w.heap.size + 1 + 1 + 1, 3, none⟩ = some (.int .u64 o3) := by go_simp
        have hKf : (((((W.setCell ⟨w.heap.size + 1 + 1 + 1, 0, none⟩ (.int .u64 o0)).setCell ⟨w.heap.size + 1 + 1 + 1, 1, none⟩ (.int .u64 o1)).setCell ⟨w.heap.size + 1 + 1 + 1, 2, none⟩ (.int .u64 o2)).setCell ⟨w.heap.size + 1 + 1 + 1, 3, none⟩ (.int .u64 o3)).drew).heap[D]? = some (.deferred (some [])) := (((((KeepsOthers.setCell W _ _).trans (KeepsOthers.setCell _ _ _)).trans (KeepsOthers.setCell _ _ _)).trans (KeepsOthers.setCell _ _ _)).trans (KeepsOthers.drew _)).same D _ hK rfl
        have d0 := cell_kept e0 (grownBy_putObj' _ D (.deferred none)) (fun r e => by cases e; exact ⟨_, hKf, rfl⟩)
        have d1 := cell_kept e1 (grownBy_putObj' _ D (.deferred none)) (fun r e => by cases e; exact ⟨_, hKf, rfl⟩)
        have d2 := cell_kept e2 (grownBy_putObj' _ D (.deferred none)) (fun r e => by cases e; exact ⟨_, hKf, rfl⟩)
        have d3 := cell_kept e3 (grownBy_putObj' _ D (.deferred none)) (fun r e => by cases e; exact ⟨_, hKf, rfl⟩)
        have hBf : Below w.heap.size w (((((W.setCell ⟨w.heap.size + 1 + 1 + 1, 0, none⟩ (.int .u64 o0)).setCell ⟨w.heap.size + 1 + 1 + 1, 1, none⟩ (.int .u64 o1)).setCell ⟨w.heap.size + 1 + 1 + 1, 2, none⟩ (.int .u64 o2)).setCell ⟨w.heap.size + 1 + 1 + 1, 3, none⟩ (.int .u64 o3)).drew) := (hB0.trans (hB.mono (by omega))).trans (by go_grown)
        refine ⟨by simp, .inl ⟨_, _, rfl, run_takeDeferred hKf, ?_⟩⟩
        refine ⟨.tuple #[.agg #[.int .u64 (o0), .int .u64 (o1), .int .u64 (o2), .int .u64 (o3)], .bool (c != 0)], ?_, ⟨o0, o1, o2, o3, c, h1, rfl⟩, hBf.trans (belowK_b (w := w) (Nat.le_refl _) _ D _ _ (by omega) hKf rfl rfl)⟩
        simp [results, Tryz.f144, go_sem, d0, d1, d2, d3]
      refine AllReadyIn.cons rfl (fun K hK => ?_) AllReadyIn.nil
      go_simp
      refine hK _ _ ?_
      clear hK K
      refine wpAnyIn_ready (rs := [2]) (by kernel_rfl) (by simp) ?_
      refine AllReadyIn.cons rfl (fun K hK => ?_) AllReadyIn.nil
      go_simp
      refine hK _ _ ?_
      clear hK K
      refine wpAnyIn_ready (rs := [4]) (by kernel_rfl) (by simp) ?_
      refine AllReadyIn.cons rfl (fun K hK => ?_) AllReadyIn.nil
      go_simp
      refine hK _ _ ?_
      clear hK K
      refine wpAnyIn_done (by kernel_rfl) ?_ _
      gi_wp2
      obtain ⟨hB, hB0, h1, hK, hs0⟩ := A1.out
      have e0 : (((((W.setCell ⟨w.heap.size + 1 + 1 + 1, 0, none⟩ (.int .u64 o0)).setCell ⟨w.heap.size + 1 + 1 + 1, 1, none⟩ (.int .u64 o1)).setCell ⟨w.heap.size + 1 + 1 + 1, 2, none⟩ (.int .u64 o2)).setCell ⟨w.heap.size + 1 + 1 + 1, 3, none⟩ (.int .u64 o3)).drew).cell? ⟨w.heap.size + 1 + 1 + 1, 0, none⟩ = some (.int .u64 o0) := by go_simp
      have e1 : (((((W.setCell ⟨w.heap.size + 1 + 1 + 1, 0, none⟩ (.int .u64 o0)).setCell ⟨w.heap.size + 1 + 1 + 1, 1, none⟩ (.int .u64 o1)).setCell ⟨w.heap.size + 1 + 1 + 1, 2, none⟩ (.int .u64 o2)).setCell ⟨w.heap.size + 1 + 1 + 1, 3, none⟩ (.int .u64 o3)).drew).cell? ⟨w.heap.size + 1 + 1 + 1, 1, none⟩ = some (.int .u64 o1) := by go_simp
      have e2 : (((((W.setCell ⟨w.heap.size + 1 + 1 + 1, 0, none⟩ (.int .u64 o0)).setCell ⟨w.heap.size + 1 + 1 + 1, 1, none⟩ (.int .u64 o1)).setCell ⟨w.heap.size + 1 + 1 + 1, 2, none⟩ (.int .u64 o2)).setCell ⟨w.heap.size + 1 + 1 + 1, 3, none⟩ (.int .u64 o3)).drew).cell? ⟨w.heap.size + 1 + 1 + 1, 2, none⟩ = some (.int .u64 o2) := by go_simp
      have e3 : (((((W.setCell ⟨w.heap.size + 1 + 1 + 1, 0, none⟩ (.int .u64 o0)).setCell ⟨w.heap.size + 1 + 1 + 1, 1, none⟩ (.int .u64 o1)).setCell ⟨w.heap.size + 1 + 1 + 1, 2, none⟩ (.int .u64 o2)).setCell ⟨w.heap.size + 1 + 1 + 1, 3, none⟩ (.int .u64 o3)).drew).cell? ⟨w.heap.size + 1 + 1 + 1, 3, none⟩ = some (.int .u64 o3) := by go_simp
      have hKf : (((((W.setCell ⟨w.heap.size + 1 + 1 + 1, 0, none⟩ (.int .u64 o0)).setCell ⟨w.heap.size + 1 + 1 + 1, 1, none⟩ (.int .u64 o1)).setCell ⟨w.heap.size + 1 + 1 + 1, 2, none⟩ (.int .u64 o2)).setCell ⟨w.heap.size + 1 + 1 + 1, 3, none⟩ (.int .u64 o3)).drew).heap[D]? = some (.deferred (some [])) := (((((KeepsOthers.setCell W _ _).trans (KeepsOthers.setCell _ _ _)).trans (KeepsOthers.setCell _ _ _)).trans (KeepsOthers.setCell _ _ _)).trans (KeepsOthers.drew _)).same D _ hK rfl
      have d0 := cell_kept e0 (grownBy_putObj' _ D (.deferred none)) (fun r e => by cases e; exact ⟨_, hKf, rfl⟩)
      have d1 := cell_kept e1 (grownBy_putObj' _ D (.deferred none)) (fun r e => by cases e; exact ⟨_, hKf, rfl⟩)
      have d2 := cell_kept e2 (grownBy_putObj' _ D (.deferred none)) (fun r e => by cases e; exact ⟨_, hKf, rfl⟩)
      have d3 := cell_kept e3 (grownBy_putObj' _ D (.deferred none)) (fun r e => by cases e; exact ⟨_, hKf, rfl⟩)
      have hBf : Below w.heap.size w (((((W.setCell ⟨w.heap.size + 1 + 1 + 1, 0, none⟩ (.int .u64 o0)).setCell ⟨w.heap.size + 1 + 1 + 1, 1, none⟩ (.int .u64 o1)).setCell ⟨w.heap.size + 1 + 1 + 1, 2, none⟩ (.int .u64 o2)).setCell ⟨w.heap.size + 1 + 1 + 1, 3, none⟩ (.int .u64 o3)).drew) := (hB0.trans (hB.mono (by omega))).trans (by go_grown)
      refine ⟨by simp, .inl ⟨_, _, rfl, run_takeDeferred hKf, ?_⟩⟩
      refine ⟨.tuple #[.agg #[.int .u64 (o0), .int .u64 (o1), .int .u64 (o2), .int .u64 (o3)], .bool (c != 0)], ?_, ⟨o0, o1, o2, o3, c, h1, rfl⟩, hBf.trans (belowK_b (w := w) (Nat.le_refl _) _ D _ _ (by omega) hKf rfl rfl)⟩
      simp [results, Tryz.f144, go_sem, d0, d1, d2, d3]
    refine AllReadyIn.cons rfl (fun K hK => ?_) AllReadyIn.nil
    go_simp
    refine hK _ _ ?_
    clear hK K
    refine wpAnyIn_ready (rs := [0]) (by kernel_rfl) (by simp) ?_
    refine AllReadyIn.cons rfl (fun K hK => ?_) AllReadyIn.nil
    go_simp
    refine hK _ _ ?_
    clear hK K
    refine wpAnyIn_ready (rs := [3]) (by kernel_rfl) (by simp) ?_
    refine AllReadyIn.cons rfl (fun K hK => ?_) AllReadyIn.nil
    go_simp
    refine hK _ _ ?_
    clear hK K
    refine wpAnyIn_ready (rs := [4]) (by kernel_rfl) (by simp) ?_
    refine AllReadyIn.cons rfl (fun K hK => ?_) AllReadyIn.nil
    go_simp
    refine hK _ _ ?_
    clear hK K
    refine wpAnyIn_done (by kernel_rfl) ?_ _
    gi_wp2
    obtain ⟨hB, hB0, h1, hK, hs0⟩ := A1.out
    have e0 : (((((W.setCell ⟨w.heap.size + 1 + 1 + 1, 0, none⟩ (.int .u64 o0)).setCell ⟨w.heap.size + 1 + 1 + 1, 1, none⟩ (.int .u64 o1)).setCell ⟨w.heap.size + 1 + 1 + 1, 2, none⟩ (.int .u64 o2)).setCell ⟨w.heap.size + 1 + 1 + 1, 3, none⟩ (.int .u64 o3)).drew).cell? ⟨w.heap.size + 1 + 1 + 1, 0, none⟩ = some (.int .u64 o0) := by go_simp
    have e1 : (((((W.setCell ⟨w.heap.size + 1 + 1 + 1, 0, none⟩ (.int .u64 o0)).setCell ⟨w.heap.size + 1 + 1 + 1, 1, none⟩ (.int .u64 o1)).setCell ⟨w.heap.size + 1 + 1 + 1, 2, none⟩ (.int .u64 o2)).setCell ⟨w.heap.size + 1 + 1 + 1, 3, none⟩ (.int .u64 o3)).drew).cell? ⟨w.heap.size + 1 + 1 + 1, 1, none⟩ = some (.int .u64 o1) := by go_simp
    have e2 : (((((W.setCell ⟨w.heap.size + 1 + 1 + 1, 0, none⟩ (.int .u64 o0)).setCell ⟨w.heap.size + 1 + 1 + 1, 1, none⟩ (.int .u64 o1)).setCell ⟨w.heap.size + 1 + 1 + 1, 2, none⟩ (.int .u64 o2)).setCell ⟨w.heap.size + 1 + 1 + 1, 3, none⟩ (.int .u64 o3)).drew).cell? ⟨w.heap.size + 1 + 1 + 1, 2, none⟩ = some (.int .u64 o2) := by go_simp
    have e3 : (((((W.setCell ⟨w.heap.size + 1 + 1 + 1, 0, none⟩ (.int .u64 o0)).setCell ⟨w.heap.size + 1 + 1 + 1, 1, none⟩ (.int .u64 o1)).setCell ⟨w.heap.size + 1 + 1 + 1, 2, none⟩ (.int .u64 o2)).setCell ⟨w.heap.size + 1 + 1 + 1, 3, none⟩ (.int .u64 o3)).drew).cell? ⟨w.heap.size + 1 + 1 + 1, 3, none⟩ = some (.int .u64 o3) := by go_simp
    have hKf : (((((W.setCell ⟨w.heap.size + 1 + 1 + 1, 0, none⟩ (.int .u64 o0)).setCell ⟨w.heap.size + 1 + 1 + 1, 1, none⟩ (.int .u64 o1)).setCell ⟨w.heap.size + 1 + 1 + 1, 2, none⟩ (.int .u64 o2)).setCell ⟨w.heap.size + 1 + 1 + 1, 3, none⟩ (.int .u64 o3)).drew).heap[D]? = some (.deferred (some [])) := (((((KeepsOthers.setCell W _ _).trans (KeepsOthers.setCell _ _ _)).trans (KeepsOthers.setCell _ _ _)).trans (KeepsOthers.setCell _ _ _)).trans (KeepsOthers.drew _)).same D _ hK rfl
    have d0 := cell_kept e0 (grownBy_putObj' _ D (.deferred none)) (fun r e => by cases e; exact ⟨_, hKf, rfl⟩)
    have d1 := cell_kept e1 (grownBy_putObj' _ D (.deferred none)) (fun r e => by cases e; exact ⟨_, hKf, rfl⟩)
    have d2 := cell_kept e2 (grownBy_putObj' _ D (.deferred none)) (fun r e => by cases e; exact ⟨_, hKf, rfl⟩)
    have d3 := cell_kept e3 (grownBy_putObj' _ D (.deferred none)) (fun r e => by cases e; exact ⟨_, hKf, rfl⟩)
    have hBf : Below w.heap.size w (((((W.setCell ⟨w.heap.size + 1 + 1 + 1, 0, none⟩ (.int .u64 o0)).setCell ⟨w.heap.size + 1 + 1 + 1, 1, none⟩ (.int .u64 o1)).setCell ⟨w.heap.size + 1 + 1 + 1, 2, none⟩ (.int .u64 o2)).setCell ⟨w.heap.size + 1 + 1 + 1, 3, none⟩ (.int .u64 o3)).drew) := (hB0.trans (hB.mono (by omega))).trans (by go_grown)
    refine ⟨by simp, .inl ⟨_, _, rfl, run_takeDeferred hKf, ?_⟩⟩
    refine ⟨.tuple #[.agg #[.int .u64 (o0), .int .u64 (o1), .int .u64 (o2), .int .u64 (o3)], .bool (c != 0)], ?_, ⟨o0, o1, o2, o3, c, h1, rfl⟩, hBf.trans (belowK_b (w := w) (Nat.le_refl _) _ D _ _ (by omega) hKf rfl rfl)⟩
    simp [results, Tryz.f144, go_sem, d0, d1, d2, d3]
  case stop =>
    rintro D c pre W _ _ h _
    exact h.elim
theorem chain_add (a0 a1 a2 a3 b0 b1 b2 b3 : Int) [U64 a0] [U64 a1] [U64 a2] [U64 a3] [U64 b0] [U64 b1] [U64 b2] [U64 b3] (w : World) :
    Calls Tryz.prog 144 #[.agg #[.int .u64 (a0), .int .u64 (a1), .int .u64 (a2), .int .u64 (a3)], .agg #[.int .u64 (b0), .int .u64 (b1), .int .u64 (b2), .int .u64 (b3)], .func (.func 101) #[] #[]] w fun e W' => (∃ o0 o1 o2 o3 c : Int, (o0, o1, o2, o3, c) = [0, 1, 2, 3].foldl (st_gen s64 c64 a0 a1 a2 a3 b0 b1 b2 b3) (0, 0, 0, 0, 0) ∧ e = .returned (.tuple #[.agg #[.int .u64 (o0), .int .u64 (o1), .int .u64 (o2), .int .u64 (o3)], .bool (c != 0)])) ∧ Below w.heap.size w W' :=
  chain_gen s64 c64 101 (fun x y c => c64_bd x y c) (fun x y c h0 h1 _ h2 h3 w => add64_call x y c h0 h1 h2 h3 w) a0 a1 a2 a3 b0 b1 b2 b3 w
theorem chain_sub (a0 a1 a2 a3 b0 b1 b2 b3 : Int) [U64 a0] [U64 a1] [U64 a2] [U64 a3] [U64 b0] [U64 b1] [U64 b2] [U64 b3] (w : World) :
    Calls Tryz.prog 144 #[.agg #[.int .u64 (a0), .int .u64 (a1), .int .u64 (a2), .int .u64 (a3)], .agg #[.int .u64 (b0), .int .u64 (b1), .int .u64 (b2), .int .u64 (b3)], .func (.func 147) #[] #[]] w fun e W' => (∃ o0 o1 o2 o3 c : Int, (o0, o1, o2, o3, c) = [0, 1, 2, 3].foldl (st_gen dd64 bb64 a0 a1 a2 a3 b0 b1 b2 b3) (0, 0, 0, 0, 0) ∧ e = .returned (.tuple #[.agg #[.int .u64 (o0), .int .u64 (o1), .int .u64 (o2), .int .u64 (o3)], .bool (c != 0)])) ∧ Below w.heap.size w W' :=
  chain_gen dd64 bb64 147 (fun x y c => bb64_bd x y c) (fun x y c h0 h1 hy h2 h3 w => sub64_call2 x y c h0 h1 hy h2 h3 w) a0 a1 a2 a3 b0 b1 b2 b3 w
end Go.Proofs.YtkpjeceofcfnkaaGreatDoor
namespace Go.Proofs.YtkpjeceofcfnkaaGreatDoor
open Go.RowKit Go.Hb
theorem chain_add_v (a0 a1 a2 a3 b0 b1 b2 b3 : Int) [U64 a0] [U64 a1] [U64 a2] [U64 a3] [U64 b0] [U64 b1] [U64 b2] [U64 b3] (w : World) :
    Calls Tryz.prog 144 #[.agg #[.int .u64 (a0), .int .u64 (a1), .int .u64 (a2), .int .u64 (a3)], .agg #[.int .u64 (b0), .int .u64 (b1), .int .u64 (b2), .int .u64 (b3)], .func (.func 101) #[] #[]] w fun e W' => e = .returned (.tuple #[.agg #[.int .u64 (s64 a0 b0 0), .int .u64 (s64 a1 b1 (c64 a0 b0 0)), .int .u64 (s64 a2 b2 (c64 a1 b1 (c64 a0 b0 0))), .int .u64 (s64 a3 b3 (c64 a2 b2 (c64 a1 b1 (c64 a0 b0 0))))], .bool (c64 a3 b3 (c64 a2 b2 (c64 a1 b1 (c64 a0 b0 0))) != 0)]) ∧ Below w.heap.size w W' := by
  refine (chain_add a0 a1 a2 a3 b0 b1 b2 b3 w).mono ?_
  rintro e W' ⟨⟨o0, o1, o2, o3, c, h, rfl⟩, hB⟩
  have h' : (o0, o1, o2, o3, c) = (s64 a0 b0 0, s64 a1 b1 (c64 a0 b0 0), s64 a2 b2 (c64 a1 b1 (c64 a0 b0 0)), s64 a3 b3 (c64 a2 b2 (c64 a1 b1 (c64 a0 b0 0))), c64 a3 b3 (c64 a2 b2 (c64 a1 b1 (c64 a0 b0 0)))) := h
  cases h'
  exact ⟨rfl, hB⟩
theorem chain_sub_v (a0 a1 a2 a3 b0 b1 b2 b3 : Int) [U64 a0] [U64 a1] [U64 a2] [U64 a3] [U64 b0] [U64 b1] [U64 b2] [U64 b3] (w : World) :
    Calls Tryz.prog 144 #[.agg #[.int .u64 (a0), .int .u64 (a1), .int .u64 (a2), .int .u64 (a3)], .agg #[.int .u64 (b0), .int .u64 (b1), .int .u64 (b2), .int .u64 (b3)], .func (.func 147) #[] #[]] w fun e W' => e = .returned (.tuple #[.agg #[.int .u64 (dd64 a0 b0 0), .int .u64 (dd64 a1 b1 (bb64 a0 b0 0)), .int .u64 (dd64 a2 b2 (bb64 a1 b1 (bb64 a0 b0 0))), .int .u64 (dd64 a3 b3 (bb64 a2 b2 (bb64 a1 b1 (bb64 a0 b0 0))))], .bool (bb64 a3 b3 (bb64 a2 b2 (bb64 a1 b1 (bb64 a0 b0 0))) != 0)]) ∧ Below w.heap.size w W' := by
  refine (chain_sub a0 a1 a2 a3 b0 b1 b2 b3 w).mono ?_
  rintro e W' ⟨⟨o0, o1, o2, o3, c, h, rfl⟩, hB⟩
  have h' : (o0, o1, o2, o3, c) = (dd64 a0 b0 0, dd64 a1 b1 (bb64 a0 b0 0), dd64 a2 b2 (bb64 a1 b1 (bb64 a0 b0 0)), dd64 a3 b3 (bb64 a2 b2 (bb64 a1 b1 (bb64 a0 b0 0))), bb64 a3 b3 (bb64 a2 b2 (bb64 a1 b1 (bb64 a0 b0 0)))) := h
  cases h'
  exact ⟨rfl, hB⟩
theorem s64_eq (x y c : Int) : x + y + c = s64 x y c + 18446744073709551616 * c64 x y c := by unfold s64 c64; omega
theorem dd64_eq (x y c : Int) [hx : U64 x] [hy : U64 y] (h0 : 0 ≤ c) (h1 : c ≤ 1) : x - y - c = dd64 x y c - 18446744073709551616 * bb64 x y c := by
  have := hx.ge; have := hx.lt; have := hy.ge; have := hy.lt
  unfold dd64 bb64; split <;> omega
theorem cat4_int (a b c d : Int) [ha : U64 a] [hb : U64 b] [hc : U64 c] [hd : U64 d] : (cat4 a b c d : Int) = a + b * 18446744073709551616 + c * 340282366920938463463374607431768211456 + d * 6277101735386680763835789423207666416102355444464034512896 := by
  have := ha.ge; have := hb.ge; have := hc.ge; have := hd.ge
  unfold cat4; omega
theorem sum_words (a0 a1 a2 a3 b0 b1 b2 b3 : Int) [U64 a0] [U64 a1] [U64 a2] [U64 a3] [U64 b0] [U64 b1] [U64 b2] [U64 b3] (h : cat4 a0 a1 a2 a3 + cat4 b0 b1 b2 b3 < 2 ^ 256) :
    cat4 (s64 a0 b0 0) (s64 a1 b1 (c64 a0 b0 0)) (s64 a2 b2 (c64 a1 b1 (c64 a0 b0 0))) (s64 a3 b3 (c64 a2 b2 (c64 a1 b1 (c64 a0 b0 0)))) = cat4 a0 a1 a2 a3 + cat4 b0 b1 b2 b3 ∧ c64 a3 b3 (c64 a2 b2 (c64 a1 b1 (c64 a0 b0 0))) = 0 := by
  have k0 := c64_bd a0 b0 0 (by decide) (by decide)
  have k1 := c64_bd a1 b1 _ k0.1 k0.2
  have k2 := c64_bd a2 b2 _ k1.1 k1.2
  have k3 := c64_bd a3 b3 _ k2.1 k2.2
  have e0 := s64_eq a0 b0 0
  have e1 := s64_eq a1 b1 (c64 a0 b0 0)
  have e2 := s64_eq a2 b2 (c64 a1 b1 (c64 a0 b0 0))
  have e3 := s64_eq a3 b3 (c64 a2 b2 (c64 a1 b1 (c64 a0 b0 0)))
  have x1 := cat4_int a0 a1 a2 a3
  have x2 := cat4_int b0 b1 b2 b3
  have x3 := cat4_int (s64 a0 b0 0) (s64 a1 b1 (c64 a0 b0 0)) (s64 a2 b2 (c64 a1 b1 (c64 a0 b0 0))) (s64 a3 b3 (c64 a2 b2 (c64 a1 b1 (c64 a0 b0 0))))
  have h256 : (2 : Nat) ^ 256 = 115792089237316195423570985008687907853269984665640564039457584007913129639936 := by decide
  rw [h256] at h
  generalize s64 a0 b0 0 = t0 at *
  generalize c64 a0 b0 0 = d0 at *
  generalize s64 a1 b1 d0 = t1 at *
  generalize c64 a1 b1 d0 = d1 at *
  generalize s64 a2 b2 d1 = t2 at *
  generalize c64 a2 b2 d1 = d2 at *
  generalize s64 a3 b3 d2 = t3 at *
  generalize c64 a3 b3 d2 = d3 at *
  generalize cat4 a0 a1 a2 a3 = A at *
  generalize cat4 b0 b1 b2 b3 = B at *
  generalize cat4 t0 t1 t2 t3 = S at *
  omega
theorem dif_words (a0 a1 a2 a3 b0 b1 b2 b3 : Int) [U64 a0] [U64 a1] [U64 a2] [U64 a3] [U64 b0] [U64 b1] [U64 b2] [U64 b3] (h : cat4 b0 b1 b2 b3 ≤ cat4 a0 a1 a2 a3) :
    cat4 (dd64 a0 b0 0) (dd64 a1 b1 (bb64 a0 b0 0)) (dd64 a2 b2 (bb64 a1 b1 (bb64 a0 b0 0))) (dd64 a3 b3 (bb64 a2 b2 (bb64 a1 b1 (bb64 a0 b0 0)))) = cat4 a0 a1 a2 a3 - cat4 b0 b1 b2 b3 ∧ bb64 a3 b3 (bb64 a2 b2 (bb64 a1 b1 (bb64 a0 b0 0))) = 0 := by
  have k0 := bb64_bd a0 b0 0 (by decide) (by decide)
  have k1 := bb64_bd a1 b1 _ k0.1 k0.2
  have k2 := bb64_bd a2 b2 _ k1.1 k1.2
  have k3 := bb64_bd a3 b3 _ k2.1 k2.2
  have e0 := dd64_eq a0 b0 0 (by decide) (by decide)
  have e1 := dd64_eq a1 b1 (bb64 a0 b0 0) k0.1 k0.2
  have e2 := dd64_eq a2 b2 (bb64 a1 b1 (bb64 a0 b0 0)) k1.1 k1.2
  have e3 := dd64_eq a3 b3 (bb64 a2 b2 (bb64 a1 b1 (bb64 a0 b0 0))) k2.1 k2.2
  have x1 := cat4_int a0 a1 a2 a3
  have x2 := cat4_int b0 b1 b2 b3
  have x3 := cat4_int (dd64 a0 b0 0) (dd64 a1 b1 (bb64 a0 b0 0)) (dd64 a2 b2 (bb64 a1 b1 (bb64 a0 b0 0))) (dd64 a3 b3 (bb64 a2 b2 (bb64 a1 b1 (bb64 a0 b0 0))))
  have l3 := cat4_lt (dd64 a0 b0 0) (dd64 a1 b1 (bb64 a0 b0 0)) (dd64 a2 b2 (bb64 a1 b1 (bb64 a0 b0 0))) (dd64 a3 b3 (bb64 a2 b2 (bb64 a1 b1 (bb64 a0 b0 0))))
  generalize dd64 a0 b0 0 = t0 at *
  generalize bb64 a0 b0 0 = d0 at *
  generalize dd64 a1 b1 d0 = t1 at *
  generalize bb64 a1 b1 d0 = d1 at *
  generalize dd64 a2 b2 d1 = t2 at *
  generalize bb64 a2 b2 d1 = d2 at *
  generalize dd64 a3 b3 d2 = t3 at *
  generalize bb64 a3 b3 d2 = d3 at *
  generalize cat4 a0 a1 a2 a3 = A at *
  generalize cat4 b0 b1 b2 b3 = B at *
  generalize cat4 t0 t1 t2 t3 = S at *
  omega
theorem wide_Add_w (a0 a1 a2 a3 b0 b1 b2 b3 o0 o1 o2 o3 : Int) [U64 a0] [U64 a1] [U64 a2] [U64 a3] [U64 b0] [U64 b1] [U64 b2] [U64 b3] (w : World) (c : Bool)
    (h0 : Hid (s64 a0 b0 0 = o0)) (h1 : Hid (s64 a1 b1 (c64 a0 b0 0) = o1)) (h2 : Hid (s64 a2 b2 (c64 a1 b1 (c64 a0 b0 0)) = o2)) (h3 : Hid (s64 a3 b3 (c64 a2 b2 (c64 a1 b1 (c64 a0 b0 0))) = o3)) (h4 : Hid ((c64 a3 b3 (c64 a2 b2 (c64 a1 b1 (c64 a0 b0 0))) != 0) = c)) :
    Calls Tryz.prog 126 #[.agg #[.int .u64 (a0), .int .u64 (a1), .int .u64 (a2), .int .u64 (a3)], .agg #[.int .u64 (b0), .int .u64 (b1), .int .u64 (b2), .int .u64 (b3)]] w fun e W' => e = .returned (.tuple #[.agg #[.int .u64 (o0), .int .u64 (o1), .int .u64 (o2), .int .u64 (o3)], .bool c]) ∧ Below w.heap.size w W' := by
  go_enter Tryz.func126, Tryz.ntmps126
  go_wp2_with fail
  refine (chain_add_v a0 a1 a2 a3 b0 b1 b2 b3 _).mono ?_
  rw [h0.out, h1.out, h2.out, h3.out, h4.out]
  rintro en v1 ⟨rfl, hB⟩
  have hf0 := frozen_later hB (show World.frozen? _ ⟨w.heap.size + 1 + 1, 0, none⟩ = false by go_simp) (by first | omega | (simp; done) | (simp; omega))
  have hf1 := frozen_later hB (show World.frozen? _ ⟨w.heap.size + 1 + 1, 1, none⟩ = false by go_simp) (by first | omega | (simp; done) | (simp; omega))
  have hf2 := frozen_later hB (show World.frozen? _ ⟨w.heap.size + 1 + 1, 2, none⟩ = false by go_simp) (by first | omega | (simp; done) | (simp; omega))
  have hf3 := frozen_later hB (show World.frozen? _ ⟨w.heap.size + 1 + 1, 3, none⟩ = false by go_simp) (by first | omega | (simp; done) | (simp; omega))
  have hc0 := cell_later hB (show World.cell? _ ⟨w.heap.size + 1 + 1, 0, none⟩ = some (.int .u64 0) by go_simp)
  have hc1 := cell_later hB (show World.cell? _ ⟨w.heap.size + 1 + 1, 1, none⟩ = some (.int .u64 0) by go_simp)
  have hc2 := cell_later hB (show World.cell? _ ⟨w.heap.size + 1 + 1, 2, none⟩ = some (.int .u64 0) by go_simp)
  have hc3 := cell_later hB (show World.cell? _ ⟨w.heap.size + 1 + 1, 3, none⟩ = some (.int .u64 0) by go_simp)
  have hBW : Below w.heap.size w v1 := below_after (w := w) (by go_grown) hB
  clear hB
  go_wp2_with fail
  refine bodyPost_ret (by simp [results, Tryz.results126, go_sem, hc0, hc1, hc2, hc3]; try rfl) rfl ?_
  exact ⟨rfl, by go_grown⟩
theorem wide_Sub_w (a0 a1 a2 a3 b0 b1 b2 b3 o0 o1 o2 o3 : Int) [U64 a0] [U64 a1] [U64 a2] [U64 a3] [U64 b0] [U64 b1] [U64 b2] [U64 b3] (w : World) (c : Bool)
    (h0 : Hid (dd64 a0 b0 0 = o0)) (h1 : Hid (dd64 a1 b1 (bb64 a0 b0 0) = o1)) (h2 : Hid (dd64 a2 b2 (bb64 a1 b1 (bb64 a0 b0 0)) = o2)) (h3 : Hid (dd64 a3 b3 (bb64 a2 b2 (bb64 a1 b1 (bb64 a0 b0 0))) = o3)) (h4 : Hid ((bb64 a3 b3 (bb64 a2 b2 (bb64 a1 b1 (bb64 a0 b0 0))) != 0) = c)) :
    Calls Tryz.prog 129 #[.agg #[.int .u64 (a0), .int .u64 (a1), .int .u64 (a2), .int .u64 (a3)], .agg #[.int .u64 (b0), .int .u64 (b1), .int .u64 (b2), .int .u64 (b3)]] w fun e W' => e = .returned (.tuple #[.agg #[.int .u64 (o0), .int .u64 (o1), .int .u64 (o2), .int .u64 (o3)], .bool c]) ∧ Below w.heap.size w W' := by
  go_enter Tryz.func129, Tryz.ntmps129
  go_wp2_with fail
  refine (chain_sub_v a0 a1 a2 a3 b0 b1 b2 b3 _).mono ?_
  rw [h0.out, h1.out, h2.out, h3.out, h4.out]
  rintro en v1 ⟨rfl, hB⟩
  have hf0 := frozen_later hB (show World.frozen? _ ⟨w.heap.size + 1 + 1, 0, none⟩ = false by go_simp) (by first | omega | (simp; done) | (simp; omega))
  have hf1 := frozen_later hB (show World.frozen? _ ⟨w.heap.size + 1 + 1, 1, none⟩ = false by go_simp) (by first | omega | (simp; done) | (simp; omega))
  have hf2 := frozen_later hB (show World.frozen? _ ⟨w.heap.size + 1 + 1, 2, none⟩ = false by go_simp) (by first | omega | (simp; done) | (simp; omega))
  have hf3 := frozen_later hB (show World.frozen? _ ⟨w.heap.size + 1 + 1, 3, none⟩ = false by go_simp) (by first | omega | (simp; done) | (simp; omega))
  have hc0 := cell_later hB (show World.cell? _ ⟨w.heap.size + 1 + 1, 0, none⟩ = some (.int .u64 0) by go_simp)
  have hc1 := cell_later hB (show World.cell? _ ⟨w.heap.size + 1 + 1, 1, none⟩ = some (.int .u64 0) by go_simp)
  have hc2 := cell_later hB (show World.cell? _ ⟨w.heap.size + 1 + 1, 2, none⟩ = some (.int .u64 0) by go_simp)
  have hc3 := cell_later hB (show World.cell? _ ⟨w.heap.size + 1 + 1, 3, none⟩ = some (.int .u64 0) by go_simp)
  have hBW : Below w.heap.size w v1 := below_after (w := w) (by go_grown) hB
  clear hB
  go_wp2_with fail
  refine bodyPost_ret (by simp [results, Tryz.results129, go_sem, hc0, hc1, hc2, hc3]; try rfl) rfl ?_
  exact ⟨rfl, by go_grown⟩
theorem wide_Add (a0 a1 a2 a3 b0 b1 b2 b3 : Int) [U64 a0] [U64 a1] [U64 a2] [U64 a3] [U64 b0] [U64 b1] [U64 b2] [U64 b3] (w : World) (h : cat4 a0 a1 a2 a3 + cat4 b0 b1 b2 b3 < 2 ^ 256) :
    Calls Tryz.prog 126 #[.agg #[.int .u64 (a0), .int .u64 (a1), .int .u64 (a2), .int .u64 (a3)], .agg #[.int .u64 (b0), .int .u64 (b1), .int .u64 (b2), .int .u64 (b3)]] w fun e W' => e = .returned (.tuple #[.agg #[.int .u64 (lo (cat4 a0 a1 a2 a3 + cat4 b0 b1 b2 b3)), .int .u64 (w1 (cat4 a0 a1 a2 a3 + cat4 b0 b1 b2 b3)), .int .u64 (w2 (cat4 a0 a1 a2 a3 + cat4 b0 b1 b2 b3)), .int .u64 (w3 (cat4 a0 a1 a2 a3 + cat4 b0 b1 b2 b3))], .bool false]) ∧ Below w.heap.size w W' := by
  obtain ⟨e1, e2⟩ := sum_words a0 a1 a2 a3 b0 b1 b2 b3 h
  rw [← e1]
  obtain ⟨p0, p1, p2, p3⟩ := parts_cat4 (s64 a0 b0 0) (s64 a1 b1 (c64 a0 b0 0)) (s64 a2 b2 (c64 a1 b1 (c64 a0 b0 0))) (s64 a3 b3 (c64 a2 b2 (c64 a1 b1 (c64 a0 b0 0))))
  rw [p0, p1, p2, p3]
  exact wide_Add_w a0 a1 a2 a3 b0 b1 b2 b3 _ _ _ _ w _ (Lib.hid rfl) (Lib.hid rfl) (Lib.hid rfl) (Lib.hid rfl) (Lib.hid (by rw [e2]; rfl))
theorem wide_Sub (a0 a1 a2 a3 b0 b1 b2 b3 : Int) [U64 a0] [U64 a1] [U64 a2] [U64 a3] [U64 b0] [U64 b1] [U64 b2] [U64 b3] (w : World) (h : cat4 b0 b1 b2 b3 ≤ cat4 a0 a1 a2 a3) :
    Calls Tryz.prog 129 #[.agg #[.int .u64 (a0), .int .u64 (a1), .int .u64 (a2), .int .u64 (a3)], .agg #[.int .u64 (b0), .int .u64 (b1), .int .u64 (b2), .int .u64 (b3)]] w fun e W' => e = .returned (.tuple #[.agg #[.int .u64 (lo (cat4 a0 a1 a2 a3 - cat4 b0 b1 b2 b3)), .int .u64 (w1 (cat4 a0 a1 a2 a3 - cat4 b0 b1 b2 b3)), .int .u64 (w2 (cat4 a0 a1 a2 a3 - cat4 b0 b1 b2 b3)), .int .u64 (w3 (cat4 a0 a1 a2 a3 - cat4 b0 b1 b2 b3))], .bool false]) ∧ Below w.heap.size w W' := by
  obtain ⟨e1, e2⟩ := dif_words a0 a1 a2 a3 b0 b1 b2 b3 h
  rw [← e1]
  obtain ⟨p0, p1, p2, p3⟩ := parts_cat4 (dd64 a0 b0 0) (dd64 a1 b1 (bb64 a0 b0 0)) (dd64 a2 b2 (bb64 a1 b1 (bb64 a0 b0 0))) (dd64 a3 b3 (bb64 a2 b2 (bb64 a1 b1 (bb64 a0 b0 0))))
  rw [p0, p1, p2, p3]
  exact wide_Sub_w a0 a1 a2 a3 b0 b1 b2 b3 _ _ _ _ w _ (Lib.hid rfl) (Lib.hid rfl) (Lib.hid rfl) (Lib.hid rfl) (Lib.hid (by rw [e2]; rfl))
end Go.Proofs.YtkpjeceofcfnkaaGreatDoor
