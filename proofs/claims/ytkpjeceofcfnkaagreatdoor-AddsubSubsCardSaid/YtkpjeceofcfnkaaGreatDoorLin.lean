/- A region that draws its order, whose calls leave what is older alone, walked once, in the order of the text: operations that yield one value in every world of a class are taken in the order of the text; those that lay or write memory and whose outcome no other operation of the region looks at come last, in whatever order. No condition. Drawn regions in lexical order, behind a wall: the walk's goal is not looked into (long runs of unwanted operations). -/
import Derived.Test.YtkpjeceofcfnkaaGreatDoorKit
set_option linter.unusedSimpArgs false
set_option linter.unusedVariables false
namespace Go.Lin
open Go.RowKit
/-- What a late operation hands back, and what it brings about, of a ghost. -/
structure Late where
  val : Option Nat → Value
  eff : Option Nat → World → Prop
abbrev Ghost := Nat → Option (Option Nat)
def upd (s : Ghost) (i : Nat) (b : Option Nat) : Ghost := fun j => if j = i then some b else s j
/-- Operations that come last. -/
def lateOp : Op → Bool
  | .box _ _ => true
  | .alloc _ => true
  | .buildSlice _ _ _ => true
  | _ => false
/-- Operations that wait for all others. -/
def tailOp (ops : Array Oper) (i : Nat) : Bool := match ops[i]? with | some o => (match o.op with | .store _ _ _ => true | .assign _ => true | _ => false) | none => false
def linUpon (P : Program) (w : World) (v : Value) : Result Next → Prop
  | .ok (.value u) w' => w' = w ∧ u = v
  | .ok .skip w' => w' = w ∧ v = undef
  | .ok (.enter f args) w' => w' = w ∧ Calls P f args w (fun e w'' => e = .returned v ∧ Below w.heap.size w w'')
  | _ => False
def linAt (P : Program) (o : Oper) (a : Act) (w : World) (v : Value) : Prop := linUpon P w v ((execOp a.eval o).run P w)
def quietL (P : Program) (C : World → Prop) (o : Oper) (a : Act) (K : Act → Prop) : Prop := ∃ v, (∀ w, C w → linAt P o a w v) ∧ K (a.put o.dst v)
def Goes (C : World → Prop) (D : Nat → Late) (i : Nat) (b : Option Nat) (w w' : World) : Prop :=
  C w' ∧ (D i).eff b w' ∧ (∀ j c, j ≠ i → (D j).eff c w → (D j).eff c w') ∧ (∀ x, b = some x → w.heap.size ≤ x)
def lateUpon (C : World → Prop) (D : Nat → Late) (i : Nat) (w : World) : Result Next → Prop
  | .ok (.value u) w' => ∃ b, u = (D i).val b ∧ Goes C D i b w w'
  | .ok .skip w' => ∃ b, undef = (D i).val b ∧ Goes C D i b w w'
  | _ => False
section
variable {P : Program} {ops : Array Oper} {md : Region.Mode} {C : World → Prop} {D : Nat → Late} {Q : Exit → Act → World → Prop}
def gOp (P : Program) (ops : Array Oper) (C : World → Prop) (D : Nat → Late) (i : Nat) (K : Act → Ghost → Prop) (a : Act) (s : Ghost) : Prop :=
  match ops[i]? with
  | none => K a s
  | some o => if Region.wanted o (yielded ops a.tmps) then
      (if lateOp o.op then (∀ w, C w → lateUpon C D i w ((execOp a.eval o).run P w)) ∧ ∀ b, K (a.put o.dst ((D i).val b)) (upd s i b)
       else ∃ v, (∀ w, C w → linAt P o a w v) ∧ K (a.put o.dst v) s)
    else K (a.put o.dst undef) s
theorem gOp_mono {i : Nat} {a : Act} {s : Ghost} {K K' : Act → Ghost → Prop} (h : ∀ a s, K a s → K' a s) (hh : gOp P ops C D i K a s) : gOp P ops C D i K' a s := by
  unfold gOp at *
  split
  · rename_i ho; simp only [ho] at hh; exact h _ _ hh
  · rename_i o ho
    simp only [ho] at hh
    split
    · rename_i hw
      simp only [hw, if_true] at hh
      split
      · rename_i hl; simp only [hl, if_true] at hh; exact ⟨hh.1, fun b => h _ _ (hh.2 b)⟩
      · rename_i hl; simp only [hl] at hh; obtain ⟨v, h1, h2⟩ := hh; exact ⟨v, h1, h _ _ h2⟩
    · rename_i hw; simp only [hw] at hh; exact h _ _ hh
/-- What the world is of a ghost. -/
def Real (C : World → Prop) (D : Nat → Late) (s : Ghost) (w : World) : Prop :=
  C w ∧ (∀ i b, s i = some b → (D i).eff b w) ∧ (∀ i j x, s i = some (some x) → s j = some (some x) → i = j)
structure Stable (C : World → Prop) (D : Nat → Late) : Prop where
  c : ∀ w w', C w → Below w.heap.size w w' → C w'
  e : ∀ i b w w', (D i).eff b w → Below w.heap.size w w' → (D i).eff b w'
  n : ∀ i x w, (D i).eff (some x) w → x < w.heap.size
theorem Real.below (hS : Stable C D) {s : Ghost} {w w' : World} (h : Real C D s w) (hb : Below w.heap.size w w') : Real C D s w' :=
  ⟨hS.c _ _ h.1 hb, fun i b hi => hS.e _ _ _ _ (h.2.1 i b hi) hb, h.2.2⟩
theorem Real.goes (hS : Stable C D) {s : Ghost} {w w' : World} {i : Nat} {b : Option Nat} (h : Real C D s w) (hg : Goes C D i b w w') : Real C D (upd s i b) w' := by
  obtain ⟨g1, g2, g3, g4⟩ := hg
  refine ⟨g1, fun j c hj => ?_, fun j k x hj hk => ?_⟩
  · unfold upd at hj
    split at hj
    · rename_i e; subst e; cases hj; exact g2
    · rename_i e; exact g3 j c e (h.2.1 j c hj)
  · unfold upd at hj hk
    split at hj
    · rename_i e
      split at hk
      · rename_i e'; rw [e, e']
      · have hb : b = some x := by cases hj; rfl
        have h1 := g4 x hb
        have h2 := hS.n k x w (h.2.1 k _ hk)
        omega
    · split at hk
      · have hb : b = some x := by cases hk; rfl
        have h1 := g4 x hb
        have h2 := hS.n j x w (h.2.1 j _ hj)
        omega
      · exact h.2.2 j k x hj hk
theorem wpOp_of_g (hS : Stable C D) {i : Nat} {a : Act} {s : Ghost} {K : Act → Ghost → Prop} {K' : Act → World → Prop} {Q' : Exit → Act → World → Prop} {w : World} (hR : Real C D s w)
    (h : ∀ a s w', Real C D s w' → K a s → K' a w') (hh : gOp P ops C D i K a s) : wpOp P ops Q' i K' a w := by
  unfold gOp at hh
  unfold wpOp
  split
  · rename_i ho; simp only [ho] at hh; exact h _ _ _ hR hh
  · rename_i o ho
    simp only [ho] at hh
    split
    · rename_i hw
      simp only [hw, if_true] at hh
      refine .inl ?_
      unfold Oper.wp
      by_cases hl : lateOp o.op = true
      · simp only [hl, if_true] at hh
        obtain ⟨h1, h2⟩ := hh
        have h3 := h1 w hR.1
        generalize (execOp a.eval o).run P w = r at *
        cases r with
        | ok n w' =>
          cases n <;> simp only [lateUpon] at h3 <;> simp only [Oper.upon]
          case value u => obtain ⟨b, rfl, hg⟩ := h3; exact h _ _ _ (hR.goes hS hg) (h2 b)
          case skip => obtain ⟨b, e, hg⟩ := h3; rw [e]; exact h _ _ _ (hR.goes hS hg) (h2 b)
        | halt x w' => simp only [lateUpon] at h3
      · simp only [hl] at hh
        obtain ⟨v, h1, h2⟩ := hh
        have h3 := h1 w hR.1
        unfold linAt at h3
        generalize (execOp a.eval o).run P w = r at *
        cases r with
        | ok n w' =>
          cases n <;> simp only [linUpon] at h3 <;> simp only [Oper.upon]
          case value u => obtain ⟨e1, e2⟩ := h3; rw [e1, e2]; exact h _ _ _ hR h2
          case skip => obtain ⟨e1, e2⟩ := h3; rw [e1, ← e2]; exact h _ _ _ hR h2
          case enter f args =>
            obtain ⟨e1, hc⟩ := h3
            rw [e1]
            exact hc.mono fun e w'' ⟨he, hw''⟩ => by subst he; exact h _ _ _ (hR.below hS hw'') h2
        | halt x w' => simp only [linUpon] at h3
    · rename_i hw; simp only [hw] at hh; exact h _ _ _ hR hh
/-- Operations that only take a tuple apart: the tail need not wait for them. -/
def looseOp : Op → Bool | .extract _ _ => true | _ => false
def restI (ops : Array Oper) (i : Nat) : Bool := match ops[i]? with | some o => tailOp ops i || looseOp o.op | none => true
def allQ (ops : Array Oper) (listed : Array Bool) : Bool := (List.range ops.size).all fun i => listed.getD i true || restI ops i
def wpG (P : Program) (md : Region.Mode) (ops : Array Oper) (C : World → Prop) (D : Nat → Late) (Q : Exit → Act → World → Prop) : Nat → Array Bool → Act → Ghost → Prop
  | 0, listed, a, s => (∀ i ∈ Region.ready md ops listed, tailOp ops i = true) ∧ ∀ w, Real C D s w → wpAny P md ops Q 0 listed a w
  | fuel + 1, listed, a, s =>
    ((allQ ops listed = true ∨ Region.ready md ops listed = []) → ∀ w, Real C D s w → wpAny P md ops Q (fuel + 1) listed a w) ∧
    ∀ i ∈ Region.ready md ops listed, tailOp ops i = false → gOp P ops C D i (wpG P md ops C D Q fuel (listed.setIfInBounds i true)) a s
/-- What waits for something listed is listed. -/
def Down (md : Region.Mode) (ops : Array Oper) (listed : Array Bool) : Prop := ∀ k o, ops[k]? = some o → listed.getD k false = true → ∀ e ∈ o.after, Region.binds md e = true → listed.getD e.on false = true
theorem Down.step {listed : Array Bool} {i : Nat} (h : Down md ops listed) (hr : i ∈ Region.ready md ops listed) : Down md ops (listed.setIfInBounds i true) := fun k o ho hk e he hb => by
  by_cases hki : k = i
  · subst hki
    obtain ⟨_, o', ho', hall⟩ := mem_ready.1 hr
    rw [ho] at ho'
    cases ho'
    exact getD_set_true (hall e he hb)
  · refine getD_set_true (h k o ho ?_ e he hb)
    rw [getD_set_ne false (Ne.symm hki)] at hk
    exact hk
/-- Operations of the tail wait for all quiet ones. -/
def TailOk (md : Region.Mode) (ops : Array Oper) : Prop := ∀ listed, Down md ops listed → ∀ k ∈ Region.ready md ops listed, tailOp ops k = true → allQ ops listed = true
theorem wpAny_of_g (hS : Stable C D) (hT : TailOk md ops) : ∀ (fuel : Nat) (listed : Array Bool) (a : Act) (s : Ghost) (w : World), Down md ops listed → Real C D s w →
    wpG P md ops C D Q fuel listed a s → wpAny P md ops Q fuel listed a w
  | 0, _, _, _, _, _, hw, h => h.2 _ hw
  | fuel + 1, listed, _, _, _, hd, hw, h => by
    unfold wpG at h
    by_cases hE : allQ ops listed = true ∨ Region.ready md ops listed = []
    · exact h.1 hE _ hw
    · refine ⟨fun h0 => absurd (Or.inr h0) hE, fun i hi => ?_⟩
      have ht : tailOp ops i = false := by
        cases hti : tailOp ops i with
        | false => rfl
        | true => exact absurd (Or.inl (hT listed hd i hi hti)) hE
      exact wpOp_of_g hS hw (fun a' s' w' hw' => wpAny_of_g hS hT fuel _ a' s' w' (hd.step hi) hw') (h.2 i hi ht)
/-- One value, in every world of the class; or not wanted. -/
def YieldsL (P : Program) (ops : Array Oper) (C : World → Prop) (o : Oper) (v : Value) (a : Act) : Prop :=
  (Region.wanted o (yielded ops a.tmps) = true ∧ lateOp o.op = false ∧ ∀ w, C w → linAt P o a w v) ∨
  (Region.wanted o (yielded ops a.tmps) = false ∧ v = undef)
theorem YieldsL.gOp {i : Nat} {o : Oper} {v : Value} {a : Act} {s : Ghost} (hi : ops[i]? = some o) (hy : YieldsL P ops C o v a) {K : Act → Ghost → Prop} (h : K (a.put o.dst v) s) : gOp P ops C D i K a s := by
  unfold Lin.gOp
  simp only [hi]
  rcases hy with ⟨hw, hl, hv⟩ | ⟨hw, rfl⟩
  · simp only [hw, hl, if_true]; exact ⟨v, hv, h⟩
  · simp only [hw, Bool.false_eq_true, if_false]; exact h
theorem YieldsL.of_same {o : Oper} {v : Value} {a a' : Act} (hy : YieldsL P ops C o v a) (he : execOp a'.eval o = execOp a.eval o)
    (hw : Region.wanted o (yielded ops a'.tmps) = Region.wanted o (yielded ops a.tmps)) : YieldsL P ops C o v a' := by
  unfold YieldsL linAt at *
  rw [he, hw]
  exact hy
theorem gOp_put {j : Nat} {oi oj : Oper} {v : Value} (hj : ops[j]? = some oj) (hap : oi.apart ops oj = true)
    (hsi : ∀ cs b, oi.op ≠ .select cs b) (hsj : ∀ cs b, oj.op ≠ .select cs b) {K : Act → Ghost → Prop} {a : Act} {s : Ghost}
    (hy : YieldsL P ops C oi v a) (h : gOp P ops C D j K (a.put oi.dst v) s) :
    gOp P ops C D j (fun a' s' => YieldsL P ops C oi v a' ∧ K (a'.put oi.dst v) s') a s := by
  obtain ⟨h1, h2, h3⟩ := Oper.apart_spec hap
  have keep : ∀ (a : Act), YieldsL P ops C oi v a → ∀ u, YieldsL P ops C oi v (a.put oj.dst u) := fun a hy u =>
    hy.of_same (execOp_put oi hsi a oj.dst u h3) (wanted_put oi a oj.dst u h3)
  unfold gOp at *
  simp only [hj] at *
  rw [wanted_put oj a oi.dst v h1] at h
  split
  · rename_i hw
    simp only [hw, if_true] at h
    split
    · rename_i hl
      simp only [hl, if_true] at h
      obtain ⟨hu, hn⟩ := h
      refine ⟨fun w hw' => ?_, fun b => ⟨keep a hy _, by rw [← Act.put_comm a v _ h2]; exact hn b⟩⟩
      have := hu w hw'
      rwa [execOp_put oj hsj a oi.dst v h1] at this
    · rename_i hl
      simp only [hl] at h
      obtain ⟨u, hu, hn⟩ := h
      refine ⟨u, fun w hw' => ?_, keep a hy u, by rw [← Act.put_comm a v u h2]; exact hn⟩
      have := hu w hw'
      unfold linAt at *
      rwa [execOp_put oj hsj a oi.dst v h1] at this
  · rename_i hw
    simp only [hw] at h
    exact ⟨keep a hy _, by rw [← Act.put_comm a v undef h2]; exact h⟩
theorem ready_not {i : Nat} {oj : Oper} {listed : Array Bool} (hr : i ∈ Region.ready md ops listed) (hall : ∀ e ∈ oj.after, Region.binds md e = true → listed.getD e.on false = true) :
    ∀ e ∈ oj.after, Region.binds md e = true → e.on ≠ i := fun e he hb heq => by
  have h1 := hall e he hb
  have h0 := (mem_ready.1 hr).1
  rw [heq] at h1
  rcases Nat.lt_or_ge i listed.size with h' | h'
  · simp [h'] at h0 h1; rw [h0] at h1; cases h1
  · simp [Array.getElem?_eq_none h'] at h1
theorem not_end {i : Nat} {oi : Oper} {listed : Array Bool} (hi : ops[i]? = some oi) (hq : restI ops i = false) (hr : i ∈ Region.ready md ops listed) : ¬ (allQ ops listed = true ∨ Region.ready md ops listed = []) := by
  rintro (h | h)
  · have h1 := List.all_eq_true.1 h i (List.mem_range.2 (Array.getElem?_eq_some_iff.1 hi).1)
    rw [hq, (mem_ready.1 hr).1] at h1
    cases h1
  · rw [h] at hr; cases hr
theorem wpG_first {i : Nat} {oi : Oper} {v : Value} (hi : ops[i]? = some oi) (hsel : ∀ (j : Nat) (o : Oper) cs b, ops[j]? = some o → o.op ≠ .select cs b) (hq : restI ops i = false) :
    ∀ (fuel : Nat) (listed : Array Bool) (a : Act) (s : Ghost),
      (∀ j oj, ops[j]? = some oj → j ≠ i → listed.getD j true = false → (∀ e ∈ oj.after, Region.binds md e = true → e.on ≠ i) → oi.apart ops oj = true) →
      i ∈ Region.ready md ops listed → YieldsL P ops C oi v a →
      wpG P md ops C D Q fuel (listed.setIfInBounds i true) (a.put oi.dst v) s → wpG P md ops C D Q (fuel + 1) listed a s := by
  intro fuel
  induction fuel with
  | zero =>
    intro listed a s _ hr hy H
    refine ⟨fun h => absurd h (not_end hi hq hr), fun j hj htj => ?_⟩
    by_cases hji : j = i
    · subst hji; exact hy.gOp hi H
    · have := H.1 j (ready_mono hj hji)
      rw [htj] at this
      cases this
  | succ fuel ih =>
    intro listed a s hfree hr hy H
    refine ⟨fun h => absurd h (not_end hi hq hr), fun j hj htj => ?_⟩
    by_cases hji : j = i
    · subst hji; exact hy.gOp hi H
    · have h1 := H.2 j (ready_mono hj hji) htj
      obtain ⟨hjun, oj, hoj, hall⟩ := mem_ready.1 hj
      have hnot := ready_not hr hall
      have h2 := gOp_put hoj (hfree j oj hoj hji hjun hnot) (fun cs b => hsel i oi cs b hi) (fun cs b => hsel j oj cs b hoj) hy h1
      have hfree' : ∀ k ok, ops[k]? = some ok → k ≠ i → (listed.setIfInBounds j true).getD k true = false →
          (∀ e ∈ ok.after, Region.binds md e = true → e.on ≠ i) → oi.apart ops ok = true := fun k ok hk hki hun hno => by
        refine hfree k ok hk hki ?_ hno
        by_cases hjk : j = k
        · subst hjk; exact hjun
        · rw [getD_set_ne true hjk] at hun; exact hun
      refine gOp_mono (fun a' s' h3 => ih (listed.setIfInBounds j true) a' s' hfree' (ready_mono hr (Ne.symm hji)) h3.1 ?_) h2
      rw [Array.setIfInBounds_comm _ _ hji]
      exact h3.2
theorem allQ_mono {listed : Array Bool} {i : Nat} (h : allQ ops listed = true) : allQ ops (listed.setIfInBounds i true) = true := by
  unfold allQ at *
  rw [List.all_eq_true] at *
  intro k hk
  have h1 := h k hk
  rw [Bool.or_eq_true] at *
  rcases h1 with h1 | h1
  · left
    by_cases hik : i = k
    · subst hik
      rcases Nat.lt_or_ge i listed.size with h' | h'
      · simp [h']
      · simp [h']
    · rw [getD_set_ne true hik]; exact h1
  · exact Or.inr h1
theorem gOp_keep {j : Nat} {oj : Oper} (hj : ops[j]? = some oj) {a : Act} {s : Ghost} {R : Act → Prop} {K K' : Act → Ghost → Prop} (hk : ∀ u, R (a.put oj.dst u)) (h : ∀ a s, R a → K a s → K' a s) (hh : gOp P ops C D j K a s) : gOp P ops C D j K' a s := by
  unfold gOp at *
  simp only [hj] at *
  split
  · rename_i hw
    simp only [hw, if_true] at hh
    split
    · rename_i hl; simp only [hl, if_true] at hh; exact ⟨hh.1, fun b => h _ _ (hk _) (hh.2 b)⟩
    · rename_i hl; simp only [hl] at hh; obtain ⟨v, h1, h2⟩ := hh; exact ⟨v, h1, h _ _ (hk _) h2⟩
  · rename_i hw; simp only [hw] at hh; exact h _ _ (hk _) hh
theorem wpG_loose {i : Nat} {oi : Oper} {v : Value} (hi : ops[i]? = some oi) (hsel : ∀ (j : Nat) (o : Oper) cs b, ops[j]? = some o → o.op ≠ .select cs b) (hQ : ∀ c a w, Q (.panic c) (a.put oi.dst v) w → Q (.panic c) a w) (hlo : lateOp oi.op = false) :
    ∀ (fuel : Nat) (listed : Array Bool) (a : Act) (s : Ghost),
      (∀ j oj, ops[j]? = some oj → j ≠ i → listed.getD j true = false → (∀ e ∈ oj.after, Region.binds md e = true → e.on ≠ i) → oi.apart ops oj = true) →
      i ∈ Region.ready md ops listed → Yields P ops oi v a →
      wpG P md ops C D Q fuel (listed.setIfInBounds i true) (a.put oi.dst v) s → wpG P md ops C D Q (fuel + 1) listed a s := by
  have toL : ∀ a, Yields P ops oi v a → YieldsL P ops C oi v a := fun a hy => hy.imp (fun ⟨h1, h2⟩ => ⟨h1, hlo, fun w _ => by unfold linAt; rw [h2 w]; exact ⟨rfl, rfl⟩⟩) id
  intro fuel
  induction fuel with
  | zero =>
    intro listed a s hfree hr hy H
    refine ⟨fun _ w hR => wpAny_first hi hsel hQ 0 listed a w hfree hr hy (H.2 w hR), fun j hj htj => ?_⟩
    by_cases hji : j = i
    · subst hji; exact (toL a hy).gOp hi H
    · have := H.1 j (ready_mono hj hji)
      rw [htj] at this
      cases this
  | succ fuel ih =>
    intro listed a s hfree hr hy H
    refine ⟨fun hE w hR => wpAny_first hi hsel hQ (fuel + 1) listed a w hfree hr hy (H.1 (Or.inl (allQ_mono ?_)) w hR), fun j hj htj => ?_⟩
    · rcases hE with hE | hE
      · exact hE
      · rw [hE] at hr; cases hr
    by_cases hji : j = i
    · subst hji; exact (toL a hy).gOp hi H
    · have h1 := H.2 j (ready_mono hj hji) htj
      obtain ⟨hjun, oj, hoj, hall⟩ := mem_ready.1 hj
      have hnot := ready_not hr hall
      have hap := hfree j oj hoj hji hjun hnot
      obtain ⟨p1, p2, p3⟩ := Oper.apart_spec hap
      have h2 := gOp_put hoj hap (fun cs b => hsel i oi cs b hi) (fun cs b => hsel j oj cs b hoj) (toL a hy) h1
      have hfree' : ∀ k ok, ops[k]? = some ok → k ≠ i → (listed.setIfInBounds j true).getD k true = false →
          (∀ e ∈ ok.after, Region.binds md e = true → e.on ≠ i) → oi.apart ops ok = true := fun k ok hk hki hun hno => by
        refine hfree k ok hk hki ?_ hno
        by_cases hjk : j = k
        · subst hjk; exact hjun
        · rw [getD_set_ne true hjk] at hun; exact hun
      have keep : ∀ u, Yields P ops oi v (a.put oj.dst u) := fun u => by
        unfold Yields at *
        rw [execOp_put oi (fun cs b => hsel i oi cs b hi) a oj.dst u p3, wanted_put oi a oj.dst u p3]
        exact hy
      refine gOp_keep hoj keep (fun a' s' hy' h3 => ih (listed.setIfInBounds j true) a' s' hfree' (ready_mono hr (Ne.symm hji)) hy' ?_) h2
      rw [Array.setIfInBounds_comm _ _ hji]
      exact h3.2
/-! The late ones. -/
def LateAt (P : Program) (ops : Array Oper) (C : World → Prop) (D : Nat → Late) (o : Oper) (i : Nat) (a : Act) : Prop :=
  Region.wanted o (yielded ops a.tmps) = true ∧ ∀ w, C w → lateUpon C D i w ((execOp a.eval o).run P w)
theorem upd_comm (s : Ghost) {i j : Nat} (h : i ≠ j) (b c : Option Nat) : upd (upd s i b) j c = upd (upd s j c) i b := by
  funext k
  unfold upd
  by_cases h1 : k = i
  · have h2 : k ≠ j := fun e => h (h1.symm.trans e)
    simp [h1, h]
  · by_cases h2 : k = j
    · subst h2; simp [h1]
    · simp [h1, h2]
theorem late_own {i : Nat} {oi : Oper} (hi : ops[i]? = some oi) (hl : lateOp oi.op = true) {a : Act} {s : Ghost} {K : Act → Ghost → Prop} (hy : LateAt P ops C D oi i a) (H : ∀ b, K (a.put oi.dst ((D i).val b)) (upd s i b)) : gOp P ops C D i K a s := by
  unfold gOp
  simp only [hi, hy.1, hl, if_true]
  exact ⟨hy.2, H⟩
theorem gOp_put_late {i j : Nat} {oi oj : Oper} (hj : ops[j]? = some oj) (hij : i ≠ j) (hap : oi.apart ops oj = true)
    (hsi : ∀ cs b, oi.op ≠ .select cs b) (hsj : ∀ cs b, oj.op ≠ .select cs b) (hlj : lateOp oj.op = true) {K : Act → Ghost → Prop} {a : Act} {s : Ghost}
    (hy : LateAt P ops C D oi i a) (h : ∀ b, gOp P ops C D j K (a.put oi.dst ((D i).val b)) (upd s i b)) :
    gOp P ops C D j (fun a' s' => LateAt P ops C D oi i a' ∧ ∀ b, K (a'.put oi.dst ((D i).val b)) (upd s' i b)) a s := by
  obtain ⟨h1, h2, h3⟩ := Oper.apart_spec hap
  have keep : ∀ (a : Act), LateAt P ops C D oi i a → ∀ u, LateAt P ops C D oi i (a.put oj.dst u) := fun a hy u => by
    unfold LateAt at *
    rw [execOp_put oi hsi a oj.dst u h3, wanted_put oi a oj.dst u h3]
    exact hy
  unfold gOp at *
  simp only [hj] at *
  have h' := fun b => by have := h b; rw [wanted_put oj a oi.dst _ h1] at this; exact this
  split
  · rename_i hw
    simp only [hw, hlj, if_true] at h' ⊢
    refine ⟨fun w hw' => ?_, fun c => ⟨keep a hy _, fun b => by rw [← Act.put_comm a _ _ h2, ← upd_comm s hij]; exact (h' b).2 c⟩⟩
    have := (h' none).1 w hw'
    rwa [execOp_put oj hsj a oi.dst _ h1] at this
  · rename_i hw
    simp only [hw] at h'
    exact ⟨keep a hy _, fun b => by rw [← Act.put_comm a _ undef h2]; exact h' b⟩
theorem wpG_late {i : Nat} {oi : Oper} (hi : ops[i]? = some oi) (hsel : ∀ (j : Nat) (o : Oper) cs b, ops[j]? = some o → o.op ≠ .select cs b) (hq : restI ops i = false) (hl : lateOp oi.op = true) :
    ∀ (fuel : Nat) (listed : Array Bool) (a : Act) (s : Ghost),
      (∀ j oj, ops[j]? = some oj → j ≠ i → listed.getD j true = false → (∀ e ∈ oj.after, Region.binds md e = true → e.on ≠ i) → oi.apart ops oj = true) →
      (∀ j oj, ops[j]? = some oj → listed.getD j true = false → tailOp ops j = false → lateOp oj.op = true) →
      i ∈ Region.ready md ops listed → LateAt P ops C D oi i a →
      (∀ b, wpG P md ops C D Q fuel (listed.setIfInBounds i true) (a.put oi.dst ((D i).val b)) (upd s i b)) → wpG P md ops C D Q (fuel + 1) listed a s := by
  intro fuel
  induction fuel with
  | zero =>
    intro listed a s _ _ hr hy H
    refine ⟨fun h => absurd h (not_end hi hq hr), fun j hj htj => ?_⟩
    by_cases hji : j = i
    · subst hji; exact late_own hi hl hy H
    · have := (H none).1 j (ready_mono hj hji)
      rw [htj] at this
      cases this
  | succ fuel ih =>
    intro listed a s hfree hlate hr hy H
    refine ⟨fun h => absurd h (not_end hi hq hr), fun j hj htj => ?_⟩
    by_cases hji : j = i
    · subst hji; exact late_own hi hl hy H
    · have H' := fun b => (H b).2 j (ready_mono hj hji) htj
      obtain ⟨hjun, oj, hoj, hall⟩ := mem_ready.1 hj
      have hnot := ready_not hr hall
      have h2 := gOp_put_late hoj (Ne.symm hji) (hfree j oj hoj hji hjun hnot) (fun cs b => hsel i oi cs b hi) (fun cs b => hsel j oj cs b hoj) (hlate j oj hoj hjun htj) hy H'
      have un : ∀ k, (listed.setIfInBounds j true).getD k true = false → listed.getD k true = false := fun k hun => by
        by_cases hjk : j = k
        · subst hjk; exact hjun
        · rw [getD_set_ne true hjk] at hun; exact hun
      refine gOp_mono (fun a' s' h3 => ih (listed.setIfInBounds j true) a' s' (fun k ok hk hki hun hno => hfree k ok hk hki (un k hun) hno) (fun k ok hk hun ht => hlate k ok hk (un k hun) ht) (ready_mono hr (Ne.symm hji)) h3.1 (fun b => ?_)) h2
      rw [Array.setIfInBounds_comm _ _ hji]
      exact h3.2 b
/-! The lexical walk. -/
/-- What an operation waits for, and what that waits for (edges lead to lower numbers). -/
def preds (md : Region.Mode) (ops : Array Oper) (k : Nat) : List Nat := match ops[k]? with | some o => (o.after.toList.filter (Region.binds md)).map (·.on) | none => []
def ancs (md : Region.Mode) (ops : Array Oper) : Nat → List Nat → List Nat
  | 0, acc => acc
  | i + 1, acc => ancs md ops i (if acc.contains i then preds md ops i ++ acc else acc)
def tailB (md : Region.Mode) (ops : Array Oper) : Bool :=
  (List.range ops.size).all fun k => !tailOp ops k || (List.range ops.size).all fun i => restI ops i || (ancs md ops k (preds md ops k)).contains i
theorem preds_listed {listed : Array Bool} (hd : Down md ops listed) {k : Nat} (h : listed.getD k false = true) : ∀ i ∈ preds md ops k, listed.getD i false = true := fun i hi => by
  unfold preds at hi
  cases ho : ops[k]? with
  | none => rw [ho] at hi; cases hi
  | some o =>
    rw [ho] at hi
    simp only [List.mem_map, List.mem_filter, Array.mem_toList_iff] at hi
    obtain ⟨e, ⟨he, hb⟩, rfl⟩ := hi
    exact hd k o ho h e he hb
theorem ancs_listed {listed : Array Bool} (hd : Down md ops listed) : ∀ (n : Nat) (acc : List Nat), (∀ i ∈ acc, listed.getD i false = true) → ∀ i ∈ ancs md ops n acc, listed.getD i false = true
  | 0, _, h => h
  | n + 1, acc, h => ancs_listed hd n _ fun i hi => by
    split at hi
    · rename_i hc
      rcases List.mem_append.1 hi with hi | hi
      · exact preds_listed hd (h n (by simpa using hc)) i hi
      · exact h i hi
    · exact h i hi
theorem tailB_ok (h : tailB md ops = true) : TailOk md ops := fun listed hd k hk ht => by
  unfold tailB at h
  obtain ⟨_, o, ho, hall⟩ := mem_ready.1 hk
  have h1 := List.all_eq_true.1 h k (List.mem_range.2 (Array.getElem?_eq_some_iff.1 ho).1)
  rw [ht] at h1
  simp only [Bool.not_true, Bool.false_or] at h1
  unfold allQ
  rw [List.all_eq_true]
  intro i hi
  have h2 := List.all_eq_true.1 h1 i hi
  rw [Bool.or_eq_true] at h2 ⊢
  rcases h2 with h2 | h2
  · exact Or.inr h2
  · left
    have h3 := ancs_listed hd k (preds md ops k) (fun j hj => by
      unfold preds at hj
      rw [ho] at hj
      simp only [List.mem_map, List.mem_filter, Array.mem_toList_iff] at hj
      obtain ⟨e, ⟨he, hb⟩, rfl⟩ := hj
      exact hall e he hb) i (by simpa using h2)
    rcases Nat.lt_or_ge i listed.size with h' | h'
    · simpa [h'] using h3
    · simp [Array.getElem?_eq_none h']
def isStore : Op → Bool | .store _ _ _ => true | .assign _ => true | _ => false
def restOp (o : Op) : Bool := lateOp o || isStore o
theorem tailOp_of {k : Nat} {o : Oper} (h : ops[k]? = some o) : tailOp ops k = isStore o.op := by
  unfold tailOp isStore
  rw [h]
def lexL (md : Region.Mode) (ops : Array Oper) : List Oper → Nat → Array Bool → Bool
  | [], _, _ => true
  | o :: l, k, listed => if restOp o.op then lexL md ops l (k + 1) listed
    else (Region.ready md ops listed).contains k && Region.free md ops listed k && lexL md ops l (k + 1) (listed.setIfInBounds k true)
def looseL (P : Program) (o : Oper) (a : Act) (K : Act → Prop) : Prop := ∃ v, (∀ w, (execOp a.eval o).run P w = .ok (.value v) w) ∧ K (a.put o.dst v)
def wpLex (P : Program) (ops : Array Oper) (C : World → Prop) (Fin : Nat → Array Bool → Act → Prop) : List Oper → Nat → Nat → Array Bool → Act → Prop
  | [], _, m, listed, a => Fin m listed a
  | o :: l, k, m, listed, a => if restOp o.op then wpLex P ops C Fin l (k + 1) m listed a
    else match m with
      | 0 => False
      | m + 1 => if Region.wanted o (yielded ops a.tmps) = true then (if looseOp o.op then looseL P o a (wpLex P ops C Fin l (k + 1) m (listed.setIfInBounds k true)) else quietL P C o a (wpLex P ops C Fin l (k + 1) m (listed.setIfInBounds k true))) else wpLex P ops C Fin l (k + 1) m (listed.setIfInBounds k true) (a.put o.dst undef)
/-- What is asked at the end of the lexical walk. -/
def FinG (P : Program) (md : Region.Mode) (ops : Array Oper) (C : World → Prop) (Q : Exit → Act → World → Prop) (m : Nat) (listed : Array Bool) (a : Act) : Prop := ∃ D, Stable C D ∧ wpG P md ops C D Q m listed a (fun _ => none)
theorem fin_lex (hs : Region.noSelect ops = true) (hQ : ∀ c (a : Act) d v w, Q (.panic c) (a.put d v) w → Q (.panic c) a w) : ∀ (l : List Oper) (k m : Nat) (listed : Array Bool) (a : Act), (∀ j, l[j]? = ops[k + j]?) →
    lexL md ops l k listed = true → wpLex P ops C (FinG P md ops C Q) l k m listed a → FinG P md ops C Q m listed a
  | [], _, _, _, _, _, _, h => h
  | o :: l, k, m, listed, a, hl, hB, h => by
    have h0 : ops[k]? = some o := by simpa using (hl 0).symm
    have hl' : ∀ j, l[j]? = ops[k + 1 + j]? := fun j => by have := hl (j + 1); simpa [Nat.add_assoc, Nat.add_comm 1 j] using this
    unfold lexL at hB
    unfold wpLex at h
    by_cases hr : restOp o.op = true
    · rw [if_pos hr] at hB h
      exact fin_lex hs hQ l (k + 1) m listed a hl' hB h
    · rw [if_neg hr] at hB h
      simp only [Bool.and_eq_true] at hB
      obtain ⟨⟨hB1, hB2⟩, hB3⟩ := hB
      have hr1 : lateOp o.op = false ∧ isStore o.op = false := by unfold restOp at hr; simpa using hr
      have ht := (tailOp_of h0).trans hr1.2
      cases m with
      | zero => exact absurd h (fun h => h)
      | succ m =>
        simp only at h
        by_cases hlo : looseOp o.op = true
        · skip
          split at h
          · rename_i hw
            obtain ⟨v, h1, h2⟩ := h
            obtain ⟨D, hS, hG⟩ := fin_lex hs hQ l (k + 1) m _ _ hl' hB3 h2
            exact ⟨D, hS, wpG_loose h0 (Region.noSelect_spec hs) (fun c a w => hQ c a _ _ w) hr1.1 m listed a _ (Region.free_spec h0 hB2) (by simpa using hB1) (.inl ⟨hw, h1⟩) hG⟩
          · rename_i hw
            obtain ⟨D, hS, hG⟩ := fin_lex hs hQ l (k + 1) m _ _ hl' hB3 h
            exact ⟨D, hS, wpG_loose h0 (Region.noSelect_spec hs) (fun c a w => hQ c a _ _ w) hr1.1 m listed a _ (Region.free_spec h0 hB2) (by simpa using hB1) (.inr ⟨by simpa using hw, rfl⟩) hG⟩
        · have hlo : looseOp o.op = false := by simpa using hlo
          have hq : restI ops k = false := by unfold restI; rw [h0]; show (tailOp ops k || looseOp o.op) = false; rw [ht, hlo]; rfl
          split at h
          · rename_i hw
            obtain ⟨v, h1, h2⟩ := h
            obtain ⟨D, hS, hG⟩ := fin_lex hs hQ l (k + 1) m _ _ hl' hB3 h2
            exact ⟨D, hS, wpG_first h0 (Region.noSelect_spec hs) hq m listed a _ (Region.free_spec h0 hB2) (by simpa using hB1) (.inl ⟨hw, hr1.1, h1⟩) hG⟩
          · rename_i hw
            obtain ⟨D, hS, hG⟩ := fin_lex hs hQ l (k + 1) m _ _ hl' hB3 h
            exact ⟨D, hS, wpG_first h0 (Region.noSelect_spec hs) hq m listed a _ (Region.free_spec h0 hB2) (by simpa using hB1) (.inr ⟨by simpa using hw, rfl⟩) hG⟩
def startB (md : Region.Mode) (l : List Oper) : Bool := Region.noSelect l.toArray && tailB md l.toArray && lexL md l.toArray l 0 (Array.replicate l.length false)
/-- The beginning. -/
theorem wp_region_lin {id : Nat} {a : Act} {w : World} {l : List Oper} (hm : P.follows .mixedOrders = true) (hQ : ∀ c (a : Act) d v w, Q (.panic c) (a.put d v) w → Q (.panic c) a w) (hB : startB .any l = true) (C : World → Prop) (hC : C w.drew)
    (h : wpLex P l.toArray C (FinG P .any l.toArray C Q) l 0 l.length (Array.replicate l.length false) a) : (Code.region id l.toArray true).wp P Q a w := by
  unfold startB at hB
  simp only [Bool.and_eq_true] at hB
  obtain ⟨⟨hs, ht⟩, hl⟩ := hB
  obtain ⟨D, hS, hG⟩ := fin_lex hs hQ l 0 l.length _ a (by simp) hl h
  refine wp_region_any hm ?_
  have hR : Real C D (fun _ => none) w.drew := ⟨hC, fun i b h => (by cases h), fun i j x h => (by cases h)⟩
  have := wpAny_of_g hS (tailB_ok ht) _ _ _ _ w.drew (fun k o ho hk => by simp only [Array.getD_eq_getD_getElem?, Array.getElem?_replicate] at hk; split at hk <;> simp at hk) hR hG
  simpa using this
/-! Steps. -/
variable {Fin : Nat → Array Bool → Act → Prop} {o : Oper} {l : List Oper} {k m : Nat} {listed : Array Bool} {a : Act}
theorem lex_rest (h : restOp o.op = true) (hn : wpLex P ops C Fin l (k + 1) m listed a) : wpLex P ops C Fin (o :: l) k m listed a := by
  unfold wpLex; rw [if_pos h]; exact hn
theorem lex_skip (h : restOp o.op = false) (hw : Region.wanted o (yielded ops a.tmps) = false) (hn : wpLex P ops C Fin l (k + 1) m (listed.setIfInBounds k true) (a.put o.dst undef)) : wpLex P ops C Fin (o :: l) k (m + 1) listed a := by
  unfold wpLex; rw [if_neg (by rw [h]; decide)]; simp only; rw [if_neg (by rw [hw]; decide)]; exact hn
theorem lex_take (h : restOp o.op = false) (hlo : looseOp o.op = false) (hw : Region.wanted o (yielded ops a.tmps) = true) (v : Value) (hv : ∀ w, C w → linUpon P w v ((execOp a.eval o).run P w)) (hn : wpLex P ops C Fin l (k + 1) m (listed.setIfInBounds k true) (a.put o.dst v)) : wpLex P ops C Fin (o :: l) k (m + 1) listed a := by
  unfold wpLex; rw [if_neg (by rw [h]; decide)]; simp only; rw [if_pos hw, if_neg (by rw [hlo]; decide)]; exact ⟨v, hv, hn⟩
theorem lex_val (h : restOp o.op = false) (hlo : looseOp o.op = false) (hw : Region.wanted o (yielded ops a.tmps) = true) (hv : ∃ v, (∀ w, C w → linUpon P w v ((execOp a.eval o).run P w)) ∧ wpLex P ops C Fin l (k + 1) m (listed.setIfInBounds k true) (a.put o.dst v)) : wpLex P ops C Fin (o :: l) k (m + 1) listed a :=
  let ⟨v, h1, h2⟩ := hv
  lex_take h hlo hw v h1 h2
theorem lex_loose (h : restOp o.op = false) (hlo : looseOp o.op = true) (hw : Region.wanted o (yielded ops a.tmps) = true) (hv : ∃ v, (∀ w, (execOp a.eval o).run P w = .ok (.value v) w) ∧ wpLex P ops C Fin l (k + 1) m (listed.setIfInBounds k true) (a.put o.dst v)) : wpLex P ops C Fin (o :: l) k (m + 1) listed a := by
  unfold wpLex; rw [if_neg (by rw [h]; decide)]; simp only; rw [if_pos hw, if_pos hlo]; exact hv
theorem lex_end (h : Fin m listed a) : wpLex P ops C Fin [] k m listed a := h
/-! Ends. -/
def FreshD (N : Nat) (obj : Nat → Obj) (mk : Nat → Nat → Value) : Nat → Late := fun k => { val := fun b => mk k (b.getD 0), eff := fun b w => ∃ x, b = some x ∧ N ≤ x ∧ w.heap[x]? = some (obj k) }
theorem heap_lt {w : World} {x : Nat} {ob : Obj} (h : w.heap[x]? = some ob) : x < w.heap.size := (Array.getElem?_eq_some_iff.1 h).1
theorem fresh_stable {N : Nat} {obj : Nat → Obj} {mk : Nat → Nat → Value} (hC : ∀ w w', C w → Below w.heap.size w w' → C w') : Stable C (FreshD N obj mk) where
  c := hC
  e := fun i b w w' ⟨x, hx, hn, ho⟩ hb => ⟨x, hx, hn, by rw [hb.block x (heap_lt ho)]; exact ho⟩
  n := fun i x w ⟨y, hy, hn, ho⟩ => by cases hy; exact heap_lt ho
theorem fresh_late {N : Nat} {obj : Nat → Obj} {mk : Nat → Nat → Value} (hC : ∀ w w', C w → Below w.heap.size w w' → C w') (hN : ∀ w, C w → N ≤ w.heap.size) {i : Nat} {o : Oper} {a : Act}
    (hw : Region.wanted o (yielded ops a.tmps) = true) (h : ∀ w, C w → (execOp a.eval o).run P w = .ok (.value (mk i w.heap.size)) (w.alloc (obj i))) : LateAt P ops C (FreshD N obj mk) o i a :=
  ⟨hw, fun w hc => by
    rw [h w hc]
    refine ⟨some w.heap.size, rfl, hC _ _ hc ((Below.refl _ w).alloc (Nat.le_refl _) _), ⟨_, rfl, hN w hc, ?_⟩, fun j c _ ⟨x, hx, hn, ho⟩ => ⟨x, hx, hn, ?_⟩, fun x hx => by cases hx; exact Nat.le_refl _⟩
    · show (w.heap.push _)[w.heap.size]? = _; simp
    · rw [Below.heap_alloc _ _ _ (heap_lt ho)]; exact ho⟩
/-- No other operation than these, and than those of the tail, may come up. -/
def only (md : Region.Mode) (ops : Array Oper) (listed : Array Bool) (l : List Nat) : Bool := (Region.ready md ops listed).all fun i => tailOp ops i || l.contains i
theorem only_ok {l : List Nat} (h : only md ops listed l = true) {i : Nat} (hi : i ∈ Region.ready md ops listed) (ht : tailOp ops i = false) : i ∈ l := by
  have h1 := List.all_eq_true.1 h i hi
  rw [ht] at h1
  simpa using h1
theorem g_end {D : Nat → Late} {s : Ghost} (ho : only md ops listed [] = true) (h : ∀ w, Real C D s w → wpAny P md ops Q m listed a w) : wpG P md ops C D Q m listed a s := by
  cases m with
  | zero => exact ⟨fun i hi => by cases ht : tailOp ops i with | true => rfl | false => exact absurd (only_ok ho hi ht) (by simp), h⟩
  | succ m => exact ⟨fun _ => h, fun i hi ht => absurd (only_ok ho hi ht) (by simp)⟩
theorem fin0 (hC : ∀ w w', C w → Below w.heap.size w w' → C w') (ho : only md ops listed [] = true) (h : ∀ w, C w → wpAny P md ops Q m listed a w) : FinG P md ops C Q m listed a :=
  ⟨FreshD 0 (fun _ => .cells #[] 0) (fun _ _ => undef), fresh_stable hC, g_end ho fun w hR => h w hR.1⟩
def onlyLate (ops : Array Oper) (listed : Array Bool) : Bool := (List.range ops.size).all fun j => listed.getD j true || tailOp ops j || match ops[j]? with | some o => lateOp o.op | none => true
theorem onlyLate_ok (h : onlyLate ops listed = true) : ∀ j oj, ops[j]? = some oj → listed.getD j true = false → tailOp ops j = false → lateOp oj.op = true := fun j oj hj hu ht => by
  have h1 := List.all_eq_true.1 h j (List.mem_range.2 (Array.getElem?_eq_some_iff.1 hj).1)
  rw [hj] at h1
  simp only [Bool.or_eq_true] at h1
  rcases h1 with (h1 | h1) | h1
  · rw [hu] at h1; cases h1
  · rw [ht] at h1; cases h1
  · exact h1
/-- All that is asked of a late operation as Bools. -/
def lateB (md : Region.Mode) (ops : Array Oper) (listed : Array Bool) (i : Nat) : Bool :=
  Region.noSelect ops && !restI ops i && Region.free md ops listed i && onlyLate ops listed && (Region.ready md ops listed).contains i && (match ops[i]? with | some o => lateOp o.op | none => false)
theorem late_step {D : Nat → Late} {i : Nat} {oi : Oper} {s : Ghost} (hi : ops[i]? = some oi) (hB : lateB md ops listed i = true) (hy : LateAt P ops C D oi i a)
    (h : ∀ b, wpG P md ops C D Q m (listed.setIfInBounds i true) (a.put oi.dst ((D i).val b)) (upd s i b)) : wpG P md ops C D Q (m + 1) listed a s := by
  unfold lateB at hB
  rw [hi] at hB
  simp only [Bool.and_eq_true, Bool.not_eq_true'] at hB
  obtain ⟨⟨⟨⟨⟨b1, b3⟩, b4⟩, b5⟩, b6⟩, b7⟩ := hB
  exact wpG_late hi (Region.noSelect_spec b1) b3 b7 m listed a s (Region.free_spec hi b4) (onlyLate_ok b5) (by simpa using b6) hy h
theorem fin1 (N : Nat) (hC : ∀ w w', C w → Below w.heap.size w w' → C w') (hN : ∀ w, C w → N ≤ w.heap.size) (i : Nat) (oi : Oper) (hi : ops[i]? = some oi) (hw : Region.wanted oi (yielded ops a.tmps) = true) (hB : lateB md ops listed i = true)
    (hr : only md ops (listed.setIfInBounds i true) [] = true)
    (mk : Nat → Value) (ob : Obj) (hrun : ∀ w, C w → (execOp a.eval oi).run P w = .ok (.value (mk w.heap.size)) (w.alloc ob))
    (h : ∀ b w, C w → N ≤ b → w.heap[b]? = some ob → wpAny P md ops Q m (listed.setIfInBounds i true) (a.put oi.dst (mk b)) w) : FinG P md ops C Q (m + 1) listed a := by
  refine ⟨FreshD N (fun _ => ob) (fun _ => mk), fresh_stable hC, late_step hi hB (fresh_late hC hN hw hrun) fun b => g_end hr fun w hR => ?_⟩
  obtain ⟨x, rfl, hx, ho⟩ := hR.2.1 i b (by simp [upd])
  exact h x w hR.1 hx ho
theorem fin2 (N : Nat) (hC : ∀ w w', C w → Below w.heap.size w w' → C w') (hN : ∀ w, C w → N ≤ w.heap.size) (i j : Nat) (oi oj : Oper) (hi : ops[i]? = some oi) (hj : ops[j]? = some oj) (hij : i ≠ j) (hs : Region.noSelect ops = true)
    (hw : Region.wanted oi (yielded ops a.tmps) = true) (hwj : Region.wanted oj (yielded ops a.tmps) = true) (hap : oi.apart ops oj = true) (hB : lateB md ops listed i = true) (hBj : lateB md ops (listed.setIfInBounds i true) j = true)
    (hr : only md ops ((listed.setIfInBounds i true).setIfInBounds j true) [] = true)
    (mi mj : Nat → Value) (ob oc : Obj) (hrun : ∀ w, C w → (execOp a.eval oi).run P w = .ok (.value (mi w.heap.size)) (w.alloc ob)) (hrunj : ∀ w, C w → (execOp a.eval oj).run P w = .ok (.value (mj w.heap.size)) (w.alloc oc))
    (h : ∀ b c w, C w → N ≤ b → N ≤ c → b ≠ c → w.heap[b]? = some ob → w.heap[c]? = some oc → wpAny P md ops Q m ((listed.setIfInBounds i true).setIfInBounds j true) ((a.put oi.dst (mi b)).put oj.dst (mj c)) w) : FinG P md ops C Q (m + 1 + 1) listed a := by
  obtain ⟨p1, p2, p3⟩ := Oper.apart_spec hap
  refine ⟨FreshD N (fun k => if k = i then ob else oc) (fun k => if k = i then mi else mj), fresh_stable hC, late_step hi hB (fresh_late hC hN hw (fun w hc => by rw [if_pos rfl, if_pos rfl]; exact hrun w hc)) fun b => late_step hj hBj (fresh_late hC hN (by rw [wanted_put oj a oi.dst _ p1]; exact hwj) (fun w hc => by rw [execOp_put oj (fun cs b => Region.noSelect_spec hs j oj cs b hj) a oi.dst _ p1, if_neg (Ne.symm hij), if_neg (Ne.symm hij)]; exact hrunj w hc)) fun c => g_end hr fun w hR => ?_⟩
  obtain ⟨x, rfl, hx, ho⟩ := hR.2.1 i b (by simp [upd, hij])
  obtain ⟨y, rfl, hy, ho'⟩ := hR.2.1 j c (by simp [upd])
  have ho : w.heap[x]? = some ob := by have h0 := ho; simp only [if_true] at h0; exact h0
  have ho' : w.heap[y]? = some oc := by have h0 := ho'; simp only [if_neg (Ne.symm hij)] at h0; exact h0
  have hne : x ≠ y := fun e => hij (hR.2.2 i j x (by simp [upd, hij]) (by simp [upd, e]))
  have := h x y w hR.1 hx hy hne ho ho'
  simpa [FreshD, hij, Ne.symm hij] using this
end
end Go.Lin
namespace Go.Lin
open Go.RowKit
theorem lin_call {P : Program} {w : World} {v : Value} {f : FuncId} {args : Array Value} (h : Calls P f args w (fun e w'' => e = .returned v ∧ Below w.heap.size w w'')) : linUpon P w v (.ok (.enter f args) w) := ⟨rfl, h⟩
theorem lin_ret {P : Program} {w : World} {u v : Value} {f : FuncId} {args : Array Value} (h : Calls P f args w (fun e w'' => e = .returned u ∧ Below w.heap.size w w'')) (hv : u = v) : linUpon P w v (.ok (.enter f args) w) := ⟨rfl, hv ▸ h⟩
theorem lin_ret_same {P : Program} {w : World} {u v : Value} {f : FuncId} {args : Array Value} (h : Calls P f args w (fun e w'' => e = .returned u ∧ w = w'')) (hv : u = v) : linUpon P w v (.ok (.enter f args) w) :=
  ⟨rfl, hv ▸ h.mono fun _ _ ⟨he, hw⟩ => ⟨he, hw ▸ Below.refl _ _⟩⟩
theorem lin_value {P : Program} {w : World} {v : Value} : linUpon P w v (.ok (.value v) w) := ⟨rfl, rfl⟩
theorem lin_skip {P : Program} {w : World} : linUpon P w undef (.ok .skip w) := ⟨rfl, rfl⟩
theorem heap_cell {w : World} {b j : Nat} {c : Array Value} {t : TypeId} {v : Value} (h : w.heap[b]? = some (.cells c t)) (hv : c[j]? = some v) : w.cell? ⟨b, j, none⟩ = some v := by
  unfold World.cell?; rw [h]; exact hv
theorem heap_free {w : World} {b j : Nat} {c : Array Value} {t : TypeId} (h : w.heap[b]? = some (.cells c t)) : w.frozen? ⟨b, j, none⟩ = false := by
  unfold World.frozen?; rw [h]; simp
end Go.Lin
namespace Go.Lin
open Go.RowKit
/-- What a late operation lays: of an alloc the zero that is handed in, of a box the value. -/
def objOf (z : Value) (a : Act) : Op → Obj
  | .alloc t => .cells z.cells t
  | .box t x => .cells (a.eval x).cells t
  | _ => .cells #[] 0
def ptrOf (n : Nat) : Value := .pointer (some ⟨n, 0, none⟩)
def newOp : Op → Bool
  | .alloc _ => true
  | .box _ _ => true
  | _ => false
theorem new_late {o : Op} (h : newOp o = true) : lateOp o = true := by cases o <;> simp only [newOp] at h <;> first | rfl | cases h
theorem run_new {P : Program} {o : Oper} {a : Act} {z : Value} (h : newOp o.op = true) (hz : ∀ t, o.op = .alloc t → ∀ w, (zeroValue t).run P w = .ok z w) (w : World) :
    (execOp a.eval o).run P w = .ok (.value (ptrOf w.heap.size)) (w.alloc (objOf z a o.op)) := by
  obtain ⟨dst, op, type, pos, after, guard⟩ := o
  cases op <;> simp only [newOp] at h <;> try (cases h; done)
  · rename_i t
    have h1 := hz t rfl w
    simp only [execOp, Instr.alloc, Sem.run_bind, h1, Result.andThen, newVar, newRow, run_newObj_alloc, Sem.run_pure, objOf, ptrOf]
  · simp only [execOp, Instr.box, Sem.run_bind, Result.andThen, newVar, newRow, run_newObj_alloc, Sem.run_pure, objOf, ptrOf]
section
variable {P : Program} {ops : Array Oper} {md : Region.Mode} {C : World → Prop} {Q : Exit → Act → World → Prop} {m : Nat} {listed : Array Bool} {a : Act}
theorem new1 (N : Nat) (hC : ∀ w w', C w → Below w.heap.size w w' → C w') (hN : ∀ w, C w → N ≤ w.heap.size) (i : Nat) (oi : Oper) (hi : ops[i]? = some oi) (hw : Region.wanted oi (yielded ops a.tmps) = true) (hB : lateB md ops listed i = true)
    (hr : only md ops (listed.setIfInBounds i true) [] = true) (hn : newOp oi.op = true)
    (z : Value) (hz : ∀ t, oi.op = .alloc t → ∀ w, (zeroValue t).run P w = .ok z w)
    (h : ∀ b w, C w → N ≤ b → w.heap[b]? = some (objOf z a oi.op) → wpAny P md ops Q m (listed.setIfInBounds i true) (a.put oi.dst (ptrOf b)) w) : FinG P md ops C Q (m + 1) listed a :=
  fin1 N hC hN i oi hi hw hB hr ptrOf (objOf z a oi.op) (fun w _ => run_new hn hz w) h
theorem new2 (N : Nat) (hC : ∀ w w', C w → Below w.heap.size w w' → C w') (hN : ∀ w, C w → N ≤ w.heap.size) (i j : Nat) (oi oj : Oper) (hi : ops[i]? = some oi) (hj : ops[j]? = some oj) (hij : i ≠ j) (hs : Region.noSelect ops = true)
    (hw : Region.wanted oi (yielded ops a.tmps) = true) (hwj : Region.wanted oj (yielded ops a.tmps) = true) (hap : oi.apart ops oj = true) (hB : lateB md ops listed i = true) (hBj : lateB md ops (listed.setIfInBounds i true) j = true)
    (hr : only md ops ((listed.setIfInBounds i true).setIfInBounds j true) [] = true) (hn : newOp oi.op = true) (hnj : newOp oj.op = true)
    (z y : Value) (hz : ∀ t, oi.op = .alloc t → ∀ w, (zeroValue t).run P w = .ok z w) (hy : ∀ t, oj.op = .alloc t → ∀ w, (zeroValue t).run P w = .ok y w)
    (h : ∀ b c w, C w → N ≤ b → N ≤ c → b ≠ c → w.heap[b]? = some (objOf z a oi.op) → w.heap[c]? = some (objOf y a oj.op) → wpAny P md ops Q m ((listed.setIfInBounds i true).setIfInBounds j true) ((a.put oi.dst (ptrOf b)).put oj.dst (ptrOf c)) w) : FinG P md ops C Q (m + 1 + 1) listed a :=
  fin2 N hC hN i j oi oj hi hj hij hs hw hwj hap hB hBj hr ptrOf ptrOf (objOf z a oi.op) (objOf y a oj.op) (fun w _ => run_new hn hz w) (fun w _ => run_new hnj hy w) h
end
end Go.Lin

namespace Go.Lin
open Go.RowKit
structure Blk (p : Prop) : Prop where
  out : p
variable {P : Program} {ops : Array Oper} {C : World → Prop} {Fin : Nat → Array Bool → Act → Prop} {o : Oper} {l : List Oper} {k m : Nat} {listed : Array Bool} {a : Act}
theorem bl_rest (h : restOp o.op = true) (hn : Blk (wpLex P ops C Fin l (k + 1) m listed a)) : Blk (wpLex P ops C Fin (o :: l) k m listed a) := ⟨lex_rest h hn.out⟩
theorem bl_skip (h : restOp o.op = false) (hw : Region.wanted o (yielded ops a.tmps) = false) (hn : Blk (wpLex P ops C Fin l (k + 1) m (listed.setIfInBounds k true) (a.put o.dst undef))) : Blk (wpLex P ops C Fin (o :: l) k (m + 1) listed a) := ⟨lex_skip h hw hn.out⟩
theorem bl_val (h : restOp o.op = false) (hlo : looseOp o.op = false) (hw : Region.wanted o (yielded ops a.tmps) = true) (hv : ∃ v, (∀ w, C w → linUpon P w v ((execOp a.eval o).run P w)) ∧ Blk (wpLex P ops C Fin l (k + 1) m (listed.setIfInBounds k true) (a.put o.dst v))) : Blk (wpLex P ops C Fin (o :: l) k (m + 1) listed a) :=
  let ⟨v, h1, h2⟩ := hv
  ⟨lex_take h hlo hw v h1 h2.out⟩
theorem bl_loose (h : restOp o.op = false) (hlo : looseOp o.op = true) (hw : Region.wanted o (yielded ops a.tmps) = true) (hv : ∃ v, (∀ w, (execOp a.eval o).run P w = .ok (.value v) w) ∧ Blk (wpLex P ops C Fin l (k + 1) m (listed.setIfInBounds k true) (a.put o.dst v))) : Blk (wpLex P ops C Fin (o :: l) k (m + 1) listed a) :=
  let ⟨v, h1, h2⟩ := hv
  ⟨lex_loose h hlo hw ⟨v, h1, h2.out⟩⟩
theorem bl_end (h : Fin m listed a) : Blk (wpLex P ops C Fin [] k m listed a) := ⟨lex_end h⟩
end Go.Lin
namespace Go.Proofs.YtkpjeceofcfnkaaGreatDoor
end Go.Proofs.YtkpjeceofcfnkaaGreatDoor
