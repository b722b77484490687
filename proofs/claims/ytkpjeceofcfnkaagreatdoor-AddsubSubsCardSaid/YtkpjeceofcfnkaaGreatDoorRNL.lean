/- Lists in worlds that are written to; a reference's Value by the parts of its list. -/
import Derived.Test.YtkpjeceofcfnkaaGreatDoorLin
import Derived.Test.YtkpjeceofcfnkaaGreatDoorRef8
set_option linter.unusedSimpArgs false
set_option linter.unusedVariables false
namespace Go.LinW
open Go.RowKit Go.Lin
/-- What a late operation hands back, and what it brings about, of a ghost. -/
abbrev G := Option Nat × (Option Addr × Nat)
structure Late where
  val : G → Value
  eff : G → World → Prop
abbrev Ghost := Nat → Option G
def upd (s : Ghost) (i : Nat) (b : G) : Ghost := fun j => if j = i then some b else s j
/-- Operations that come last. -/
def lateOp : Op → Bool
  | .box _ _ => true
  | .alloc _ => true
  | .call c => (match c.callee with | .value _ => true | _ => false)
  | _ => false
def quietL (P : Program) (C : World → Prop) (o : Oper) (a : Act) (K : Act → Prop) : Prop := ∃ v, (∀ w, C w → linAt P o a w v) ∧ K (a.put o.dst v)
def Goes (C : World → Prop) (D : Nat → Late) (i : Nat) (b : G) (w w' : World) : Prop :=
  C w' ∧ (D i).eff b w' ∧ (∀ j c, j ≠ i → (D j).eff c w → (D j).eff c w') ∧ (∀ x, b.1 = some x → w.heap.size ≤ x)
def lateUpon (P : Program) (C : World → Prop) (D : Nat → Late) (i : Nat) (w : World) : Result Next → Prop
  | .ok (.value u) w' => ∃ b, u = (D i).val b ∧ Goes C D i b w w'
  | .ok .skip w' => ∃ b, undef = (D i).val b ∧ Goes C D i b w w'
  | .ok (.enter f args) w' => w' = w ∧ Calls P f args w (fun e w'' => ∃ b, e = .returned ((D i).val b) ∧ Goes C D i b w w'')
  | _ => False
section
variable {P : Program} {ops : Array Oper} {md : Region.Mode} {C : World → Prop} {D : Nat → Late} {Q : Exit → Act → World → Prop}
def gOp (P : Program) (ops : Array Oper) (C : World → Prop) (D : Nat → Late) (i : Nat) (K : Act → Ghost → Prop) (a : Act) (s : Ghost) : Prop :=
  match ops[i]? with
  | none => K a s
  | some o => if Region.wanted o (yielded ops a.tmps) then
      (if lateOp o.op then (∀ w, C w → lateUpon P C D i w ((execOp a.eval o).run P w)) ∧ ∀ b, K (a.put o.dst ((D i).val b)) (upd s i b)
       else ∃ v, (∀ w, C w → linAt P o a w v) ∧ K (a.put o.dst v) s)
    else K (a.put o.dst undef) s
theorem gOp_mono {i : Nat} {a : Act} {s : Ghost} {K K' : Act → Ghost → Prop} (h : ∀ a s, K a s → K' a s) (hh : gOp P ops C D i K a s) : gOp P ops C D i K' a s := by
  unfold gOp at *
  split
  · rename_i ho; simp only [ho] at hh; exact h _ _ hh
  · rename_i o ho
    simp only [ho] at hh
    split
    · rename_i hw
      simp only [hw, if_true] at hh
      split
      · rename_i hl; simp only [hl, if_true] at hh; exact ⟨hh.1, fun b => h _ _ (hh.2 b)⟩
      · rename_i hl; simp only [hl] at hh; obtain ⟨v, h1, h2⟩ := hh; exact ⟨v, h1, h _ _ h2⟩
    · rename_i hw; simp only [hw] at hh; exact h _ _ hh
/-- What the world is of a ghost. -/
def Real (C : World → Prop) (D : Nat → Late) (s : Ghost) (w : World) : Prop :=
  C w ∧ (∀ i b, s i = some b → (D i).eff b w) ∧ (∀ i j x b c, s i = some b → s j = some c → b.1 = some x → c.1 = some x → i = j)
structure Stable (C : World → Prop) (D : Nat → Late) : Prop where
  c : ∀ w w', C w → Below w.heap.size w w' → C w'
  e : ∀ i b w w', (D i).eff b w → Below w.heap.size w w' → (D i).eff b w'
  n : ∀ i b x w, (D i).eff b w → b.1 = some x → x < w.heap.size
theorem Real.below (hS : Stable C D) {s : Ghost} {w w' : World} (h : Real C D s w) (hb : Below w.heap.size w w') : Real C D s w' :=
  ⟨hS.c _ _ h.1 hb, fun i b hi => hS.e _ _ _ _ (h.2.1 i b hi) hb, h.2.2⟩
theorem Real.goes (hS : Stable C D) {s : Ghost} {w w' : World} {i : Nat} {b : G} (h : Real C D s w) (hg : Goes C D i b w w') : Real C D (upd s i b) w' := by
  obtain ⟨g1, g2, g3, g4⟩ := hg
  refine ⟨g1, fun j c hj => ?_, fun j k x c d hj hk hcx hdx => ?_⟩
  · unfold upd at hj
    split at hj
    · rename_i e; subst e; cases hj; exact g2
    · rename_i e; exact g3 j c e (h.2.1 j c hj)
  · unfold upd at hj hk
    split at hj
    · rename_i e
      split at hk
      · rename_i e'; rw [e, e']
      · have hb : b.1 = some x := by cases hj; exact hcx
        have h1 := g4 x hb
        have h2 := hS.n k d x w (h.2.1 k _ hk) hdx
        omega
    · split at hk
      · have hb : b.1 = some x := by cases hk; exact hdx
        have h1 := g4 x hb
        have h2 := hS.n j c x w (h.2.1 j _ hj) hcx
        omega
      · exact h.2.2 j k x c d hj hk hcx hdx
theorem wpOp_of_g (hS : Stable C D) {i : Nat} {a : Act} {s : Ghost} {K : Act → Ghost → Prop} {K' : Act → World → Prop} {Q' : Exit → Act → World → Prop} {w : World} (hR : Real C D s w)
    (h : ∀ a s w', Real C D s w' → K a s → K' a w') (hh : gOp P ops C D i K a s) : wpOp P ops Q' i K' a w := by
  unfold gOp at hh
  unfold wpOp
  split
  · rename_i ho; simp only [ho] at hh; exact h _ _ _ hR hh
  · rename_i o ho
    simp only [ho] at hh
    split
    · rename_i hw
      simp only [hw, if_true] at hh
      refine .inl ?_
      unfold Oper.wp
      by_cases hl : lateOp o.op = true
      · simp only [hl, if_true] at hh
        obtain ⟨h1, h2⟩ := hh
        have h3 := h1 w hR.1
        generalize (execOp a.eval o).run P w = r at *
        cases r with
        | ok n w' =>
          cases n <;> simp only [lateUpon] at h3 <;> simp only [Oper.upon]
          case value u => obtain ⟨b, rfl, hg⟩ := h3; exact h _ _ _ (hR.goes hS hg) (h2 b)
          case skip => obtain ⟨b, e, hg⟩ := h3; rw [e]; exact h _ _ _ (hR.goes hS hg) (h2 b)
          case enter f args =>
            obtain ⟨e1, hc⟩ := h3
            rw [e1]
            exact hc.mono fun e w'' ⟨b, he, hg⟩ => by subst he; exact h _ _ _ (hR.goes hS hg) (h2 b)
        | halt x w' => simp only [lateUpon] at h3
      · simp only [hl] at hh
        obtain ⟨v, h1, h2⟩ := hh
        have h3 := h1 w hR.1
        unfold linAt at h3
        generalize (execOp a.eval o).run P w = r at *
        cases r with
        | ok n w' =>
          cases n <;> simp only [linUpon] at h3 <;> simp only [Oper.upon]
          case value u => obtain ⟨e1, e2⟩ := h3; rw [e1, e2]; exact h _ _ _ hR h2
          case skip => obtain ⟨e1, e2⟩ := h3; rw [e1, ← e2]; exact h _ _ _ hR h2
          case enter f args =>
            obtain ⟨e1, hc⟩ := h3
            rw [e1]
            exact hc.mono fun e w'' ⟨he, hw''⟩ => by subst he; exact h _ _ _ (hR.below hS hw'') h2
        | halt x w' => simp only [linUpon] at h3
    · rename_i hw; simp only [hw] at hh; exact h _ _ _ hR hh
def wpG (P : Program) (md : Region.Mode) (ops : Array Oper) (C : World → Prop) (D : Nat → Late) (Q : Exit → Act → World → Prop) : Nat → Array Bool → Act → Ghost → Prop
  | 0, listed, a, s => (∀ i ∈ Region.ready md ops listed, tailOp ops i = true) ∧ ∀ w, Real C D s w → wpAny P md ops Q 0 listed a w
  | fuel + 1, listed, a, s =>
    ((allQ ops listed = true ∨ Region.ready md ops listed = []) → ∀ w, Real C D s w → wpAny P md ops Q (fuel + 1) listed a w) ∧
    ∀ i ∈ Region.ready md ops listed, tailOp ops i = false → gOp P ops C D i (wpG P md ops C D Q fuel (listed.setIfInBounds i true)) a s
theorem wpAny_of_g (hS : Stable C D) (hT : TailOk md ops) : ∀ (fuel : Nat) (listed : Array Bool) (a : Act) (s : Ghost) (w : World), Down md ops listed → Real C D s w →
    wpG P md ops C D Q fuel listed a s → wpAny P md ops Q fuel listed a w
  | 0, _, _, _, _, _, hw, h => h.2 _ hw
  | fuel + 1, listed, _, _, _, hd, hw, h => by
    unfold wpG at h
    by_cases hE : allQ ops listed = true ∨ Region.ready md ops listed = []
    · exact h.1 hE _ hw
    · refine ⟨fun h0 => absurd (Or.inr h0) hE, fun i hi => ?_⟩
      have ht : tailOp ops i = false := by
        cases hti : tailOp ops i with
        | false => rfl
        | true => exact absurd (Or.inl (hT listed hd i hi hti)) hE
      exact wpOp_of_g hS hw (fun a' s' w' hw' => wpAny_of_g hS hT fuel _ a' s' w' (hd.step hi) hw') (h.2 i hi ht)
/-- One value, in every world of the class; or not wanted. -/
def YieldsL (P : Program) (ops : Array Oper) (C : World → Prop) (o : Oper) (v : Value) (a : Act) : Prop :=
  (Region.wanted o (yielded ops a.tmps) = true ∧ lateOp o.op = false ∧ ∀ w, C w → linAt P o a w v) ∨
  (Region.wanted o (yielded ops a.tmps) = false ∧ v = undef)
theorem YieldsL.gOp {i : Nat} {o : Oper} {v : Value} {a : Act} {s : Ghost} (hi : ops[i]? = some o) (hy : YieldsL P ops C o v a) {K : Act → Ghost → Prop} (h : K (a.put o.dst v) s) : gOp P ops C D i K a s := by
  unfold LinW.gOp
  simp only [hi]
  rcases hy with ⟨hw, hl, hv⟩ | ⟨hw, rfl⟩
  · simp only [hw, hl, if_true]; exact ⟨v, hv, h⟩
  · simp only [hw, Bool.false_eq_true, if_false]; exact h
theorem YieldsL.of_same {o : Oper} {v : Value} {a a' : Act} (hy : YieldsL P ops C o v a) (he : execOp a'.eval o = execOp a.eval o)
    (hw : Region.wanted o (yielded ops a'.tmps) = Region.wanted o (yielded ops a.tmps)) : YieldsL P ops C o v a' := by
  unfold YieldsL linAt at *
  rw [he, hw]
  exact hy
theorem gOp_put {j : Nat} {oi oj : Oper} {v : Value} (hj : ops[j]? = some oj) (hap : oi.apart ops oj = true)
    (hsi : ∀ cs b, oi.op ≠ .select cs b) (hsj : ∀ cs b, oj.op ≠ .select cs b) {K : Act → Ghost → Prop} {a : Act} {s : Ghost}
    (hy : YieldsL P ops C oi v a) (h : gOp P ops C D j K (a.put oi.dst v) s) :
    gOp P ops C D j (fun a' s' => YieldsL P ops C oi v a' ∧ K (a'.put oi.dst v) s') a s := by
  obtain ⟨h1, h2, h3⟩ := Oper.apart_spec hap
  have keep : ∀ (a : Act), YieldsL P ops C oi v a → ∀ u, YieldsL P ops C oi v (a.put oj.dst u) := fun a hy u =>
    hy.of_same (execOp_put oi hsi a oj.dst u h3) (wanted_put oi a oj.dst u h3)
  unfold gOp at *
  simp only [hj] at *
  rw [wanted_put oj a oi.dst v h1] at h
  split
  · rename_i hw
    simp only [hw, if_true] at h
    split
    · rename_i hl
      simp only [hl, if_true] at h
      obtain ⟨hu, hn⟩ := h
      refine ⟨fun w hw' => ?_, fun b => ⟨keep a hy _, by rw [← Act.put_comm a v _ h2]; exact hn b⟩⟩
      have := hu w hw'
      rwa [execOp_put oj hsj a oi.dst v h1] at this
    · rename_i hl
      simp only [hl] at h
      obtain ⟨u, hu, hn⟩ := h
      refine ⟨u, fun w hw' => ?_, keep a hy u, by rw [← Act.put_comm a v u h2]; exact hn⟩
      have := hu w hw'
      unfold linAt at *
      rwa [execOp_put oj hsj a oi.dst v h1] at this
  · rename_i hw
    simp only [hw] at h
    exact ⟨keep a hy _, by rw [← Act.put_comm a v undef h2]; exact h⟩
theorem wpG_first {i : Nat} {oi : Oper} {v : Value} (hi : ops[i]? = some oi) (hsel : ∀ (j : Nat) (o : Oper) cs b, ops[j]? = some o → o.op ≠ .select cs b) (hq : restI ops i = false) :
    ∀ (fuel : Nat) (listed : Array Bool) (a : Act) (s : Ghost),
      (∀ j oj, ops[j]? = some oj → j ≠ i → listed.getD j true = false → (∀ e ∈ oj.after, Region.binds md e = true → e.on ≠ i) → oi.apart ops oj = true) →
      i ∈ Region.ready md ops listed → YieldsL P ops C oi v a →
      wpG P md ops C D Q fuel (listed.setIfInBounds i true) (a.put oi.dst v) s → wpG P md ops C D Q (fuel + 1) listed a s := by
  intro fuel
  induction fuel with
  | zero =>
    intro listed a s _ hr hy H
    refine ⟨fun h => absurd h (not_end hi hq hr), fun j hj htj => ?_⟩
    by_cases hji : j = i
    · subst hji; exact hy.gOp hi H
    · have := H.1 j (ready_mono hj hji)
      rw [htj] at this
      cases this
  | succ fuel ih =>
    intro listed a s hfree hr hy H
    refine ⟨fun h => absurd h (not_end hi hq hr), fun j hj htj => ?_⟩
    by_cases hji : j = i
    · subst hji; exact hy.gOp hi H
    · have h1 := H.2 j (ready_mono hj hji) htj
      obtain ⟨hjun, oj, hoj, hall⟩ := mem_ready.1 hj
      have hnot := ready_not hr hall
      have h2 := gOp_put hoj (hfree j oj hoj hji hjun hnot) (fun cs b => hsel i oi cs b hi) (fun cs b => hsel j oj cs b hoj) hy h1
      have hfree' : ∀ k ok, ops[k]? = some ok → k ≠ i → (listed.setIfInBounds j true).getD k true = false →
          (∀ e ∈ ok.after, Region.binds md e = true → e.on ≠ i) → oi.apart ops ok = true := fun k ok hk hki hun hno => by
        refine hfree k ok hk hki ?_ hno
        by_cases hjk : j = k
        · subst hjk; exact hjun
        · rw [getD_set_ne true hjk] at hun; exact hun
      refine gOp_mono (fun a' s' h3 => ih (listed.setIfInBounds j true) a' s' hfree' (ready_mono hr (Ne.symm hji)) h3.1 ?_) h2
      rw [Array.setIfInBounds_comm _ _ hji]
      exact h3.2
/-! The late ones. -/
def LateAt (P : Program) (ops : Array Oper) (C : World → Prop) (D : Nat → Late) (o : Oper) (i : Nat) (a : Act) : Prop :=
  Region.wanted o (yielded ops a.tmps) = true ∧ ∀ w, C w → lateUpon P C D i w ((execOp a.eval o).run P w)
theorem upd_comm (s : Ghost) {i j : Nat} (h : i ≠ j) (b c : G) : upd (upd s i b) j c = upd (upd s j c) i b := by
  funext k
  unfold upd
  by_cases h1 : k = i
  · have h2 : k ≠ j := fun e => h (h1.symm.trans e)
    simp [h1, h]
  · by_cases h2 : k = j
    · subst h2; simp [h1]
    · simp [h1, h2]
theorem late_own {i : Nat} {oi : Oper} (hi : ops[i]? = some oi) (hl : lateOp oi.op = true) {a : Act} {s : Ghost} {K : Act → Ghost → Prop} (hy : LateAt P ops C D oi i a) (H : ∀ b, K (a.put oi.dst ((D i).val b)) (upd s i b)) : gOp P ops C D i K a s := by
  unfold gOp
  simp only [hi, hy.1, hl, if_true]
  exact ⟨hy.2, H⟩
theorem gOp_put_late {i j : Nat} {oi oj : Oper} (hj : ops[j]? = some oj) (hij : i ≠ j) (hap : oi.apart ops oj = true)
    (hsi : ∀ cs b, oi.op ≠ .select cs b) (hsj : ∀ cs b, oj.op ≠ .select cs b) (hlj : lateOp oj.op = true) {K : Act → Ghost → Prop} {a : Act} {s : Ghost}
    (hy : LateAt P ops C D oi i a) (h : ∀ b, gOp P ops C D j K (a.put oi.dst ((D i).val b)) (upd s i b)) :
    gOp P ops C D j (fun a' s' => LateAt P ops C D oi i a' ∧ ∀ b, K (a'.put oi.dst ((D i).val b)) (upd s' i b)) a s := by
  obtain ⟨h1, h2, h3⟩ := Oper.apart_spec hap
  have keep : ∀ (a : Act), LateAt P ops C D oi i a → ∀ u, LateAt P ops C D oi i (a.put oj.dst u) := fun a hy u => by
    unfold LateAt at *
    rw [execOp_put oi hsi a oj.dst u h3, wanted_put oi a oj.dst u h3]
    exact hy
  unfold gOp at *
  simp only [hj] at *
  have h' := fun b => by have := h b; rw [wanted_put oj a oi.dst _ h1] at this; exact this
  split
  · rename_i hw
    simp only [hw, hlj, if_true] at h' ⊢
    refine ⟨fun w hw' => ?_, fun c => ⟨keep a hy _, fun b => by rw [← Act.put_comm a _ _ h2, ← upd_comm s hij]; exact (h' b).2 c⟩⟩
    have := (h' (none, none, 0)).1 w hw'
    rwa [execOp_put oj hsj a oi.dst _ h1] at this
  · rename_i hw
    simp only [hw] at h'
    exact ⟨keep a hy _, fun b => by rw [← Act.put_comm a _ undef h2]; exact h' b⟩
theorem wpG_late {i : Nat} {oi : Oper} (hi : ops[i]? = some oi) (hsel : ∀ (j : Nat) (o : Oper) cs b, ops[j]? = some o → o.op ≠ .select cs b) (hq : restI ops i = false) (hl : lateOp oi.op = true) :
    ∀ (fuel : Nat) (listed : Array Bool) (a : Act) (s : Ghost),
      (∀ j oj, ops[j]? = some oj → j ≠ i → listed.getD j true = false → (∀ e ∈ oj.after, Region.binds md e = true → e.on ≠ i) → oi.apart ops oj = true) →
      (∀ j oj, ops[j]? = some oj → listed.getD j true = false → tailOp ops j = false → lateOp oj.op = true) →
      i ∈ Region.ready md ops listed → LateAt P ops C D oi i a →
      (∀ b, wpG P md ops C D Q fuel (listed.setIfInBounds i true) (a.put oi.dst ((D i).val b)) (upd s i b)) → wpG P md ops C D Q (fuel + 1) listed a s := by
  intro fuel
  induction fuel with
  | zero =>
    intro listed a s _ _ hr hy H
    refine ⟨fun h => absurd h (not_end hi hq hr), fun j hj htj => ?_⟩
    by_cases hji : j = i
    · subst hji; exact late_own hi hl hy H
    · have := (H (none, none, 0)).1 j (ready_mono hj hji)
      rw [htj] at this
      cases this
  | succ fuel ih =>
    intro listed a s hfree hlate hr hy H
    refine ⟨fun h => absurd h (not_end hi hq hr), fun j hj htj => ?_⟩
    by_cases hji : j = i
    · subst hji; exact late_own hi hl hy H
    · have H' := fun b => (H b).2 j (ready_mono hj hji) htj
      obtain ⟨hjun, oj, hoj, hall⟩ := mem_ready.1 hj
      have hnot := ready_not hr hall
      have h2 := gOp_put_late hoj (Ne.symm hji) (hfree j oj hoj hji hjun hnot) (fun cs b => hsel i oi cs b hi) (fun cs b => hsel j oj cs b hoj) (hlate j oj hoj hjun htj) hy H'
      have un : ∀ k, (listed.setIfInBounds j true).getD k true = false → listed.getD k true = false := fun k hun => by
        by_cases hjk : j = k
        · subst hjk; exact hjun
        · rw [getD_set_ne true hjk] at hun; exact hun
      refine gOp_mono (fun a' s' h3 => ih (listed.setIfInBounds j true) a' s' (fun k ok hk hki hun hno => hfree k ok hk hki (un k hun) hno) (fun k ok hk hun ht => hlate k ok hk (un k hun) ht) (ready_mono hr (Ne.symm hji)) h3.1 (fun b => ?_)) h2
      rw [Array.setIfInBounds_comm _ _ hji]
      exact h3.2 b
/-! The lexical walk. -/
def restOp (o : Op) : Bool := lateOp o || isStore o
def lexL (md : Region.Mode) (ops : Array Oper) : List Oper → Nat → Array Bool → Bool
  | [], _, _ => true
  | o :: l, k, listed => if restOp o.op then lexL md ops l (k + 1) listed
    else (Region.ready md ops listed).contains k && Region.free md ops listed k && lexL md ops l (k + 1) (listed.setIfInBounds k true)
def wpLex (P : Program) (ops : Array Oper) (C : World → Prop) (Fin : Nat → Array Bool → Act → Prop) : List Oper → Nat → Nat → Array Bool → Act → Prop
  | [], _, m, listed, a => Fin m listed a
  | o :: l, k, m, listed, a => if restOp o.op then wpLex P ops C Fin l (k + 1) m listed a
    else match m with
      | 0 => False
      | m + 1 => if looseOp o.op then False else if Region.wanted o (yielded ops a.tmps) = true then quietL P C o a (wpLex P ops C Fin l (k + 1) m (listed.setIfInBounds k true)) else wpLex P ops C Fin l (k + 1) m (listed.setIfInBounds k true) (a.put o.dst undef)
/-- What is asked at the end of the lexical walk. -/
def FinG (P : Program) (md : Region.Mode) (ops : Array Oper) (C : World → Prop) (Q : Exit → Act → World → Prop) (m : Nat) (listed : Array Bool) (a : Act) : Prop := ∃ D, Stable C D ∧ wpG P md ops C D Q m listed a (fun _ => none)
theorem fin_lex (hs : Region.noSelect ops = true) (hQ : ∀ c (a : Act) d v w, Q (.panic c) (a.put d v) w → Q (.panic c) a w) : ∀ (l : List Oper) (k m : Nat) (listed : Array Bool) (a : Act), (∀ j, l[j]? = ops[k + j]?) →
    lexL md ops l k listed = true → wpLex P ops C (FinG P md ops C Q) l k m listed a → FinG P md ops C Q m listed a
  | [], _, _, _, _, _, _, h => h
  | o :: l, k, m, listed, a, hl, hB, h => by
    have h0 : ops[k]? = some o := by simpa using (hl 0).symm
    have hl' : ∀ j, l[j]? = ops[k + 1 + j]? := fun j => by have := hl (j + 1); simpa [Nat.add_assoc, Nat.add_comm 1 j] using this
    unfold lexL at hB
    unfold wpLex at h
    by_cases hr : restOp o.op = true
    · rw [if_pos hr] at hB h
      exact fin_lex hs hQ l (k + 1) m listed a hl' hB h
    · rw [if_neg hr] at hB h
      simp only [Bool.and_eq_true] at hB
      obtain ⟨⟨hB1, hB2⟩, hB3⟩ := hB
      have hr1 : lateOp o.op = false ∧ isStore o.op = false := by unfold restOp at hr; simpa using hr
      have ht := (tailOp_of h0).trans hr1.2
      cases m with
      | zero => exact absurd h (fun h => h)
      | succ m =>
        simp only at h
        by_cases hlo : looseOp o.op = true
        · rw [if_pos hlo] at h; exact absurd h (fun h => h)
        · rw [if_neg hlo] at h
          have hlo : looseOp o.op = false := by simpa using hlo
          have hq : restI ops k = false := by unfold restI; rw [h0]; show (tailOp ops k || looseOp o.op) = false; rw [ht, hlo]; rfl
          split at h
          · rename_i hw
            obtain ⟨v, h1, h2⟩ := h
            obtain ⟨D, hS, hG⟩ := fin_lex hs hQ l (k + 1) m _ _ hl' hB3 h2
            exact ⟨D, hS, wpG_first h0 (Region.noSelect_spec hs) hq m listed a _ (Region.free_spec h0 hB2) (by simpa using hB1) (.inl ⟨hw, hr1.1, h1⟩) hG⟩
          · rename_i hw
            obtain ⟨D, hS, hG⟩ := fin_lex hs hQ l (k + 1) m _ _ hl' hB3 h
            exact ⟨D, hS, wpG_first h0 (Region.noSelect_spec hs) hq m listed a _ (Region.free_spec h0 hB2) (by simpa using hB1) (.inr ⟨by simpa using hw, rfl⟩) hG⟩
def startB (md : Region.Mode) (l : List Oper) : Bool := Region.noSelect l.toArray && tailB md l.toArray && lexL md l.toArray l 0 (Array.replicate l.length false)
/-- The beginning. -/
theorem wp_region_lin {id : Nat} {a : Act} {w : World} {l : List Oper} (hm : P.follows .mixedOrders = true) (hQ : ∀ c (a : Act) d v w, Q (.panic c) (a.put d v) w → Q (.panic c) a w) (hB : startB .any l = true) (C : World → Prop) (hC : C w.drew)
    (h : wpLex P l.toArray C (FinG P .any l.toArray C Q) l 0 l.length (Array.replicate l.length false) a) : (Code.region id l.toArray true).wp P Q a w := by
  unfold startB at hB
  simp only [Bool.and_eq_true] at hB
  obtain ⟨⟨hs, ht⟩, hl⟩ := hB
  obtain ⟨D, hS, hG⟩ := fin_lex hs hQ l 0 l.length _ a (by simp) hl h
  refine wp_region_any hm ?_
  have hR : Real C D (fun _ => none) w.drew := ⟨hC, fun i b h => (by cases h), fun i j x b c h => (by cases h)⟩
  have := wpAny_of_g hS (tailB_ok ht) _ _ _ _ w.drew (fun k o ho hk => by simp only [Array.getD_eq_getD_getElem?, Array.getElem?_replicate] at hk; split at hk <;> simp at hk) hR hG
  simpa using this
/-! Steps. -/
variable {Fin : Nat → Array Bool → Act → Prop} {o : Oper} {l : List Oper} {k m : Nat} {listed : Array Bool} {a : Act}
theorem lex_rest (h : restOp o.op = true) (hn : wpLex P ops C Fin l (k + 1) m listed a) : wpLex P ops C Fin (o :: l) k m listed a := by
  unfold wpLex; rw [if_pos h]; exact hn
theorem lex_skip (h : restOp o.op = false) (hlo : looseOp o.op = false) (hw : Region.wanted o (yielded ops a.tmps) = false) (hn : wpLex P ops C Fin l (k + 1) m (listed.setIfInBounds k true) (a.put o.dst undef)) : wpLex P ops C Fin (o :: l) k (m + 1) listed a := by
  unfold wpLex; rw [if_neg (by rw [h]; decide)]; simp only; rw [if_neg (by rw [hlo]; decide), if_neg (by rw [hw]; decide)]; exact hn
theorem lex_take (h : restOp o.op = false) (hlo : looseOp o.op = false) (hw : Region.wanted o (yielded ops a.tmps) = true) (v : Value) (hv : ∀ w, C w → linUpon P w v ((execOp a.eval o).run P w)) (hn : wpLex P ops C Fin l (k + 1) m (listed.setIfInBounds k true) (a.put o.dst v)) : wpLex P ops C Fin (o :: l) k (m + 1) listed a := by
  unfold wpLex; rw [if_neg (by rw [h]; decide)]; simp only; rw [if_neg (by rw [hlo]; decide), if_pos hw]; exact ⟨v, hv, hn⟩
theorem lex_val (h : restOp o.op = false) (hlo : looseOp o.op = false) (hw : Region.wanted o (yielded ops a.tmps) = true) (hv : ∃ v, (∀ w, C w → linUpon P w v ((execOp a.eval o).run P w)) ∧ wpLex P ops C Fin l (k + 1) m (listed.setIfInBounds k true) (a.put o.dst v)) : wpLex P ops C Fin (o :: l) k (m + 1) listed a :=
  let ⟨v, h1, h2⟩ := hv
  lex_take h hlo hw v h1 h2
theorem lex_end (h : Fin m listed a) : wpLex P ops C Fin [] k m listed a := h
/-! Ends. -/
/-- No other operation than these, and than those of the tail, may come up. -/
def only (md : Region.Mode) (ops : Array Oper) (listed : Array Bool) (l : List Nat) : Bool := (Region.ready md ops listed).all fun i => tailOp ops i || l.contains i
theorem only_ok {l : List Nat} (h : only md ops listed l = true) {i : Nat} (hi : i ∈ Region.ready md ops listed) (ht : tailOp ops i = false) : i ∈ l := by
  have h1 := List.all_eq_true.1 h i hi
  rw [ht] at h1
  simpa using h1
theorem g_end {D : Nat → Late} {s : Ghost} (ho : only md ops listed [] = true) (h : ∀ w, Real C D s w → wpAny P md ops Q m listed a w) : wpG P md ops C D Q m listed a s := by
  cases m with
  | zero => exact ⟨fun i hi => by cases ht : tailOp ops i with | true => rfl | false => exact absurd (only_ok ho hi ht) (by simp), h⟩
  | succ m => exact ⟨fun _ => h, fun i hi ht => absurd (only_ok ho hi ht) (by simp)⟩
def onlyLate (ops : Array Oper) (listed : Array Bool) : Bool := (List.range ops.size).all fun j => listed.getD j true || tailOp ops j || match ops[j]? with | some o => lateOp o.op | none => true
theorem onlyLate_ok (h : onlyLate ops listed = true) : ∀ j oj, ops[j]? = some oj → listed.getD j true = false → tailOp ops j = false → lateOp oj.op = true := fun j oj hj hu ht => by
  have h1 := List.all_eq_true.1 h j (List.mem_range.2 (Array.getElem?_eq_some_iff.1 hj).1)
  rw [hj] at h1
  simp only [Bool.or_eq_true] at h1
  rcases h1 with (h1 | h1) | h1
  · rw [hu] at h1; cases h1
  · rw [ht] at h1; cases h1
  · exact h1
/-- All that is asked of a late operation as Bools. -/
def lateB (md : Region.Mode) (ops : Array Oper) (listed : Array Bool) (i : Nat) : Bool :=
  Region.noSelect ops && !restI ops i && Region.free md ops listed i && onlyLate ops listed && (Region.ready md ops listed).contains i && (match ops[i]? with | some o => lateOp o.op | none => false)
theorem late_step {D : Nat → Late} {i : Nat} {oi : Oper} {s : Ghost} (hi : ops[i]? = some oi) (hB : lateB md ops listed i = true) (hy : LateAt P ops C D oi i a)
    (h : ∀ b, wpG P md ops C D Q m (listed.setIfInBounds i true) (a.put oi.dst ((D i).val b)) (upd s i b)) : wpG P md ops C D Q (m + 1) listed a s := by
  unfold lateB at hB
  rw [hi] at hB
  simp only [Bool.and_eq_true, Bool.not_eq_true'] at hB
  obtain ⟨⟨⟨⟨⟨b1, b3⟩, b4⟩, b5⟩, b6⟩, b7⟩ := hB
  exact wpG_late hi (Region.noSelect_spec b1) b3 b7 m listed a s (Region.free_spec hi b4) (onlyLate_ok b5) (by simpa using b6) hy h
theorem lateAt_put {D : Nat → Late} {i : Nat} {oi oj : Oper} {u : Value} (hs : Region.noSelect ops = true) (hi : ops[i]? = some oi) (hap : oj.apart ops oi = true) (h : LateAt P ops C D oi i a) : LateAt P ops C D oi i (a.put oj.dst u) := by
  obtain ⟨p1, p2, p3⟩ := Oper.apart_spec hap
  unfold LateAt at *
  rw [execOp_put oi (fun cs b => Region.noSelect_spec hs i oi cs b hi) a oj.dst u p1, wanted_put oi a oj.dst u p1]
  exact h
def callD (mv : Option Addr × Nat → Value) (R : Option Addr × Nat → World → Prop) : Late := { val := fun b => mv b.2, eff := fun b w => b.1 = none ∧ R b.2 w }
def boxD (N : Nat) (ob : Obj) : Late := { val := fun b => Go.Lin.ptrOf (b.1.getD 0), eff := fun b w => ∃ x, b.1 = some x ∧ N ≤ x ∧ w.heap[x]? = some ob }
/-- A call that yields a list of its own. -/
def callUpon (P : Program) (w : World) (mv : Option Addr × Nat → Value) (R : Option Addr × Nat → World → Prop) : Result Next → Prop
  | .ok (.enter f args) w' => w' = w ∧ Calls P f args w (fun e w'' => (∃ g, e = .returned (mv g) ∧ R g w'') ∧ Below w.heap.size w w'')
  | _ => False
theorem call_ret {w : World} {f : FuncId} {args : Array Value} {mv : Option Addr × Nat → Value} {R : Option Addr × Nat → World → Prop} (h : Calls P f args w (fun e w'' => (∃ g, e = .returned (mv g) ∧ R g w'') ∧ Below w.heap.size w w'')) : callUpon P w mv R (.ok (.enter f args) w) := ⟨rfl, h⟩
def dAll (i1 i2 j1 : Nat) (N : Nat) (m1 m2 : Option Addr × Nat → Value) (R1 R2 : Option Addr × Nat → World → Prop) (ob oc : Obj) : Nat → Late := fun k => if k = i1 then callD m1 R1 else if k = i2 then callD m2 R2 else if k = j1 then boxD N ob else boxD N oc
theorem dAll_e {i1 i2 j1 N : Nat} {m1 m2 : Option Addr × Nat → Value} {R1 R2 : Option Addr × Nat → World → Prop} {ob oc : Obj} (h1 : ∀ g w w', R1 g w → Below w.heap.size w w' → R1 g w') (h2 : ∀ g w w', R2 g w → Below w.heap.size w w' → R2 g w') (i : Nat) (b : G) (w w' : World)
    (h : (dAll i1 i2 j1 N m1 m2 R1 R2 ob oc i).eff b w) (hb : Below w.heap.size w w') : (dAll i1 i2 j1 N m1 m2 R1 R2 ob oc i).eff b w' := by
  have hB : ∀ o, (boxD N o).eff b w → (boxD N o).eff b w' := fun o ⟨x, hx, hn, ho⟩ => ⟨x, hx, hn, by rw [hb.block x (Go.Lin.heap_lt ho)]; exact ho⟩
  unfold dAll at *
  by_cases c1 : i = i1
  · rw [if_pos c1] at *; exact ⟨h.1, h1 _ _ _ h.2 hb⟩
  · rw [if_neg c1] at *
    by_cases c2 : i = i2
    · rw [if_pos c2] at *; exact ⟨h.1, h2 _ _ _ h.2 hb⟩
    · rw [if_neg c2] at *
      by_cases c3 : i = j1
      · rw [if_pos c3] at *; exact hB _ h
      · rw [if_neg c3] at *; exact hB _ h
theorem dAll_n {i1 i2 j1 N : Nat} {m1 m2 : Option Addr × Nat → Value} {R1 R2 : Option Addr × Nat → World → Prop} {ob oc : Obj} (i : Nat) (b : G) (x : Nat) (w : World) (h : (dAll i1 i2 j1 N m1 m2 R1 R2 ob oc i).eff b w) (hx : b.1 = some x) : x < w.heap.size := by
  have hB : ∀ o, (boxD N o).eff b w → x < w.heap.size := fun o ⟨y, hy, hn, ho⟩ => by rw [hx] at hy; cases hy; exact Go.Lin.heap_lt ho
  unfold dAll at h
  by_cases c1 : i = i1
  · rw [if_pos c1] at h; rw [h.1] at hx; cases hx
  · rw [if_neg c1] at h
    by_cases c2 : i = i2
    · rw [if_pos c2] at h; rw [h.1] at hx; cases hx
    · rw [if_neg c2] at h
      by_cases c3 : i = j1
      · rw [if_pos c3] at h; exact hB _ h
      · rw [if_neg c3] at h; exact hB _ h
/-- Two calls and two boxes. -/
theorem fin22 (N : Nat) (hC : ∀ w w', C w → Below w.heap.size w w' → C w') (hN : ∀ w, C w → N ≤ w.heap.size) (i1 i2 j1 j2 : Nat) (o1 o2 p1 p2 : Oper) (hi1 : ops[i1]? = some o1) (hi2 : ops[i2]? = some o2) (hj1 : ops[j1]? = some p1) (hj2 : ops[j2]? = some p2)
    (n12 : i1 ≠ i2) (n13 : i1 ≠ j1) (n14 : i1 ≠ j2) (n23 : i2 ≠ j1) (n24 : i2 ≠ j2) (n34 : j1 ≠ j2) (hs : Region.noSelect ops = true)
    (hw1 : Region.wanted o1 (yielded ops a.tmps) = true) (hw2 : Region.wanted o2 (yielded ops a.tmps) = true) (hw3 : Region.wanted p1 (yielded ops a.tmps) = true) (hw4 : Region.wanted p2 (yielded ops a.tmps) = true)
    (a12 : o1.apart ops o2 = true) (a13 : o1.apart ops p1 = true) (a14 : o1.apart ops p2 = true) (a23 : o2.apart ops p1 = true) (a24 : o2.apart ops p2 = true) (a34 : p1.apart ops p2 = true)
    (hB1 : lateB md ops listed i1 = true) (hB2 : lateB md ops (listed.setIfInBounds i1 true) i2 = true) (hB3 : lateB md ops ((listed.setIfInBounds i1 true).setIfInBounds i2 true) j1 = true) (hB4 : lateB md ops (((listed.setIfInBounds i1 true).setIfInBounds i2 true).setIfInBounds j1 true) j2 = true)
    (hr : only md ops ((((listed.setIfInBounds i1 true).setIfInBounds i2 true).setIfInBounds j1 true).setIfInBounds j2 true) [] = true)
    (m1 m2 : Option Addr × Nat → Value) (R1 R2 : Option Addr × Nat → World → Prop) (h1 : ∀ g w w', R1 g w → Below w.heap.size w w' → R1 g w') (h2 : ∀ g w w', R2 g w → Below w.heap.size w w' → R2 g w')
    (hc1 : ∀ w, C w → callUpon P w m1 R1 ((execOp a.eval o1).run P w)) (hc2 : ∀ w, C w → callUpon P w m2 R2 ((execOp a.eval o2).run P w))
    (ob oc : Obj) (hb1 : ∀ w, (execOp a.eval p1).run P w = .ok (.value (Go.Lin.ptrOf w.heap.size)) (w.alloc ob)) (hb2 : ∀ w, (execOp a.eval p2).run P w = .ok (.value (Go.Lin.ptrOf w.heap.size)) (w.alloc oc))
    (h : ∀ g1 g2 b c w, C w → R1 g1 w → R2 g2 w → N ≤ b → N ≤ c → b ≠ c → w.heap[b]? = some ob → w.heap[c]? = some oc → wpAny P md ops Q m ((((listed.setIfInBounds i1 true).setIfInBounds i2 true).setIfInBounds j1 true).setIfInBounds j2 true) ((((a.put o1.dst (m1 g1)).put o2.dst (m2 g2)).put p1.dst (Go.Lin.ptrOf b)).put p2.dst (Go.Lin.ptrOf c)) w) :
    FinG P md ops C Q (m + 1 + 1 + 1 + 1) listed a := by
  have hD1 : dAll i1 i2 j1 N m1 m2 R1 R2 ob oc i1 = callD m1 R1 := by unfold dAll; rw [if_pos rfl]
  have hD2 : dAll i1 i2 j1 N m1 m2 R1 R2 ob oc i2 = callD m2 R2 := by unfold dAll; rw [if_neg (Ne.symm n12), if_pos rfl]
  have hD3 : dAll i1 i2 j1 N m1 m2 R1 R2 ob oc j1 = boxD N ob := by unfold dAll; rw [if_neg (Ne.symm n13), if_neg (Ne.symm n23), if_pos rfl]
  have hD4 : dAll i1 i2 j1 N m1 m2 R1 R2 ob oc j2 = boxD N oc := by unfold dAll; rw [if_neg (Ne.symm n14), if_neg (Ne.symm n24), if_neg (Ne.symm n34)]
  have hE := @dAll_e i1 i2 j1 N m1 m2 R1 R2 ob oc h1 h2
  have lc : ∀ (i : Nat) (o : Oper) (mv : Option Addr × Nat → Value) (R : Option Addr × Nat → World → Prop), dAll i1 i2 j1 N m1 m2 R1 R2 ob oc i = callD mv R → Region.wanted o (yielded ops a.tmps) = true → (∀ w, C w → callUpon P w mv R ((execOp a.eval o).run P w)) → LateAt P ops C (dAll i1 i2 j1 N m1 m2 R1 R2 ob oc) o i a := fun i o mv R hD hw hc => ⟨hw, fun w hcw => by
    have h3 := hc w hcw
    generalize (execOp a.eval o).run P w = r at *
    cases r with
    | ok n w' =>
      cases n <;> simp only [callUpon] at h3 <;> simp only [lateUpon]
      refine ⟨h3.1, h3.2.mono fun e w'' ⟨⟨g, he, hg⟩, hb⟩ => ⟨(none, g), by rw [hD]; exact he, hC _ _ hcw hb, by rw [hD]; exact ⟨rfl, hg⟩, fun j c _ hj => hE j c _ _ hj hb, fun x hx => by cases hx⟩⟩
    | halt x w' => simp only [callUpon] at h3⟩
  have lb : ∀ (i : Nat) (o : Oper) (obj : Obj), dAll i1 i2 j1 N m1 m2 R1 R2 ob oc i = boxD N obj → Region.wanted o (yielded ops a.tmps) = true → (∀ w, (execOp a.eval o).run P w = .ok (.value (Go.Lin.ptrOf w.heap.size)) (w.alloc obj)) → LateAt P ops C (dAll i1 i2 j1 N m1 m2 R1 R2 ob oc) o i a := fun i o obj hD hw hrun => ⟨hw, fun w hcw => by
    rw [hrun w]
    have hb : Below w.heap.size w (w.alloc obj) := (Below.refl _ w).alloc (Nat.le_refl _) _
    refine ⟨(some w.heap.size, none, 0), by rw [hD]; rfl, hC _ _ hcw hb, ?_, fun j c _ hj => hE j c _ _ hj hb, fun x hx => by cases hx; exact Nat.le_refl _⟩
    rw [hD]
    refine ⟨w.heap.size, rfl, hN w hcw, ?_⟩
    show (w.heap.push _)[w.heap.size]? = _
    simp⟩
  refine ⟨dAll i1 i2 j1 N m1 m2 R1 R2 ob oc, ⟨hC, hE, dAll_n⟩, ?_⟩
  refine late_step hi1 hB1 (lc i1 o1 m1 R1 hD1 hw1 hc1) fun b1 => ?_
  refine late_step hi2 hB2 (lateAt_put hs hi2 a12 (lc i2 o2 m2 R2 hD2 hw2 hc2)) fun b2 => ?_
  refine late_step hj1 hB3 (lateAt_put hs hj1 a23 (lateAt_put hs hj1 a13 (lb j1 p1 ob hD3 hw3 hb1))) fun b3 => ?_
  refine late_step hj2 hB4 (lateAt_put hs hj2 a34 (lateAt_put hs hj2 a24 (lateAt_put hs hj2 a14 (lb j2 p2 oc hD4 hw4 hb2)))) fun b4 => ?_
  refine g_end hr fun w hR => ?_
  have e1 := hR.2.1 i1 b1 (by simp [upd, n12, n13, n14])
  have e2 := hR.2.1 i2 b2 (by simp [upd, n23, n24])
  have e3 := hR.2.1 j1 b3 (by simp [upd, n34])
  have e4 := hR.2.1 j2 b4 (by simp [upd])
  rw [hD1] at e1
  rw [hD2] at e2
  rw [hD3] at e3
  rw [hD4] at e4
  obtain ⟨x, hx, hxn, hxo⟩ := e3
  obtain ⟨y, hy, hyn, hyo⟩ := e4
  have hne : x ≠ y := fun e => n34 (hR.2.2 j1 j2 x b3 b4 (by simp [upd, n34]) (by simp [upd]) hx (by rw [e]; exact hy))
  have := h b1.2 b2.2 x y w hR.1 e1.2 e2.2 hxn hyn hne hxo hyo
  rw [hD1, hD2, hD3, hD4]
  show wpAny P md ops Q m _ ((((a.put o1.dst (m1 b1.2)).put o2.dst (m2 b2.2)).put p1.dst (Go.Lin.ptrOf (b3.1.getD 0))).put p2.dst (Go.Lin.ptrOf (b4.1.getD 0))) w
  rw [hx, hy]
  exact this
end
end Go.LinW
namespace Go.LinW
open Go.RowKit Go.Lin
variable {P : Program} {ops : Array Oper} {C : World → Prop} {Fin : Nat → Array Bool → Act → Prop} {o : Oper} {l : List Oper} {k m : Nat} {listed : Array Bool} {a : Act}
theorem bl_rest (h : restOp o.op = true) (hn : Blk (wpLex P ops C Fin l (k + 1) m listed a)) : Blk (wpLex P ops C Fin (o :: l) k m listed a) := ⟨lex_rest h hn.out⟩
theorem bl_skip (h : restOp o.op = false) (hlo : looseOp o.op = false) (hw : Region.wanted o (yielded ops a.tmps) = false) (hn : Blk (wpLex P ops C Fin l (k + 1) m (listed.setIfInBounds k true) (a.put o.dst undef))) : Blk (wpLex P ops C Fin (o :: l) k (m + 1) listed a) := ⟨lex_skip h hlo hw hn.out⟩
theorem bl_val (h : restOp o.op = false) (hlo : looseOp o.op = false) (hw : Region.wanted o (yielded ops a.tmps) = true) (hv : ∃ v, (∀ w, C w → linUpon P w v ((execOp a.eval o).run P w)) ∧ Blk (wpLex P ops C Fin l (k + 1) m (listed.setIfInBounds k true) (a.put o.dst v))) : Blk (wpLex P ops C Fin (o :: l) k (m + 1) listed a) :=
  let ⟨v, h1, h2⟩ := hv
  ⟨lex_take h hlo hw v h1 h2.out⟩
theorem bl_end (h : Fin m listed a) : Blk (wpLex P ops C Fin [] k m listed a) := ⟨lex_end h⟩
end Go.LinW
namespace Go.Proofs.YtkpjeceofcfnkaaGreatDoor
end Go.Proofs.YtkpjeceofcfnkaaGreatDoor
namespace Go.Proofs.YtkpjeceofcfnkaaGreatDoor
open Go.RowKit Go.Hb
def GivesL (s : Bool) (L n : Nat) (E : Int) (e : Ending) (w : World) : Prop := ∃ u : Option Addr × Nat, e = .returned (.agg #[.bool s, .slice u.1 L u.2, .int .i64 E]) ∧ RN w (.slice u.1 L u.2) n
theorem GivesW.long {s : Bool} {n L : Nat} {E : Int} {e : Ending} {w : World} (h : GivesW s n E e w) (hL : dl n = L) : GivesL s L n E e w := by
  obtain ⟨u, h1, h2⟩ := h
  obtain ⟨q, c, hv, _, _⟩ := id h2
  rw [hL] at hv
  subst hv
  exact ⟨(q, c), h1, h2⟩
theorem RN.put {w : World} {v y : Value} {n : Nat} {a : Addr} (h : RN w v n) (hc : ∀ k : Int, w.cell? a ≠ some (.int .u32 k)) : RN (w.setCell a y) v n := by
  obtain ⟨q, cap, rfl, hcap, h⟩ := h
  refine ⟨q, cap, rfl, hcap, ?_⟩
  rcases h with h | ⟨b, off, rfl, h⟩
  · exact Or.inl h
  · refine Or.inr ⟨b, off, rfl, fun i hi => ?_⟩
    have hi' := h i hi
    have hne : a ≠ ⟨b, off + i, none⟩ := fun e => by rw [e] at hc; exact hc _ hi'
    have hk : (w.setCell a y).cell? ⟨b, off + i, none⟩ = w.cell? ⟨b, off + i, none⟩ := by first | exact World.cell?_setCell_other _ _ hne | exact World.cell?_setCell_other _ _ _ hne | exact World.cell?_setCell_other _ _ _ _ hne | exact World.cell?_setCell_other _ hne
    rw [hk]
    exact hi'
theorem RN.put1 {w W : World} {v x y : Value} {n : Nat} {a : Addr} (h : RN w v n) (hw : W = w.setCell a y) (hc : w.cell? a = some x) (hx : ∀ k : Int, x ≠ .int .u32 k) : RN W v n := hw ▸ h.set hc hx
theorem ref_Nine_l (f h l : Int) [hU : U8 f] [U64 h] [U64 l] (w : World) [hLay : Laid w] (hf : f < 4) (s : Bool) (n L : Nat) (E : Int) (hs : Hid (sgnF f (cat h l) = s)) (hn : Hid (mR f (cat h l) = n)) (hE : Hid (eR f (cat h l) = E)) (hL : dl n = L) :
    Calls Tryz.prog 24 #[.int .u8 f, .agg #[.int .u64 (h), .int .u64 (l)]] w fun en w' => GivesL s L n E en w' ∧ Below w.heap.size w w' :=
  (ref_Nine f h l w hf).mono fun en w' ⟨h1, hb⟩ => by
    rw [hs.out, hE.out, hn.out] at h1
    exact ⟨h1.long hL, hb⟩
end Go.Proofs.YtkpjeceofcfnkaaGreatDoor
