/- Lists in worlds that are written to; a reference's Value by the parts of its list. -/
import Derived.Test.YthbpbbbngablpaaDoorRef8
import Derived.Test.YthbpbbbngablpaaDoorLinW
set_option linter.unusedSimpArgs false
set_option linter.unusedVariables false
namespace Go.Proofs.YthbpbbbngablpaaDoor
open Go.RowKit Go.Hb
def GivesL (s : Bool) (L n : Nat) (E : Int) (e : Ending) (w : World) : Prop := ∃ u : Option Addr × Nat, e = .returned (.agg #[.bool s, .slice u.1 L u.2, .int .i64 E]) ∧ RN w (.slice u.1 L u.2) n
theorem GivesW.long {s : Bool} {n L : Nat} {E : Int} {e : Ending} {w : World} (h : GivesW s n E e w) (hL : dl n = L) : GivesL s L n E e w := by
  obtain ⟨u, h1, h2⟩ := h
  obtain ⟨q, c, hv, _, _⟩ := id h2
  rw [hL] at hv
  subst hv
  exact ⟨(q, c), h1, h2⟩
theorem RN.put {w : World} {v y : Value} {n : Nat} {a : Addr} (h : RN w v n) (hc : ∀ k : Int, w.cell? a ≠ some (.int .u32 k)) : RN (w.setCell a y) v n := by
  obtain ⟨q, cap, rfl, hcap, h⟩ := h
  refine ⟨q, cap, rfl, hcap, ?_⟩
  rcases h with h | ⟨b, off, rfl, h⟩
  · exact Or.inl h
  · refine Or.inr ⟨b, off, rfl, fun i hi => ?_⟩
    have hi' := h i hi
    have hne : a ≠ ⟨b, off + i, none⟩ := fun e => by rw [e] at hc; exact hc _ hi'
    have hk : (w.setCell a y).cell? ⟨b, off + i, none⟩ = w.cell? ⟨b, off + i, none⟩ := by first | exact World.cell?_setCell_other _ _ hne | exact World.cell?_setCell_other _ _ _ hne | exact World.cell?_setCell_other _ _ _ _ hne | exact World.cell?_setCell_other _ hne
    rw [hk]
    exact hi'
theorem RN.put1 {w W : World} {v x y : Value} {n : Nat} {a : Addr} (h : RN w v n) (hw : W = w.setCell a y) (hc : w.cell? a = some x) (hx : ∀ k : Int, x ≠ .int .u32 k) : RN W v n := hw ▸ h.set hc hx
theorem ref_Nine_l (f h l : Int) [hU : U8 f] [U64 h] [U64 l] (w : World) [hLay : Laid w] (hf : f < 4) (s : Bool) (n L : Nat) (E : Int) (hs : Hid (sgnF f (cat h l) = s)) (hn : Hid (mR f (cat h l) = n)) (hE : Hid (eR f (cat h l) = E)) (hL : dl n = L) :
    Calls Tryd.prog 49 #[.int .u8 f, .agg #[.int .u64 (h), .int .u64 (l)]] w fun en w' => GivesL s L n E en w' ∧ Below w.heap.size w w' :=
  (ref_Nine f h l w hf).mono fun en w' ⟨h1, hb⟩ => by
    rw [hs.out, hE.out, hn.out] at h1
    exact ⟨h1.long hL, hb⟩
end Go.Proofs.YthbpbbbngablpaaDoor
