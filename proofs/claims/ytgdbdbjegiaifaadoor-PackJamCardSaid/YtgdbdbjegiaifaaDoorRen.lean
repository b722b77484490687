/- Names for the world at hand; draws. No condition. -/
import Derived.Test.YtgdbdbjegiaifaaDoorFormat
set_option linter.unusedSimpArgs false
set_option linter.unusedVariables false
namespace Go.Proofs.YtgdbdbjegiaifaaDoor
open Go.RowKit Go.Hb
theorem goal_rename {α : Type} {Q : α → World → Prop} {a : α} {w : World} (h : ∀ W, W = w → Q a W) : Q a w := h w rfl
theorem drewN_below {B : Nat} {a w : World} (h : Below B a w) (n : Nat) : Below B a (w.drewN n) := h.trans ⟨rfl, rfl, rfl, Nat.le_refl _, fun _ _ => rfl⟩
theorem drewN_size (w : World) (n : Nat) : (w.drewN n).heap.size = w.heap.size := rfl
end Go.Proofs.YtgdbdbjegiaifaaDoor
