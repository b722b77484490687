/- TointTurn: the walks joined by the plain law. -/
import Derived.Test.YtojcelokljghlaaDoorLaw26t
import Derived.Test.YtojcelokljghlaaDoorLaw26w
import Derived.Test.YtojcelokljghlaaDoorLaw26v
set_option linter.unusedSimpArgs false
set_option linter.unusedVariables false
namespace Go.Proofs.YtojcelokljghlaaDoor
open Go.RowKit Go.Hb
theorem walk_TointTurn (f : Int) (wd : Bool) (m h l : Int) [hU : U8 f] [hM : U8 m] [U64 h] [U64 l] (w : World) [hLay : Laid w] [hLE : LaidE w] :
    Calls Tryd.prog 6 #[.int .u8 f, .bool wd, .int .u8 m, .agg #[.int .u64 (h), .int .u64 (l)]] w fun en w' => en = .returned (.bool true) ∧ Below w.heap.size w w' := by
  have ht : cat (hi (turnF f (cat h l))) (lo (turnF f (cat h l))) = turnF f (cat h l) := cat_small _ (makeF_lt _ _ _ _ hU.ge)
  have T : ∀ k, (k = 0 ∨ k = 2) → TurnI (18446744073709551616 - leastK k) (intV f k m (cat h l)) (intF f k m (cat h l)) (intV f k (mirS m) (cat (hi (turnF f (cat h l))) (lo (turnF f (cat h l))))) (intF f k (mirS m) (cat (hi (turnF f (cat h l))) (lo (turnF f (cat h l))))) := fun k hk => by
    rw [ht]; exact turn_int f k m (cat h l) hU.ge hk
  clear ht
  cases wd
  · have Q := T 0 (Or.inl rfl)
    have e0 : (18446744073709551616 - leastK 0 : Int) = 18446744071562067968 := by decide
    rw [e0] at Q
    rcases Q with ⟨q1, q2⟩ | ⟨q1, q2, q3, q4 | q4⟩ | ⟨q1, q2, q3 | q3⟩ | ⟨q1, q2 | q2, q3⟩
    · exact tt_false_inv f m h l _ _ _ _ w (Lib.hid rfl) (Lib.hid q1) (Lib.hid rfl) (Lib.hid rfl) (Lib.hid rfl) (Lib.hid q2)
    · exact tt_false_y0 f m h l _ _ _ w (by simpa using q3) (Lib.hid rfl) (Lib.hid q1) (Lib.hid rfl) (Lib.hid rfl) (Lib.hid q2) (Lib.hid q4)
    · exact tt_false_y16 f m h l _ _ _ w (by simpa using q3) (Lib.hid rfl) (Lib.hid q1) (Lib.hid rfl) (Lib.hid rfl) (Lib.hid q2) (Lib.hid q4)
    · exact tt_false_x0 f m h l _ _ _ w (Lib.hid q2) (Lib.hid q3) (Lib.hid rfl) (Lib.hid rfl) (Lib.hid rfl) (Lib.hid q1)
    · exact tt_false_x16 f m h l _ _ _ w (Lib.hid q2) (Lib.hid q3) (Lib.hid rfl) (Lib.hid rfl) (Lib.hid rfl) (Lib.hid q1)
    · exact tt_false_ok0 f m h l _ _ _ _ w q3 (Lib.hid rfl) (Lib.hid q2) (Lib.hid rfl) (Lib.hid rfl) (Lib.hid rfl) (Lib.hid (q1.symm.trans q2))
    · exact tt_false_ok16 f m h l _ _ _ _ w q3 (Lib.hid rfl) (Lib.hid q2) (Lib.hid rfl) (Lib.hid rfl) (Lib.hid rfl) (Lib.hid (q1.symm.trans q2))
  · have Q := T 2 (Or.inr rfl)
    have e0 : (18446744073709551616 - leastK 2 : Int) = 9223372036854775808 := by decide
    rw [e0] at Q
    rcases Q with ⟨q1, q2⟩ | ⟨q1, q2, q3, q4 | q4⟩ | ⟨q1, q2, q3 | q3⟩ | ⟨q1, q2 | q2, q3⟩
    · exact tt_true_inv f m h l _ _ _ _ w (Lib.hid rfl) (Lib.hid q1) (Lib.hid rfl) (Lib.hid rfl) (Lib.hid rfl) (Lib.hid q2)
    · exact tt_true_y0 f m h l _ _ _ w (by simpa using q3) (Lib.hid rfl) (Lib.hid q1) (Lib.hid rfl) (Lib.hid rfl) (Lib.hid q2) (Lib.hid q4)
    · exact tt_true_y16 f m h l _ _ _ w (by simpa using q3) (Lib.hid rfl) (Lib.hid q1) (Lib.hid rfl) (Lib.hid rfl) (Lib.hid q2) (Lib.hid q4)
    · exact tt_true_x0 f m h l _ _ _ w (Lib.hid q2) (Lib.hid q3) (Lib.hid rfl) (Lib.hid rfl) (Lib.hid rfl) (Lib.hid q1)
    · exact tt_true_x16 f m h l _ _ _ w (Lib.hid q2) (Lib.hid q3) (Lib.hid rfl) (Lib.hid rfl) (Lib.hid rfl) (Lib.hid q1)
    · exact tt_true_ok0 f m h l _ _ _ _ w q3 (Lib.hid rfl) (Lib.hid q2) (Lib.hid rfl) (Lib.hid rfl) (Lib.hid rfl) (Lib.hid (q1.symm.trans q2))
    · exact tt_true_ok16 f m h l _ _ _ _ w q3 (Lib.hid rfl) (Lib.hid q2) (Lib.hid rfl) (Lib.hid rfl) (Lib.hid rfl) (Lib.hid (q1.symm.trans q2))
end Go.Proofs.YtojcelokljghlaaDoor
