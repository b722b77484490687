/- Contracts at given places, for the reference's Round. Condition: the listed table is laid. -/
import Derived.Test.YtgpedgppdggjmaaDoorNum8
import Derived.Test.YtgpedgppdggjmaaDoorLaw14e
set_option linter.unusedSimpArgs false
set_option linter.unusedVariables false
namespace Go.Proofs.YtgpedgppdggjmaaDoor
open Go.RowKit Go.Hb
theorem ref_Cut_at (Q : Nat) (n j m : Int) (neg : Bool) (v : Value) (w : World) [hLay : Laid w] (hj : j = n) (hR_v : RN w v Q) (lq : dl Q ≤ 30000) (n1 : n ≤ 4000000000000000) (n2 : -1000000 ≤ n) (m0 : 0 ≤ m) (m1 : m ≤ 4) :
    Calls Tryd.prog 69 #[v, .int .i64 j, .bool false, .int .u8 m, .bool neg] w fun en w' => GivesNI (cutR m neg Q n) (restR Q n) en w' ∧ Below w.heap.size w w' := by
  subst hj; exact ref_Cut Q j m neg v w hR_v lq n1 n2 m0 m1
theorem ref_Make_at (f e j : Int) (neg : Bool) (v : Value) (frac : Nat) [hU : U8 f] (w : World) [hLay : Laid w] (hj : j = e) (hf : f < 4) (e0 : 0 ≤ e) (he : e ≤ 1048576) (hR_v : RN w v frac) (lf : dl frac ≤ 100000) :
    Calls Tryd.prog 56 #[.int .u8 f, .bool neg, .int .i64 j, v] w fun en w' => en = .returned (.agg #[.int .u64 (hi (makeF f neg e frac)), .int .u64 (lo (makeF f neg e frac))]) ∧ Below w.heap.size w w' := by
  subst hj
  haveI : U64 j := ⟨e0, by omega⟩
  exact ref_Make f j neg v frac w hf he hR_v lf
theorem num_Len_b (a : Nat) (v : Value) (w : World) (h : RN w v a) (la : dl a ≤ 100000) : Calls Tryd.prog 68 #[v] w fun en w' => en = .returned (.int .i64 (blen a : Nat)) ∧ Below w.heap.size w w' :=
  (num_Len a v w h la).mono fun _ _ ⟨h1, h2⟩ => ⟨h1, h2 ▸ Below.refl _ _⟩
end Go.Proofs.YtgpedgppdggjmaaDoor
