/- Lists of 32-bit digits as natural numbers: what a list reads as, and that it goes on reading so. No condition. -/
import Derived.Test.YtgpedgppdggjmaaDoorKit
import Derived.Test.YtgpedgppdggjmaaDoorNumP
import Derived.WalkKit
set_option linter.unusedSimpArgs false
set_option linter.unusedVariables false
namespace Go.Proofs.YtgpedgppdggjmaaDoor
open Go.RowKit Go.Hb
/-- The first L digits of n, as values. -/
def digs (L n : Nat) : List Value := (List.range L).map fun i => .int .u32 (d32 n i : Nat)
theorem digs_len (L n : Nat) : (digs L n).length = L := by simp [digs]
theorem digs_get (L n i : Nat) (h : i < L) : (digs L n)[i]? = some (.int .u32 (d32 n i : Nat)) := by simp [digs, h]
theorem digs_succ (L n : Nat) : digs (L + 1) n = digs L n ++ [.int .u32 (d32 n L : Nat)] := by simp [digs, List.range_succ]
theorem digs_zero (n : Nat) : digs 0 n = [] := rfl
theorem digs_one (L n : Nat) : ∀ u ∈ digs L n, u.oneCell' = true := by
  intro u hu
  obtain ⟨i, _, rfl⟩ := List.mem_map.1 hu
  rfl
/-- The value v is a list of L digits, those of n. -/
def RL (w : World) (v : Value) (L n : Nat) : Prop :=
  ∃ q cap, v = .slice q L cap ∧ L ≤ cap ∧ (L = 0 ∨ ∃ b off, q = some ⟨b, off, none⟩ ∧ ∀ i, i < L → w.cell? ⟨b, off + i, none⟩ = some (.int .u32 (d32 n i : Nat)))
/-- The value v reads as the number n. -/
def RN (w : World) (v : Value) (n : Nat) : Prop := RL w v (dl n) n
theorem RL.later {w w' : World} {v : Value} {L n : Nat} (h : RL w v L n) (hb : Below w.heap.size w w') : RL w' v L n := by
  obtain ⟨q, cap, rfl, hcap, h⟩ := h
  refine ⟨q, cap, rfl, hcap, ?_⟩
  rcases h with h | ⟨b, off, rfl, h⟩
  · exact Or.inl h
  · exact Or.inr ⟨b, off, rfl, fun i hi => cell_later hb (h i hi)⟩
theorem RN.later {w w' : World} {v : Value} {n : Nat} (h : RN w v n) (hb : Below w.heap.size w w') : RN w' v n := RL.later h hb
theorem RL.nil (w : World) (n : Nat) : RL w (.slice none 0 0) 0 n := ⟨none, 0, rfl, Nat.le_refl _, Or.inl rfl⟩
theorem RN.nil (w : World) : RN w (.slice none 0 0) 0 := by unfold RN; rw [dl_zero]; exact RL.nil w 0
theorem RL.owns {w : World} {base e : Nat} {v : Value} {L n : Nat} (h : w.ownsRow base e 1 v L (digs L n)) : RL w v L n := by
  rcases h.2 with ⟨rfl, rfl⟩ | ⟨g, cap, cur, rfl, hb, hg, hn, hm, hs, ht⟩
  · exact RL.nil w n
  · refine ⟨_, cap, rfl, hn, Or.inr ⟨g, 0, rfl, fun i hi => ?_⟩⟩
    have := h.cells (g := g) rfl i _ (digs_get L n i hi)
    rw [Addr.add_lit] at this
    exact this
theorem RL.is {w : World} {v : Value} {L n m : Nat} (h : RL w v L n) (e : ∀ i, i < L → d32 n i = d32 m i) : RL w v L m := by
  obtain ⟨q, cap, rfl, hcap, h⟩ := h
  refine ⟨q, cap, rfl, hcap, ?_⟩
  rcases h with h | ⟨b, off, rfl, h⟩
  · exact Or.inl h
  · exact Or.inr ⟨b, off, rfl, fun i hi => by rw [← e i hi]; exact h i hi⟩
theorem RL.less {w : World} {q : Option Addr} {L n cap : Nat} (h : RL w (.slice q (L + 1) cap) (L + 1) n) : RL w (.slice q L cap) L n := by
  obtain ⟨q', cap', e, hcap, h⟩ := h
  cases e
  refine ⟨_, _, rfl, by omega, ?_⟩
  rcases h with h | ⟨b, off, rfl, h⟩
  · exact absurd h (by omega)
  · exact Or.inr ⟨b, off, rfl, fun i hi => h i (by omega)⟩
theorem one_new (w : World) (u : Value) (e : TypeId) : ∀ j x, [u][j]? = some x → (w.alloc (.cells #[u] e)).cell? ((⟨w.heap.size, 0, none⟩ : Addr).add j) = some x := by
  intro j x hx
  match j, hx with
  | 0, hx =>
    simp at hx
    subst hx
    rw [Addr.add_zero']
    go_simp
theorem one_cell (n : Int) : ∀ x ∈ [Value.int .u32 n], x.oneCell' = true := by
  intro u hu
  simp at hu
  subst hu
  rfl
theorem own_digit {w : World} {base e k N : Nat} {v : Value} {x : Int} (h : w.ownsRow base e 1 v (k + 1) (digs k N ++ [.int .u32 x])) (hx : x = (d32 N k : Nat)) : w.ownsRow base e 1 v (k + 1) (digs (k + 1) N) := by
  rw [digs_succ, ← hx]; exact h
theorem own_zeros {w : World} {base e L N : Nat} {v : Value} {xs : List Value} (h : w.ownsRow base e 1 v L xs) (hx : xs = List.replicate L (.int .u32 0) := by rfl) (hN : ∀ i, i < L → d32 N i = 0) : w.ownsRow base e 1 v L (digs L N) := by
  have : digs L N = List.replicate L (.int .u32 0) := by
    apply List.ext_getElem?
    intro i
    by_cases hi : i < L
    · rw [digs_get L N i hi, hN i hi]; simp [hi]
    · simp [digs, hi]
  rw [this, ← hx]; exact h
theorem u64_nat (n : Nat) (h : n < 18446744073709551616) : IntKind.u64.wrap (n : Int) = (n : Int) := by
  simp [IntKind.wrap, IntKind.signed, IntKind.bits]; omega
theorem cast_mul (x r : Nat) : (x : Int) * 2 ^ r = ((x * 2 ^ r : Nat) : Int) := by rw [Int.natCast_mul, Int.natCast_pow]; rfl
theorem or_shift (c x r : Nat) (hc : c < 2 ^ r) (h1 : c < 4294967296) (h2 : x * 2 ^ r ≤ 9223372036854775808) : bits BinOp.or IntKind.u64 (c : Int) (IntKind.u64.wrap ((x : Int) * 2 ^ r)) = ((c + x * 2 ^ r : Nat) : Int) := by
  have e : (x : Int) * 2 ^ r = ((x * 2 ^ r : Nat) : Int) := by rw [Int.natCast_mul, Int.natCast_pow]; rfl
  rw [e, u64_nat _ (by omega), or_u64_nat _ _ (by omega) (by omega), or_add _ _ _ hc]
theorem shr_form (x y r : Nat) (hx : x < 4294967296) (hy : y < 4294967296) : bits BinOp.or IntKind.u64 (x : Int) ((y : Int) * 4294967296) / 2 ^ r % 4294967296 = (((x + y * 4294967296) / 2 ^ r % 4294967296 : Nat) : Int) := by
  have e : (y : Int) * 4294967296 = ((y * 4294967296 : Nat) : Int) := by omega
  have h := or_add x y 32 (by omega)
  rw [show (2 : Nat) ^ 32 = 4294967296 from rfl] at h
  rw [e, or_u64_nat _ _ (by omega) (by omega), h, Int.natCast_emod, Int.natCast_ediv, Int.natCast_pow]
  rfl
/-- The part of what an answer says that speaks of a list. -/
def GivesN (n : Nat) (e : Ending) (w : World) : Prop := ∃ u, e = .returned u ∧ RN w u n
/-- The row of the table of the digits' type. -/
theorem info_u32 : (Tryd.prog.info? 141).map (fun i => (i.zero, i.size, i.bytes)) = some (some (.int .u32 0), 1, 4) := by kernel_rfl
theorem u32_wrap (n : Nat) : IntKind.u32.wrap (n : Int) = ((n % 4294967296 : Nat) : Int) := by simp [IntKind.wrap, IntKind.signed, IntKind.bits]
set_option maxRecDepth 100000 in
/-- A digit; 0 behind. -/
theorem num_digit (a L i : Nat) (v : Value) (w : World) (h : RL w v L a) (hL : a < 2 ^ (32 * L)) (hi : i ≤ 1000000) : Calls Tryd.prog 119 #[v, .int .i64 i] w fun en w' => en = .returned (.int .u32 (d32 a i : Nat)) ∧ w = w' := by
  obtain ⟨q, cap, rfl, hcap, h⟩ := h
  by_cases hk : i < L
  · rcases h with h | ⟨b, off, rfl, h⟩
    · omega
    · have hc := h i hk
      go_enter Tryd.func119, Tryd.ntmps119
      go_wp2
      go_returns
      exact ⟨rfl, rfl⟩
  · have h0 := d32_big a L i hL (by omega)
    go_enter Tryd.func119, Tryd.ntmps119
    go_wp2
    go_returns
    exact ⟨by rw [h0]; rfl, rfl⟩
theorem num_digit_at (a L i : Nat) (j : Int) (v : Value) (w : World) (h : RL w v L a) (hL : a < 2 ^ (32 * L)) (hi : i ≤ 1000000) (hj : j = (i : Nat)) : Calls Tryd.prog 119 #[v, .int .i64 j] w fun en w' => en = .returned (.int .u32 (d32 a i : Nat)) ∧ w = w' := by
  subst hj; exact num_digit a L i v w h hL hi
end Go.Proofs.YtgpedgppdggjmaaDoor
