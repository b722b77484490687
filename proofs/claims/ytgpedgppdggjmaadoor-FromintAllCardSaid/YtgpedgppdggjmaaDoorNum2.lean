/- The contracts of the reference's numbers: Trim, Of, Big, Wide, Bits, Bit, Full: for every number that is not too long. -/
import Derived.Test.YtgpedgppdggjmaaDoorNum1
import Derived.LoopTactic
set_option linter.unusedSimpArgs false
set_option linter.unusedVariables false
namespace Go.Proofs.YtgpedgppdggjmaaDoor
open Go.RowKit Go.Hb
def sliceLen : Value → Nat
  | .slice _ n _ => n
  | _ => 0
set_option maxRecDepth 100000 in
theorem num_Trim (n L : Nat) (v : Value) (w : World) (h : RL w v L n) (hn : n < 2 ^ (32 * L)) (hL : L ≤ 1000000) : Calls Tryd.prog 109 #[v] w fun en w' => GivesN n en w' ∧ w = w' := by
  obtain ⟨q0, c0, rfl, g0, h0⟩ := h
  go_enter Tryd.func109, Tryd.ntmps109
  go_wp2_with fail
  go_loopw [0] (fun a wr => ∃ k : Nat, RL w a k n ∧ n < 2 ^ (32 * k) ∧ k ≤ L ∧ w = wr) (fun a _ => sliceLen a)
  case atStart => exact ⟨L, ⟨_, _, rfl, g0, h0⟩, hn, Nat.le_refl _, rfl⟩
  case round =>
    obtain ⟨k, hr, hk, hkL, rfl⟩ := hrel
    have hr' := hr
    obtain ⟨q, cap, rfl, hcap, hq⟩ := hr
    clear h0 hn
    cases k with
    | zero =>
      have hz : n = 0 := by simpa using hk
      subst hz
      go_wp2_with fail
      go_returns
      exact ⟨⟨_, rfl, by unfold RN; rw [dl_zero]; exact hr'⟩, by first | rfl | trivial⟩
    | succ k =>
      rcases hq with hq | ⟨b, off, rfl, hq⟩
      · omega
      · have hc := hq k (by omega)
        by_cases hd : d32 n k = 0
        · have hk2 := top_zero n k hk hd
          have hc : w.cell? ⟨b, off + k, none⟩ = some (.int .u32 0) := by rw [hc, hd]; rfl
          have hkc : k ≤ cap := by omega
          clear hq hk
          go_wp2_with fail
          go_roundw
          case rel => exact ⟨k, hr'.less, hk2, by omega, by first | rfl | trivial⟩
          case measure => simp [sliceLen]
        · have hk2 := top_some n k hk hd
          have hd' : ((d32 n k : Nat) : Int) ≠ 0 := by omega
          have hd2 : (((d32 n k : Nat) : Int) == 0) = false := by rw [beq_eq_false_iff_ne]; exact hd'
          clear hq hk
          go_wp2_with fail
          go_returns
          exact ⟨⟨_, rfl, by unfold RN; rw [hk2]; exact hr'⟩, by first | rfl | trivial⟩
end Go.Proofs.YtgpedgppdggjmaaDoor
