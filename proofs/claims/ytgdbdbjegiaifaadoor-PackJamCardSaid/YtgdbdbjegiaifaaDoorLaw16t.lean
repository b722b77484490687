/- The plain laws of chapter 16: jams and tininess. No condition. -/
import Derived.Test.YtgdbdbjegiaifaaDoorLaw16p
set_option linter.unusedSimpArgs false
set_option linter.unusedVariables false
namespace Go.Hb
theorem jamN_blen (v n : Nat) (hv : v / 2 ^ n ≠ 0) : blen (jamN v n) = blen (v / 2 ^ n) := by
  have h := jamN_half v n
  apply blen_unique
  · have h1 := blen_lt (v / 2 ^ n)
    have h2 := blen_pos (v / 2 ^ n) hv
    have e : 2 ^ blen (v / 2 ^ n) = 2 * 2 ^ (blen (v / 2 ^ n) - 1) := by rw [← Nat.pow_succ']; congr 1; omega
    rw [e] at h1 ⊢
    omega
  · right
    have h1 := blen_le (v / 2 ^ n) hv
    have h2 := blen_pos (v / 2 ^ n) hv
    have h4 : v / 2 ^ n ≤ jamN v n := by
      unfold jamN
      split
      · exact Nat.le_refl _
      · rw [or_one]; omega
    omega
theorem blen_div (v n : Nat) (h : n < blen v) : blen (v / 2 ^ n) = blen v - n ∧ v / 2 ^ n ≠ 0 := by
  have hv : v ≠ 0 := by intro h0; subst h0; rw [blen_zero] at h; omega
  have h1 := blen_lt v
  have h2 := blen_le v hv
  have key : 2 ^ (blen v - n - 1) ≤ v / 2 ^ n := by
    rw [Nat.le_div_iff_mul_le (Nat.two_pow_pos _), ← Nat.pow_add, show blen v - n - 1 + n = blen v - 1 by omega]
    exact h2
  refine ⟨blen_unique ?_ (Or.inr key), fun h0 => ?_⟩
  · rw [Nat.div_lt_iff_lt_mul (Nat.two_pow_pos _), ← Nat.pow_add, show blen v - n + n = blen v by omega]
    exact h1
  · rw [h0] at key
    have := Nat.two_pow_pos (blen v - n - 1)
    omega
/-- A jammed number, p + 2 bits of it left: the same floor, the same rest. -/
theorem jam_same (p B v n k : Nat) (hp : 1 ≤ p) (h : p + 2 + n ≤ blen v) : floorC p B (jamN v n * 2 ^ (k + n)) = floorC p B (v * 2 ^ k) ∧ restC p B (jamN v n * 2 ^ (k + n)) = restC p B (v * 2 ^ k) := by
  obtain ⟨b1, b2⟩ := blen_div v n (by omega)
  have b3 := jamN_blen v n b2
  have hv : v ≠ 0 := by intro h0; subst h0; rw [blen_zero] at h; omega
  have hj : jamN v n ≠ 0 := by
    intro h0
    rw [h0, blen_zero] at b3
    omega
  have hbl : ∀ (x j : Nat), x ≠ 0 → blen (x * 2 ^ j) = blen x + j := by
    intro x j hx
    have g1 := blen_lt x
    have g2 := blen_le x hx
    have g3 := blen_pos x hx
    apply blen_unique
    · rw [Nat.pow_add]; exact Nat.mul_lt_mul_of_pos_right g1 (Nat.two_pow_pos j)
    · right
      rw [show blen x + j - 1 = blen x - 1 + j by omega, Nat.pow_add]
      exact Nat.mul_le_mul_right _ g2
  have hc : cutAt p B (jamN v n * 2 ^ (k + n)) = cutAt p B (v * 2 ^ k) := by
    unfold cutAt
    rw [hbl _ _ hj, hbl _ _ hv, b3, b1]
    congr 1; omega
  have ht : k + n + 2 ≤ cutAt p B (v * 2 ^ k) := by
    have : blen (v * 2 ^ k) - p ≤ cutAt p B (v * 2 ^ k) := Nat.le_max_left _ _
    rw [hbl _ _ hv] at this
    omega
  have e1 : jamN v n * 2 ^ (k + n) / 2 ^ cutAt p B (v * 2 ^ k) = v * 2 ^ k / 2 ^ cutAt p B (v * 2 ^ k) := by
    generalize cutAt p B (v * 2 ^ k) = t at *
    obtain ⟨s, rfl⟩ : ∃ s, t = s + (k + n) := ⟨t - (k + n), by omega⟩
    rw [floor_up, jam_floor _ _ _ (by omega), show s + (k + n) = (n + s) + k by omega, floor_up]
  constructor
  · unfold floorC
    rw [hc, e1]
  · rw [restC_N _ _ _ hp, restC_N _ _ _ hp, hc]
    generalize cutAt p B (v * 2 ^ k) = t at *
    obtain ⟨s, rfl⟩ : ∃ s, t = s + (k + n) := ⟨t - (k + n), by omega⟩
    rw [restN_up _ _ _ (by omega), jam_rest _ _ _ (by omega), show s + (k + n) = (n + s) + k by omega, restN_up _ _ _ (by omega)]
end Go.Hb
namespace Go.Proofs.YtgdbdbjegiaifaaDoor
open Go.RowKit Go.Hb
theorem jam_num (f m e : Int) (v : Nat) (n : Int) (neg : Bool) (h0 : 0 ≤ f) (hf : f < 4) (hb : blen v = 256) (hv : v < 2 ^ 256) (n0 : 0 ≤ n) (n1 : n ≤ 139) (e0 : -1073741824 ≤ e) (e1 : e ≤ 1073741824) (B : Nat) :
    floorC (precS f).toNat B (numX KK (e + n) (jamN v n.toNat)) = floorC (precS f).toNat B (numX KK e v) ∧ restC (precS f).toNat B (numX KK (e + n) (jamN v n.toNat)) = restC (precS f).toNat B (numX KK e v) := by
  obtain ⟨b1, b2, b3, b4, b5, b6⟩ := fmt_bd f h0 hf
  unfold numX
  have k1 : (farS (e + n) + KK).toNat = (farS e + KK).toNat + n.toNat := by unfold farS KK; omega
  rw [k1]
  exact jam_same _ B v n.toNat _ (by omega) (by omega)
theorem jam_bits (f m e : Int) (aft : Bool) (v : Nat) (n : Int) (neg : Bool) (h0 : 0 ≤ f) (hb : blen v = 256) (hv : v < 2 ^ 256) (n0 : 0 ≤ n) (n1 : n ≤ 139) (e0 : -1073741824 ≤ e) (e1 : e ≤ 1073741824) :
    resB f m neg (e + n) (jamS v n) = resB f m neg e v ∧ resFl f m aft neg (e + n) (jamS v n) = resFl f m aft neg e v := by
  rw [jamS_N]
  by_cases hk : f < 4 ∧ m ≤ 4
  · have hj : jamN v n.toNat < 2 ^ 256 := by
      have h := jamN_half v n.toNat
      have : v / 2 ^ n.toNat ≤ v := Nat.div_le_self _ _
      have e : (2 : Nat) ^ 256 = 2 * 2 ^ 255 := by rw [← Nat.pow_succ']
      omega
    rw [res_code f m neg (e + n) _ h0 hk.1 hk.2 hj, res_code f m neg e v h0 hk.1 hk.2 hv, res_flag f m aft neg (e + n) _ h0 hk.1 hk.2 hj, res_flag f m aft neg e v h0 hk.1 hk.2 hv]
    obtain ⟨j1, j2⟩ := jam_num f m e v n neg h0 hk.1 hb hv n0 n1 e0 e1 (unitB f KK)
    obtain ⟨j3, j4⟩ := jam_num f m e v n neg h0 hk.1 hb hv n0 n1 e0 e1 0
    unfold codeR flagX tinyX codeX
    rw [j1, j2, j3, j4]
    exact ⟨rfl, rfl⟩
  · rw [res_none f m neg _ _ hk, res_none f m neg _ _ hk, resFl_none f m aft neg _ _ hk, resFl_none f m aft neg _ _ hk]
    exact ⟨rfl, rfl⟩
/-- Tininess: what is not tiny after rounding, and was before, is rounded to the least normal number. -/
theorem tiny_least (p B : Nat) (m : Int) (neg : Bool) (X : Nat) (hp : 2 ≤ p) (hB : 1 ≤ B) (h1 : floorC p B X < 2 ^ (p - 1)) (h2 : (B + 1) * 2 ^ (p - 1) ≤ codeX p 0 m neg X) : codeX p B m neg X = 2 ^ (p - 1) := by
  have hu := Nat.two_pow_pos (p - 1)
  have hX : X < valC p B (2 ^ (p - 1)) := by
    have := floorC_lt p B X (by omega)
    have := valC_le p B (show floorC p B X + 1 ≤ 2 ^ (p - 1) from h1)
    omega
  have e1 : valC p B (2 ^ (p - 1)) = 2 ^ (p - 1) * 2 ^ B := by
    have := valC_mk p B B (2 ^ (p - 1)) (Nat.le_refl _) (by omega) (Or.inl rfl)
    rw [Nat.sub_self, Nat.zero_mul, Nat.zero_add] at this
    exact this
  have e2 : valC p 0 ((B + 1) * 2 ^ (p - 1)) = 2 ^ (p - 1) * 2 ^ B := by
    have := valC_mk p 0 B (2 ^ (p - 1)) (by omega) (by omega) (Or.inr (Nat.le_refl _))
    rw [Nat.sub_zero] at this
    rw [Nat.succ_mul]
    exact this
  have e3 : valC p 0 ((B + 1) * 2 ^ (p - 1) - 1) = (2 * 2 ^ (p - 1) - 1) * 2 ^ (B - 1) := by
    have := valC_mk p 0 (B - 1) (2 * 2 ^ (p - 1) - 1) (by omega) (by omega) (Or.inr (by omega))
    rw [Nat.sub_zero] at this
    rw [← this]
    congr 1
    have : (B + 1) * 2 ^ (p - 1) = (B - 1) * 2 ^ (p - 1) + 2 * 2 ^ (p - 1) := by rw [← Nat.add_mul]; congr 1; omega
    omega
  have hf : floorC p 0 X < (B + 1) * 2 ^ (p - 1) := by
    have g := floorC_le p 0 X (by omega)
    rcases Nat.lt_or_ge (floorC p 0 X) ((B + 1) * 2 ^ (p - 1)) with c | c
    · exact c
    · have := valC_le p 0 c
      omega
  have hc := (codeX_le p 0 m neg X).2
  have hfl : floorC p 0 X = (B + 1) * 2 ^ (p - 1) - 1 := by omega
  have hn : nextS m neg (floorC p 0 X % 2 == 1) (restC p 0 X) = true := by
    by_cases hn : nextS m neg (floorC p 0 X % 2 == 1) (restC p 0 X) = true
    · exact hn
    · unfold codeX at h2
      rw [if_neg hn] at h2
      omega
  have hr0 : restC p 0 X ≠ 0 := by intro h; rw [h, next_zero] at hn; exact absurd hn (by decide)
  have hgt : (2 * 2 ^ (p - 1) - 1) * 2 ^ (B - 1) < X := by
    have g := floorC_le p 0 X (by omega)
    rw [hfl, e3] at g
    rcases Nat.lt_or_eq_of_le g with c | c
    · exact c
    · exfalso
      apply hr0
      unfold restC
      rw [hfl, e3, c, Nat.sub_self]
      rfl
  have eu : 2 ^ B = 2 * 2 ^ (B - 1) := by rw [← Nat.pow_succ']; congr 1; omega
  have ep : 2 ^ (p - 1) = 2 * 2 ^ (p - 2) := by rw [← Nat.pow_succ']; congr 1; omega
  have hcl : floorC p B X = 2 ^ (p - 1) - 1 := by
    apply floorC_eq p B X _ (by omega)
    · have := valC_mk p B B (2 ^ (p - 1) - 1) (Nat.le_refl _) (by omega) (Or.inl rfl)
      rw [Nat.sub_self, Nat.zero_mul, Nat.zero_add] at this
      rw [this, eu]
      have k1 : (2 ^ (p - 1) - 1) * (2 * 2 ^ (B - 1)) = (2 * 2 ^ (p - 1) - 2) * 2 ^ (B - 1) := by
        rw [← Nat.mul_assoc]; congr 1; omega
      rw [k1]
      have k2 := Nat.mul_le_mul_right (2 ^ (B - 1)) (show 2 * 2 ^ (p - 1) - 2 ≤ 2 * 2 ^ (p - 1) - 1 by omega)
      omega
    · rw [Nat.sub_add_cancel (by omega)]; exact hX
  have hv1 : valC p B (2 ^ (p - 1) - 1) = (2 * 2 ^ (p - 1) - 2) * 2 ^ (B - 1) := by
    have := valC_mk p B B (2 ^ (p - 1) - 1) (Nat.le_refl _) (by omega) (Or.inl rfl)
    rw [Nat.sub_self, Nat.zero_mul, Nat.zero_add] at this
    rw [this, eu, ← Nat.mul_assoc]; congr 1; omega
  have hrest : restC p B X = 3 := by
    unfold restC
    rw [hcl, Nat.sub_add_cancel (by omega), e1, hv1]
    unfold restG
    have hU := Nat.two_pow_pos (B - 1)
    generalize hg : 2 ^ (B - 1) = g at *
    generalize 2 ^ (p - 1) = u at *
    have k1 : (2 * u - 1) * g = (2 * u - 2) * g + g := by rw [← Nat.succ_mul]; congr 1; omega
    have k2 : u * 2 ^ B = (2 * u - 2) * g + 2 * g := by rw [eu, ← Nat.add_mul, ← Nat.mul_assoc, Nat.mul_comm u 2]; congr 1; omega
    rw [k2]
    rw [if_neg (by omega), if_neg (by omega), if_neg (by omega)]
  have hodd : (floorC p B X % 2 == 1) = (floorC p 0 X % 2 == 1) := by
    rw [hcl, hfl]
    have a1 : (2 ^ (p - 1) - 1) % 2 = 1 := by omega
    have a2 : ((B + 1) * 2 ^ (p - 1) - 1) % 2 = 1 := by
      have : (B + 1) * 2 ^ (p - 1) = 2 * ((B + 1) * 2 ^ (p - 2)) := by rw [ep, ← Nat.mul_assoc, Nat.mul_comm (B + 1) 2, Nat.mul_assoc]
      have hpos : 0 < (B + 1) * 2 ^ (p - 2) := Nat.mul_pos (by omega) (Nat.two_pow_pos _)
      omega
    rw [a1, a2]
  unfold codeX
  rw [hodd, hrest, if_pos (next_mono m neg _ (restC_bd p 0 X).2 (by omega) hn), hcl]
  omega
end Go.Proofs.YtgdbdbjegiaifaaDoor
