/- BandOf: the law. -/
import Derived.Test.YtadjhggdddbicaaMb4
set_option linter.unusedVariables false
set_option linter.unusedSimpArgs false
namespace Go.Ev.Ytadjhggdddbicaa
open Go.Ev
/-- b + d .. b + 1. -/
def dnL (b : Int) : Nat → List Int
  | 0 => []
  | d + 1 => (b + d + 1) :: dnL b d
theorem dnL_len (b : Int) : ∀ d, (dnL b d).length = d
  | 0 => rfl
  | d + 1 => by simp [dnL, dnL_len b d]
theorem dnL_snoc (b : Int) : ∀ d, dnL (b + 1) d ++ [b + 1] = dnL b (d + 1)
  | 0 => by simp [dnL]
  | d + 1 => by
    rw [dnL, List.cons_append, dnL_snoc b d]
    simp only [dnL]
    congr 1
    omega
def upL (x : Int) : Nat → List Int
  | 0 => []
  | d + 1 => (-x) :: upL (x + 1) d
theorem upL_len : ∀ (d : Nat) (x : Int), (upL x d).length = d
  | 0, x => rfl
  | d + 1, x => by simp [upL, upL_len d]
theorem c_band_3 (p b : Int) (hb : 0 ≤ b) (hb' : b ≤ 100) : ∀ (d : Nat) (l : List Int), d ≤ 100 → l.length + d ≤ 1000 → R ii_band_3 [tLI l, tI p, tI b, tI (b + d)] = some [tI 0, tLI (l ++ dnL b d), tI p, tI b] := by
  intro d
  induction d with
  | zero =>
    intro l _ _
    apply vi_band_3
    simp [bi_band_3, dnL]
  | succ d ih =>
    intro l hd hl
    apply vi_band_3
    have h1 : b < b + ((d + 1 : Nat) : Int) := by omega
    have w : wi64 (b + ((d + 1 : Nat) : Int) - 1) = b + (d : Int) := by rw [wrap_i64] <;> omega
    have ap : apOk l [b + ((d + 1 : Nat) : Int)] = true := apOk1 (by omega)
    simp only [bi_band_3, decide_eq_true h1, cond_true, ap, w]
    rw [ih _ (by omega) (by simp; omega), show b + ((d + 1 : Nat) : Int) = b + d + 1 by omega, List.append_assoc]
    rfl
theorem c_l07Band_3 (p b : Int) (hb : 0 ≤ b) (hb' : b ≤ 100) : ∀ (d : Nat) (l : List Int), d ≤ 100 → l.length + d ≤ 1000 → R is_l07Band_3 [tLI l, tI p, tI b, tI (b + 1 + d)] = some [tI 0, tLI (l ++ dnL (b + 1) d), tI p, tI b] := by
  intro d
  have wb : wi64 (b + 1) = b + 1 := by rw [wrap_i64] <;> omega
  induction d with
  | zero =>
    intro l _ _
    apply vs_l07Band_3
    simp [bs_l07Band_3, dnL, wb]
  | succ d ih =>
    intro l hd hl
    apply vs_l07Band_3
    have h1 : b + 1 < b + 1 + ((d + 1 : Nat) : Int) := by omega
    have w : wi64 (b + 1 + ((d + 1 : Nat) : Int) - 1) = b + 1 + (d : Int) := by rw [wrap_i64] <;> omega
    have ap : apOk l [b + 1 + ((d + 1 : Nat) : Int)] = true := apOk1 (by omega)
    simp only [bs_l07Band_3, wb, decide_eq_true h1, cond_true, ap, w]
    rw [ih _ (by omega) (by simp; omega), show b + 1 + ((d + 1 : Nat) : Int) = b + 1 + d + 1 by omega, List.append_assoc]
    rfl
theorem c_band_7 (p : Int) (hp : p ≤ 100) : ∀ (d : Nat) (x : Int) (l : List Int), 0 ≤ x → x + d = p + 1 → l.length + d ≤ 1000 → R ii_band_7 [tLI l, tI p, tI x] = some [tI 0, tLI (l ++ upL x d)] := by
  intro d
  induction d with
  | zero =>
    intro x l hx hxd _
    apply vi_band_7
    have h1 : ¬ x ≤ p := by omega
    simp [bi_band_7, upL, h1]
  | succ d ih =>
    intro x l hx hxd hl
    apply vi_band_7
    have h1 : x ≤ p := by omega
    have w : wi64 (x + 1) = x + 1 := by rw [wrap_i64] <;> omega
    have w0 : wi64 (0 - x) = -x := by rw [wrap_i64] <;> omega
    have ap : apOk l [-x] = true := apOk1 (by omega)
    simp only [bi_band_7, decide_eq_true h1, cond_true, w0, ap, w]
    rw [ih (x + 1) _ (by omega) (by omega) (by simp; omega), List.append_assoc]
    rfl
theorem c_l07Band_8 (p : Int) (hp : p ≤ 100) : ∀ (d : Nat) (x : Int) (l : List Int), 0 ≤ x → x + d = p + 1 → l.length + d ≤ 1000 → R is_l07Band_8 [tLI l, tI p, tI x] = some [tI 0, tLI (l ++ upL x d)] := by
  intro d
  induction d with
  | zero =>
    intro x l hx hxd _
    apply vs_l07Band_8
    have h1 : ¬ x ≤ p := by omega
    simp [bs_l07Band_8, upL, h1]
  | succ d ih =>
    intro x l hx hxd hl
    apply vs_l07Band_8
    have h1 : x ≤ p := by omega
    have w : wi64 (x + 1) = x + 1 := by rw [wrap_i64] <;> omega
    have w0 : wi64 (0 - x) = -x := by rw [wrap_i64] <;> omega
    have ap : apOk l [-x] = true := apOk1 (by omega)
    simp only [bs_l07Band_8, decide_eq_true h1, cond_true, w0, ap, w]
    rw [ih (x + 1) _ (by omega) (by omega) (by simp; omega), List.append_assoc]
    rfl
/-- The band between two strands. -/
def bandL (p b : Int) : List Int := dnL b (p - b).toNat ++ upL (b + 2) (p - b - 1).toNat
theorem bandL_len (p b : Int) (h : b < p) (hp : p ≤ 100) (hb : 0 ≤ b) : (bandL p b).length ≤ 200 := by
  unfold bandL
  rw [List.length_append, dnL_len, upL_len]
  omega
theorem c_band (p b : Int) (hb : 0 ≤ b) (h : b < p) (hp : p ≤ 100) : R ii_band [tI p, tI b] = some [tLI (bandL p b)] := by
  apply vi_band
  have h3 := c_band_3 p b hb (by omega) (p - b).toNat [] (by omega) (by simp; omega)
  rw [show b + (((p - b).toNat : Nat) : Int) = p by omega] at h3
  have w : wi64 (b + 2) = b + 2 := by rw [wrap_i64] <;> omega
  have h7 := c_band_7 p hp (p - b - 1).toNat (b + 2) (dnL b (p - b).toNat) (by omega) (by omega) (by rw [dnL_len]; omega)
  simp only [List.nil_append] at h3
  simp only [bi_band, h3, Option.bind_some, getTV_here, getTV_next, w, h7]
  rfl
theorem c_l07Band (p b : Int) (hb : 0 ≤ b) (h : b < p) (hp : p ≤ 100) : R is_l07Band [tI p, tI b] = some [tLI (bandL p b)] := by
  apply vs_l07Band
  have h3 := c_l07Band_3 p b hb (by omega) (p - b - 1).toNat [] (by omega) (by simp; omega)
  rw [show b + 1 + (((p - b - 1).toNat : Nat) : Int) = p by omega] at h3
  have w : wi64 (b + 2) = b + 2 := by rw [wrap_i64] <;> omega
  have w1 : wi64 (b + 1) = b + 1 := by rw [wrap_i64] <;> omega
  have hs : dnL (b + 1) (p - b - 1).toNat ++ [b + 1] = dnL b (p - b).toNat := by
    rw [dnL_snoc]
    congr 1
    omega
  have h7 := c_l07Band_8 p hp (p - b - 1).toNat (b + 2) (dnL b (p - b).toNat) (by omega) (by omega) (by rw [dnL_len]; omega)
  have ap : apOk (dnL (b + 1) (p - b - 1).toNat) [b + 1] = true := apOk1 (by rw [dnL_len]; omega)
  simp only [List.nil_append] at h3
  simp only [bs_l07Band, h3, Option.bind_some, getTV_here, getTV_next, w, w1, ap, cond_true, hs, h7]
  rfl
/-- What BandOf answers. -/
def vBand (n p b : Int) : (Int × List Int) × Int := if 2 ≤ n ∧ n ≤ 8 ∧ 1 ≤ p ∧ p ≤ n - 1 ∧ 0 ≤ b ∧ b ≤ p - 1 then ((n, bandL p b), 0) else ((0, []), 2)
theorem vBand_len (n p b : Int) : (vBand n p b).1.2.length ≤ 200 := by
  unfold vBand
  split
  · rename_i h
    exact bandL_len p b (by omega) (by omega) (by omega)
  · simp
theorem c_BandOf_s (n p b : Int) : R is_BandOf [tI n, tI p, tI b] = some [tPILI (vBand n p b).1, tI (vBand n p b).2] := by
  apply vs_BandOf
  simp only [bs_BandOf, c_l01In, Option.bind_some, getTV_here, vBand]
  by_cases h1 : 2 ≤ n ∧ n ≤ 8
  · have w : wi64 (n - 1) = n - 1 := by rw [wrap_i64] <;> omega
    have x1 := h1.1
    have x2 := h1.2
    by_cases h2 : 1 ≤ p ∧ p ≤ n - 1
    · have w2 : wi64 (p - 1) = p - 1 := by rw [wrap_i64] <;> omega
      have y1 := h2.1
      have y2 := h2.2
      by_cases h3 : 0 ≤ b ∧ b ≤ p - 1
      · have z1 := h3.1
        have z2 := h3.2
        simp only [w, w2, decide_eq_true x1, decide_eq_true x2, decide_eq_true y1, decide_eq_true y2, decide_eq_true z1, decide_eq_true z2, Bool.and_true, Bool.not_true, cond_false, c_l07Band p b z1 (by omega) (by omega), Option.bind_some, getTV_here, if_pos (show 2 ≤ n ∧ n ≤ 8 ∧ 1 ≤ p ∧ p ≤ n - 1 ∧ 0 ≤ b ∧ b ≤ p - 1 from ⟨x1, x2, y1, y2, z1, z2⟩)]
      · have hd : (decide (0 ≤ b) && decide (b ≤ p - 1)) = false := by
          rw [← Bool.decide_and]
          exact decide_eq_false h3
        simp only [w, w2, decide_eq_true x1, decide_eq_true x2, decide_eq_true y1, decide_eq_true y2, hd, Bool.and_true, Bool.not_true, Bool.not_false, cond_false, cond_true, if_neg (show ¬ (2 ≤ n ∧ n ≤ 8 ∧ 1 ≤ p ∧ p ≤ n - 1 ∧ 0 ≤ b ∧ b ≤ p - 1) from fun h => h3 ⟨h.2.2.2.2.1, h.2.2.2.2.2⟩)]
    · have hd : (decide (1 ≤ p) && decide (p ≤ n - 1)) = false := by
        rw [← Bool.decide_and]
        exact decide_eq_false h2
      simp only [w, decide_eq_true x1, decide_eq_true x2, hd, Bool.and_true, Bool.not_true, Bool.not_false, cond_false, cond_true, if_neg (show ¬ (2 ≤ n ∧ n ≤ 8 ∧ 1 ≤ p ∧ p ≤ n - 1 ∧ 0 ≤ b ∧ b ≤ p - 1) from fun h => h2 ⟨h.2.2.1, h.2.2.2.1⟩)]
  · have hd : (decide (2 ≤ n) && decide (n ≤ 8)) = false := by
      rw [← Bool.decide_and]
      exact decide_eq_false h1
    simp only [hd, Bool.not_false, cond_true, if_neg (show ¬ (2 ≤ n ∧ n ≤ 8 ∧ 1 ≤ p ∧ p ≤ n - 1 ∧ 0 ≤ b ∧ b ≤ p - 1) from fun h => h1 ⟨h.1, h.2.1⟩)]
theorem c_BandOf_i (n p b : Int) : R ii_BandOf [tI n, tI p, tI b] = some [tPILI (vBand n p b).1, tI (vBand n p b).2] := by
  apply vi_BandOf
  simp only [bi_BandOf, c_within, Option.bind_some, getTV_here, vBand]
  by_cases h1 : 2 ≤ n ∧ n ≤ 8
  · have w : wi64 (n - 1) = n - 1 := by rw [wrap_i64] <;> omega
    have x1 := h1.1
    have x2 := h1.2
    by_cases h2 : 0 ≤ p ∧ p ≤ n - 1
    · have w2 : wi64 (p - 1) = p - 1 := by rw [wrap_i64] <;> omega
      have y1 := h2.1
      have y2 := h2.2
      by_cases h3 : 0 ≤ b ∧ b ≤ p - 1
      · have z1 := h3.1
        have z2 := h3.2
        simp only [w, w2, decide_eq_true x1, decide_eq_true x2, decide_eq_true y1, decide_eq_true y2, decide_eq_true z1, decide_eq_true z2, Bool.and_true, Bool.not_true, cond_false, c_band p b z1 (by omega) (by omega), Option.bind_some, getTV_here, if_pos (show 2 ≤ n ∧ n ≤ 8 ∧ 1 ≤ p ∧ p ≤ n - 1 ∧ 0 ≤ b ∧ b ≤ p - 1 from ⟨x1, x2, by omega, y2, z1, z2⟩)]
      · have hd : (decide (0 ≤ b) && decide (b ≤ p - 1)) = false := by
          rw [← Bool.decide_and]
          exact decide_eq_false h3
        simp only [w, w2, decide_eq_true x1, decide_eq_true x2, decide_eq_true y1, decide_eq_true y2, hd, Bool.and_true, Bool.not_true, Bool.not_false, cond_false, cond_true, if_neg (show ¬ (2 ≤ n ∧ n ≤ 8 ∧ 1 ≤ p ∧ p ≤ n - 1 ∧ 0 ≤ b ∧ b ≤ p - 1) from fun h => h3 ⟨h.2.2.2.2.1, h.2.2.2.2.2⟩)]
    · have hd : (decide (0 ≤ p) && decide (p ≤ n - 1)) = false := by
        rw [← Bool.decide_and]
        exact decide_eq_false h2
      simp only [w, decide_eq_true x1, decide_eq_true x2, hd, Bool.and_true, Bool.not_true, Bool.not_false, cond_false, cond_true, if_neg (show ¬ (2 ≤ n ∧ n ≤ 8 ∧ 1 ≤ p ∧ p ≤ n - 1 ∧ 0 ≤ b ∧ b ≤ p - 1) from fun h => h2 ⟨by omega, h.2.2.2.1⟩)]
  · have hd : (decide (2 ≤ n) && decide (n ≤ 8)) = false := by
      rw [← Bool.decide_and]
      exact decide_eq_false h1
    simp only [hd, Bool.not_false, cond_true, if_neg (show ¬ (2 ≤ n ∧ n ≤ 8 ∧ 1 ≤ p ∧ p ≤ n - 1 ∧ 0 ≤ b ∧ b ≤ p - 1) from fun h => h1 ⟨h.1, h.2.1⟩)]
theorem law_FnExactBandOf (a : Int) (h : Fit (.int .i64) a) (b : Int) (h' : Fit (.int .i64) b) (c : Int) (h'' : Fit (.int .i64) c) : R iw_FnExactBandOf [tI a, tI b, tI c] = some [tB true] := by
  apply vw_FnExactBandOf
  have hv := vBand_len a b c
  have e2 : ¬ (1 + ((vBand a b c).1.2.length : Int) < 0) := by omega
  simp [bw_FnExactBandOf, c_BandOf_s, c_BandOf_i, c_eqBraid (vBand a b c).1 _ (show (vBand a b c).1.2.length < 1000000000 by omega), c_markBraid (vBand a b c).1 1 (by omega) (by omega), c_heldBraid _ 1 (vBand a b c).1.2.length (by omega) (by omega), e2]
end Go.Ev.Ytadjhggdddbicaa
