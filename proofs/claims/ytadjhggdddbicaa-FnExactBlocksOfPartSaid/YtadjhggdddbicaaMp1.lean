/- BandOf: the law. -/
import Derived.Test.YtadjhggdddbicaaMb4
set_option linter.unusedVariables false
set_option linter.unusedSimpArgs false
namespace Go.Ev.Ytadjhggdddbicaa
open Go.Ev
/-- b + d .. b + 1. -/
def dnL (b : Int) : Nat → List Int
  | 0 => []
  | d + 1 => (b + d + 1) :: dnL b d
theorem dnL_len (b : Int) : ∀ d, (dnL b d).length = d
  | 0 => rfl
  | d + 1 => by simp [dnL, dnL_len b d]
theorem dnL_snoc (b : Int) : ∀ d, dnL (b + 1) d ++ [b + 1] = dnL b (d + 1)
  | 0 => by simp [dnL]
  | d + 1 => by
    rw [dnL, List.cons_append, dnL_snoc b d]
    simp only [dnL]
    congr 1
    omega
def upL (x : Int) : Nat → List Int
  | 0 => []
  | d + 1 => (-x) :: upL (x + 1) d
theorem upL_len : ∀ (d : Nat) (x : Int), (upL x d).length = d
  | 0, x => rfl
  | d + 1, x => by simp [upL, upL_len d]
/-- The band between two strands. -/
def bandL (p b : Int) : List Int := dnL b (p - b).toNat ++ upL (b + 2) (p - b - 1).toNat
theorem bandL_len (p b : Int) (h : b < p) (hp : p ≤ 100) (hb : 0 ≤ b) : (bandL p b).length ≤ 200 := by
  unfold bandL
  rw [List.length_append, dnL_len, upL_len]
  omega
/-- What BandOf answers. -/
def vBand (n p b : Int) : (Int × List Int) × Int := if 2 ≤ n ∧ n ≤ 8 ∧ 1 ≤ p ∧ p ≤ n - 1 ∧ 0 ≤ b ∧ b ≤ p - 1 then ((n, bandL p b), 0) else ((0, []), 2)
theorem vBand_len (n p b : Int) : (vBand n p b).1.2.length ≤ 200 := by
  unfold vBand
  split
  · rename_i h
    exact bandL_len p b (by omega) (by omega) (by omega)
  · simp
end Go.Ev.Ytadjhggdddbicaa
