/- IsDual: the law. -/
import Derived.Test.YteclcmiopobnaaaMp7
set_option linter.unusedVariables false
set_option linter.unusedSimpArgs false
namespace Go.Ev.Yteclcmiopobnaaa.P
open Go.Ev.Yteclcmiopobnaaa
open Go.Ev Go.Gar
/-! ### nothing -/
theorem one_step {n i : Nat} (hi : i < n) (hn : n ≤ 8) : List.set (A8 n fun x => if x < i then x else 0) i (wu8 (i : Int)) = A8 n fun x => if x < i + 1 then x else 0 := by
  have w8 : wu8 (i : Int) = (i : Int) := by rw [wrap_u8] <;> omega
  rw [w8, A8_set hi hn]
  apply A8_congr
  intro x _
  by_cases h : x = i
  · rw [if_pos h, if_pos (by omega), h]
  · rw [if_neg h]
    by_cases h2 : x < i
    · rw [if_pos h2, if_pos (by omega)]
    · rw [if_neg h2, if_neg (by omega)]
theorem one_zero (n : Nat) : (A8 n fun x => if x < 0 then x else 0) = List.replicate 8 0 := by
  rw [A8_zero n]
  apply A8_congr
  intro x _
  rw [if_neg (by omega)]
theorem one_all (n : Nat) : (A8 n fun x => if x < n then x else 0) = sA (1 : Pm n) := A8_congr (fun x hx => if_pos hx)
theorem c_nothing_3 (n : Nat) (hn : n ≤ 8) (z : List Int) : ∀ i, i ≤ n → R ii_nothing_3 [tA8 z, tA8 (A8 n fun x => if x < i then x else 0), tI (n : Int), tI (i : Int)] = some [tI 0, tA8 z, tA8 (sA (1 : Pm n))] := by
  refine up_loop _ ?_ (fun i hi ih => ?_)
  · apply vi_nothing_3
    have h1 : ¬ ((n : Int) < (n : Int)) := by omega
    simp only [bi_nothing_3, decide_eq_false h1, cond_false, one_all]
  · apply vi_nothing_3
    have v1 : decide ((i : Int) < (n : Int)) = true := decide_eq_true (by omega)
    have v2 : decide ((0 : Int) ≤ (i : Int)) = true := decide_eq_true (by omega)
    have v3 : decide ((i : Int) < 8) = true := decide_eq_true (by omega)
    have w : wi64 ((i : Int) + 1) = ((i + 1 : Nat) : Int) := by rw [wrap_i64] <;> omega
    simp only [bi_nothing_3, v1, v2, v3, cond_true, Bool.and_true, Int.toNat_natCast, one_step hi hn, w, ih]
theorem c_finePart (n : Nat) (hn : n ≤ 8) : R ii_finePart [tI (n : Int)] = some [tA8 (sA (1 : Pm n))] := by
  have h := c_nothing_3 n hn (List.replicate 8 0) 0 (Nat.zero_le _)
  rw [one_zero] at h
  simp only [Int.natCast_zero] at h
  have h2 : R ii_nothing [tI (n : Int)] = some [tA8 (sA (1 : Pm n))] := by
    apply vi_nothing
    simp only [bi_nothing, h, Option.bind_some, getTV_here, getTV_next]
  apply vi_finePart
  simp only [bi_finePart, h2, Option.bind_some, getTV_here]
/-! ### the loop -/
theorem bne_ll (a b : List Int) : (a != b) = !decide (a = b) := by rw [Bool.eq_iff_iff]; simp
end Go.Ev.Yteclcmiopobnaaa.P
