/- Is it a braid? Both ways of asking answer alike. -/
import Derived.Test.YtadjhggdddbicaaMb1
set_option linter.unusedVariables false
set_option linter.unusedSimpArgs false
namespace Go.Ev.Ytadjhggdddbicaa
open Go.Ev
/-- x is a letter of n strands. -/
def okL (n x : Int) : Bool := decide (x ≠ 0) && decide (1 - n ≤ x) && decide (x ≤ n - 1)
/-- b is a braid. -/
def isBr (b : Int × List Int) : Bool := decide (1 ≤ b.1) && decide (b.1 ≤ 8) && decide (b.2.length ≤ 200) && b.2.all (okL b.1)
/-- The numbers are of 64 bits. -/
def I64 (l : List Int) : Prop := ∀ x ∈ l, -9223372036854775808 ≤ x ∧ x ≤ 9223372036854775807
theorem getD_at {l : List Int} {i : Nat} (h : i < l.length) : List.getD l i 0 = l[i] := by
  simp [List.getD_eq_getElem?_getD, List.getElem?_eq_getElem h]
theorem neg_in {n x : Int} (hn : n ≤ 8) (h : -9223372036854775808 ≤ x ∧ x ≤ 9223372036854775807) :
    (decide (1 ≤ wi64 (0 - x)) && decide (wi64 (0 - x) ≤ n - 1)) = (decide (1 ≤ -x) && decide (-x ≤ n - 1)) := by
  by_cases e : x = -9223372036854775808
  · subst e
    have : wi64 (0 - -9223372036854775808) = -9223372036854775808 := by decide
    rw [this]
    have : ¬ ((- -9223372036854775808 : Int) ≤ n - 1) := by omega
    rw [decide_eq_false this]
    simp
  · rw [wrap_i64 (by omega) (by omega)]
    simp
theorem isBr_ok {b : Int × List Int} (h : isBr b = true) : 1 ≤ b.1 ∧ b.1 ≤ 8 ∧ b.2.length ≤ 200 ∧ ∀ x ∈ b.2, x ≠ 0 ∧ 1 - b.1 ≤ x ∧ x ≤ b.1 - 1 := by
  simp only [isBr, Bool.and_eq_true, decide_eq_true_eq, List.all_eq_true, okL] at h
  exact ⟨h.1.1.1, h.1.1.2, h.1.2, fun x hx => ⟨(h.2 x hx).1.1, (h.2 x hx).1.2, (h.2 x hx).2⟩⟩
end Go.Ev.Ytadjhggdddbicaa
