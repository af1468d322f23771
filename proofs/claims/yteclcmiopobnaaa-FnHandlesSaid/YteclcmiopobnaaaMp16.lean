/- EqualByBands: the law. -/
import Derived.Test.YteclcmiopobnaaaMp15
set_option linter.unusedVariables false
set_option linter.unusedSimpArgs false
namespace Go.Ev.Yteclcmiopobnaaa.P
open Go.Ev.Yteclcmiopobnaaa
open Go.Ev Go.Gar
theorem c_Equal_4 (a b : List (List Int)) (h0 : a.length < 1000000000) (h1 : b.length = a.length) : ∀ i, i ≤ a.length → R ig_Equal___i_Part_i_Part__4 [tLA8 a, tLA8 b, tI (a.length : Int), tI (i : Int)] = some (if a.drop i = b.drop i then [tI 0] else [tI 1, tB false]) := by
  refine up_loop _ ?_ (fun i hi ih => ?_)
  · apply vg_Equal___i_Part_i_Part__4
    rw [List.drop_length, ← h1, List.drop_length]
    simp [bg_Equal___i_Part_i_Part__4, h1]
  · apply vg_Equal___i_Part_i_Part__4
    rw [List.drop_eq_getElem_cons hi, List.drop_eq_getElem_cons (by omega : i < b.length)]
    simp (disch := omega) only [bg_Equal___i_Part_i_Part__4, decide_eq_true, cond_true, Bool.and_true, Int.toNat_natCast, wrap_i64]
    rw [show (i : Int) + 1 = ((i + 1 : Nat) : Int) by omega, ih]
    simp only [List.getD_eq_getElem?_getD, List.getElem?_eq_getElem hi, List.getElem?_eq_getElem (by omega : i < b.length), Option.getD_some, List.cons.injEq]
    by_cases e : a[i] = b[i] <;> simp [e, bne_ll]
theorem c_Equal (a b : List (List Int)) (h0 : a.length < 1000000000) : R ig_Equal___i_Part_i_Part_ [tLA8 a, tLA8 b] = some [tB (decide (a = b))] := by
  apply vg_Equal___i_Part_i_Part_
  by_cases e : b.length = a.length
  · have := c_Equal_4 a b h0 e 0 (Nat.zero_le _)
    simp only [List.drop_zero, Int.natCast_zero] at this
    simp only [bg_Equal___i_Part_i_Part_, e, bne_self_eq_false, cond_false, this]
    by_cases e2 : a = b <;> simp [e2]
  · have : a ≠ b := fun h => e (by rw [h])
    have e3 : ¬ ((a.length : Int) = b.length) := by omega
    simp [bg_Equal___i_Part_i_Part_, this, e3, bne_dec]
end Go.Ev.Yteclcmiopobnaaa.P
