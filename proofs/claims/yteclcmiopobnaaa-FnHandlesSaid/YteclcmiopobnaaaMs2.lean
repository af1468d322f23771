/- What the laws' own words do to rows of arrays. (Printed by a program.) -/
import Derived.Test.YteclcmiopobnaaaMb3
import Derived.Test.YteclcmiopobnaaaMa1
set_option linter.unusedVariables false
set_option linter.unusedSimpArgs false
namespace Go.Ev.Yteclcmiopobnaaa.P
open Go.Ev.Yteclcmiopobnaaa
open Go.Ev
/-- Arrays of eight. -/
def Len8 (L : List (List Int)) : Prop := ∀ x ∈ L, x.length = 8
theorem Len8.at {L : List (List Int)} (h : Len8 L) {i : Nat} (hi : i < L.length) : L[i].length = 8 := h _ (List.getElem_mem hi)
theorem getD8 {L : List (List Int)} {i : Nat} {d : List Int} (hi : i < L.length) : List.getD L i d = L[i] := by
  simp [List.getD_eq_getElem?_getD, List.getElem?_eq_getElem hi]
/-- Rows of marks. -/
def mrow (k : Int) : List Int := (List.range 8).map fun (x : Nat) => wu8 (k + x)
theorem mrow_len (k : Int) : (mrow k).length = 8 := by simp [mrow]
theorem mrow_get (k : Int) {x : Nat} (h : x < 8) : (mrow k)[x]? = some (wu8 (k + x)) := by simp [mrow, h]
def marksR (k : Int) : Nat → List (List Int)
  | 0 => []
  | m + 1 => mrow k :: marksR (k + 8) m
theorem marksR_len : ∀ (m : Nat) (k : Int), (marksR k m).length = m
  | 0, _ => rfl
  | m + 1, k => by simp [marksR, marksR_len m]
theorem marksR_get : ∀ (m : Nat) (k : Int) (i : Nat), i < m → (marksR k m)[i]? = some (mrow (k + 8 * i))
  | 0, k, i, h => by omega
  | m + 1, k, 0, h => by simp [marksR]
  | m + 1, k, i + 1, h => by
    simp only [marksR, List.getElem?_cons_succ]
    rw [marksR_get m _ _ (by omega)]
    congr 2
    omega
theorem fit_rows {L : List (List Int)} (h : Fit (.slice (.arr .u8 8)) L) : L.length ≤ 9223372036854775807 ∧ Len8 L ∧ ∀ x ∈ L, ∀ y ∈ x, 0 ≤ y ∧ y ≤ 255 :=
  ⟨h.1, fun x hx => (h.2 x hx).1, fun x hx y hy => wf_u8 ((h.2 x hx).2 y hy)⟩
end Go.Ev.Yteclcmiopobnaaa.P
