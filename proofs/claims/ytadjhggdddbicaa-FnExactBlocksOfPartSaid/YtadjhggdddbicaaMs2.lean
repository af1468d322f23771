/- What the laws' own words do to rows of arrays. (Printed by a program.) -/
import Derived.Test.YtadjhggdddbicaaMb3
import Derived.Test.YtadjhggdddbicaaMa1
set_option linter.unusedVariables false
set_option linter.unusedSimpArgs false
namespace Go.Ev.Ytadjhggdddbicaa
open Go.Ev
/-- Arrays of eight. -/
def Len8 (L : List (List Int)) : Prop := ∀ x ∈ L, x.length = 8
theorem Len8.at {L : List (List Int)} (h : Len8 L) {i : Nat} (hi : i < L.length) : L[i].length = 8 := h _ (List.getElem_mem hi)
theorem getD8 {L : List (List Int)} {i : Nat} {d : List Int} (hi : i < L.length) : List.getD L i d = L[i] := by
  simp [List.getD_eq_getElem?_getD, List.getElem?_eq_getElem hi]
theorem c_toPart_3 (a z : List Int) (ha : a.length = 8) : ∀ i : Nat, i ≤ 8 → ∀ b : List Int, b.length = 8 → b.take i = a.take i → R iw_toPart_3 [tA8 a, tA8 z, tA8 b, tI (i : Int)] = some [tI 0, tA8 z, tA8 a] := by
  refine up_loop _ (fun b h1 h2 => ?_) (fun i hi ih b h1 h2 => ?_)
  · apply vw_toPart_3
    rw [List.take_of_length_le (by omega), List.take_of_length_le (by omega)] at h2
    subst h2
    simp [bw_toPart_3]
  · apply vw_toPart_3
    have hi' : i < a.length := by omega
    simp (disch := omega) only [bw_toPart_3, decide_eq_true, cond_true, Bool.and_true, Int.toNat_natCast, wrap_i64]
    rw [show (i : Int) + 1 = ((i + 1 : Nat) : Int) by omega]
    refine ih _ (by simp [h1]) ?_
    rw [List.take_add_one, List.take_add_one, List.take_set_of_le (Nat.le_refl _), h2]
    simp [h1, hi, List.getD_eq_getElem?_getD, List.getElem?_eq_getElem hi']
theorem c_toPart (a : List Int) (ha : a.length = 8) : R iw_toPart [tA8 a] = some [tA8 a] := by
  apply vw_toPart
  have h := c_toPart_3 a (List.replicate 8 0) ha 0 (by omega) (List.replicate 8 0) (by simp) rfl
  simp only [Int.natCast_zero] at h
  simp only [bw_toPart, h, Option.bind_some, getTV_here, getTV_next]
/-- Rows of marks. -/
def mrow (k : Int) : List Int := (List.range 8).map fun (x : Nat) => wu8 (k + x)
theorem mrow_len (k : Int) : (mrow k).length = 8 := by simp [mrow]
theorem mrow_get (k : Int) {x : Nat} (h : x < 8) : (mrow k)[x]? = some (wu8 (k + x)) := by simp [mrow, h]
def marksR (k : Int) : Nat → List (List Int)
  | 0 => []
  | m + 1 => mrow k :: marksR (k + 8) m
theorem marksR_len : ∀ (m : Nat) (k : Int), (marksR k m).length = m
  | 0, _ => rfl
  | m + 1, k => by simp [marksR, marksR_len m]
theorem marksR_get : ∀ (m : Nat) (k : Int) (i : Nat), i < m → (marksR k m)[i]? = some (mrow (k + 8 * i))
  | 0, k, i, h => by omega
  | m + 1, k, 0, h => by simp [marksR]
  | m + 1, k, i + 1, h => by
    simp only [marksR, List.getElem?_cons_succ]
    rw [marksR_get m _ _ (by omega)]
    congr 2
    omega
theorem fit_rows {L : List (List Int)} (h : Fit (.slice (.arr .u8 8)) L) : L.length ≤ 9223372036854775807 ∧ Len8 L ∧ ∀ x ∈ L, ∀ y ∈ x, 0 ≤ y ∧ y ≤ 255 :=
  ⟨h.1, fun x hx => (h.2 x hx).1, fun x hx y hy => wf_u8 ((h.2 x hx).2 y hy)⟩
end Go.Ev.Ytadjhggdddbicaa
