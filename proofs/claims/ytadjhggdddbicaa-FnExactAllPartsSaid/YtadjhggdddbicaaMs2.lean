/- What the laws' own words do to rows of arrays. (Printed by a program.) -/
import Derived.Test.YtadjhggdddbicaaMb3
import Derived.Test.YtadjhggdddbicaaMa1
set_option linter.unusedVariables false
set_option linter.unusedSimpArgs false
namespace Go.Ev.Ytadjhggdddbicaa
open Go.Ev
/-- Arrays of eight. -/
def Len8 (L : List (List Int)) : Prop := ∀ x ∈ L, x.length = 8
theorem Len8.at {L : List (List Int)} (h : Len8 L) {i : Nat} (hi : i < L.length) : L[i].length = 8 := h _ (List.getElem_mem hi)
theorem getD8 {L : List (List Int)} {i : Nat} {d : List Int} (hi : i < L.length) : List.getD L i d = L[i] := by
  simp [List.getD_eq_getElem?_getD, List.getElem?_eq_getElem hi]
theorem c_eqPart_2 (x0 x1 : List Int) (h0 : x0.length = 8) (h1 : x1.length = 8) : ∀ i : Nat, i ≤ 8 → R iw_eqPart_2 [tA8 x0, tA8 x1, tI (i : Int)] = some (if x0.drop i = x1.drop i then [tI 0] else [tI 1, tB false]) := by
  refine up_loop _ ?_ (fun i hi ih => ?_)
  · apply vw_eqPart_2
    rw [List.drop_of_length_le (by omega), List.drop_of_length_le (by omega)]
    simp [bw_eqPart_2]
  · apply vw_eqPart_2
    rw [List.drop_eq_getElem_cons (by omega : i < x0.length), List.drop_eq_getElem_cons (by omega : i < x1.length)]
    simp (disch := omega) only [bw_eqPart_2, decide_eq_true, cond_true, Bool.and_true, Int.toNat_natCast, wrap_i64]
    rw [show (i : Int) + 1 = ((i + 1 : Nat) : Int) by omega, ih]
    simp only [List.getD_eq_getElem?_getD, List.getElem?_eq_getElem (by omega : i < x0.length), List.getElem?_eq_getElem (by omega : i < x1.length), Option.getD_some, List.cons.injEq]
    by_cases e : x0[i] = x1[i] <;> simp [e, bne_dec]
theorem c_eqPart (a b : List Int) (h0 : a.length = 8) (h1 : b.length = 8) : R iw_eqPart [tA8 a, tA8 b] = some [tB (decide (a = b))] := by
  apply vw_eqPart
  have := c_eqPart_2 a b h0 h1 0 (by omega)
  simp only [List.drop_zero, Int.natCast_zero] at this
  simp only [bw_eqPart, this]
  by_cases e2 : a = b <;> simp [e2]
theorem c_eqPartS_4 (x0 x1 : List (List Int)) (h8 : Len8 x0) (h8' : Len8 x1) (h0 : x0.length < 1000000000) (h1 : x1.length = x0.length) : ∀ i, i ≤ x0.length → R iw_eqPartS_4 [tLA8 x0, tLA8 x1, tI (i : Int)] = some (if x0.drop i = x1.drop i then [tI 0] else [tI 1, tB false]) := by
  refine up_loop _ ?_ (fun i hi ih => ?_)
  · apply vw_eqPartS_4
    rw [List.drop_length, ← h1, List.drop_length]
    simp [bw_eqPartS_4, h1]
  · apply vw_eqPartS_4
    have hi' : i < x1.length := by omega
    rw [List.drop_eq_getElem_cons hi, List.drop_eq_getElem_cons hi']
    simp (disch := omega) only [bw_eqPartS_4, decide_eq_true, cond_true, Bool.and_true, Int.toNat_natCast, wrap_i64, getD8 hi, getD8 hi', c_eqPart _ _ (h8.at hi) (h8'.at hi'), Option.bind_some, getTV_here]
    rw [show (i : Int) + 1 = ((i + 1 : Nat) : Int) by omega, ih]
    simp only [List.cons.injEq]
    by_cases e : x0[i] = x1[i] <;> simp [e]
theorem c_eqPartS (a b : List (List Int)) (h8 : Len8 a) (h8' : Len8 b) (h : a.length < 1000000000) : R iw_eqPartS [tLA8 a, tLA8 b] = some [tB (decide (a = b))] := by
  apply vw_eqPartS
  by_cases e : b.length = a.length
  · have := c_eqPartS_4 a b h8 h8' h e 0 (Nat.zero_le _)
    simp only [List.drop_zero, Int.natCast_zero] at this
    simp only [bw_eqPartS, e, bne_self_eq_false, cond_false, this]
    by_cases e2 : a = b <;> simp [e2]
  · have : a ≠ b := fun h => e (by rw [h])
    have e3 : ¬ ((a.length : Int) = b.length) := by omega
    simp [bw_eqPartS, this, e3, bne_dec]
/-- Rows of marks. -/
def mrow (k : Int) : List Int := (List.range 8).map fun (x : Nat) => wu8 (k + x)
theorem mrow_len (k : Int) : (mrow k).length = 8 := by simp [mrow]
theorem mrow_get (k : Int) {x : Nat} (h : x < 8) : (mrow k)[x]? = some (wu8 (k + x)) := by simp [mrow, h]
def marksR (k : Int) : Nat → List (List Int)
  | 0 => []
  | m + 1 => mrow k :: marksR (k + 8) m
theorem marksR_len : ∀ (m : Nat) (k : Int), (marksR k m).length = m
  | 0, _ => rfl
  | m + 1, k => by simp [marksR, marksR_len m]
theorem marksR_get : ∀ (m : Nat) (k : Int) (i : Nat), i < m → (marksR k m)[i]? = some (mrow (k + 8 * i))
  | 0, k, i, h => by omega
  | m + 1, k, 0, h => by simp [marksR]
  | m + 1, k, i + 1, h => by
    simp only [marksR, List.getElem?_cons_succ]
    rw [marksR_get m _ _ (by omega)]
    congr 2
    omega
theorem c_markPartS_5 (k : Int) (hk : 0 ≤ k) (hk' : k < 4000000000) (i : Nat) : ∀ c : Nat, c ≤ 8 → ∀ (L : List (List Int)) (hi : i < L.length), L[i].length = 8 → L[i].take c = (mrow k).take c →
    R iw_markPartS_5 [tLA8 L, tI (k + c), tI (i : Int), tI (c : Int)] = some [tI 0, tLA8 (L.set i (mrow k)), tI (k + 8), tI (i : Int)] := by
  refine up_loop _ (fun L hi h1 h2 => ?_) (fun c hc ih L hi h1 h2 => ?_)
  · apply vw_markPartS_5
    have h3 : L[i] = mrow k := by
      rw [List.take_of_length_le (by omega), List.take_of_length_le (by rw [mrow_len]; omega)] at h2
      exact h2
    have h4 : L.set i (mrow k) = L := by rw [← h3, List.set_getElem_self]
    rw [h4]
    simp [bw_markPartS_5]
  · apply vw_markPartS_5
    simp (disch := omega) only [bw_markPartS_5, decide_eq_true, cond_true, Bool.and_true, Int.toNat_natCast, wrap_i64, getD8 hi]
    rw [show k + (c : Int) + 1 = k + ((c + 1 : Nat) : Int) by omega, show (c : Int) + 1 = ((c + 1 : Nat) : Int) by omega]
    rw [ih (L.set i (L[i].set c (wu8 (k + c)))) (by simp; exact hi) (by simp [h1]) (by
      simp only [List.getElem_set_self]
      rw [List.take_add_one, List.take_add_one, List.take_set_of_le (Nat.le_refl _), h2, mrow_get k hc]
      simp [h1, hc])]
    rw [List.set_set]
theorem c_markPartS_2 (k : Int) (m : Nat) (hk : 0 ≤ k) (hk' : k + 8 * m < 1000000000) : ∀ i, i ≤ m → ∀ L : List (List Int), L.length = m → Len8 L → L.take i = (marksR k m).take i →
    R iw_markPartS_2 [tLA8 L, tI (k + 8 * i), tI (i : Int)] = some [tI 0, tLA8 (marksR k m), tI (k + 8 * m)] := by
  refine up_loop _ (fun L h1 h8 h2 => ?_) (fun i hi ih L h1 h8 h2 => ?_)
  · apply vw_markPartS_2
    have h3 : L = marksR k m := by
      rw [List.take_of_length_le (by omega), List.take_of_length_le (by rw [marksR_len]; omega)] at h2
      exact h2
    subst h3
    simp [bw_markPartS_2, marksR_len]
  · have hi' : i < L.length := by omega
    have h5 := c_markPartS_5 (k + 8 * i) (by omega) (by omega) i 0 (by omega) L hi' (h8.at hi') rfl
    simp only [Int.natCast_zero, Int.add_zero] at h5
    apply vw_markPartS_2
    simp (disch := omega) only [bw_markPartS_2, decide_eq_true, cond_true, h5, Option.bind_some, getTV_here, getTV_next, wrap_i64]
    rw [show k + 8 * (i : Int) + 8 = k + 8 * ((i + 1 : Nat) : Int) by omega, show (i : Int) + 1 = ((i + 1 : Nat) : Int) by omega]
    refine ih _ (by simp [h1]) (fun x hx => ?_) ?_
    · rcases List.mem_or_eq_of_mem_set hx with hx | rfl
      · exact h8 x hx
      · exact mrow_len _
    · rw [List.take_add_one, List.take_add_one, List.take_set_of_le (Nat.le_refl _), h2, marksR_get m k i hi]
      simp [hi']
theorem c_markPartS (L : List (List Int)) (k : Int) (h8 : Len8 L) (hk : 0 ≤ k) (hk' : k + 8 * L.length < 1000000000) : R iw_markPartS [tLA8 L, tI k] = some [tI (k + 8 * L.length), tLA8 (marksR k L.length)] := by
  apply vw_markPartS
  have h := c_markPartS_2 k L.length hk hk' 0 (Nat.zero_le _) L rfl h8 rfl
  simp only [Int.natCast_zero, Int.mul_zero, Int.add_zero] at h
  simp only [bw_markPartS, h, Option.bind_some, getTV_here, getTV_next]
theorem c_heldPartS_5 (k : Int) (m : Nat) (hk : 0 ≤ k) (hk' : k + 8 * m < 1000000000) (i : Nat) (hi : i < m) : ∀ c : Nat, c ≤ 8 →
    R iw_heldPartS_5 [tLA8 (marksR k m), tI (k + 8 * i + c), tI (i : Int), tI (c : Int)] = some [tI 0, tLA8 (marksR k m), tI (k + 8 * i + 8), tI (i : Int)] := by
  refine up_loop _ ?_ (fun c hc ih => ?_)
  · apply vw_heldPartS_5
    simp [bw_heldPartS_5]
  · apply vw_heldPartS_5
    have l0 := marksR_len m k
    have e : List.getD (List.getD (marksR k m) i []) c 0 = wu8 (k + 8 * i + c) := by
      have h1 : List.getD (marksR k m) i [] = mrow (k + 8 * i) := by
        rw [List.getD_eq_getElem?_getD, marksR_get m k i hi]
        rfl
      rw [h1, List.getD_eq_getElem?_getD, mrow_get _ hc]
      rfl
    simp (disch := omega) only [bw_heldPartS_5, decide_eq_true, cond_true, cond_false, Bool.and_true, Int.toNat_natCast, l0, e, bne_self_eq_false, wrap_i64]
    rw [show k + 8 * (i : Int) + (c : Int) + 1 = k + 8 * (i : Int) + ((c + 1 : Nat) : Int) by omega, show (c : Int) + 1 = ((c + 1 : Nat) : Int) by omega]
    exact ih
theorem c_heldPartS_2 (k : Int) (m : Nat) (hk : 0 ≤ k) (hk' : k + 8 * m < 1000000000) : ∀ i, i ≤ m → R iw_heldPartS_2 [tLA8 (marksR k m), tI (k + 8 * i), tI (i : Int)] = some [tI 0, tI (k + 8 * m)] := by
  refine up_loop _ ?_ (fun i hi ih => ?_)
  · apply vw_heldPartS_2
    simp [bw_heldPartS_2, marksR_len]
  · have h5 := c_heldPartS_5 k m hk hk' i hi 0 (by omega)
    simp only [Int.natCast_zero, Int.add_zero] at h5
    have l0 := marksR_len m k
    apply vw_heldPartS_2
    simp (disch := omega) only [bw_heldPartS_2, l0, decide_eq_true, cond_true, h5, Option.bind_some, getTV_here, getTV_next, beq_self_eq_true, wrap_i64]
    rw [show k + 8 * (i : Int) + 8 = k + 8 * ((i + 1 : Nat) : Int) by omega, show (i : Int) + 1 = ((i + 1 : Nat) : Int) by omega]
    exact ih
theorem c_heldPartS (k : Int) (m : Nat) (hk : 0 ≤ k) (hk' : k + 8 * m < 1000000000) : R iw_heldPartS [tLA8 (marksR k m), tI k] = some [tI (k + 8 * m)] := by
  apply vw_heldPartS
  have h := c_heldPartS_2 k m hk hk' 0 (Nat.zero_le _)
  simp only [Int.natCast_zero, Int.mul_zero, Int.add_zero] at h
  simp [bw_heldPartS, h]
theorem fit_rows {L : List (List Int)} (h : Fit (.slice (.arr .u8 8)) L) : L.length ≤ 9223372036854775807 ∧ Len8 L ∧ ∀ x ∈ L, ∀ y ∈ x, 0 ≤ y ∧ y ≤ 255 :=
  ⟨h.1, fun x hx => (h.2 x hx).1, fun x hx y hy => wf_u8 ((h.2 x hx).2 y hy)⟩
end Go.Ev.Ytadjhggdddbicaa
