/- What the laws' own words do to rows of arrays. (Printed by a program.) -/
import Derived.Test.YtolpnaiincngjaaGreatMb3
import Derived.Test.YtolpnaiincngjaaGreatMa1
set_option linter.unusedVariables false
set_option linter.unusedSimpArgs false
namespace Go.Ev.YtolpnaiincngjaaGreat
open Go.Ev
/-- Arrays of eight. -/
def Len8 (L : List (List Int)) : Prop := ∀ x ∈ L, x.length = 8
theorem Len8.at {L : List (List Int)} (h : Len8 L) {i : Nat} (hi : i < L.length) : L[i].length = 8 := h _ (List.getElem_mem hi)
theorem getD8 {L : List (List Int)} {i : Nat} {d : List Int} (hi : i < L.length) : List.getD L i d = L[i] := by
  simp [List.getD_eq_getElem?_getD, List.getElem?_eq_getElem hi]
theorem c_szSimpleS (a : List (List Int)) (k : Int) (h : a.length ≤ 9223372036854775807) (hk : 0 ≤ k) (hk' : k ≤ 1000000000) :
    R iw_szSimpleS [tLA8 a, tI k] = some [tI (if k < a.length then -1 else k - a.length)] := by
  apply vw_szSimpleS
  simp (disch := omega) only [bw_szSimpleS, wrap_i64]
  by_cases e : k < a.length
  · simp (disch := omega) only [decide_eq_true, cond_true, if_pos e]
  · simp (disch := omega) only [decide_eq_false, cond_false, if_neg e]
theorem c_szNormal (a : Int × Int × List (List Int)) (k : Int) (h : a.2.2.length ≤ 9223372036854775807) (hk : 0 ≤ k) (hk' : k ≤ 1000000000) :
    R iw_szNormal [tPIPILA8 a, tI k] = some [tI (if k < a.2.2.length then -1 else k - a.2.2.length)] := by
  apply vw_szNormal
  simp only [bw_szNormal, c_szSimpleS a.2.2 k h hk hk', Option.bind_some, getTV_here]
  by_cases e : k < a.2.2.length
  · simp [e]
  · simp (disch := omega) only [if_neg e, decide_eq_false, cond_false]
theorem c_toSimple_3 (a z : List Int) (ha : a.length = 8) : ∀ i : Nat, i ≤ 8 → ∀ b : List Int, b.length = 8 → b.take i = a.take i → R iw_toSimple_3 [tA8 a, tA8 z, tA8 b, tI (i : Int)] = some [tI 0, tA8 z, tA8 a] := by
  refine up_loop _ (fun b h1 h2 => ?_) (fun i hi ih b h1 h2 => ?_)
  · apply vw_toSimple_3
    rw [List.take_of_length_le (by omega), List.take_of_length_le (by omega)] at h2
    subst h2
    simp [bw_toSimple_3]
  · apply vw_toSimple_3
    have hi' : i < a.length := by omega
    simp (disch := omega) only [bw_toSimple_3, decide_eq_true, cond_true, Bool.and_true, Int.toNat_natCast, wrap_i64]
    rw [show (i : Int) + 1 = ((i + 1 : Nat) : Int) by omega]
    refine ih _ (by simp [h1]) ?_
    rw [List.take_add_one, List.take_add_one, List.take_set_of_le (Nat.le_refl _), h2]
    simp [h1, hi, List.getD_eq_getElem?_getD, List.getElem?_eq_getElem hi']
theorem c_toSimple (a : List Int) (ha : a.length = 8) : R iw_toSimple [tA8 a] = some [tA8 a] := by
  apply vw_toSimple
  have h := c_toSimple_3 a (List.replicate 8 0) ha 0 (by omega) (List.replicate 8 0) (by simp) rfl
  simp only [Int.natCast_zero] at h
  simp only [bw_toSimple, h, Option.bind_some, getTV_here, getTV_next]
theorem c_toSimpleS_3 (x0 : List (List Int)) (h8 : Len8 x0) (h0 : x0.length < 1000000000) : ∀ i, i ≤ x0.length → ∀ x1 : List (List Int), x1.length = x0.length → x1.take i = x0.take i → R iw_toSimpleS_3 [tLA8 x0, tLA8 x1, tI (i : Int)] = some [tI 0, tLA8 x0] := by
  refine up_loop _ (fun x1 h1 h2 => ?_) (fun i hi ih x1 h1 h2 => ?_)
  · apply vw_toSimpleS_3
    rw [← h1, List.take_length, h1, List.take_length] at h2
    subst h2
    simp [bw_toSimpleS_3]
  · apply vw_toSimpleS_3
    simp (disch := omega) only [bw_toSimpleS_3, decide_eq_true, cond_true, Bool.and_true, Int.toNat_natCast, wrap_i64, getD8 hi, c_toSimple _ (h8.at hi), Option.bind_some, getTV_here]
    rw [show (i : Int) + 1 = ((i + 1 : Nat) : Int) by omega]
    refine ih _ (by simp [h1]) ?_
    rw [List.take_add_one, List.take_add_one, List.take_set_of_le (Nat.le_refl _), h2]
    simp [h1, hi]
theorem c_toSimpleS (a : List (List Int)) (h8 : Len8 a) (h : a.length < 1000000000) : R iw_toSimpleS [tLA8 a] = some [tLA8 a] := by
  apply vw_toSimpleS
  have e : mkOk ((a.length : Nat) : Int) = true := by
    have h2 : ((a.length : Int) ≤ (lim : Int)) := by simp only [lim]; omega
    simp [mkOk, h2]
  have := c_toSimpleS_3 a h8 h 0 (Nat.zero_le _) (List.replicate a.length (List.replicate 8 0)) (by simp) rfl
  simp only [Int.natCast_zero] at this
  simp only [bw_toSimpleS, e, cond_true, Int.toNat_natCast, this, Option.bind_some, getTV_here, getTV_next]
theorem c_toNormal (a : Int × Int × List (List Int)) (h8 : Len8 a.2.2) (h : a.2.2.length < 1000000000) : R iw_toNormal [tPIPILA8 a] = some [tPIPILA8 a] := by
  apply vw_toNormal
  simp only [bw_toNormal, c_toSimpleS a.2.2 h8 h, Option.bind_some, getTV_here]
theorem c_eqSimple_2 (x0 x1 : List Int) (h0 : x0.length = 8) (h1 : x1.length = 8) : ∀ i : Nat, i ≤ 8 → R iw_eqSimple_2 [tA8 x0, tA8 x1, tI (i : Int)] = some (if x0.drop i = x1.drop i then [tI 0] else [tI 1, tB false]) := by
  refine up_loop _ ?_ (fun i hi ih => ?_)
  · apply vw_eqSimple_2
    rw [List.drop_of_length_le (by omega), List.drop_of_length_le (by omega)]
    simp [bw_eqSimple_2]
  · apply vw_eqSimple_2
    rw [List.drop_eq_getElem_cons (by omega : i < x0.length), List.drop_eq_getElem_cons (by omega : i < x1.length)]
    simp (disch := omega) only [bw_eqSimple_2, decide_eq_true, cond_true, Bool.and_true, Int.toNat_natCast, wrap_i64]
    rw [show (i : Int) + 1 = ((i + 1 : Nat) : Int) by omega, ih]
    simp only [List.getD_eq_getElem?_getD, List.getElem?_eq_getElem (by omega : i < x0.length), List.getElem?_eq_getElem (by omega : i < x1.length), Option.getD_some, List.cons.injEq]
    by_cases e : x0[i] = x1[i] <;> simp [e, bne_dec]
theorem c_eqSimple (a b : List Int) (h0 : a.length = 8) (h1 : b.length = 8) : R iw_eqSimple [tA8 a, tA8 b] = some [tB (decide (a = b))] := by
  apply vw_eqSimple
  have := c_eqSimple_2 a b h0 h1 0 (by omega)
  simp only [List.drop_zero, Int.natCast_zero] at this
  simp only [bw_eqSimple, this]
  by_cases e2 : a = b <;> simp [e2]
theorem c_eqSimpleS_4 (x0 x1 : List (List Int)) (h8 : Len8 x0) (h8' : Len8 x1) (h0 : x0.length < 1000000000) (h1 : x1.length = x0.length) : ∀ i, i ≤ x0.length → R iw_eqSimpleS_4 [tLA8 x0, tLA8 x1, tI (i : Int)] = some (if x0.drop i = x1.drop i then [tI 0] else [tI 1, tB false]) := by
  refine up_loop _ ?_ (fun i hi ih => ?_)
  · apply vw_eqSimpleS_4
    rw [List.drop_length, ← h1, List.drop_length]
    simp [bw_eqSimpleS_4, h1]
  · apply vw_eqSimpleS_4
    have hi' : i < x1.length := by omega
    rw [List.drop_eq_getElem_cons hi, List.drop_eq_getElem_cons hi']
    simp (disch := omega) only [bw_eqSimpleS_4, decide_eq_true, cond_true, Bool.and_true, Int.toNat_natCast, wrap_i64, getD8 hi, getD8 hi', c_eqSimple _ _ (h8.at hi) (h8'.at hi'), Option.bind_some, getTV_here]
    rw [show (i : Int) + 1 = ((i + 1 : Nat) : Int) by omega, ih]
    simp only [List.cons.injEq]
    by_cases e : x0[i] = x1[i] <;> simp [e]
theorem c_eqSimpleS (a b : List (List Int)) (h8 : Len8 a) (h8' : Len8 b) (h : a.length < 1000000000) : R iw_eqSimpleS [tLA8 a, tLA8 b] = some [tB (decide (a = b))] := by
  apply vw_eqSimpleS
  by_cases e : b.length = a.length
  · have := c_eqSimpleS_4 a b h8 h8' h e 0 (Nat.zero_le _)
    simp only [List.drop_zero, Int.natCast_zero] at this
    simp only [bw_eqSimpleS, e, bne_self_eq_false, cond_false, this]
    by_cases e2 : a = b <;> simp [e2]
  · have : a ≠ b := fun h => e (by rw [h])
    have e3 : ¬ ((a.length : Int) = b.length) := by omega
    simp [bw_eqSimpleS, this, e3, bne_dec]
theorem c_eqNormal (a b : Int × Int × List (List Int)) (h8 : Len8 a.2.2) (h8' : Len8 b.2.2) (h : a.2.2.length < 1000000000) : R iw_eqNormal [tPIPILA8 a, tPIPILA8 b] = some [tB (decide (a = b))] := by
  apply vw_eqNormal
  obtain ⟨a1, a2, a3⟩ := a
  obtain ⟨b1, b2, b3⟩ := b
  simp only [bw_eqNormal, c_eqSimpleS a3 b3 h8 h8' h]
  by_cases e : a1 = b1 <;> by_cases e2 : a2 = b2 <;> by_cases e3 : a3 = b3 <;> simp [e, e2, e3, bne_dec]
/-- Rows of marks. -/
def mrow (k : Int) : List Int := (List.range 8).map fun (x : Nat) => wu8 (k + x)
theorem mrow_len (k : Int) : (mrow k).length = 8 := by simp [mrow]
theorem mrow_get (k : Int) {x : Nat} (h : x < 8) : (mrow k)[x]? = some (wu8 (k + x)) := by simp [mrow, h]
def marksR (k : Int) : Nat → List (List Int)
  | 0 => []
  | m + 1 => mrow k :: marksR (k + 8) m
theorem marksR_len : ∀ (m : Nat) (k : Int), (marksR k m).length = m
  | 0, _ => rfl
  | m + 1, k => by simp [marksR, marksR_len m]
theorem marksR_get : ∀ (m : Nat) (k : Int) (i : Nat), i < m → (marksR k m)[i]? = some (mrow (k + 8 * i))
  | 0, k, i, h => by omega
  | m + 1, k, 0, h => by simp [marksR]
  | m + 1, k, i + 1, h => by
    simp only [marksR, List.getElem?_cons_succ]
    rw [marksR_get m _ _ (by omega)]
    congr 2
    omega
theorem fit_rows {L : List (List Int)} (h : Fit (.slice (.arr .u8 8)) L) : L.length ≤ 9223372036854775807 ∧ Len8 L ∧ ∀ x ∈ L, ∀ y ∈ x, 0 ≤ y ∧ y ≤ 255 :=
  ⟨h.1, fun x hx => (h.2 x hx).1, fun x hx y hy => wf_u8 ((h.2 x hx).2 y hy)⟩
end Go.Ev.YtolpnaiincngjaaGreat
