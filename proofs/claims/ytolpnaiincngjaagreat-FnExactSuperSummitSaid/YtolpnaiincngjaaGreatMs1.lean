/- What the laws' own words do to rows of arrays. (Printed by a program.) -/
import Derived.Test.YtolpnaiincngjaaGreatMb3
import Derived.Test.YtolpnaiincngjaaGreatMa1
set_option linter.unusedVariables false
set_option linter.unusedSimpArgs false
namespace Go.Ev.YtolpnaiincngjaaGreat
open Go.Ev
/-- Arrays of eight. -/
def Len8 (L : List (List Int)) : Prop := ∀ x ∈ L, x.length = 8
theorem Len8.at {L : List (List Int)} (h : Len8 L) {i : Nat} (hi : i < L.length) : L[i].length = 8 := h _ (List.getElem_mem hi)
theorem getD8 {L : List (List Int)} {i : Nat} {d : List Int} (hi : i < L.length) : List.getD L i d = L[i] := by
  simp [List.getD_eq_getElem?_getD, List.getElem?_eq_getElem hi]
theorem c_szSimpleS (a : List (List Int)) (k : Int) (h : a.length ≤ 9223372036854775807) (hk : 0 ≤ k) (hk' : k ≤ 1000000000) :
    R iw_szSimpleS [tLA8 a, tI k] = some [tI (if k < a.length then -1 else k - a.length)] := by
  apply vw_szSimpleS
  simp (disch := omega) only [bw_szSimpleS, wrap_i64]
  by_cases e : k < a.length
  · simp (disch := omega) only [decide_eq_true, cond_true, if_pos e]
  · simp (disch := omega) only [decide_eq_false, cond_false, if_neg e]
theorem c_szNormal (a : Int × Int × List (List Int)) (k : Int) (h : a.2.2.length ≤ 9223372036854775807) (hk : 0 ≤ k) (hk' : k ≤ 1000000000) :
    R iw_szNormal [tPIPILA8 a, tI k] = some [tI (if k < a.2.2.length then -1 else k - a.2.2.length)] := by
  apply vw_szNormal
  simp only [bw_szNormal, c_szSimpleS a.2.2 k h hk hk', Option.bind_some, getTV_here]
  by_cases e : k < a.2.2.length
  · simp [e]
  · simp (disch := omega) only [if_neg e, decide_eq_false, cond_false]
theorem c_toSimple_3 (a z : List Int) (ha : a.length = 8) : ∀ i : Nat, i ≤ 8 → ∀ b : List Int, b.length = 8 → b.take i = a.take i → R iw_toSimple_3 [tA8 a, tA8 z, tA8 b, tI (i : Int)] = some [tI 0, tA8 z, tA8 a] := by
  refine up_loop _ (fun b h1 h2 => ?_) (fun i hi ih b h1 h2 => ?_)
  · apply vw_toSimple_3
    rw [List.take_of_length_le (by omega), List.take_of_length_le (by omega)] at h2
    subst h2
    simp [bw_toSimple_3]
  · apply vw_toSimple_3
    have hi' : i < a.length := by omega
    simp (disch := omega) only [bw_toSimple_3, decide_eq_true, cond_true, Bool.and_true, Int.toNat_natCast, wrap_i64]
    rw [show (i : Int) + 1 = ((i + 1 : Nat) : Int) by omega]
    refine ih _ (by simp [h1]) ?_
    rw [List.take_add_one, List.take_add_one, List.take_set_of_le (Nat.le_refl _), h2]
    simp [h1, hi, List.getD_eq_getElem?_getD, List.getElem?_eq_getElem hi']
theorem c_toSimple (a : List Int) (ha : a.length = 8) : R iw_toSimple [tA8 a] = some [tA8 a] := by
  apply vw_toSimple
  have h := c_toSimple_3 a (List.replicate 8 0) ha 0 (by omega) (List.replicate 8 0) (by simp) rfl
  simp only [Int.natCast_zero] at h
  simp only [bw_toSimple, h, Option.bind_some, getTV_here, getTV_next]
theorem c_toSimpleS_3 (x0 : List (List Int)) (h8 : Len8 x0) (h0 : x0.length < 1000000000) : ∀ i, i ≤ x0.length → ∀ x1 : List (List Int), x1.length = x0.length → x1.take i = x0.take i → R iw_toSimpleS_3 [tLA8 x0, tLA8 x1, tI (i : Int)] = some [tI 0, tLA8 x0] := by
  refine up_loop _ (fun x1 h1 h2 => ?_) (fun i hi ih x1 h1 h2 => ?_)
  · apply vw_toSimpleS_3
    rw [← h1, List.take_length, h1, List.take_length] at h2
    subst h2
    simp [bw_toSimpleS_3]
  · apply vw_toSimpleS_3
    simp (disch := omega) only [bw_toSimpleS_3, decide_eq_true, cond_true, Bool.and_true, Int.toNat_natCast, wrap_i64, getD8 hi, c_toSimple _ (h8.at hi), Option.bind_some, getTV_here]
    rw [show (i : Int) + 1 = ((i + 1 : Nat) : Int) by omega]
    refine ih _ (by simp [h1]) ?_
    rw [List.take_add_one, List.take_add_one, List.take_set_of_le (Nat.le_refl _), h2]
    simp [h1, hi]
theorem c_toSimpleS (a : List (List Int)) (h8 : Len8 a) (h : a.length < 1000000000) : R iw_toSimpleS [tLA8 a] = some [tLA8 a] := by
  apply vw_toSimpleS
  have e : mkOk ((a.length : Nat) : Int) = true := by
    have h2 : ((a.length : Int) ≤ (lim : Int)) := by simp only [lim]; omega
    simp [mkOk, h2]
  have := c_toSimpleS_3 a h8 h 0 (Nat.zero_le _) (List.replicate a.length (List.replicate 8 0)) (by simp) rfl
  simp only [Int.natCast_zero] at this
  simp only [bw_toSimpleS, e, cond_true, Int.toNat_natCast, this, Option.bind_some, getTV_here, getTV_next]
theorem c_toNormal (a : Int × Int × List (List Int)) (h8 : Len8 a.2.2) (h : a.2.2.length < 1000000000) : R iw_toNormal [tPIPILA8 a] = some [tPIPILA8 a] := by
  apply vw_toNormal
  simp only [bw_toNormal, c_toSimpleS a.2.2 h8 h, Option.bind_some, getTV_here]
theorem c_eqSimple_2 (x0 x1 : List Int) (h0 : x0.length = 8) (h1 : x1.length = 8) : ∀ i : Nat, i ≤ 8 → R iw_eqSimple_2 [tA8 x0, tA8 x1, tI (i : Int)] = some (if x0.drop i = x1.drop i then [tI 0] else [tI 1, tB false]) := by
  refine up_loop _ ?_ (fun i hi ih => ?_)
  · apply vw_eqSimple_2
    rw [List.drop_of_length_le (by omega), List.drop_of_length_le (by omega)]
    simp [bw_eqSimple_2]
  · apply vw_eqSimple_2
    rw [List.drop_eq_getElem_cons (by omega : i < x0.length), List.drop_eq_getElem_cons (by omega : i < x1.length)]
    simp (disch := omega) only [bw_eqSimple_2, decide_eq_true, cond_true, Bool.and_true, Int.toNat_natCast, wrap_i64]
    rw [show (i : Int) + 1 = ((i + 1 : Nat) : Int) by omega, ih]
    simp only [List.getD_eq_getElem?_getD, List.getElem?_eq_getElem (by omega : i < x0.length), List.getElem?_eq_getElem (by omega : i < x1.length), Option.getD_some, List.cons.injEq]
    by_cases e : x0[i] = x1[i] <;> simp [e, bne_dec]
theorem c_eqSimple (a b : List Int) (h0 : a.length = 8) (h1 : b.length = 8) : R iw_eqSimple [tA8 a, tA8 b] = some [tB (decide (a = b))] := by
  apply vw_eqSimple
  have := c_eqSimple_2 a b h0 h1 0 (by omega)
  simp only [List.drop_zero, Int.natCast_zero] at this
  simp only [bw_eqSimple, this]
  by_cases e2 : a = b <;> simp [e2]
theorem c_eqSimpleS_4 (x0 x1 : List (List Int)) (h8 : Len8 x0) (h8' : Len8 x1) (h0 : x0.length < 1000000000) (h1 : x1.length = x0.length) : ∀ i, i ≤ x0.length → R iw_eqSimpleS_4 [tLA8 x0, tLA8 x1, tI (i : Int)] = some (if x0.drop i = x1.drop i then [tI 0] else [tI 1, tB false]) := by
  refine up_loop _ ?_ (fun i hi ih => ?_)
  · apply vw_eqSimpleS_4
    rw [List.drop_length, ← h1, List.drop_length]
    simp [bw_eqSimpleS_4, h1]
  · apply vw_eqSimpleS_4
    have hi' : i < x1.length := by omega
    rw [List.drop_eq_getElem_cons hi, List.drop_eq_getElem_cons hi']
    simp (disch := omega) only [bw_eqSimpleS_4, decide_eq_true, cond_true, Bool.and_true, Int.toNat_natCast, wrap_i64, getD8 hi, getD8 hi', c_eqSimple _ _ (h8.at hi) (h8'.at hi'), Option.bind_some, getTV_here]
    rw [show (i : Int) + 1 = ((i + 1 : Nat) : Int) by omega, ih]
    simp only [List.cons.injEq]
    by_cases e : x0[i] = x1[i] <;> simp [e]
theorem c_eqSimpleS (a b : List (List Int)) (h8 : Len8 a) (h8' : Len8 b) (h : a.length < 1000000000) : R iw_eqSimpleS [tLA8 a, tLA8 b] = some [tB (decide (a = b))] := by
  apply vw_eqSimpleS
  by_cases e : b.length = a.length
  · have := c_eqSimpleS_4 a b h8 h8' h e 0 (Nat.zero_le _)
    simp only [List.drop_zero, Int.natCast_zero] at this
    simp only [bw_eqSimpleS, e, bne_self_eq_false, cond_false, this]
    by_cases e2 : a = b <;> simp [e2]
  · have : a ≠ b := fun h => e (by rw [h])
    have e3 : ¬ ((a.length : Int) = b.length) := by omega
    simp [bw_eqSimpleS, this, e3, bne_dec]
theorem c_eqNormal (a b : Int × Int × List (List Int)) (h8 : Len8 a.2.2) (h8' : Len8 b.2.2) (h : a.2.2.length < 1000000000) : R iw_eqNormal [tPIPILA8 a, tPIPILA8 b] = some [tB (decide (a = b))] := by
  apply vw_eqNormal
  obtain ⟨a1, a2, a3⟩ := a
  obtain ⟨b1, b2, b3⟩ := b
  simp only [bw_eqNormal, c_eqSimpleS a3 b3 h8 h8' h]
  by_cases e : a1 = b1 <;> by_cases e2 : a2 = b2 <;> by_cases e3 : a3 = b3 <;> simp [e, e2, e3, bne_dec]
/-- Rows of marks. -/
def mrow (k : Int) : List Int := (List.range 8).map fun (x : Nat) => wu8 (k + x)
theorem mrow_len (k : Int) : (mrow k).length = 8 := by simp [mrow]
theorem mrow_get (k : Int) {x : Nat} (h : x < 8) : (mrow k)[x]? = some (wu8 (k + x)) := by simp [mrow, h]
def marksR (k : Int) : Nat → List (List Int)
  | 0 => []
  | m + 1 => mrow k :: marksR (k + 8) m
theorem marksR_len : ∀ (m : Nat) (k : Int), (marksR k m).length = m
  | 0, _ => rfl
  | m + 1, k => by simp [marksR, marksR_len m]
theorem marksR_get : ∀ (m : Nat) (k : Int) (i : Nat), i < m → (marksR k m)[i]? = some (mrow (k + 8 * i))
  | 0, k, i, h => by omega
  | m + 1, k, 0, h => by simp [marksR]
  | m + 1, k, i + 1, h => by
    simp only [marksR, List.getElem?_cons_succ]
    rw [marksR_get m _ _ (by omega)]
    congr 2
    omega
theorem c_markSimpleS_5 (k : Int) (hk : 0 ≤ k) (hk' : k < 4000000000) (i : Nat) : ∀ c : Nat, c ≤ 8 → ∀ (L : List (List Int)) (hi : i < L.length), L[i].length = 8 → L[i].take c = (mrow k).take c →
    R iw_markSimpleS_5 [tLA8 L, tI (k + c), tI (i : Int), tI (c : Int)] = some [tI 0, tLA8 (L.set i (mrow k)), tI (k + 8), tI (i : Int)] := by
  refine up_loop _ (fun L hi h1 h2 => ?_) (fun c hc ih L hi h1 h2 => ?_)
  · apply vw_markSimpleS_5
    have h3 : L[i] = mrow k := by
      rw [List.take_of_length_le (by omega), List.take_of_length_le (by rw [mrow_len]; omega)] at h2
      exact h2
    have h4 : L.set i (mrow k) = L := by rw [← h3, List.set_getElem_self]
    rw [h4]
    simp [bw_markSimpleS_5]
  · apply vw_markSimpleS_5
    simp (disch := omega) only [bw_markSimpleS_5, decide_eq_true, cond_true, Bool.and_true, Int.toNat_natCast, wrap_i64, getD8 hi]
    rw [show k + (c : Int) + 1 = k + ((c + 1 : Nat) : Int) by omega, show (c : Int) + 1 = ((c + 1 : Nat) : Int) by omega]
    rw [ih (L.set i (L[i].set c (wu8 (k + c)))) (by simp; exact hi) (by simp [h1]) (by
      simp only [List.getElem_set_self]
      rw [List.take_add_one, List.take_add_one, List.take_set_of_le (Nat.le_refl _), h2, mrow_get k hc]
      simp [h1, hc])]
    rw [List.set_set]
theorem c_markSimpleS_2 (k : Int) (m : Nat) (hk : 0 ≤ k) (hk' : k + 8 * m < 1000000000) : ∀ i, i ≤ m → ∀ L : List (List Int), L.length = m → Len8 L → L.take i = (marksR k m).take i →
    R iw_markSimpleS_2 [tLA8 L, tI (k + 8 * i), tI (i : Int)] = some [tI 0, tLA8 (marksR k m), tI (k + 8 * m)] := by
  refine up_loop _ (fun L h1 h8 h2 => ?_) (fun i hi ih L h1 h8 h2 => ?_)
  · apply vw_markSimpleS_2
    have h3 : L = marksR k m := by
      rw [List.take_of_length_le (by omega), List.take_of_length_le (by rw [marksR_len]; omega)] at h2
      exact h2
    subst h3
    simp [bw_markSimpleS_2, marksR_len]
  · have hi' : i < L.length := by omega
    have h5 := c_markSimpleS_5 (k + 8 * i) (by omega) (by omega) i 0 (by omega) L hi' (h8.at hi') rfl
    simp only [Int.natCast_zero, Int.add_zero] at h5
    apply vw_markSimpleS_2
    simp (disch := omega) only [bw_markSimpleS_2, decide_eq_true, cond_true, h5, Option.bind_some, getTV_here, getTV_next, wrap_i64]
    rw [show k + 8 * (i : Int) + 8 = k + 8 * ((i + 1 : Nat) : Int) by omega, show (i : Int) + 1 = ((i + 1 : Nat) : Int) by omega]
    refine ih _ (by simp [h1]) (fun x hx => ?_) ?_
    · rcases List.mem_or_eq_of_mem_set hx with hx | rfl
      · exact h8 x hx
      · exact mrow_len _
    · rw [List.take_add_one, List.take_add_one, List.take_set_of_le (Nat.le_refl _), h2, marksR_get m k i hi]
      simp [hi']
theorem c_markSimpleS (L : List (List Int)) (k : Int) (h8 : Len8 L) (hk : 0 ≤ k) (hk' : k + 8 * L.length < 1000000000) : R iw_markSimpleS [tLA8 L, tI k] = some [tI (k + 8 * L.length), tLA8 (marksR k L.length)] := by
  apply vw_markSimpleS
  have h := c_markSimpleS_2 k L.length hk hk' 0 (Nat.zero_le _) L rfl h8 rfl
  simp only [Int.natCast_zero, Int.mul_zero, Int.add_zero] at h
  simp only [bw_markSimpleS, h, Option.bind_some, getTV_here, getTV_next]
theorem c_markNormal (v : Int × Int × List (List Int)) (k : Int) (h8 : Len8 v.2.2) (hk : 0 ≤ k) (hk' : k + 8 * v.2.2.length < 1000000000) : R iw_markNormal [tPIPILA8 v, tI k] = some [tI (k + 8 * v.2.2.length), tPIPILA8 (v.1, v.2.1, marksR k v.2.2.length)] := by
  apply vw_markNormal
  simp only [bw_markNormal, c_markSimpleS v.2.2 k h8 hk hk', Option.bind_some, getTV_here, getTV_next]
theorem c_heldSimpleS_5 (k : Int) (m : Nat) (hk : 0 ≤ k) (hk' : k + 8 * m < 1000000000) (i : Nat) (hi : i < m) : ∀ c : Nat, c ≤ 8 →
    R iw_heldSimpleS_5 [tLA8 (marksR k m), tI (k + 8 * i + c), tI (i : Int), tI (c : Int)] = some [tI 0, tLA8 (marksR k m), tI (k + 8 * i + 8), tI (i : Int)] := by
  refine up_loop _ ?_ (fun c hc ih => ?_)
  · apply vw_heldSimpleS_5
    simp [bw_heldSimpleS_5]
  · apply vw_heldSimpleS_5
    have l0 := marksR_len m k
    have e : List.getD (List.getD (marksR k m) i []) c 0 = wu8 (k + 8 * i + c) := by
      have h1 : List.getD (marksR k m) i [] = mrow (k + 8 * i) := by
        rw [List.getD_eq_getElem?_getD, marksR_get m k i hi]
        rfl
      rw [h1, List.getD_eq_getElem?_getD, mrow_get _ hc]
      rfl
    simp (disch := omega) only [bw_heldSimpleS_5, decide_eq_true, cond_true, cond_false, Bool.and_true, Int.toNat_natCast, l0, e, bne_self_eq_false, wrap_i64]
    rw [show k + 8 * (i : Int) + (c : Int) + 1 = k + 8 * (i : Int) + ((c + 1 : Nat) : Int) by omega, show (c : Int) + 1 = ((c + 1 : Nat) : Int) by omega]
    exact ih
theorem c_heldSimpleS_2 (k : Int) (m : Nat) (hk : 0 ≤ k) (hk' : k + 8 * m < 1000000000) : ∀ i, i ≤ m → R iw_heldSimpleS_2 [tLA8 (marksR k m), tI (k + 8 * i), tI (i : Int)] = some [tI 0, tI (k + 8 * m)] := by
  refine up_loop _ ?_ (fun i hi ih => ?_)
  · apply vw_heldSimpleS_2
    simp [bw_heldSimpleS_2, marksR_len]
  · have h5 := c_heldSimpleS_5 k m hk hk' i hi 0 (by omega)
    simp only [Int.natCast_zero, Int.add_zero] at h5
    have l0 := marksR_len m k
    apply vw_heldSimpleS_2
    simp (disch := omega) only [bw_heldSimpleS_2, l0, decide_eq_true, cond_true, h5, Option.bind_some, getTV_here, getTV_next, beq_self_eq_true, wrap_i64]
    rw [show k + 8 * (i : Int) + 8 = k + 8 * ((i + 1 : Nat) : Int) by omega, show (i : Int) + 1 = ((i + 1 : Nat) : Int) by omega]
    exact ih
theorem c_heldSimpleS (k : Int) (m : Nat) (hk : 0 ≤ k) (hk' : k + 8 * m < 1000000000) : R iw_heldSimpleS [tLA8 (marksR k m), tI k] = some [tI (k + 8 * m)] := by
  apply vw_heldSimpleS
  have h := c_heldSimpleS_2 k m hk hk' 0 (Nat.zero_le _)
  simp only [Int.natCast_zero, Int.mul_zero, Int.add_zero] at h
  simp [bw_heldSimpleS, h]
theorem fit_rows {L : List (List Int)} (h : Fit (.slice (.arr .u8 8)) L) : L.length ≤ 9223372036854775807 ∧ Len8 L ∧ ∀ x ∈ L, ∀ y ∈ x, 0 ≤ y ∧ y ≤ 255 :=
  ⟨h.1, fun x hx => (h.2 x hx).1, fun x hx y hy => wf_u8 ((h.2 x hx).2 y hy)⟩
end Go.Ev.YtolpnaiincngjaaGreat
