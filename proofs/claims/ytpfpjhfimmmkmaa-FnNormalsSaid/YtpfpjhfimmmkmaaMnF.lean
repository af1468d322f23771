/- SameBraid, RightNormalOf: the laws. -/
import Derived.Test.YtpfpjhfimmmkmaaMnA
set_option linter.unusedVariables false
set_option linter.unusedSimpArgs false
namespace Go.Ev.Ytpfpjhfimmmkmaa
open Go.Ev Go.Gar
theorem bne_l (a b : List Int) : (a != b) = !decide (a = b) := by rw [Bool.eq_iff_iff]; simp
theorem c_l03Like_4 (x0 x1 x3 x4 : Int) (a b : List (List Int)) (h0 : a.length < 1000000000) (h1 : b.length = a.length) : ∀ i, i ≤ a.length → R is_l03Like_4 [tI x0, tI x1, tLA8 a, tI x3, tI x4, tLA8 b, tI (i : Int)] = some (if a.drop i = b.drop i then [tI 0] else [tI 1, tB false]) := by
  refine up_loop _ ?_ (fun i hi ih => ?_)
  · apply vs_l03Like_4
    rw [List.drop_length, ← h1, List.drop_length]
    simp [bs_l03Like_4, h1]
  · apply vs_l03Like_4
    rw [List.drop_eq_getElem_cons hi, List.drop_eq_getElem_cons (by omega : i < b.length)]
    simp (disch := omega) only [bs_l03Like_4, decide_eq_true, cond_true, Bool.and_true, Int.toNat_natCast, wrap_i64]
    rw [show (i : Int) + 1 = ((i + 1 : Nat) : Int) by omega, ih]
    simp only [List.getD_eq_getElem?_getD, List.getElem?_eq_getElem hi, List.getElem?_eq_getElem (by omega : i < b.length), Option.getD_some, List.cons.injEq]
    by_cases e : a[i] = b[i] <;> simp [e, bne_l]
theorem c_Equal_4 (a b : List (List Int)) (h0 : a.length < 1000000000) (h1 : b.length = a.length) : ∀ i, i ≤ a.length → R ig_Equal___i_Simple_i_Simple__4 [tLA8 a, tLA8 b, tI (a.length : Int), tI (i : Int)] = some (if a.drop i = b.drop i then [tI 0] else [tI 1, tB false]) := by
  refine up_loop _ ?_ (fun i hi ih => ?_)
  · apply vg_Equal___i_Simple_i_Simple__4
    rw [List.drop_length, ← h1, List.drop_length]
    simp [bg_Equal___i_Simple_i_Simple__4, h1]
  · apply vg_Equal___i_Simple_i_Simple__4
    rw [List.drop_eq_getElem_cons hi, List.drop_eq_getElem_cons (by omega : i < b.length)]
    simp (disch := omega) only [bg_Equal___i_Simple_i_Simple__4, decide_eq_true, cond_true, Bool.and_true, Int.toNat_natCast, wrap_i64]
    rw [show (i : Int) + 1 = ((i + 1 : Nat) : Int) by omega, ih]
    simp only [List.getD_eq_getElem?_getD, List.getElem?_eq_getElem hi, List.getElem?_eq_getElem (by omega : i < b.length), Option.getD_some, List.cons.injEq]
    by_cases e : a[i] = b[i] <;> simp [e, bne_l]
theorem c_Equal (a b : List (List Int)) (h0 : a.length < 1000000000) : R ig_Equal___i_Simple_i_Simple_ [tLA8 a, tLA8 b] = some [tB (decide (a = b))] := by
  apply vg_Equal___i_Simple_i_Simple_
  by_cases e : b.length = a.length
  · have := c_Equal_4 a b h0 e 0 (Nat.zero_le _)
    simp only [List.drop_zero, Int.natCast_zero] at this
    simp only [bg_Equal___i_Simple_i_Simple_, e, bne_self_eq_false, cond_false, this]
    by_cases e2 : a = b <;> simp [e2]
  · have : a ≠ b := fun h => e (by rw [h])
    have e3 : ¬ ((a.length : Int) = b.length) := by omega
    simp [bg_Equal___i_Simple_i_Simple_, this, e3, bne_dec]
theorem c_l03Like (a b : Int × Int × List (List Int)) (h0 : a.2.2.length < 1000000000) : R is_l03Like [tPIPILA8 a, tPIPILA8 b] = some [tB (decide (a = b))] := by
  apply vs_l03Like
  obtain ⟨a1, a2, a3⟩ := a
  obtain ⟨b1, b2, b3⟩ := b
  by_cases q1 : a1 = b1
  · by_cases q2 : a2 = b2
    · by_cases e : b3.length = a3.length
      · have := c_l03Like_4 a1 a2 b1 b2 a3 b3 h0 e 0 (Nat.zero_le _)
        simp only [List.drop_zero, Int.natCast_zero] at this
        subst q1
        subst q2
        simp only [bs_l03Like, e, bne_self_eq_false, cond_false, this]
        by_cases e2 : a3 = b3 <;> simp [e2]
      · have : a3 ≠ b3 := fun h => e (by rw [h])
        have e3 : ¬ ((a3.length : Int) = b3.length) := by omega
        simp [bs_l03Like, this, e3, bne_dec]
    · simp [bs_l03Like, q2, bne_dec]
  · simp [bs_l03Like, q1, bne_dec]
theorem c_sameNormal (a b : Int × Int × List (List Int)) (h0 : a.2.2.length < 1000000000) : R ii_sameNormal [tPIPILA8 a, tPIPILA8 b] = some [tB (decide (a = b))] := by
  apply vi_sameNormal
  obtain ⟨a1, a2, a3⟩ := a
  obtain ⟨b1, b2, b3⟩ := b
  by_cases q1 : a1 = b1
  · by_cases q2 : a2 = b2
    · simp [bi_sameNormal, q1, q2, c_Equal a3 b3 h0]
    · simp [bi_sameNormal, q2, beq_dec]
  · simp [bi_sameNormal, q1, beq_dec]
theorem foldN_ok {n : Nat} (h2 : 2 ≤ n) : ∀ (l : List Int) {v : Nm n} {j : Nat}, OkJ v j → OkJ (l.foldl stepN v) (j + l.length)
  | [], v, j, h => h
  | s :: l, v, j, h => by
    have := foldN_ok h2 l (stepN_ok h2 h s)
    rw [List.foldl_cons, List.length_cons, show j + (l.length + 1) = j + 1 + l.length by omega]
    exact this
theorem foldN_len {n : Nat} (h1 : 1 ≤ n) (w : List Int) (hw : Lw n w) (hl : w.length ≤ 200) : (nOf n w).2.length < 1000000 := by
  by_cases h2 : 2 ≤ n
  · have := (foldN_ok h2 w (OkJ.zero n)).len
    unfold nOf
    omega
  · have : n = 1 := by omega
    subst this
    have := Lw_one hw
    subst this
    simp [nOf]
noncomputable def vSame (a b : Int × List Int) : Bool × Int :=
  if isBr a && isBr b then (if a.1 = b.1 then (decide (enc (nOf a.1.toNat a.2) = enc (nOf a.1.toNat b.2)), 0) else (false, 2)) else (false, 1)
theorem c_SameBraid_s (a b : Int × List Int) (hl : a.2.length < 1000000000) (hw : I64 a.2) (hl' : b.2.length < 1000000000) (hw' : I64 b.2) : R is_SameBraid [tPILI a, tPILI b] = some [tB (vSame a b).1, tI (vSame a b).2] := by
  apply vs_SameBraid
  simp only [bs_SameBraid, c_l01Is a hl hw, c_l01Is b hl' hw', Option.bind_some, getTV_here, vSame]
  cases h : isBr a with
  | false => simp
  | true =>
    cases h' : isBr b with
    | false => simp
    | true =>
      by_cases e : a.1 = b.1
      · obtain ⟨q1, q2, q3, q4, q5⟩ := isBr_Lw h
        obtain ⟨r1, r2, r3, r4, r5⟩ := isBr_Lw h'
        rw [← e] at r1
        have hc := c_l03Of a.1.toNat q3 q4 a.2 q1 q5
        have hc' := c_l03Of a.1.toNat q3 q4 b.2 r1 r5
        rw [← q2] at hc hc'
        have he : R is_l03Equal [tI a.1, tLI a.2, tLI b.2] = some [tB (decide (enc (nOf a.1.toNat a.2) = enc (nOf a.1.toNat b.2)))] := by
          apply vs_l03Equal
          have hn := foldN_len q3 a.2 q1 q5
          simp [bs_l03Equal, hc, hc', c_l03Like (enc (nOf a.1.toNat a.2)) (enc (nOf a.1.toNat b.2)) (by simp only [enc, sL_len]; omega)]
        rw [e] at he ⊢
        simp [he]
      · simp [e, bne_dec]
theorem c_SameBraid_i (a b : Int × List Int) (hl : a.2.length < 1000000000) (hl' : b.2.length < 1000000000) : R ii_SameBraid [tPILI a, tPILI b] = some [tB (vSame a b).1, tI (vSame a b).2] := by
  apply vi_SameBraid
  simp only [bi_SameBraid, c_IsBraid a hl, c_IsBraid b hl', Option.bind_some, getTV_here, vSame]
  cases h : isBr a with
  | false => simp
  | true =>
    cases h' : isBr b with
    | false => simp
    | true =>
      by_cases e : a.1 = b.1
      · obtain ⟨q1, q2, q3, q4, q5⟩ := isBr_Lw h
        obtain ⟨r1, r2, r3, r4, r5⟩ := isBr_Lw h'
        rw [← e] at r1
        have hc := c_normalOf a.1.toNat q3 q4 a.2 q1 q5
        have hc' := c_normalOf a.1.toNat q3 q4 b.2 r1 r5
        rw [← q2] at hc hc'
        have hn := foldN_len q3 a.2 q1 q5
        have hs := c_sameNormal (enc (nOf a.1.toNat a.2)) (enc (nOf a.1.toNat b.2)) (by simp only [enc, sL_len]; omega)
        rw [e] at hc hc' hs ⊢
        simp [hc, hc', hs]
      · simp [e, bne_dec]
/-! ### RightNormalOf -/
theorem cr_reversed_3 (n a c : Int) (u l : List Int) (hl : l.length < 1000000000) : ∀ k, k ≤ l.length → ∀ out : List Int, out.length + k < 10000000000 →
    R ii_reversed_3 [tI n, tLI l, tI a, tLI u, tI c, tLI out, tI ((k : Int) - 1)] = some [tI 0, tI a, tLI u, tI c, tLI (out ++ (l.take k).reverse)] := by
  intro k
  induction k with
  | zero =>
    intro _ out _
    apply vi_reversed_3
    simp [bi_reversed_3]
  | succ k ih =>
    intro hk out ho
    have hk' : k < l.length := by omega
    apply vi_reversed_3
    rw [show ((k + 1 : Nat) : Int) - 1 = (k : Int) by omega, take_rev hk']
    simp (disch := omega) only [bi_reversed_3, decide_eq_true, cond_true, Bool.and_true, Int.toNat_natCast, wrap_i64, getD_at hk', apOk1]
    rw [ih (by omega) _ (by simp; omega)]
    simp
theorem c_RightNormalOf_5 (n a c : Int) (u : List (List Int)) (l : List Int) (hl : l.length < 1000000000) : ∀ k, k ≤ l.length → ∀ out : List Int, out.length + k < 10000000000 →
    R is_RightNormalOf_5 [tI n, tLI l, tI a, tI c, tLA8 u, tLI out, tI ((k : Int) - 1)] = some [tI 0, tI n, tLI l, tI a, tI c, tLA8 u, tLI (out ++ (l.take k).reverse)] := by
  intro k
  induction k with
  | zero =>
    intro _ out _
    apply vs_RightNormalOf_5
    simp [bs_RightNormalOf_5]
  | succ k ih =>
    intro hk out ho
    have hk' : k < l.length := by omega
    apply vs_RightNormalOf_5
    rw [show ((k + 1 : Nat) : Int) - 1 = (k : Int) by omega, take_rev hk']
    simp (disch := omega) only [bs_RightNormalOf_5, decide_eq_true, cond_true, Bool.and_true, Int.toNat_natCast, wrap_i64, getD_at hk', apOk1]
    rw [ih (by omega) _ (by simp; omega)]
    simp
def bkL {n : Nat} (A : List (Pm n)) : List (Pm n) := A.reverse.map (·⁻¹)
theorem c_RightNormalOf_11 (n : Nat) (hn : n ≤ 8) (A : List (Pm n)) (hA : A.length < 1000000) (x0 x1 : Int) (x2 : List (List Int)) (x4 x6 x7 : Int) : ∀ (k : Nat), k ≤ A.length → ∀ B : List (Pm n), B.length + k < 1000000 →
    R is_RightNormalOf_11 [tI x0, tI x1, tLA8 x2, tI (n : Int), tI x4, tLA8 (sL A), tI x6, tI x7, tLA8 (sL B), tI ((k : Int) - 1)] = some [tI 0, tI x0, tI x1, tLA8 x2, tI x6, tI x7, tLA8 (sL (B ++ bkL (A.take k)))] := by
  intro k
  induction k with
  | zero =>
    intro _ B _
    apply vs_RightNormalOf_11
    simp [bs_RightNormalOf_11, bkL]
  | succ k ih =>
    intro hk B hB
    have hk' : k < A.length := by omega
    apply vs_RightNormalOf_11
    have ih' := ih (by omega) (B ++ [A[k]⁻¹]) (by simp; omega)
    have et : B ++ [A[k]⁻¹] ++ bkL (A.take k) = B ++ bkL (A.take (k + 1)) := by
      unfold bkL
      rw [take_rev hk']
      simp
    rw [et, ← sL_snoc] at ih'
    rw [show ((k + 1 : Nat) : Int) - 1 = (k : Int) by omega]
    simp (disch := omega) only [bs_RightNormalOf_11, decide_eq_true, cond_true, Bool.and_true, Int.toNat_natCast, wrap_i64, sL_len, sL_get hk', c_l02Back n hn, Option.bind_some, getTV_here, apOk1 (xs := sL B) (x := sA A[k]⁻¹) (by rw [sL_len]; omega)]
    exact ih'
theorem c_RightNormalOf_6 (n : Nat) (hn : n ≤ 8) (A : List (Pm n)) (hA : A.length < 1000000) (x0 x1 : Int) (x2 : List (List Int)) (x4 x6 x7 : Int) : ∀ (k : Nat), k ≤ A.length → ∀ B : List (Pm n), B.length + k < 1000000 →
    R ii_RightNormalOf_6 [tI x0, tI x1, tLA8 x2, tI (n : Int), tI x4, tLA8 (sL A), tI x6, tI x7, tLA8 (sL B), tI ((k : Int) - 1)] = some [tI 0, tI x0, tI x1, tLA8 x2, tI x6, tI x7, tLA8 (sL (B ++ bkL (A.take k)))] := by
  intro k
  induction k with
  | zero =>
    intro _ B _
    apply vi_RightNormalOf_6
    simp [bi_RightNormalOf_6, bkL]
  | succ k ih =>
    intro hk B hB
    have hk' : k < A.length := by omega
    apply vi_RightNormalOf_6
    have ih' := ih (by omega) (B ++ [A[k]⁻¹]) (by simp; omega)
    have et : B ++ [A[k]⁻¹] ++ bkL (A.take k) = B ++ bkL (A.take (k + 1)) := by
      unfold bkL
      rw [take_rev hk']
      simp
    rw [et, ← sL_snoc] at ih'
    rw [show ((k + 1 : Nat) : Int) - 1 = (k : Int) by omega]
    simp (disch := omega) only [bi_RightNormalOf_6, decide_eq_true, cond_true, Bool.and_true, Int.toNat_natCast, wrap_i64, sL_len, sL_get hk', c_backOf n hn, Option.bind_some, getTV_here, apOk1 (xs := sL B) (x := sA A[k]⁻¹) (by rw [sL_len]; omega)]
    exact ih'
theorem Lw_rev {n : Nat} {w : List Int} (h : Lw n w) : Lw n w.reverse := fun x hx => h x (List.mem_reverse.1 hx)
noncomputable def rOf (a : Int × List Int) : Int × Int × List (List Int) := (a.1, (nOf a.1.toNat a.2.reverse).1, sL (bkL (nOf a.1.toNat a.2.reverse).2))
noncomputable def vRight (a : Int × List Int) : (Int × Int × List (List Int)) × Int := if isBr a then limV (rOf a) else (NoV, 1)
theorem c_RightNormalOf_s (a : Int × List Int) (hl : a.2.length < 1000000000) (hw : I64 a.2) : R is_RightNormalOf [tPILI a] = some [tPIPILA8 (vRight a).1, tI (vRight a).2] := by
  apply vs_RightNormalOf
  simp only [bs_RightNormalOf, c_l01Is a hl hw, Option.bind_some, getTV_here, vRight]
  cases h : isBr a with
  | false => simp
  | true =>
    obtain ⟨q1, q2, q3, q4, q5⟩ := isBr_Lw h
    have hc := c_l03Of a.1.toNat q3 q4 a.2.reverse (Lw_rev q1) (by simp; exact q5)
    have hn := foldN_len q3 a.2.reverse (Lw_rev q1) (by simp; exact q5)
    have h5 := c_RightNormalOf_5 a.1 0 0 [] a.2 hl a.2.length (Nat.le_refl _) [] (by simp; omega)
    rw [List.take_length, List.nil_append] at h5
    have h11 := c_RightNormalOf_11 a.1.toNat q4 (nOf a.1.toNat a.2.reverse).2 hn 0 0 [] (nOf a.1.toNat a.2.reverse).1 (a.1.toNat : Int) (nOf a.1.toNat a.2.reverse).1 (nOf a.1.toNat a.2.reverse).2.length (Nat.le_refl _) [] (by simp; omega)
    rw [List.take_length, List.nil_append, sL_nil] at h11
    rw [← q2] at hc h11
    have w1 : wi64 ((a.2.length : Int) - 1) = (a.2.length : Int) - 1 := by rw [wrap_i64] <;> omega
    have w2 : wi64 (((nOf a.1.toNat a.2.reverse).2.length : Int) - 1) = ((nOf a.1.toNat a.2.reverse).2.length : Int) - 1 := by rw [wrap_i64] <;> omega
    simp only [enc, ← q2] at hc
    simp only [Bool.not_true, cond_false, w1, h5, Option.bind_some, getTV_here, getTV_next, hc, sL_len, w2, h11, c_l03Fit, if_true]
    rfl
theorem c_RightNormalOf_i (a : Int × List Int) (hl : a.2.length < 1000000000) : R ii_RightNormalOf [tPILI a] = some [tPIPILA8 (vRight a).1, tI (vRight a).2] := by
  apply vi_RightNormalOf
  simp only [bi_RightNormalOf, c_IsBraid a hl, Option.bind_some, getTV_here, vRight]
  cases h : isBr a with
  | false => simp
  | true =>
    obtain ⟨q1, q2, q3, q4, q5⟩ := isBr_Lw h
    have hc := c_normalOf a.1.toNat q3 q4 a.2.reverse (Lw_rev q1) (by simp; exact q5)
    have hn := foldN_len q3 a.2.reverse (Lw_rev q1) (by simp; exact q5)
    have w1 : wi64 ((a.2.length : Int) - 1) = (a.2.length : Int) - 1 := by rw [wrap_i64] <;> omega
    have hr : R ii_reversed [tPILI (a.1, a.2)] = some [tPILI (a.1, a.2.reverse)] := by
      apply vi_reversed
      have h3 := cr_reversed_3 a.1 0 a.1 [] a.2 hl a.2.length (Nat.le_refl _) [] (by simp; omega)
      simp only [bi_reversed, w1, h3, Option.bind_some, getTV_here, getTV_next, List.nil_append, List.take_length]
    have h11 := c_RightNormalOf_6 a.1.toNat q4 (nOf a.1.toNat a.2.reverse).2 hn 0 0 [] (nOf a.1.toNat a.2.reverse).1 (a.1.toNat : Int) (nOf a.1.toNat a.2.reverse).1 (nOf a.1.toNat a.2.reverse).2.length (Nat.le_refl _) [] (by simp; omega)
    rw [List.take_length, List.nil_append, sL_nil] at h11
    rw [← q2] at hc h11
    have w2 : wi64 (((nOf a.1.toNat a.2.reverse).2.length : Int) - 1) = ((nOf a.1.toNat a.2.reverse).2.length : Int) - 1 := by rw [wrap_i64] <;> omega
    simp only [enc, ← q2] at hc
    simp only [Bool.not_true, cond_false, hr, Option.bind_some, getTV_here, getTV_next, hc, sL_len, w2, h11, c_limited, if_true]
    rfl
theorem vRight_ok (a : Int × List Int) : (vRight a).1.2.2.length ≤ 200 ∧ Len8 (vRight a).1.2.2 := by
  unfold vRight
  split
  · exact ⟨limV_len _, limV_8 _ (sL_8 _)⟩
  · exact ⟨by simp, fun x hx => by simp at hx⟩
end Go.Ev.Ytpfpjhfimmmkmaa
