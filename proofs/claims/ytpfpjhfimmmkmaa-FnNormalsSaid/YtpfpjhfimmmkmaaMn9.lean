/- Products, inverses, powers and conjugates of normal forms: what both packages answer. -/
import Derived.Test.YtpfpjhfimmmkmaaMn8
set_option linter.unusedVariables false
set_option linter.unusedSimpArgs false
namespace Go.Ev.Ytpfpjhfimmmkmaa
open Go.Ev Go.Gar
abbrev NoV : Int × Int × List (List Int) := (0, 0, [])
theorem prod_ok {n : Nat} (hn1 : 1 ≤ n) {v w : Nm n} {a b : Nat} (hv : OkN v a) (hw : OkN w b) : OkN (prod v w) (2 * (a + b)) := by
  have a1 := hv.len
  have a2 := hv.lo
  have a3 := hv.hi
  have b1 := hw.len
  have b2 := hw.lo
  have b3 := hw.hi
  by_cases h : n = 1
  · have e1 := hv.one h
    have e2 := hw.one h
    subst e1
    subst e2
    have : prod ((0, []) : Nm n) (0, []) = (0, []) := by
      unfold prod
      exact mk_nil _
    rw [this]
    exact ⟨Lat.Proper.nil, by simp, by simp only; omega, by simp only; omega, fun _ => rfl⟩
  · have hm := mk_spec (show 2 ≤ n by omega) (v.1 + w.1) (tk w.1 v.2 ++ w.2)
    have hl := mk_len (show 2 ≤ n by omega) (v.1 + w.1) (tk w.1 v.2 ++ w.2)
    simp only [List.length_append, tk_len] at hm hl
    refine ⟨hm.1, ?_, ?_, ?_, fun h' => (h h').elim⟩ <;> unfold prod <;> omega
theorem lim_enc {n : Nat} (w : Nm n) (hP : (Pm.lat n).Proper w.2) (h1 : n = 1 → w = (0, [])) : (limV (enc w) = (enc w, 0) ∧ OkN w 200) ∨ limV (enc w) = (NoV, 3) := by
  unfold limV
  by_cases h : -200 ≤ (enc w).2.1 ∧ (enc w).2.1 ≤ 200 ∧ (enc w).2.2.length ≤ 200
  · rw [if_pos h]
    simp only [enc, sL_len] at h
    exact .inl ⟨rfl, hP, h.2.2, by omega, by omega, h1⟩
  · rw [if_neg h]
    exact .inr rfl
/-! ### inverses -/
noncomputable def stepI {n : Nat} (v : Nm n) (s : Pm n) : Nm n := mk (v.1 - 1) (v.2.map trn ++ [Pm.half n * s⁻¹])
noncomputable def invN {n : Nat} (v : Nm n) : Nm n := ((v.2.reverse.foldl stepI (0, [])).1 - v.1, tk v.1 (v.2.reverse.foldl stepI (0, [])).2)
theorem stepI_ok {n : Nat} (h2 : 2 ≤ n) {v : Nm n} {j : Nat} (h : OkJ v j) (s : Pm n) : OkJ (stepI v s) (j + 1) := by
  have a1 := h.lo
  have a2 := h.hi
  have a3 := h.len
  have hm := mk_spec h2 (v.1 - 1) (v.2.map trn ++ [Pm.half n * s⁻¹])
  have hl := mk_len h2 (v.1 - 1) (v.2.map trn ++ [Pm.half n * s⁻¹])
  simp only [List.length_append, List.length_cons, List.length_nil, List.length_map] at hm hl
  exact ⟨hm.1, by unfold stepI; omega, by unfold stepI; omega, by unfold stepI; omega⟩
theorem foldI_ok {n : Nat} (h2 : 2 ≤ n) : ∀ (l : List (Pm n)) {v : Nm n} {j : Nat}, OkJ v j → OkJ (l.foldl stepI v) (j + l.length)
  | [], v, j, h => h
  | s :: l, v, j, h => by
    have := foldI_ok h2 l (stepI_ok h2 h s)
    rw [List.foldl_cons, List.length_cons, show j + (l.length + 1) = j + 1 + l.length by omega]
    exact this
theorem tk_neg_eq {n : Nat} (k : Int) (l : List (Pm n)) : tk (-k) l = tk k l := by
  unfold tk
  rw [Int.neg_tmod]
  by_cases h : k.tmod 2 = 0
  · simp [h]
  · have : ¬ -(k.tmod 2) = 0 := by omega
    simp [h, this]
theorem invN_ok {n : Nat} (hn1 : 1 ≤ n) {v : Nm n} (hv : OkN v 200) : OkN (invN v) 1000 := by
  have a1 := hv.len
  have a2 := hv.lo
  have a3 := hv.hi
  by_cases h : n = 1
  · have e := hv.one h
    subst e
    have : invN ((0, []) : Nm n) = (0, []) := rfl
    rw [this]
    exact ⟨Lat.Proper.nil, by simp, by simp only; omega, by simp only; omega, fun _ => rfl⟩
  · have hf := foldI_ok (show 2 ≤ n by omega) v.2.reverse (OkJ.zero n)
    rw [List.length_reverse] at hf
    have b1 := hf.lo
    have b2 := hf.hi
    have b3 := hf.len
    refine ⟨tk_proper _ hf.P, ?_, ?_, ?_, fun h' => (h h').elim⟩
    · simp only [invN, tk_len]; omega
    · simp only [invN]; omega
    · simp only [invN]; omega
theorem c_inverse_3 (n : Nat) (h2 : 2 ≤ n) (hn : n ≤ 8) (A : List (Pm n)) (hA : A.length ≤ 200) (x0 x1 x3 x4 : Int) (x5 : List (List Int)) : ∀ (k : Nat), k ≤ A.length → ∀ v : Nm n, OkJ v (A.length - k) →
    R ii_inverse_3 [tI x0, tI x1, tLA8 (sL A), tI x3, tI x4, tLA8 x5, tI (n : Int), tI v.1, tLA8 (sL v.2), tI ((k : Int) - 1)] =
      some [tI 0, tI x0, tI x1, tLA8 (sL A), tI x3, tI x4, tLA8 x5, tI (n : Int), tI ((A.take k).reverse.foldl stepI v).1, tLA8 (sL ((A.take k).reverse.foldl stepI v).2)] := by
  intro k
  induction k with
  | zero =>
    intro _ v _
    apply vi_inverse_3
    simp [bi_inverse_3]
  | succ k ih =>
    intro hk v hv
    have hk' : k < A.length := by omega
    have a1 := hv.lo
    have a2 := hv.hi
    have a3 := hv.len
    have hs := stepI_ok h2 hv A[k]
    have ih' := ih (by omega) (stepI v A[k]) (by rw [show A.length - k = A.length - (k + 1) + 1 by omega]; exact hs)
    have hput := c_putInverse n h2 hn v A[k] hv.P (by omega) (by omega) (by omega)
    simp only [enc] at hput
    apply vi_inverse_3
    rw [show ((k + 1 : Nat) : Int) - 1 = (k : Int) by omega, take_rev hk', List.foldl_cons]
    simp (disch := omega) only [bi_inverse_3, decide_eq_true, cond_true, Bool.and_true, Int.toNat_natCast, sL_len, sL_get hk', hput, Option.bind_some, getTV_here, wrap_i64]
    exact ih'
theorem c_l03Inverse_3 (n : Nat) (h2 : 2 ≤ n) (hn : n ≤ 8) (A : List (Pm n)) (hA : A.length ≤ 200) (x0 x1 x3 x4 : Int) (x5 : List (List Int)) : ∀ (k : Nat), k ≤ A.length → ∀ v : Nm n, OkJ v (A.length - k) →
    R is_l03Inverse_3 [tI x0, tI x1, tLA8 (sL A), tI x3, tI x4, tLA8 x5, tI (n : Int), tI v.1, tLA8 (sL v.2), tI ((k : Int) - 1)] =
      some [tI 0, tI x0, tI x1, tLA8 (sL A), tI x3, tI x4, tLA8 x5, tI (n : Int), tI ((A.take k).reverse.foldl stepI v).1, tLA8 (sL ((A.take k).reverse.foldl stepI v).2)] := by
  intro k
  induction k with
  | zero =>
    intro _ v _
    apply vs_l03Inverse_3
    simp [bs_l03Inverse_3]
  | succ k ih =>
    intro hk v hv
    have hk' : k < A.length := by omega
    have a1 := hv.lo
    have a2 := hv.hi
    have a3 := hv.len
    have hs := stepI_ok h2 hv A[k]
    have ih' := ih (by omega) (stepI v A[k]) (by rw [show A.length - k = A.length - (k + 1) + 1 by omega]; exact hs)
    have hput := c_l03Times_t n h2 hn v A[k] (by omega) (by omega) (by omega)
    simp only [enc] at hput
    apply vs_l03Inverse_3
    rw [show ((k + 1 : Nat) : Int) - 1 = (k : Int) by omega, take_rev hk', List.foldl_cons]
    simp (disch := omega) only [bs_l03Inverse_3, decide_eq_true, cond_true, Bool.and_true, Int.toNat_natCast, sL_len, sL_get hk', hput, Option.bind_some, getTV_here, wrap_i64]
    exact ih'
theorem c_inverse (n : Nat) (hn1 : 1 ≤ n) (hn : n ≤ 8) (v : Nm n) (hv : OkN v 200) : R ii_inverse [tPIPILA8 (enc v)] = some [tPIPILA8 (enc (invN v))] := by
  have a1 := hv.len
  have a2 := hv.lo
  have a3 := hv.hi
  apply vi_inverse
  by_cases h : n = 1
  · have e := hv.one h
    subst e
    have h3 : R ii_inverse_3 [tI (n : Int), tI 0, tLA8 [], tI 0, tI 0, tLA8 [], tI (n : Int), tI 0, tLA8 [], tI (-1)] = some [tI 0, tI (n : Int), tI 0, tLA8 [], tI 0, tI 0, tLA8 [], tI (n : Int), tI 0, tLA8 []] := by
      apply vi_inverse_3
      simp [bi_inverse_3]
    have ht := c_turnBy n hn1 hn (0, []) 0 (fun _ => rfl) (by simp) (by simp) (by simp) (by omega) (by omega)
    have htk : tk 0 ([] : List (Pm n)) = [] := rfl
    have e1 : wi64 ((([] : List (List Int)).length : Nat) - 1) = -1 := by decide
    have e2 : wi64 (0 - 0) = 0 := by decide
    have hi : invN ((0, []) : Nm n) = (0, []) := rfl
    simp only [enc, sL_nil, htk, Int.add_zero, hi] at ht ⊢
    simp only [bi_inverse, e1, h3, Option.bind_some, getTV_here, getTV_next, e2, ht]
  · have h3 := c_inverse_3 n (by omega) hn v.2 a1 (n : Int) v.1 0 0 [] v.2.length (Nat.le_refl _) (0, []) (by rw [Nat.sub_self]; exact OkJ.zero n)
    rw [List.take_length] at h3
    have hf := foldI_ok (show 2 ≤ n by omega) v.2.reverse (OkJ.zero n)
    rw [List.length_reverse] at hf
    have b1 := hf.lo
    have b2 := hf.hi
    have b3 := hf.len
    have ht := c_turnBy n hn1 hn (v.2.reverse.foldl stepI (0, [])) (-v.1) (fun h' => (h h').elim) (by omega) (by omega) (by omega) (by omega) (by omega)
    rw [tk_neg_eq] at ht
    simp only [sL_nil] at h3
    simp only [enc] at ht ⊢
    simp (disch := omega) only [bi_inverse, sL_len, wrap_i64, h3, Option.bind_some, getTV_here, getTV_next, Int.zero_sub, ht]
    rfl
theorem c_l03Inverse (n : Nat) (hn1 : 1 ≤ n) (hn : n ≤ 8) (v : Nm n) (hv : OkN v 200) : R is_l03Inverse [tPIPILA8 (enc v)] = some [tPIPILA8 (enc (invN v))] := by
  have a1 := hv.len
  have a2 := hv.lo
  have a3 := hv.hi
  apply vs_l03Inverse
  by_cases h : n = 1
  · have e := hv.one h
    subst e
    have h3 : R is_l03Inverse_3 [tI (n : Int), tI 0, tLA8 [], tI 0, tI 0, tLA8 [], tI (n : Int), tI 0, tLA8 [], tI (-1)] = some [tI 0, tI (n : Int), tI 0, tLA8 [], tI 0, tI 0, tLA8 [], tI (n : Int), tI 0, tLA8 []] := by
      apply vs_l03Inverse_3
      simp [bs_l03Inverse_3]
    have ht := c_l03Turned n hn ([] : List (Pm n)) (by simp) 0
    have htk : tk 0 ([] : List (Pm n)) = [] := rfl
    have e1 : wi64 ((([] : List (List Int)).length : Nat) - 1) = -1 := by decide
    have e2 : wi64 (0 - 0) = 0 := by decide
    have hi : invN ((0, []) : Nm n) = (0, []) := rfl
    simp only [enc, sL_nil, htk, hi] at ht ⊢
    simp only [bs_l03Inverse, e1, h3, Option.bind_some, getTV_here, getTV_next, e2, ht]
  · have h3 := c_l03Inverse_3 n (by omega) hn v.2 a1 (n : Int) v.1 0 0 [] v.2.length (Nat.le_refl _) (0, []) (by rw [Nat.sub_self]; exact OkJ.zero n)
    rw [List.take_length] at h3
    have hf := foldI_ok (show 2 ≤ n by omega) v.2.reverse (OkJ.zero n)
    rw [List.length_reverse] at hf
    have b1 := hf.lo
    have b2 := hf.hi
    have b3 := hf.len
    have ht := c_l03Turned n hn (v.2.reverse.foldl stepI (0, [])).2 (by omega) v.1
    simp only [sL_nil] at h3
    simp only [enc] at ht ⊢
    simp (disch := omega) only [bs_l03Inverse, sL_len, wrap_i64, h3, Option.bind_some, getTV_here, getTV_next, ht]
    rfl
/-! ### two normal forms -/
/-- The code of two arguments. -/
noncomputable def both (a b : Int × Int × List (List Int)) : Int := if isNm a && isNm b then (if a.1 = b.1 then 0 else 2) else 1
theorem c_l03Both (a b : Int × Int × List (List Int)) (ha : Rows8 a.2.2) (hb : Rows8 b.2.2) : R is_l03Both [tPIPILA8 a, tPIPILA8 b] = some [tI (both a b)] := by
  apply vs_l03Both
  simp only [bs_l03Both, c_l03Is a ha, c_l03Is b hb, Option.bind_some, getTV_here, both]
  cases isNm a <;> cases isNm b <;> by_cases e : a.1 = b.1 <;> simp [e, bne_dec]
theorem c_areSameCount (a b : Int × Int × List (List Int)) (ha : Rows8 a.2.2) (hb : Rows8 b.2.2) : R ii_areSameCount [tPIPILA8 a, tPIPILA8 b] = some [tI (both a b)] := by
  apply vi_areSameCount
  simp only [bi_areSameCount, c_IsNormal a ha, c_IsNormal b hb, Option.bind_some, getTV_here, both]
  cases isNm a <;> cases isNm b <;> by_cases e : a.1 = b.1 <;> simp [e, bne_dec]
/-- Either an error, or two normal forms of equally many strands. -/
theorem both_cases (a b : Int × Int × List (List Int)) : (both a b ≠ 0) ∨ (both a b = 0 ∧ ∃ (n : Nat) (v w : Nm n), 1 ≤ n ∧ n ≤ 8 ∧ OkN v 200 ∧ OkN w 200 ∧ a = enc v ∧ b = enc w) := by
  unfold both
  rcases nm_cases a with h1 | ⟨h1, n, v, q1, q2, q3, rfl⟩
  · left; simp [h1]
  · rcases nm_cases b with h2 | ⟨h2, m, w, r1, r2, r3, rfl⟩
    · left; simp [h2]
    · by_cases e : (enc v).1 = (enc w).1
      · right
        refine ⟨by simp [h1, h2, e], ?_⟩
        have : n = m := by simp only [enc] at e; omega
        subst this
        exact ⟨n, v, w, q1, q2, q3, r3, rfl, rfl⟩
      · left; simp [h1, h2, e]
/-! ### answers -/
theorem c_InverseNormal_bad {a : Int × Int × List (List Int)} (ha : Rows8 a.2.2) (h : isNm a = false) : R is_InverseNormal [tPIPILA8 a] = some [tPIPILA8 NoV, tI 1] ∧ R ii_InverseNormal [tPIPILA8 a] = some [tPIPILA8 NoV, tI 1] := by
  constructor
  · apply vs_InverseNormal
    simp [bs_InverseNormal, c_l03Is a ha, h]
  · apply vi_InverseNormal
    simp [bi_InverseNormal, c_IsNormal a ha, h]
theorem c_InverseNormal_ok {n : Nat} (hn1 : 1 ≤ n) (hn : n ≤ 8) {v : Nm n} (hv : OkN v 200) :
    R is_InverseNormal [tPIPILA8 (enc v)] = some [tPIPILA8 (limV (enc (invN v))).1, tI (limV (enc (invN v))).2] ∧ R ii_InverseNormal [tPIPILA8 (enc v)] = some [tPIPILA8 (limV (enc (invN v))).1, tI (limV (enc (invN v))).2] := by
  have hr : Rows8 (enc v).2.2 := sL_rows hn v.2
  have h := isNm_enc hn1 hn hv
  constructor
  · apply vs_InverseNormal
    simp [bs_InverseNormal, c_l03Is _ hr, h, c_l03Inverse n hn1 hn v hv, c_l03Fit]
  · apply vi_InverseNormal
    simp [bi_InverseNormal, c_IsNormal _ hr, h, c_inverse n hn1 hn v hv, c_limited]
theorem c_MultiplyNormals_bad {a b : Int × Int × List (List Int)} (ha : Rows8 a.2.2) (hb : Rows8 b.2.2) (h : both a b ≠ 0) : R is_MultiplyNormals [tPIPILA8 a, tPIPILA8 b] = some [tPIPILA8 NoV, tI (both a b)] ∧ R ii_MultiplyNormals [tPIPILA8 a, tPIPILA8 b] = some [tPIPILA8 NoV, tI (both a b)] := by
  constructor
  · apply vs_MultiplyNormals
    simp [bs_MultiplyNormals, c_l03Both a b ha hb, h, bne_dec]
  · apply vi_MultiplyNormals
    simp [bi_MultiplyNormals, c_areSameCount a b ha hb, h, bne_dec]
theorem c_MultiplyNormals_ok {n : Nat} (hn1 : 1 ≤ n) (hn : n ≤ 8) {v w : Nm n} (hv : OkN v 200) (hw : OkN w 200) (h : both (enc v) (enc w) = 0) :
    R is_MultiplyNormals [tPIPILA8 (enc v), tPIPILA8 (enc w)] = some [tPIPILA8 (limV (enc (prod v w))).1, tI (limV (enc (prod v w))).2] ∧ R ii_MultiplyNormals [tPIPILA8 (enc v), tPIPILA8 (enc w)] = some [tPIPILA8 (limV (enc (prod v w))).1, tI (limV (enc (prod v w))).2] := by
  have hr : Rows8 (enc v).2.2 := sL_rows hn v.2
  have hr' : Rows8 (enc w).2.2 := sL_rows hn w.2
  have e1 := c_l03Product n hn1 hn v w (hv.mono (by omega)) (hw.mono (by omega))
  have e2 := c_product n hn1 hn v w (hv.mono (by omega)) (hw.mono (by omega))
  constructor
  · apply vs_MultiplyNormals
    simp [bs_MultiplyNormals, c_l03Both _ _ hr hr', h, e1, c_l03Fit]
  · apply vi_MultiplyNormals
    simp [bi_MultiplyNormals, c_areSameCount _ _ hr hr', h, e2, c_limited]
noncomputable def vConj {n : Nat} (a b : Nm n) : (Int × Int × List (List Int)) × Int :=
  if (limV (enc (prod (invN b) a))).2 = 0 then limV (enc (prod (prod (invN b) a) b)) else (NoV, 3)
theorem vConj_ok {n : Nat} (a b : Nm n) : (vConj a b).1.2.2.length ≤ 200 ∧ Len8 (vConj a b).1.2.2 := by
  unfold vConj
  split
  · exact ⟨limV_len _, limV_8 _ (sL_8 _)⟩
  · exact ⟨by simp, fun x hx => by simp at hx⟩
theorem noV_8 : Len8 NoV.2.2 := fun x hx => by simp at hx
/-! ### the laws -/
end Go.Ev.Ytpfpjhfimmmkmaa
