/- Products, inverses, powers and conjugates of normal forms: what both packages answer. -/
import Derived.Test.YtolpnaiincngjaaGreatMn8
set_option linter.unusedVariables false
set_option linter.unusedSimpArgs false
namespace Go.Ev.YtolpnaiincngjaaGreat
open Go.Ev Go.Gar
abbrev NoV : Int × Int × List (List Int) := (0, 0, [])
theorem prod_ok {n : Nat} (hn1 : 1 ≤ n) {v w : Nm n} {a b : Nat} (hv : OkN v a) (hw : OkN w b) : OkN (prod v w) (2 * (a + b)) := by
  have a1 := hv.len
  have a2 := hv.lo
  have a3 := hv.hi
  have b1 := hw.len
  have b2 := hw.lo
  have b3 := hw.hi
  by_cases h : n = 1
  · have e1 := hv.one h
    have e2 := hw.one h
    subst e1
    subst e2
    have : prod ((0, []) : Nm n) (0, []) = (0, []) := by
      unfold prod
      exact mk_nil _
    rw [this]
    exact ⟨Lat.Proper.nil, by simp, by simp only; omega, by simp only; omega, fun _ => rfl⟩
  · have hm := mk_spec (show 2 ≤ n by omega) (v.1 + w.1) (tk w.1 v.2 ++ w.2)
    have hl := mk_len (show 2 ≤ n by omega) (v.1 + w.1) (tk w.1 v.2 ++ w.2)
    simp only [List.length_append, tk_len] at hm hl
    refine ⟨hm.1, ?_, ?_, ?_, fun h' => (h h').elim⟩ <;> unfold prod <;> omega
theorem lim_enc {n : Nat} (w : Nm n) (hP : (Pm.lat n).Proper w.2) (h1 : n = 1 → w = (0, [])) : (limV (enc w) = (enc w, 0) ∧ OkN w 200) ∨ limV (enc w) = (NoV, 3) := by
  unfold limV
  by_cases h : -200 ≤ (enc w).2.1 ∧ (enc w).2.1 ≤ 200 ∧ (enc w).2.2.length ≤ 200
  · rw [if_pos h]
    simp only [enc, sL_len] at h
    exact .inl ⟨rfl, hP, h.2.2, by omega, by omega, h1⟩
  · rw [if_neg h]
    exact .inr rfl
/-! ### inverses -/
noncomputable def stepI {n : Nat} (v : Nm n) (s : Pm n) : Nm n := mk (v.1 - 1) (v.2.map trn ++ [Pm.half n * s⁻¹])
noncomputable def invN {n : Nat} (v : Nm n) : Nm n := ((v.2.reverse.foldl stepI (0, [])).1 - v.1, tk v.1 (v.2.reverse.foldl stepI (0, [])).2)
theorem stepI_ok {n : Nat} (h2 : 2 ≤ n) {v : Nm n} {j : Nat} (h : OkJ v j) (s : Pm n) : OkJ (stepI v s) (j + 1) := by
  have a1 := h.lo
  have a2 := h.hi
  have a3 := h.len
  have hm := mk_spec h2 (v.1 - 1) (v.2.map trn ++ [Pm.half n * s⁻¹])
  have hl := mk_len h2 (v.1 - 1) (v.2.map trn ++ [Pm.half n * s⁻¹])
  simp only [List.length_append, List.length_cons, List.length_nil, List.length_map] at hm hl
  exact ⟨hm.1, by unfold stepI; omega, by unfold stepI; omega, by unfold stepI; omega⟩
theorem foldI_ok {n : Nat} (h2 : 2 ≤ n) : ∀ (l : List (Pm n)) {v : Nm n} {j : Nat}, OkJ v j → OkJ (l.foldl stepI v) (j + l.length)
  | [], v, j, h => h
  | s :: l, v, j, h => by
    have := foldI_ok h2 l (stepI_ok h2 h s)
    rw [List.foldl_cons, List.length_cons, show j + (l.length + 1) = j + 1 + l.length by omega]
    exact this
theorem tk_neg_eq {n : Nat} (k : Int) (l : List (Pm n)) : tk (-k) l = tk k l := by
  unfold tk
  rw [Int.neg_tmod]
  by_cases h : k.tmod 2 = 0
  · simp [h]
  · have : ¬ -(k.tmod 2) = 0 := by omega
    simp [h, this]
theorem invN_ok {n : Nat} (hn1 : 1 ≤ n) {v : Nm n} (hv : OkN v 200) : OkN (invN v) 1000 := by
  have a1 := hv.len
  have a2 := hv.lo
  have a3 := hv.hi
  by_cases h : n = 1
  · have e := hv.one h
    subst e
    have : invN ((0, []) : Nm n) = (0, []) := rfl
    rw [this]
    exact ⟨Lat.Proper.nil, by simp, by simp only; omega, by simp only; omega, fun _ => rfl⟩
  · have hf := foldI_ok (show 2 ≤ n by omega) v.2.reverse (OkJ.zero n)
    rw [List.length_reverse] at hf
    have b1 := hf.lo
    have b2 := hf.hi
    have b3 := hf.len
    refine ⟨tk_proper _ hf.P, ?_, ?_, ?_, fun h' => (h h').elim⟩
    · simp only [invN, tk_len]; omega
    · simp only [invN]; omega
    · simp only [invN]; omega
/-! ### two normal forms -/
/-- The code of two arguments. -/
noncomputable def both (a b : Int × Int × List (List Int)) : Int := if isNm a && isNm b then (if a.1 = b.1 then 0 else 2) else 1
theorem c_l03Both (a b : Int × Int × List (List Int)) (ha : Rows8 a.2.2) (hb : Rows8 b.2.2) : R is_l03Both [tPIPILA8 a, tPIPILA8 b] = some [tI (both a b)] := by
  apply vs_l03Both
  simp only [bs_l03Both, c_l03Is a ha, c_l03Is b hb, Option.bind_some, getTV_here, both]
  cases isNm a <;> cases isNm b <;> by_cases e : a.1 = b.1 <;> simp [e, bne_dec]
theorem c_areSameCount (a b : Int × Int × List (List Int)) (ha : Rows8 a.2.2) (hb : Rows8 b.2.2) : R ii_areSameCount [tPIPILA8 a, tPIPILA8 b] = some [tI (both a b)] := by
  apply vi_areSameCount
  simp only [bi_areSameCount, c_IsNormal a ha, c_IsNormal b hb, Option.bind_some, getTV_here, both]
  cases isNm a <;> cases isNm b <;> by_cases e : a.1 = b.1 <;> simp [e, bne_dec]
/-- Either an error, or two normal forms of equally many strands. -/
theorem both_cases (a b : Int × Int × List (List Int)) : (both a b ≠ 0) ∨ (both a b = 0 ∧ ∃ (n : Nat) (v w : Nm n), 1 ≤ n ∧ n ≤ 8 ∧ OkN v 200 ∧ OkN w 200 ∧ a = enc v ∧ b = enc w) := by
  unfold both
  rcases nm_cases a with h1 | ⟨h1, n, v, q1, q2, q3, rfl⟩
  · left; simp [h1]
  · rcases nm_cases b with h2 | ⟨h2, m, w, r1, r2, r3, rfl⟩
    · left; simp [h2]
    · by_cases e : (enc v).1 = (enc w).1
      · right
        refine ⟨by simp [h1, h2, e], ?_⟩
        have : n = m := by simp only [enc] at e; omega
        subst this
        exact ⟨n, v, w, q1, q2, q3, r3, rfl, rfl⟩
      · left; simp [h1, h2, e]
/-! ### answers -/
noncomputable def vConj {n : Nat} (a b : Nm n) : (Int × Int × List (List Int)) × Int :=
  if (limV (enc (prod (invN b) a))).2 = 0 then limV (enc (prod (prod (invN b) a) b)) else (NoV, 3)
theorem vConj_ok {n : Nat} (a b : Nm n) : (vConj a b).1.2.2.length ≤ 200 ∧ Len8 (vConj a b).1.2.2 := by
  unfold vConj
  split
  · exact ⟨limV_len _, limV_8 _ (sL_8 _)⟩
  · exact ⟨by simp, fun x hx => by simp at hx⟩
theorem noV_8 : Len8 NoV.2.2 := fun x hx => by simp at hx
/-! ### the laws -/
end Go.Ev.YtolpnaiincngjaaGreat
