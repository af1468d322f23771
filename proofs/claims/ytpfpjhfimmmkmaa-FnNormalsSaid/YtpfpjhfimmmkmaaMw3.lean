/- Products and inverses as the laws meet them. -/
import Derived.Test.YtpfpjhfimmmkmaaMd2
import Derived.Test.YtpfpjhfimmmkmaaMnK
set_option linter.unusedVariables false
set_option linter.unusedSimpArgs false
namespace Go.Ev.Ytpfpjhfimmmkmaa
open Go.Ev Go.Gar
theorem both_enc {n : Nat} (h1 : 1 ≤ n) (hn : n ≤ 8) {v w : Nm n} (hv : OkN v 200) (hw : OkN w 200) : both (enc v) (enc w) = 0 := by
  unfold both
  rw [isNm_enc h1 hn hv, isNm_enc h1 hn hw]
  simp [enc]
theorem lim_ok {n : Nat} {w : Nm n} (h : OkN w 200) : limV (enc w) = (enc w, 0) := by
  have h1 := h.lo
  have h2 := h.hi
  have h3 := h.len
  unfold limV
  rw [if_pos]
  simp only [enc, sL_len]
  omega
theorem zero_okN (n b : Nat) : OkN ((0, []) : Nm n) b := ⟨Lat.Proper.nil, by simp, by simp, by simp, fun _ => rfl⟩
theorem prod_one {n : Nat} (h : n = 1) {v w : Nm n} (hv : n = 1 → v = (0, [])) (hw : n = 1 → w = (0, [])) : prod v w = (0, []) := by
  rw [hv h, hw h]
  unfold prod
  exact mk_nil _
theorem prod_dich {n : Nat} (h1 : 1 ≤ n) {v w : Nm n} (hv : OkN v 200) (hw : OkN w 200) : OkN (prod v w) 200 ∨ limV (enc (prod v w)) = (NoV, 3) := by
  have h := prod_ok h1 hv hw
  rcases lim_enc (prod v w) h.P h.one with h | h
  · exact .inl h.2
  · exact .inr h
theorem inv_dich {n : Nat} (h1 : 1 ≤ n) {v : Nm n} (hv : OkN v 200) : OkN (invN v) 200 ∨ limV (enc (invN v)) = (NoV, 3) := by
  have h := invN_ok h1 hv
  rcases lim_enc (invN v) h.P h.one with h | h
  · exact .inl h.2
  · exact .inr h
/-- Products. -/
theorem mul_all (a b : Int × Int × List (List Int)) (ha : Rows8 a.2.2) (hb : Rows8 b.2.2) : ∃ (r : Int × Int × List (List Int)) (e : Int),
    R is_MultiplyNormals [tPIPILA8 a, tPIPILA8 b] = some [tPIPILA8 r, tI e] ∧ R ii_MultiplyNormals [tPIPILA8 a, tPIPILA8 b] = some [tPIPILA8 r, tI e] ∧ r.2.2.length ≤ 200 ∧
    ((e ≠ 0 ∧ r = NoV) ∨ (e = 0 ∧ ∃ (n : Nat) (v w : Nm n), 1 ≤ n ∧ n ≤ 8 ∧ OkN v 200 ∧ OkN w 200 ∧ OkN (prod v w) 200 ∧ a = enc v ∧ b = enc w ∧ r = enc (prod v w))) := by
  rcases both_cases a b with h1 | ⟨h1, n, v, w, q1, q2, q3, q4, rfl, rfl⟩
  · have := c_MultiplyNormals_bad ha hb h1
    exact ⟨NoV, _, this.1, this.2, by simp, .inl ⟨h1, rfl⟩⟩
  · have h := c_MultiplyNormals_ok q1 q2 q3 q4 h1
    rcases prod_dich q1 q3 q4 with h5 | h5
    · rw [lim_ok h5] at h
      exact ⟨_, _, h.1, h.2, by simp only [enc, sL_len]; exact h5.len, .inr ⟨rfl, n, v, w, q1, q2, q3, q4, h5, rfl, rfl, rfl⟩⟩
    · rw [h5] at h
      exact ⟨_, _, h.1, h.2, by simp, .inl ⟨by decide, rfl⟩⟩
theorem mul_n {n : Nat} (h1 : 1 ≤ n) (hn : n ≤ 8) {v w : Nm n} (hv : OkN v 200) (hw : OkN w 200) :
    (OkN (prod v w) 200 ∧ R ii_MultiplyNormals [tPIPILA8 (enc v), tPIPILA8 (enc w)] = some [tPIPILA8 (enc (prod v w)), tI 0]) ∨ R ii_MultiplyNormals [tPIPILA8 (enc v), tPIPILA8 (enc w)] = some [tPIPILA8 NoV, tI 3] := by
  have h := c_MultiplyNormals_ok h1 hn hv hw (both_enc h1 hn hv hw)
  rcases prod_dich h1 hv hw with h5 | h5
  · rw [lim_ok h5] at h
    exact .inl ⟨h5, h.2⟩
  · rw [h5] at h
    exact .inr h.2
theorem mul_y {n : Nat} (h1 : 1 ≤ n) (hn : n ≤ 8) {v w : Nm n} (hv : OkN v 200) (hw : OkN w 200) (hp : OkN (prod v w) 200) : R ii_MultiplyNormals [tPIPILA8 (enc v), tPIPILA8 (enc w)] = some [tPIPILA8 (enc (prod v w)), tI 0] := by
  have h := c_MultiplyNormals_ok h1 hn hv hw (both_enc h1 hn hv hw)
  rw [lim_ok hp] at h
  exact h.2
/-- Inverses. -/
theorem inv_all (a : Int × Int × List (List Int)) (ha : Rows8 a.2.2) : ∃ (r : Int × Int × List (List Int)) (e : Int),
    R is_InverseNormal [tPIPILA8 a] = some [tPIPILA8 r, tI e] ∧ R ii_InverseNormal [tPIPILA8 a] = some [tPIPILA8 r, tI e] ∧ r.2.2.length ≤ 200 ∧
    ((e ≠ 0 ∧ r = NoV) ∨ (e = 0 ∧ ∃ (n : Nat) (v : Nm n), 1 ≤ n ∧ n ≤ 8 ∧ OkN v 200 ∧ OkN (invN v) 200 ∧ a = enc v ∧ r = enc (invN v))) := by
  rcases nm_cases a with h1 | ⟨_, n, v, q1, q2, q3, rfl⟩
  · have := c_InverseNormal_bad ha h1
    exact ⟨NoV, _, this.1, this.2, by simp, .inl ⟨by decide, rfl⟩⟩
  · have h := c_InverseNormal_ok q1 q2 q3
    rcases inv_dich q1 q3 with h5 | h5
    · rw [lim_ok h5] at h
      exact ⟨_, _, h.1, h.2, by simp only [enc, sL_len]; exact h5.len, .inr ⟨rfl, n, v, q1, q2, q3, h5, rfl, rfl⟩⟩
    · rw [h5] at h
      exact ⟨_, _, h.1, h.2, by simp, .inl ⟨by decide, rfl⟩⟩
theorem c_trivial9 (n p : Int) : R iw_trivial9 [tPIPILA8 (n, 0, [])] = some [tB true] := by
  apply vw_trivial9
  simp [bw_trivial9]
theorem inv_l' {n : Nat} (h1 : 1 ≤ n) {v : Nm n} (hv : OkN v 200) : prod (invN v) v = (0, []) := by
  by_cases h2 : 2 ≤ n
  · exact inv_l h2 hv.P
  · exact prod_one (by omega) (invN_ok h1 hv).one hv.one
theorem inv_r' {n : Nat} (h1 : 1 ≤ n) {v : Nm n} (hv : OkN v 200) : prod v (invN v) = (0, []) := by
  by_cases h2 : 2 ≤ n
  · exact inv_r h2 hv.P
  · exact prod_one (by omega) hv.one (invN_ok h1 hv).one
theorem prod_assoc' {n : Nat} (h1 : 1 ≤ n) {u v w : Nm n} (hu : OkN u 200) (hv : OkN v 200) (hw : OkN w 200) : prod (prod u v) w = prod u (prod v w) := by
  by_cases h2 : 2 ≤ n
  · exact prod_assoc h2 u v w
  · have e : n = 1 := by omega
    rw [prod_one e (prod_ok h1 hu hv).one hw.one, prod_one e hu.one (prod_ok h1 hv hw).one]
theorem prod_bounds {n : Nat} (h1 : 1 ≤ n) {v w : Nm n} (hv : OkN v 200) (hw : OkN w 200) : v.1 + w.1 ≤ (prod v w).1 ∧ (prod v w).1 + (prod v w).2.length ≤ v.1 + w.1 + (v.2.length + w.2.length : Nat) := by
  by_cases h2 : 2 ≤ n
  · have := mk_spec h2 (v.1 + w.1) (tk w.1 v.2 ++ w.2)
    refine ⟨this.2.1, ?_⟩
    have h := this.2.2
    rw [List.length_append, tk_len] at h
    exact h
  · have e : n = 1 := by omega
    rw [prod_one e hv.one hw.one, hv.one e, hw.one e]
    simp
theorem c_norm9 {n : Nat} (v w : Nm n) (hv : OkN v 200) : R iw_normal9 [tPIPILA8 (enc v), tPIPILA8 (enc w)] = some [tB (decide (enc v = enc w))] := by
  have := hv.len
  exact c_normal9 (enc v) (enc w) (by simp only [enc, sL_len]; omega)
theorem e0 : ((0 : Int) != 0) = false := rfl
theorem e0' : ((0 : Int) == 0) = true := rfl
theorem ne_b {e : Int} (h : e ≠ 0) : (e != 0) = true := by simp [h]
theorem ne_e {e : Int} (h : e ≠ 0) : (e == 0) = false := by simp [h]
end Go.Ev.Ytpfpjhfimmmkmaa
