/- Products of normal forms: the law. -/
import Derived.Test.YtpfpjhfimmmkmaaMw2
import Derived.Test.YtpfpjhfimmmkmaaMd2
import Derived.Test.YtpfpjhfimmmkmaaMd3
import Derived.Test.YtpfpjhfimmmkmaaMnD
set_option linter.unusedVariables false
set_option linter.unusedSimpArgs false
namespace Go.Ev.Ytpfpjhfimmmkmaa
open Go.Ev Go.Gar
theorem both_enc {n : Nat} (h1 : 1 ≤ n) (hn : n ≤ 8) {v w : Nm n} (hv : OkN v 200) (hw : OkN w 200) : both (enc v) (enc w) = 0 := by
  unfold both
  rw [isNm_enc h1 hn hv, isNm_enc h1 hn hw]
  simp [enc]
theorem lim_ok {n : Nat} {w : Nm n} (h : OkN w 200) : limV (enc w) = (enc w, 0) := by
  have h1 := h.lo
  have h2 := h.hi
  have h3 := h.len
  unfold limV
  rw [if_pos]
  simp only [enc, sL_len]
  omega
theorem prod_one {n : Nat} (h : n = 1) {v w : Nm n} (hv : n = 1 → v = (0, [])) (hw : n = 1 → w = (0, [])) : prod v w = (0, []) := by
  rw [hv h, hw h]
  unfold prod
  exact mk_nil _
theorem prod_dich {n : Nat} (h1 : 1 ≤ n) {v w : Nm n} (hv : OkN v 200) (hw : OkN w 200) : OkN (prod v w) 200 ∨ limV (enc (prod v w)) = (NoV, 3) := by
  have h := prod_ok h1 hv hw
  rcases lim_enc (prod v w) h.P h.one with h | h
  · exact .inl h.2
  · exact .inr h
theorem inv_dich {n : Nat} (h1 : 1 ≤ n) {v : Nm n} (hv : OkN v 200) : OkN (invN v) 200 ∨ limV (enc (invN v)) = (NoV, 3) := by
  have h := invN_ok h1 hv
  rcases lim_enc (invN v) h.P h.one with h | h
  · exact .inl h.2
  · exact .inr h
/-- Products. -/
theorem mul_all (a b : Int × Int × List (List Int)) (ha : Rows8 a.2.2) (hb : Rows8 b.2.2) : ∃ (r : Int × Int × List (List Int)) (e : Int),
    R is_MultiplyNormals [tPIPILA8 a, tPIPILA8 b] = some [tPIPILA8 r, tI e] ∧ R ii_MultiplyNormals [tPIPILA8 a, tPIPILA8 b] = some [tPIPILA8 r, tI e] ∧ r.2.2.length ≤ 200 ∧
    ((e ≠ 0 ∧ r = NoV) ∨ (e = 0 ∧ ∃ (n : Nat) (v w : Nm n), 1 ≤ n ∧ n ≤ 8 ∧ OkN v 200 ∧ OkN w 200 ∧ OkN (prod v w) 200 ∧ a = enc v ∧ b = enc w ∧ r = enc (prod v w))) := by
  rcases both_cases a b with h1 | ⟨h1, n, v, w, q1, q2, q3, q4, rfl, rfl⟩
  · have := c_MultiplyNormals_bad ha hb h1
    exact ⟨NoV, _, this.1, this.2, by simp, .inl ⟨h1, rfl⟩⟩
  · have h := c_MultiplyNormals_ok q1 q2 q3 q4 h1
    rcases prod_dich q1 q3 q4 with h5 | h5
    · rw [lim_ok h5] at h
      exact ⟨_, _, h.1, h.2, by simp only [enc, sL_len]; exact h5.len, .inr ⟨rfl, n, v, w, q1, q2, q3, q4, h5, rfl, rfl, rfl⟩⟩
    · rw [h5] at h
      exact ⟨_, _, h.1, h.2, by simp, .inl ⟨by decide, rfl⟩⟩
theorem mul_n {n : Nat} (h1 : 1 ≤ n) (hn : n ≤ 8) {v w : Nm n} (hv : OkN v 200) (hw : OkN w 200) :
    (OkN (prod v w) 200 ∧ R ii_MultiplyNormals [tPIPILA8 (enc v), tPIPILA8 (enc w)] = some [tPIPILA8 (enc (prod v w)), tI 0]) ∨ R ii_MultiplyNormals [tPIPILA8 (enc v), tPIPILA8 (enc w)] = some [tPIPILA8 NoV, tI 3] := by
  have h := c_MultiplyNormals_ok h1 hn hv hw (both_enc h1 hn hv hw)
  rcases prod_dich h1 hv hw with h5 | h5
  · rw [lim_ok h5] at h
    exact .inl ⟨h5, h.2⟩
  · rw [h5] at h
    exact .inr h.2
theorem mul_y {n : Nat} (h1 : 1 ≤ n) (hn : n ≤ 8) {v w : Nm n} (hv : OkN v 200) (hw : OkN w 200) (hp : OkN (prod v w) 200) : R ii_MultiplyNormals [tPIPILA8 (enc v), tPIPILA8 (enc w)] = some [tPIPILA8 (enc (prod v w)), tI 0] := by
  have h := c_MultiplyNormals_ok h1 hn hv hw (both_enc h1 hn hv hw)
  rw [lim_ok hp] at h
  exact h.2
/-- Inverses. -/
theorem inv_all (a : Int × Int × List (List Int)) (ha : Rows8 a.2.2) : ∃ (r : Int × Int × List (List Int)) (e : Int),
    R is_InverseNormal [tPIPILA8 a] = some [tPIPILA8 r, tI e] ∧ R ii_InverseNormal [tPIPILA8 a] = some [tPIPILA8 r, tI e] ∧ r.2.2.length ≤ 200 ∧
    ((e ≠ 0 ∧ r = NoV) ∨ (e = 0 ∧ ∃ (n : Nat) (v : Nm n), 1 ≤ n ∧ n ≤ 8 ∧ OkN v 200 ∧ OkN (invN v) 200 ∧ a = enc v ∧ r = enc (invN v))) := by
  rcases nm_cases a with h1 | ⟨_, n, v, q1, q2, q3, rfl⟩
  · have := c_InverseNormal_bad ha h1
    exact ⟨NoV, _, this.1, this.2, by simp, .inl ⟨by decide, rfl⟩⟩
  · have h := c_InverseNormal_ok q1 q2 q3
    rcases inv_dich q1 q3 with h5 | h5
    · rw [lim_ok h5] at h
      exact ⟨_, _, h.1, h.2, by simp only [enc, sL_len]; exact h5.len, .inr ⟨rfl, n, v, q1, q2, q3, h5, rfl, rfl⟩⟩
    · rw [h5] at h
      exact ⟨_, _, h.1, h.2, by simp, .inl ⟨by decide, rfl⟩⟩
/-- Powers. -/
theorem pow_all (a : Int × Int × List (List Int)) (ha : Rows8 a.2.2) (k : Int) : ∃ (r : Int × Int × List (List Int)) (e : Int),
    R is_PowerNormal [tPIPILA8 a, tI k] = some [tPIPILA8 r, tI e] ∧ R ii_PowerNormal [tPIPILA8 a, tI k] = some [tPIPILA8 r, tI e] ∧ r.2.2.length ≤ 200 ∧
    (e ≠ 0 ∨ (e = 0 ∧ ∃ (n : Nat) (v u : Nm n), 1 ≤ n ∧ n ≤ 8 ∧ OkN v 200 ∧ OkN u 200 ∧ a = enc v ∧ r = enc u ∧ pwL (pwF v k) k.natAbs (0, []) = some u)) := by
  rcases nm_cases a with h1 | ⟨_, n, v, q1, q2, q3, rfl⟩
  · have := c_PowerNormal_bad ha h1 k
    exact ⟨NoV, _, this.1, this.2, by simp, .inl (by decide)⟩
  · have h := c_PowerNormal_ok q1 q2 q3 k
    have hz : OkN (pwF v k) 1000 := by
      unfold pwF
      split
      · exact invN_ok q1 q3
      · exact q3.mono (by omega)
    refine ⟨_, _, h.1, h.2, (vPow_ok q1 q3 k).1, ?_⟩
    unfold vPow
    by_cases hk : -50 ≤ k ∧ k ≤ 50
    · rw [if_pos hk]
      cases hu : pwL (pwF v k) k.natAbs (0, []) with
      | none => exact .inl (show (3 : Int) ≠ 0 by decide)
      | some u => exact .inr ⟨rfl, n, v, u, q1, q2, q3, pwL_ok q1 hz _ _ _ (zero_ok n 200) hu, rfl, rfl, hu⟩
    · rw [if_neg hk]
      exact .inl (show (2 : Int) ≠ 0 by decide)
theorem pwL_succ {n : Nat} (z : Nm n) : ∀ (d : Nat) (o : Nm n), pwL z (d + 1) o = (pwL z d o).bind fun u => if (limV (enc (prod u z))).2 = 0 then some (prod u z) else none
  | 0, o => rfl
  | d + 1, o => by
    rw [pwL]
    by_cases h : (limV (enc (prod o z))).2 = 0
    · rw [if_pos h, pwL_succ z d (prod o z), pwL, if_pos h]
    · rw [if_neg h, pwL, if_neg h]
      rfl
theorem pow_step {n : Nat} {v u u' : Nm n} {k : Int} (hk : 0 ≤ k) (h : pwL (pwF v k) k.natAbs (0, []) = some u) (h' : pwL (pwF v (k + 1)) (k + 1).natAbs (0, []) = some u') : u' = prod u v := by
  unfold pwF at h h'
  rw [if_neg (by omega)] at h h'
  rw [show (k + 1).natAbs = k.natAbs + 1 by omega, pwL_succ, h] at h'
  simp only [Option.bind_some] at h'
  by_cases c : (limV (enc (prod u v))).2 = 0
  · rw [if_pos c] at h'
    exact (Option.some.inj h').symm
  · rw [if_neg c] at h'
    simp at h'
theorem c_trivial9 (n p : Int) : R iw_trivial9 [tPIPILA8 (n, 0, [])] = some [tB true] := by
  apply vw_trivial9
  simp [bw_trivial9]
theorem inv_l' {n : Nat} (h1 : 1 ≤ n) {v : Nm n} (hv : OkN v 200) : prod (invN v) v = (0, []) := by
  by_cases h2 : 2 ≤ n
  · exact inv_l h2 hv.P
  · exact prod_one (by omega) (invN_ok h1 hv).one hv.one
theorem inv_r' {n : Nat} (h1 : 1 ≤ n) {v : Nm n} (hv : OkN v 200) : prod v (invN v) = (0, []) := by
  by_cases h2 : 2 ≤ n
  · exact inv_r h2 hv.P
  · exact prod_one (by omega) hv.one (invN_ok h1 hv).one
theorem prod_assoc' {n : Nat} (h1 : 1 ≤ n) {u v w : Nm n} (hu : OkN u 200) (hv : OkN v 200) (hw : OkN w 200) : prod (prod u v) w = prod u (prod v w) := by
  by_cases h2 : 2 ≤ n
  · exact prod_assoc h2 u v w
  · have e : n = 1 := by omega
    rw [prod_one e (prod_ok h1 hu hv).one hw.one, prod_one e hu.one (prod_ok h1 hv hw).one]
theorem prod_bounds {n : Nat} (h1 : 1 ≤ n) {v w : Nm n} (hv : OkN v 200) (hw : OkN w 200) : v.1 + w.1 ≤ (prod v w).1 ∧ (prod v w).1 + (prod v w).2.length ≤ v.1 + w.1 + (v.2.length + w.2.length : Nat) := by
  by_cases h2 : 2 ≤ n
  · have := mk_spec h2 (v.1 + w.1) (tk w.1 v.2 ++ w.2)
    refine ⟨this.2.1, ?_⟩
    have h := this.2.2
    rw [List.length_append, tk_len] at h
    exact h
  · have e : n = 1 := by omega
    rw [prod_one e hv.one hw.one, hv.one e, hw.one e]
    simp
theorem isBr_of {n : Nat} (h1 : 1 ≤ n) (hn : n ≤ 8) {w : List Int} (hw : Lw n w) (hl : w.length ≤ 200) : isBr ((n : Int), w) = true := by
  unfold isBr
  simp only [Bool.and_eq_true, decide_eq_true_eq, List.all_eq_true, okL]
  refine ⟨⟨⟨by omega, by omega⟩, hl⟩, fun x hx => ?_⟩
  have := hw x hx
  simp
  omega
theorem nOf_one {w : List Int} (hw : Lw 1 w) : nOf 1 w = (0, []) := by
  rw [Lw_one hw]
  rfl
theorem nOf_okN {n : Nat} (h1 : 1 ≤ n) {w : List Int} (hw : Lw n w) (hl : w.length ≤ 200) : OkN (nOf n w) 200 := by
  have h := nOf_len h1 w hw
  refine ⟨?_, by omega, by omega, by omega, ?_⟩
  · by_cases h2 : 2 ≤ n
    · exact nOf_P h2 w
    · obtain rfl : n = 1 := by omega
      rw [nOf_one hw]
      exact Lat.Proper.nil
  · intro e
    subst e
    exact nOf_one hw
theorem nOf_app' {n : Nat} (h1 : 1 ≤ n) {u w : List Int} (hu : Lw n u) (hw : Lw n w) : nOf n (u ++ w) = prod (nOf n u) (nOf n w) := by
  by_cases h2 : 2 ≤ n
  · exact nOf_app h2 u w
  · obtain rfl : n = 1 := by omega
    rw [nOf_one (hu.app hw), nOf_one hu, nOf_one hw]
    exact (prod_one rfl (fun _ => rfl) (fun _ => rfl)).symm
theorem normalOf_ok {n : Nat} (h1 : 1 ≤ n) (hn : n ≤ 8) {w : List Int} (hw : Lw n w) (hl : w.length ≤ 200) : R ii_NormalOf [tPILI ((n : Int), w)] = some [tPIPILA8 (enc (nOf n w)), tI 0] := by
  have h := c_NormalOf_i ((n : Int), w) (by show w.length < 1000000000; omega)
  unfold vNormalOf at h
  rw [isBr_of h1 hn hw hl, if_pos rfl] at h
  simp only [Int.toNat_natCast] at h
  rw [lim_ok (nOf_okN h1 hw hl)] at h
  exact h
theorem c_norm9 {n : Nat} (v w : Nm n) (hv : OkN v 200) : R iw_normal9 [tPIPILA8 (enc v), tPIPILA8 (enc w)] = some [tB (decide (enc v = enc w))] := by
  have := hv.len
  exact c_normal9 (enc v) (enc w) (by simp only [enc, sL_len]; omega)
theorem e0 : ((0 : Int) != 0) = false := rfl
theorem e0' : ((0 : Int) == 0) = true := rfl
theorem ne_b {e : Int} (h : e ≠ 0) : (e != 0) = true := by simp [h]
theorem ne_e {e : Int} (h : e ≠ 0) : (e == 0) = false := by simp [h]
/-- The last part: with the product of two normal forms. -/
theorem c_FnNormalProducts_j28 (a : List Int) (hb : Bytes a) (p q r : Int × Int × List (List Int)) (e : Int)
    (hm : (e ≠ 0 ∧ r = NoV) ∨ (e = 0 ∧ ∃ (n : Nat) (v w : Nm n), 1 ≤ n ∧ n ≤ 8 ∧ OkN v 200 ∧ OkN w 200 ∧ OkN (prod v w) 200 ∧ p = enc v ∧ q = enc w ∧ r = enc (prod v w))) :
    R iw_FnNormalProducts_j28 [tLU8 a, tI p.1, tI p.2.1, tLA8 p.2.2, tI q.1, tI q.2.1, tLA8 q.2.2, tI r.1, tI r.2.1, tLA8 r.2.2, tI e] = some [tI 0, tB true] := by
  apply vw_FnNormalProducts_j28
  rcases hm with ⟨he, rfl⟩ | ⟨rfl, n, v, w, h1, hn, hv, hw, hp, rfl, rfl, rfl⟩
  · simp [bw_FnNormalProducts_j28, ne_b he]
  · have B := prod_bounds h1 hv hw
    have v1 := hv.lo
    have v2 := hv.hi
    have v3 := hv.len
    have w1 := hw.lo
    have w2 := hw.hi
    have w3 := hw.len
    have p1 := hp.lo
    have p2 := hp.hi
    have p3 := hp.len
    have s1 : wi64 (v.1 + w.1) = v.1 + w.1 := by rw [wrap_i64] <;> omega
    have s2 : wi64 (((v.2.length : Nat) : Int) + ((w.2.length : Nat) : Int)) = ((v.2.length : Nat) : Int) + ((w.2.length : Nat) : Int) := by rw [wrap_i64] <;> omega
    have s3 : wi64 (v.1 + w.1 + (((v.2.length : Nat) : Int) + ((w.2.length : Nat) : Int))) = v.1 + w.1 + (((v.2.length : Nat) : Int) + ((w.2.length : Nat) : Int)) := by rw [wrap_i64] <;> omega
    have s4 : wi64 ((prod v w).1 + (((prod v w).2.length : Nat) : Int)) = (prod v w).1 + (((prod v w).2.length : Nat) : Int) := by rw [wrap_i64] <;> omega
    have c1 : decide ((prod v w).1 < v.1 + w.1) = false := decide_eq_false (by omega)
    have c2 : decide (v.1 + w.1 + (((v.2.length : Nat) : Int) + ((w.2.length : Nat) : Int)) < (prod v w).1 + (((prod v w).2.length : Nat) : Int)) = false := decide_eq_false (by omega)
    obtain ⟨s, d1, hs⟩ := c_roll a hb.1 hb.2 9903
    obtain ⟨l, s', d2, _, hl, hll⟩ := c_letters9 s hs n (by omega) 6 (by omega)
    have d3 := normalOf_ok h1 hn hl (by omega)
    have hg := nOf_okN h1 hl (by omega)
    have e1 : ((n : Int), v.1, sL v.2) = enc v := rfl
    have e2 : ((n : Int), w.1, sL w.2) = enc w := rfl
    have e3 : ((n : Int), (prod v w).1, sL (prod v w).2) = enc (prod v w) := rfl
    have x1 : (enc v).1 = (n : Int) := rfl
    have x2 : (enc v).2.1 = v.1 := rfl
    have x3 : (enc v).2.2 = sL v.2 := rfl
    have y1 : (enc w).1 = (n : Int) := rfl
    have y2 : (enc w).2.1 = w.1 := rfl
    have y3 : (enc w).2.2 = sL w.2 := rfl
    have z1 : (enc (prod v w)).1 = (n : Int) := rfl
    have z2 : (enc (prod v w)).2.1 = (prod v w).1 := rfl
    have z3 : (enc (prod v w)).2.2 = sL (prod v w).2 := rfl
    rw [x1, x2, x3, y1, y2, y3, z1, z2, z3]
    have d2' : R iw_letters9 [tPLU8PIU64 s, tI (n : Int), tI 6] = some [tLI l, tPLU8PIU64 s'] := d2
    rcases mul_n h1 hn hp hg with ⟨h5, m1⟩ | m1
    · rcases mul_n h1 hn hw hg with ⟨h6, m2⟩ | m2
      · have e5 := prod_assoc' h1 hv hw hg
        have m3 := mul_y h1 hn hv h6 (by rw [← e5]; exact h5)
        have t1 := c_WordOfNormal_i h1 hn hv
        have t2 := c_WordOfNormal_i h1 hn hw
        have n9 := c_norm9 (prod (prod v w) (nOf n l)) (prod v (prod w (nOf n l))) h5
        rw [decide_eq_true (by rw [e5])] at n9
        unfold lim3 at t1 t2
        by_cases l1 : 200 < (wordN v).length
        · rw [if_pos l1] at t1
          simp only [bw_FnNormalProducts_j28, e0, cond_false, sL_len, s1, s2, s3, s4, c1, c2, d1, d2', d3, e1, e2, e3, m1, m2, m3, n9, t1, t2, Option.bind_some, getTV_here, getTV_next, Bool.not_true]
          rfl
        · rw [if_neg l1] at t1
          by_cases l2 : 200 < (wordN w).length
          · rw [if_pos l2] at t2
            simp only [bw_FnNormalProducts_j28, e0, cond_false, sL_len, s1, s2, s3, s4, c1, c2, d1, d2', d3, e1, e2, e3, m1, m2, m3, n9, t1, t2, Option.bind_some, getTV_here, getTV_next, Bool.not_true]
            rfl
          · rw [if_neg l2] at t2
            have s5 : wi64 ((((wordN v).length : Nat) : Int) + (((wordN w).length : Nat) : Int)) = (((wordN v).length + (wordN w).length : Nat) : Int) := by rw [wrap_i64] <;> omega
            by_cases l3 : 200 < (wordN v).length + (wordN w).length
            · have p4 : decide ((200 : Int) < (((wordN v).length + (wordN w).length : Nat) : Int)) = true := decide_eq_true (by omega)
              simp only [bw_FnNormalProducts_j28, e0, cond_false, sL_len, s1, s2, s3, s4, c1, c2, d1, d2', d3, e1, e2, e3, m1, m2, m3, n9, t1, t2, Option.bind_some, getTV_here, getTV_next, Bool.not_true, s5, p4, cond_true]
            · have p4 : decide ((200 : Int) < (((wordN v).length + (wordN w).length : Nat) : Int)) = false := decide_eq_false (by omega)
              have a1 : apOk [] (wordN v) = true := apOk0 (by omega)
              have a2 : apOk (wordN v) (wordN w) = true := apOk2 (by omega)
              have d4 := normalOf_ok h1 hn ((wordN_Lw v).app (wordN_Lw w)) (by rw [List.length_append]; omega)
              have e6 : nOf n (wordN v ++ wordN w) = prod v w := by rw [nOf_app' h1 (wordN_Lw v) (wordN_Lw w), nOf_wordN h1 hv, nOf_wordN h1 hw]
              rw [e6] at d4
              have n8 := c_norm9 (prod v w) (prod v w) hp
              rw [decide_eq_true rfl] at n8
              simp only [bw_FnNormalProducts_j28, e0, e0', cond_false, sL_len, s1, s2, s3, s4, c1, c2, d1, d2', d3, e1, e2, e3, m1, m2, m3, n9, t1, t2, Option.bind_some, getTV_here, getTV_next, Bool.not_true, s5, p4, cond_true, a1, a2, d4, n8]
      · have t3 : ((3 : Int) != 0) = true := rfl
        simp only [bw_FnNormalProducts_j28, e0, cond_false, cond_true, sL_len, s1, s2, s3, s4, c1, c2, d1, d2', d3, e1, e2, e3, m1, m2, t3, Option.bind_some, getTV_here, getTV_next]
    · obtain ⟨r2, x, _, m2, _, _⟩ := mul_all (enc w) (enc (nOf n l)) (sL_rows hn _) (sL_rows hn _)
      have t3 : ((3 : Int) != 0) = true := rfl
      simp only [bw_FnNormalProducts_j28, e0, cond_false, cond_true, sL_len, s1, s2, s3, s4, c1, c2, d1, d2', d3, e1, e2, e3, m1, m2, t3, Option.bind_some, getTV_here, getTV_next]
theorem law_FnNormalProducts (a : List Int) (h : Fit (.slice (.int .u8)) a) : R iw_FnNormalProducts [tLU8 a] = some [tB true] := by
  obtain ⟨hl, hb⟩ := fit_bytes h
  apply vw_FnNormalProducts
  by_cases hB : 4096 < ((a.length : Nat) : Int)
  · simp [bw_FnNormalProducts, c_big, hB]
  · have hy : Bytes a := ⟨hb, by omega⟩
    obtain ⟨p, q, d1, hp, hq⟩ := c_DrawMultiplyNormals a hy
    obtain ⟨i, d2, hi⟩ := c_DrawInverseNormal a hy
    obtain ⟨w, k, d3, hw, hk, hk'⟩ := c_DrawPowerNormal a hy
    obtain ⟨r, e, m1, m2, ml, hm⟩ := mul_all p q hp.rows hq.rows
    obtain ⟨ri, ei, i1, i2, il, him⟩ := inv_all i hi.rows
    obtain ⟨rp, ep, p1, p2, pl, hpm⟩ := pow_all w hw.rows k
    have J28 := c_FnNormalProducts_j28 a hy p q r e hm
    have J23 : R iw_FnNormalProducts_j23 [tLU8 a, tI p.1, tI p.2.1, tLA8 p.2.2, tI q.1, tI q.2.1, tLA8 q.2.2, tI r.1, tI r.2.1, tLA8 r.2.2, tI w.1, tI w.2.1, tLA8 w.2.2, tI rp.1, tI rp.2.1, tLA8 rp.2.2, tI e, tI k, tI ep] = some [tI 0, tB true] := by
      apply vw_FnNormalProducts_j23
      by_cases he : ep = 0
      · subst he
        by_cases k0 : 0 ≤ k
        · by_cases k1 : k < 50
          · obtain ⟨r', e', _, o1, l1, h1⟩ := pow_all w hw.rows (k + 1)
            have wk : wi64 (k + 1) = k + 1 := by rw [wrap_i64] <;> omega
            rcases hpm with hpm | ⟨_, n, v, u, n1, n8, hv, hu, rfl, rfl, hpw⟩
            · exact absurd rfl hpm
            · obtain ⟨r3, e3, _, o2, l3, h3⟩ := mul_all (enc u) (enc v) (sL_rows n8 _) (sL_rows n8 _)
              rcases h1 with h1 | ⟨rfl, n', v', u', _, _, _, hu', ev, rfl, hpw'⟩
              · simp only [bw_FnNormalProducts_j23, e0', decide_eq_true k0, decide_eq_true k1, cond_true, cond_false, wk, o1, o2, Option.bind_some, getTV_here, getTV_next, ne_e h1, J28]
              · have en : n = n' := by
                  have := congrArg Prod.fst ev
                  simp only [enc] at this
                  omega
                subst en
                have evv : v = v' := by
                  simp only [enc, Prod.mk.injEq] at ev
                  exact Prod.ext ev.2.1 (sL_inj n8 ev.2.2)
                subst evv
                have e7 := pow_step k0 hpw hpw'
                subst e7
                have o2' := mul_y n1 n8 hu hv hu'
                rw [o2] at o2'
                simp only [Option.some.injEq, List.cons.injEq, and_true] at o2'
                have n9 := c_norm9 (prod u v) (prod u v) hu'
                rw [decide_eq_true rfl] at n9
                have o3 := mul_y n1 n8 hu hv hu'
                simp only [bw_FnNormalProducts_j23, e0, e0', decide_eq_true k0, decide_eq_true k1, cond_true, cond_false, wk, o1, o3, Option.bind_some, getTV_here, getTV_next, n9, Bool.not_true, J28]
          · simp only [bw_FnNormalProducts_j23, e0', decide_eq_true k0, decide_eq_false k1, cond_true, cond_false, Option.bind_some, getTV_here, getTV_next, J28]
        · simp only [bw_FnNormalProducts_j23, e0', decide_eq_false k0, cond_true, cond_false, Option.bind_some, getTV_here, getTV_next, J28]
      · simp only [bw_FnNormalProducts_j23, ne_e he, cond_false, Option.bind_some, getTV_here, getTV_next, J28]
    have n1 := c_normal9 r r (by omega)
    have n2 := c_normal9 ri ri (by omega)
    have n3 := c_normal9 rp rp (by omega)
    rw [decide_eq_true rfl] at n1 n2 n3
    by_cases he : ei = 0
    · subst he
      rcases him with ⟨him, _⟩ | ⟨_, n, v, q1, q2, hv, hiv, rfl, rfl⟩
      · exact absurd rfl him
      · have z1 := mul_y q1 q2 hv hiv (by rw [inv_r' q1 hv]; exact zero_ok n 200)
        have z2 := mul_y q1 q2 hiv hv (by rw [inv_l' q1 hv]; exact zero_ok n 200)
        rw [inv_r' q1 hv] at z1
        rw [inv_l' q1 hv] at z2
        have t : R iw_trivial9 [tPIPILA8 (enc ((0, []) : Nm n))] = some [tB true] := c_trivial9 (n : Int) 0
        simp only [bw_FnNormalProducts, c_big, decide_eq_false hB, cond_false, cond_true, d1, d2, d3, m1, m2, i1, i2, p1, p2, Option.bind_some, getTV_here, getTV_next, bne_self_eq_false, n1, n2, n3, Bool.not_true, e0', e0, z1, z2, t, J23]
    · simp only [bw_FnNormalProducts, c_big, decide_eq_false hB, cond_false, cond_true, d1, d2, d3, m1, m2, i1, i2, p1, p2, Option.bind_some, getTV_here, getTV_next, bne_self_eq_false, n1, n2, n3, Bool.not_true, ne_e he, J23]
end Go.Ev.Ytpfpjhfimmmkmaa
