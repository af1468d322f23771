/- IsBeginningOf: the law. -/
import Derived.Test.YtpfpjhfimmmkmaaMnH
import Derived.Test.YtpfpjhfimmmkmaaMnK
set_option linter.unusedVariables false
set_option linter.unusedSimpArgs false
namespace Go.Ev.Ytpfpjhfimmmkmaa
open Go.Ev Go.Gar
theorem hd_prod {n : Nat} (h2 : 2 ≤ n) {a u : Nm n} (pa : 0 ≤ a.1) (pu : 0 ≤ u.1) : (Pm.lat n).le (hd a) (hd (prod a u)) := by
  obtain ⟨p, A⟩ := a
  obtain ⟨q, U⟩ := u
  simp only at pa pu
  by_cases h : 0 < p + q
  · have hs := (mk_spec h2 (p + q) (tk q A ++ U)).2.1
    have e : hd (prod (p, A) (q, U)) = Pm.half n := by
      unfold hd
      rw [if_pos]
      show 0 < (mk (p + q) (tk q A ++ U)).1
      omega
    rw [e]
    exact (Pm.lat n).le_D trivial
  · have hp : p = 0 := by omega
    have hq : q = 0 := by omega
    subst hp
    subst hq
    have e : prod ((0, A) : Nm n) (0, U) = mk 0 (A ++ U) := rfl
    rw [e, hd_mk h2]
    cases A with
    | nil => exact (Pm.lat n).one_le trivial
    | cons x A =>
      show (Pm.lat n).le x _
      rw [List.cons_append, Lat.nf_cons]
      generalize (Pm.lat n).nf (A ++ U) = Z
      cases Z with
      | nil => exact (Pm.lat n).refl trivial
      | cons z Z => exact (Lat.P1 (Γ := Pm.lat n) (x := x) (y := (Pm.lat n).meet ((Pm.lat n).K x) z) trivial trivial ((Pm.lat n).meet_l trivial trivial)).2
theorem hd_one {n : Nat} (h2 : 2 ≤ n) {a : Nm n} (hP : (Pm.lat n).Proper a.2) (pa : 0 ≤ a.1) (h : hd a = 1) : a = eN n := by
  obtain ⟨p, A⟩ := a
  simp only at hP pa
  by_cases hp : 0 < p
  · unfold hd at h
    rw [if_pos hp] at h
    exact (half_ne h2 h).elim
  · have : p = 0 := by omega
    subst this
    cases A with
    | nil => rfl
    | cons x A => exact ((hP.no x List.mem_cons_self).2 h).elim
theorem shift {n : Nat} (k p : Int) (l : List (Pm n)) (a : Nm n) (h : mk p l = (a.1 - k, a.2)) : mk (k + p) l = a := by
  have h1 := congrArg Prod.fst h
  have h3 := congrArg Prod.snd h
  simp only [mk] at h1 h3
  obtain ⟨q, A⟩ := a
  simp only [mk]
  simp only at h1 h3
  rw [h3]
  congr 1
  omega
theorem begins {n : Nat} (h2 : 2 ≤ n) {N : Nat} {k : Int} {M : List (Pm n)} {a b a' b' : Nm n} (ha : (Pm.lat n).Proper a.2) (hb : (Pm.lat n).Proper b.2) (g : Gi N (a.1 - k, a.2) (b.1 - k, b.2) M a' b')
    (hm : (Pm.lat n).meet (hd a') (hd b') = 1) : (0 ≤ (prod (invN a) b).1) ↔ a' = eN n := by
  have ea : prod (k, M) a' = a := shift k _ _ a g.Ea
  have eb : prod (k, M) b' = b := shift k _ _ b g.Eb
  have hu : prod (invN a) b = prod (invN a') b' := by
    have h1 : prod a (prod (invN a') b') = b := by
      rw [← ea, prod_assoc h2, ← prod_assoc h2 a', inv_r h2 g.Pa, e_prod h2 g.Pb, eb]
    rw [← h1, ← prod_assoc h2, inv_l h2 ha, e_prod h2 (prod_P h2 _ _)]
  rw [hu]
  constructor
  · intro h
    have h1 : prod a' (prod (invN a') b') = b' := by rw [← prod_assoc h2, inv_r h2 g.Pa, e_prod h2 g.Pb]
    have h3 := hd_prod h2 g.pa h
    rw [h1] at h3
    have h4 := Lat.meet_le (Γ := Pm.lat n) trivial trivial trivial ((Pm.lat n).refl trivial) h3 hm
    exact hd_one h2 g.Pa g.pa h4
  · intro h
    subst h
    have e : invN (eN n) = eN n := rfl
    rw [e, e_prod h2 g.Pb]
    exact g.pb
/-! ### the law -/
theorem c_IsBeginningOf_bad {a b : Int × Int × List (List Int)} (ha : Rows8 a.2.2) (hb : Rows8 b.2.2) (h : posC a b ≠ 0) : R is_IsBeginningOf [tPIPILA8 a, tPIPILA8 b] = some [tB false, tI (posC a b)] ∧ R ii_IsBeginningOf [tPIPILA8 a, tPIPILA8 b] = some [tB false, tI (posC a b)] := by
  constructor
  · apply vs_IsBeginningOf
    simp [bs_IsBeginningOf, c_l03Positive a b ha hb, h, bne_dec]
  · apply vi_IsBeginningOf
    simp [bi_IsBeginningOf, c_arePositive a b ha hb, h, bne_dec]
theorem c_IsBeginningOf_ok {n : Nat} (hn1 : 1 ≤ n) (hn : n ≤ 8) {v w : Nm n} (hv : OkN v 200) (hw : OkN w 200) (pv : 0 ≤ v.1) (pw : 0 ≤ w.1) (h : both (enc v) (enc w) = 0) (h' : posC (enc v) (enc w) = 0) :
    ∃ r : Bool, r = decide (0 ≤ (prod (invN v) w).1) ∧ R is_IsBeginningOf [tPIPILA8 (enc v), tPIPILA8 (enc w)] = some [tB r, tI 0] ∧ R ii_IsBeginningOf [tPIPILA8 (enc v), tPIPILA8 (enc w)] = some [tB r, tI 0] := by
  have hr : Rows8 (enc v).2.2 := sL_rows hn v.2
  have hr' : Rows8 (enc w).2.2 := sL_rows hn w.2
  obtain ⟨k, M, a', b', m1, m2, m3, m4, _⟩ := c_common_all n hn1 hn v w hv hw pv pw h
  have hi := invN_ok hn1 hv
  have e2 := c_product n hn1 hn (invN v) w (hi.mono (by omega)) (hw.mono (by omega))
  have e3 := c_inverse n hn1 hn v hv
  have hiff : (0 ≤ (prod (invN v) w).1) ↔ a' = eN n := by
    rcases m3 with ⟨h1, ha', _, _⟩ | ⟨h2, _, _, _, g⟩
    · have x1 := hv.one h1
      have x2 := hw.one h1
      subst x1
      subst x2
      have e : invN ((0, []) : Nm n) = (0, []) := rfl
      have e' : prod ((0, []) : Nm n) (0, []) = (0, []) := by
        unfold prod
        exact mk_nil _
      rw [e, e', ha']
      simp
    · exact begins h2 hv.P hw.P g m2
  refine ⟨decide (a' = eN n), by rw [decide_eq_decide]; exact hiff.symm, ?_, ?_⟩
  · apply vs_IsBeginningOf
    obtain ⟨p, A⟩ := a'
    have q1 : (((enc ((p, A) : Nm n)).2.2.length : Nat) : Int) = (A.length : Int) := by simp only [enc, sL_len]
    have q2 : (enc ((p, A) : Nm n)).2.1 = p := rfl
    have c0 : ((0 : Int) != 0) = false := rfl
    have e4 : R is_l03Positive [tPIPILA8 ((enc v).1, (enc v).2.1, (enc v).2.2), tPIPILA8 ((enc w).1, (enc w).2.1, (enc w).2.2)] = some [tI (posC (enc v) (enc w))] := c_l03Positive _ _ hr hr'
    have m4' : R is_l03Common [tPIPILA8 ((enc v).1, (enc v).2.1, (enc v).2.2), tPIPILA8 ((enc w).1, (enc w).2.1, (enc w).2.2)] = _ := m4
    simp only [bs_IsBeginningOf, e4, h', Option.bind_some, getTV_here, getTV_next, c0, cond_false, m4', q1, q2, beq_dec]
    by_cases hp : p = 0
    · subst hp
      cases A with
      | nil => rfl
      | cons x A =>
        have t : ¬ (((x :: A).length : Int) = 0) := by simp only [List.length_cons]; omega
        have t' : ¬ (((0 : Int), x :: A) = eN n) := fun h => by
          have := congrArg Prod.snd h
          simp at this
        simp only [decide_true, cond_true, decide_eq_false t, dec_f t']
    · have t' : ¬ ((p, A) = eN n) := fun h => hp (congrArg Prod.fst h)
      simp only [decide_eq_false hp, cond_false, dec_f t']
  · apply vi_IsBeginningOf
    have q : (enc (prod (invN v) w)).2.1 = (prod (invN v) w).1 := rfl
    have hd : decide (0 ≤ (enc (prod (invN v) w)).2.1) = decide (a' = eN n) := by
      rw [q, decide_eq_decide]
      exact hiff
    have c0 : ((0 : Int) != 0) = false := rfl
    have e3' : R ii_inverse [tPIPILA8 ((enc v).1, (enc v).2.1, (enc v).2.2)] = some [tPIPILA8 (enc (invN v))] := e3
    have e2' : R ii_product [tPIPILA8 ((enc (invN v)).1, (enc (invN v)).2.1, (enc (invN v)).2.2), tPIPILA8 ((enc w).1, (enc w).2.1, (enc w).2.2)] = some [tPIPILA8 (enc (prod (invN v) w))] := e2
    have e4 : R ii_arePositive [tPIPILA8 ((enc v).1, (enc v).2.1, (enc v).2.2), tPIPILA8 ((enc w).1, (enc w).2.1, (enc w).2.2)] = some [tI (posC (enc v) (enc w))] := c_arePositive _ _ hr hr'
    simp only [bi_IsBeginningOf, e4, h', Option.bind_some, getTV_here, c0, cond_false, e3', e2', hd]
end Go.Ev.Ytpfpjhfimmmkmaa
