/- Normal forms are a group; what it is to be a beginning. -/
import Derived.Test.YtpfpjhfimmmkmaaMnH
set_option linter.unusedVariables false
set_option linter.unusedSimpArgs false
namespace Go.Ev.Ytpfpjhfimmmkmaa
open Go.Ev Go.Gar
abbrev eN (n : Nat) : Nm n := (0, [])
theorem tk_nil {n : Nat} (k : Int) : tk k ([] : List (Pm n)) = [] := by unfold tk; split <;> rfl
theorem prod_assoc {n : Nat} (h2 : 2 ≤ n) (u v w : Nm n) : prod (prod u v) w = prod u (prod v w) := by
  obtain ⟨p, X⟩ := u
  obtain ⟨q, Y⟩ := v
  obtain ⟨r, Z⟩ := w
  have h1 := mk_tk h2 (p + q + r) r (tk q X ++ Y) Z
  have e2 := mk_pre h2 (p + q + r) (tk (q + r) X) (tk r Y ++ Z)
  rw [← tk_add] at e2
  rw [tk_app, ← tk_add, List.append_assoc] at h1
  have l : prod (prod (p, X) (q, Y)) (r, Z) = mk (p + q + r + (((Pm.lat n).norm (tk q X ++ Y)).1 : Nat)) (tk r ((Pm.lat n).norm (tk q X ++ Y)).2 ++ Z) := by
    unfold prod
    simp only [mk]
    rw [show p + q + (((Pm.lat n).norm (tk q X ++ Y)).1 : Int) + r = p + q + r + (((Pm.lat n).norm (tk q X ++ Y)).1 : Int) by omega]
  have r' : prod (p, X) (prod (q, Y) (r, Z)) = mk (p + q + r + (((Pm.lat n).norm (tk r Y ++ Z)).1 : Nat)) (tk ((((Pm.lat n).norm (tk r Y ++ Z)).1 : Nat) + (q + r)) X ++ ((Pm.lat n).norm (tk r Y ++ Z)).2) := by
    unfold prod
    simp only [mk]
    rw [show p + (q + r + (((Pm.lat n).norm (tk r Y ++ Z)).1 : Int)) = p + q + r + (((Pm.lat n).norm (tk r Y ++ Z)).1 : Int) by omega, show q + r + (((Pm.lat n).norm (tk r Y ++ Z)).1 : Int) = (((Pm.lat n).norm (tk r Y ++ Z)).1 : Int) + (q + r) by omega]
  rw [l, r', h1, e2, Int.add_comm r q]
theorem e_prod {n : Nat} (h2 : 2 ≤ n) {v : Nm n} (hP : (Pm.lat n).Proper v.2) : prod (eN n) v = v := by
  unfold prod
  rw [tk_nil, List.nil_append, Int.zero_add, mk_proper h2 _ hP]
theorem prod_e {n : Nat} (h2 : 2 ≤ n) {v : Nm n} (hP : (Pm.lat n).Proper v.2) : prod v (eN n) = v := by
  unfold prod
  rw [tk_zero, List.append_nil, Int.add_zero, mk_proper h2 _ hP]
theorem prod_P {n : Nat} (h2 : 2 ≤ n) (v w : Nm n) : (Pm.lat n).Proper (prod v w).2 := (mk_spec h2 _ _).1
noncomputable def isN {n : Nat} (s : Pm n) : Nm n := mk (-1) [Pm.half n * s⁻¹]
theorem isN_P {n : Nat} (h2 : 2 ≤ n) (s : Pm n) : (Pm.lat n).Proper (isN s).2 := (mk_spec h2 (-1) [Pm.half n * s⁻¹]).1
noncomputable def sN {n : Nat} (s : Pm n) : Nm n := mk 0 [s]
theorem prod_mk {n : Nat} (h2 : 2 ≤ n) (v : Nm n) (q : Int) (Y : List (Pm n)) : prod v (mk q Y) = mk (v.1 + q) (tk q v.2 ++ Y) := by
  have h := mk_pre h2 (v.1 + q) (tk q v.2) Y
  rw [← tk_add] at h
  rw [← h]
  unfold prod
  simp only [mk]
  rw [show v.1 + (q + (((Pm.lat n).norm Y).1 : Int)) = v.1 + q + (((Pm.lat n).norm Y).1 : Int) by omega, Int.add_comm q]
theorem mk_prod {n : Nat} (h2 : 2 ≤ n) (q : Int) (Y : List (Pm n)) (w : Nm n) : prod (mk q Y) w = mk (q + w.1) (tk w.1 Y ++ w.2) := by
  have h := mk_tk h2 (q + w.1) w.1 Y w.2
  rw [← h]
  unfold prod
  simp only [mk]
  rw [show q + (((Pm.lat n).norm Y).1 : Int) + w.1 = q + w.1 + (((Pm.lat n).norm Y).1 : Int) by omega]
theorem mk_mk {n : Nat} (h2 : 2 ≤ n) (p q : Int) (X Y : List (Pm n)) : prod (mk p X) (mk q Y) = mk (p + q) (tk q X ++ Y) := by
  rw [prod_mk h2]
  have h := mk_tk h2 (p + q) q X Y
  rw [← h]
  simp only [mk]
  rw [show p + (((Pm.lat n).norm X).1 : Int) + q = p + q + (((Pm.lat n).norm X).1 : Int) by omega]
theorem mk_xK {n : Nat} (h2 : 2 ≤ n) (x : Pm n) : mk (-1) [x, (Pm.lat n).K x] = eN n := by
  have hm := Lat.nf_move (Γ := Pm.lat n) (p := []) (q := []) (x := x) (y := (Pm.lat n).K x) (c := (Pm.lat n).K x) trivial trivial trivial ((Pm.lat n).refl trivial) ((Pm.lat n).refl trivial) (allS _)
  rw [x_K, Grp.inv_mul] at hm
  have hd : (Pm.lat n).nf [Pm.half n, 1] = (Pm.lat n).Ds 1 ++ [] ++ Lat.ones 1 := by
    have := Lat.nf_Ds (Γ := Pm.lat n) 1 (Y := [1]) (allS _)
    rw [nf_1 Lat.Proper.nil] at this
    exact this
  have hn := Lat.norm_of (half_ne h2) (hm.trans hd) Lat.Proper.nil
  have hn' : (Pm.lat n).norm [x, (Pm.lat n).K x] = (1, []) := hn
  simp only [mk, hn']
  rfl
theorem K_left {n : Nat} (s : Pm n) : (Pm.lat n).K (Pm.half n * s⁻¹) = s := by
  rw [K_eq, mul_inv_rev, inv_inv, Pm.half_inv, Grp.assoc, Pm.half_half, Grp.mul_one]
theorem is_s {n : Nat} (h2 : 2 ≤ n) (s : Pm n) : prod (isN s) (sN s) = eN n := by
  have h := mk_xK h2 (Pm.half n * s⁻¹)
  rw [K_left] at h
  rw [← h]
  exact mk_mk h2 (-1) 0 _ _
theorem s_is {n : Nat} (h2 : 2 ≤ n) (s : Pm n) : prod (sN s) (isN s) = eN n := by
  have h := mk_xK h2 (trn s)
  have e : (Pm.lat n).K (trn s) = Pm.half n * s⁻¹ := by
    rw [K_eq]
    unfold trn
    simp only [mul_inv_rev, Pm.half_inv, Grp.assoc, Pm.half_half, Grp.mul_one]
  rw [e] at h
  rw [← h]
  exact mk_mk h2 0 (-1) _ _
theorem stepI_eq {n : Nat} (h2 : 2 ≤ n) (w : Nm n) (s : Pm n) : stepI w s = prod w (isN s) := (prod_mk h2 w (-1) _).symm
theorem foldI_P {n : Nat} (h2 : 2 ≤ n) : ∀ (l : List (Pm n)) (w : Nm n), (Pm.lat n).Proper w.2 → (Pm.lat n).Proper (l.foldl stepI w).2
  | [], w, h => h
  | s :: l, w, h => foldI_P h2 l _ (by rw [stepI_eq h2]; exact prod_P h2 _ _)
theorem foldI_prod {n : Nat} (h2 : 2 ≤ n) : ∀ (l : List (Pm n)) (w : Nm n), (Pm.lat n).Proper w.2 → l.foldl stepI w = prod w (l.foldl stepI (eN n))
  | [], w, h => (prod_e h2 h).symm
  | s :: l, w, h => by
    have h0 : (Pm.lat n).Proper (eN n).2 := Lat.Proper.nil
    rw [List.foldl_cons, List.foldl_cons, foldI_prod h2 l (stepI w s) (by rw [stepI_eq h2]; exact prod_P h2 _ _), foldI_prod h2 l (stepI (eN n) s) (by rw [stepI_eq h2]; exact prod_P h2 _ _), stepI_eq h2, stepI_eq h2, prod_assoc h2, e_prod h2 (isN_P h2 s)]
noncomputable def FA {n : Nat} (A : List (Pm n)) : Nm n := A.reverse.foldl stepI (eN n)
theorem FA_P {n : Nat} (h2 : 2 ≤ n) (A : List (Pm n)) : (Pm.lat n).Proper (FA A).2 := foldI_P h2 _ _ Lat.Proper.nil
theorem FA_cons {n : Nat} (h2 : 2 ≤ n) (s : Pm n) (A : List (Pm n)) : FA (s :: A) = prod (FA A) (isN s) := by
  unfold FA
  rw [List.reverse_cons, List.foldl_append, List.foldl_cons, List.foldl_nil, stepI_eq h2]
theorem PA_cons {n : Nat} (h2 : 2 ≤ n) (s : Pm n) (A : List (Pm n)) : mk 0 (s :: A) = prod (sN s) (mk 0 A) := (mk_mk h2 0 0 [s] A).symm
theorem FA_PA {n : Nat} (h2 : 2 ≤ n) : ∀ A : List (Pm n), prod (FA A) (mk 0 A) = eN n ∧ prod (mk 0 A) (FA A) = eN n
  | [] => by
    have h : mk 0 ([] : List (Pm n)) = eN n := mk_nil 0
    have h' : FA ([] : List (Pm n)) = eN n := rfl
    rw [h, h']
    exact ⟨e_prod h2 Lat.Proper.nil, e_prod h2 Lat.Proper.nil⟩
  | s :: A => by
    obtain ⟨i1, i2⟩ := FA_PA h2 A
    rw [FA_cons h2, PA_cons h2]
    constructor
    · rw [prod_assoc h2, ← prod_assoc h2 (isN s), is_s h2, e_prod h2 (mk_spec h2 _ _).1, i1]
    · rw [prod_assoc h2, ← prod_assoc h2 (mk 0 A), i2, e_prod h2 (isN_P h2 s), s_is h2]
theorem invN_eq {n : Nat} (h2 : 2 ≤ n) (v : Nm n) : invN v = prod (FA v.2) (-v.1, []) := by
  unfold prod
  rw [tk_neg_eq, List.append_nil, mk_proper h2 _ (tk_proper _ (FA_P h2 _))]
  rfl
theorem v_eq {n : Nat} (h2 : 2 ≤ n) {v : Nm n} (hP : (Pm.lat n).Proper v.2) : v = prod (v.1, []) (mk 0 v.2) := by
  rw [mk_proper h2 0 hP]
  unfold prod
  rw [tk_nil, List.nil_append, mk_proper h2 _ hP, Int.add_zero]
theorem D_D {n : Nat} (h2 : 2 ≤ n) (p q : Int) (h : p + q = 0) : prod ((p, []) : Nm n) (q, []) = eN n := by
  unfold prod
  rw [tk_nil, List.append_nil, h]
  exact mk_nil 0
theorem inv_l {n : Nat} (h2 : 2 ≤ n) {v : Nm n} (hP : (Pm.lat n).Proper v.2) : prod (invN v) v = eN n := by
  rw [invN_eq h2]
  have hv := v_eq h2 hP
  have : prod (prod (FA v.2) (-v.1, [])) v = prod (prod (FA v.2) (-v.1, [])) (prod (v.1, []) (mk 0 v.2)) := by rw [← hv]
  rw [this, prod_assoc h2, ← prod_assoc h2 (-v.1, []), D_D h2 _ _ (by omega), e_prod h2 (mk_spec h2 _ _).1, (FA_PA h2 _).1]
theorem inv_r {n : Nat} (h2 : 2 ≤ n) {v : Nm n} (hP : (Pm.lat n).Proper v.2) : prod v (invN v) = eN n := by
  rw [invN_eq h2]
  have hv := v_eq h2 hP
  have : prod v (prod (FA v.2) (-v.1, [])) = prod (prod (v.1, []) (mk 0 v.2)) (prod (FA v.2) (-v.1, [])) := by rw [← hv]
  rw [this, prod_assoc h2, ← prod_assoc h2 (mk 0 v.2), (FA_PA h2 _).2, e_prod h2 Lat.Proper.nil, D_D h2 _ _ (by omega)]
theorem invN_P {n : Nat} (h2 : 2 ≤ n) (v : Nm n) : (Pm.lat n).Proper (invN v).2 := by rw [invN_eq h2]; exact prod_P h2 _ _
/-! ### beginnings -/
theorem hd_prod {n : Nat} (h2 : 2 ≤ n) {a u : Nm n} (pa : 0 ≤ a.1) (pu : 0 ≤ u.1) : (Pm.lat n).le (hd a) (hd (prod a u)) := by
  obtain ⟨p, A⟩ := a
  obtain ⟨q, U⟩ := u
  simp only at pa pu
  by_cases h : 0 < p + q
  · have hs := (mk_spec h2 (p + q) (tk q A ++ U)).2.1
    have e : hd (prod (p, A) (q, U)) = Pm.half n := by
      unfold hd
      rw [if_pos]
      show 0 < (mk (p + q) (tk q A ++ U)).1
      omega
    rw [e]
    exact (Pm.lat n).le_D trivial
  · have hp : p = 0 := by omega
    have hq : q = 0 := by omega
    subst hp
    subst hq
    have e : prod ((0, A) : Nm n) (0, U) = mk 0 (A ++ U) := rfl
    rw [e, hd_mk h2]
    cases A with
    | nil => exact (Pm.lat n).one_le trivial
    | cons x A =>
      show (Pm.lat n).le x _
      rw [List.cons_append, Lat.nf_cons]
      generalize (Pm.lat n).nf (A ++ U) = Z
      cases Z with
      | nil => exact (Pm.lat n).refl trivial
      | cons z Z => exact (Lat.P1 (Γ := Pm.lat n) (x := x) (y := (Pm.lat n).meet ((Pm.lat n).K x) z) trivial trivial ((Pm.lat n).meet_l trivial trivial)).2
theorem hd_one {n : Nat} (h2 : 2 ≤ n) {a : Nm n} (hP : (Pm.lat n).Proper a.2) (pa : 0 ≤ a.1) (h : hd a = 1) : a = eN n := by
  obtain ⟨p, A⟩ := a
  simp only at hP pa
  by_cases hp : 0 < p
  · unfold hd at h
    rw [if_pos hp] at h
    exact (half_ne h2 h).elim
  · have : p = 0 := by omega
    subst this
    cases A with
    | nil => rfl
    | cons x A => exact ((hP.no x List.mem_cons_self).2 h).elim
theorem shift {n : Nat} (k p : Int) (l : List (Pm n)) (a : Nm n) (h : mk p l = (a.1 - k, a.2)) : mk (k + p) l = a := by
  have h1 := congrArg Prod.fst h
  have h3 := congrArg Prod.snd h
  simp only [mk] at h1 h3
  obtain ⟨q, A⟩ := a
  simp only [mk]
  simp only at h1 h3
  rw [h3]
  congr 1
  omega
theorem begins {n : Nat} (h2 : 2 ≤ n) {N : Nat} {k : Int} {M : List (Pm n)} {a b a' b' : Nm n} (ha : (Pm.lat n).Proper a.2) (hb : (Pm.lat n).Proper b.2) (g : Gi N (a.1 - k, a.2) (b.1 - k, b.2) M a' b')
    (hm : (Pm.lat n).meet (hd a') (hd b') = 1) : (0 ≤ (prod (invN a) b).1) ↔ a' = eN n := by
  have ea : prod (k, M) a' = a := shift k _ _ a g.Ea
  have eb : prod (k, M) b' = b := shift k _ _ b g.Eb
  have hu : prod (invN a) b = prod (invN a') b' := by
    have h1 : prod a (prod (invN a') b') = b := by
      rw [← ea, prod_assoc h2, ← prod_assoc h2 a', inv_r h2 g.Pa, e_prod h2 g.Pb, eb]
    rw [← h1, ← prod_assoc h2, inv_l h2 ha, e_prod h2 (prod_P h2 _ _)]
  rw [hu]
  constructor
  · intro h
    have h1 : prod a' (prod (invN a') b') = b' := by rw [← prod_assoc h2, inv_r h2 g.Pa, e_prod h2 g.Pb]
    have h3 := hd_prod h2 g.pa h
    rw [h1] at h3
    have h4 := Lat.meet_le (Γ := Pm.lat n) trivial trivial trivial ((Pm.lat n).refl trivial) h3 hm
    exact hd_one h2 g.Pa g.pa h4
  · intro h
    subst h
    have e : invN (eN n) = eN n := rfl
    rw [e, e_prod h2 g.Pb]
    exact g.pb
/-! ### the law -/
theorem c_IsBeginningOf_bad {a b : Int × Int × List (List Int)} (ha : Rows8 a.2.2) (hb : Rows8 b.2.2) (h : posC a b ≠ 0) : R is_IsBeginningOf [tPIPILA8 a, tPIPILA8 b] = some [tB false, tI (posC a b)] ∧ R ii_IsBeginningOf [tPIPILA8 a, tPIPILA8 b] = some [tB false, tI (posC a b)] := by
  constructor
  · apply vs_IsBeginningOf
    simp [bs_IsBeginningOf, c_l03Positive a b ha hb, h, bne_dec]
  · apply vi_IsBeginningOf
    simp [bi_IsBeginningOf, c_arePositive a b ha hb, h, bne_dec]
theorem c_IsBeginningOf_ok {n : Nat} (hn1 : 1 ≤ n) (hn : n ≤ 8) {v w : Nm n} (hv : OkN v 200) (hw : OkN w 200) (pv : 0 ≤ v.1) (pw : 0 ≤ w.1) (h : both (enc v) (enc w) = 0) (h' : posC (enc v) (enc w) = 0) :
    ∃ r : Bool, R is_IsBeginningOf [tPIPILA8 (enc v), tPIPILA8 (enc w)] = some [tB r, tI 0] ∧ R ii_IsBeginningOf [tPIPILA8 (enc v), tPIPILA8 (enc w)] = some [tB r, tI 0] := by
  have hr : Rows8 (enc v).2.2 := sL_rows hn v.2
  have hr' : Rows8 (enc w).2.2 := sL_rows hn w.2
  obtain ⟨k, M, a', b', m1, m2, m3, m4, _⟩ := c_common_all n hn1 hn v w hv hw pv pw h
  have hi := invN_ok hn1 hv
  have e2 := c_product n hn1 hn (invN v) w (hi.mono (by omega)) (hw.mono (by omega))
  have e3 := c_inverse n hn1 hn v hv
  have hiff : (0 ≤ (prod (invN v) w).1) ↔ a' = eN n := by
    rcases m3 with ⟨h1, ha'⟩ | ⟨h2, _, _, g⟩
    · have x1 := hv.one h1
      have x2 := hw.one h1
      subst x1
      subst x2
      have e : invN ((0, []) : Nm n) = (0, []) := rfl
      have e' : prod ((0, []) : Nm n) (0, []) = (0, []) := by
        unfold prod
        exact mk_nil _
      rw [e, e', ha']
      simp
    · exact begins h2 hv.P hw.P g m2
  refine ⟨decide (a' = eN n), ?_, ?_⟩
  · apply vs_IsBeginningOf
    obtain ⟨p, A⟩ := a'
    have q1 : (((enc ((p, A) : Nm n)).2.2.length : Nat) : Int) = (A.length : Int) := by simp only [enc, sL_len]
    have q2 : (enc ((p, A) : Nm n)).2.1 = p := rfl
    have c0 : ((0 : Int) != 0) = false := rfl
    have e4 : R is_l03Positive [tPIPILA8 ((enc v).1, (enc v).2.1, (enc v).2.2), tPIPILA8 ((enc w).1, (enc w).2.1, (enc w).2.2)] = some [tI (posC (enc v) (enc w))] := c_l03Positive _ _ hr hr'
    have m4' : R is_l03Common [tPIPILA8 ((enc v).1, (enc v).2.1, (enc v).2.2), tPIPILA8 ((enc w).1, (enc w).2.1, (enc w).2.2)] = _ := m4
    simp only [bs_IsBeginningOf, e4, h', Option.bind_some, getTV_here, getTV_next, c0, cond_false, m4', q1, q2, beq_dec]
    by_cases hp : p = 0
    · subst hp
      cases A with
      | nil => rfl
      | cons x A =>
        have t : ¬ (((x :: A).length : Int) = 0) := by simp only [List.length_cons]; omega
        have t' : ¬ (((0 : Int), x :: A) = eN n) := fun h => by
          have := congrArg Prod.snd h
          simp at this
        simp only [decide_true, cond_true, decide_eq_false t, dec_f t']
    · have t' : ¬ ((p, A) = eN n) := fun h => hp (congrArg Prod.fst h)
      simp only [decide_eq_false hp, cond_false, dec_f t']
  · apply vi_IsBeginningOf
    have q : (enc (prod (invN v) w)).2.1 = (prod (invN v) w).1 := rfl
    have hd : decide (0 ≤ (enc (prod (invN v) w)).2.1) = decide (a' = eN n) := by
      rw [q, decide_eq_decide]
      exact hiff
    have c0 : ((0 : Int) != 0) = false := rfl
    have e3' : R ii_inverse [tPIPILA8 ((enc v).1, (enc v).2.1, (enc v).2.2)] = some [tPIPILA8 (enc (invN v))] := e3
    have e2' : R ii_product [tPIPILA8 ((enc (invN v)).1, (enc (invN v)).2.1, (enc (invN v)).2.2), tPIPILA8 ((enc w).1, (enc w).2.1, (enc w).2.2)] = some [tPIPILA8 (enc (prod (invN v) w))] := e2
    have e4 : R ii_arePositive [tPIPILA8 ((enc v).1, (enc v).2.1, (enc v).2.2), tPIPILA8 ((enc w).1, (enc w).2.1, (enc w).2.2)] = some [tI (posC (enc v) (enc w))] := c_arePositive _ _ hr hr'
    simp only [bi_IsBeginningOf, e4, h', Option.bind_some, getTV_here, c0, cond_false, e3', e2', hd]
end Go.Ev.Ytpfpjhfimmmkmaa
