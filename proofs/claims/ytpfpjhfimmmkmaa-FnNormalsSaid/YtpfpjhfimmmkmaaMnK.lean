/- Normal forms are a group; what it is to be a beginning. -/
import Derived.Test.YtpfpjhfimmmkmaaMnG
set_option linter.unusedVariables false
set_option linter.unusedSimpArgs false
namespace Go.Ev.Ytpfpjhfimmmkmaa
open Go.Ev Go.Gar
abbrev eN (n : Nat) : Nm n := (0, [])
theorem tk_nil {n : Nat} (k : Int) : tk k ([] : List (Pm n)) = [] := by unfold tk; split <;> rfl
theorem prod_assoc {n : Nat} (h2 : 2 ≤ n) (u v w : Nm n) : prod (prod u v) w = prod u (prod v w) := by
  obtain ⟨p, X⟩ := u
  obtain ⟨q, Y⟩ := v
  obtain ⟨r, Z⟩ := w
  have h1 := mk_tk h2 (p + q + r) r (tk q X ++ Y) Z
  have e2 := mk_pre h2 (p + q + r) (tk (q + r) X) (tk r Y ++ Z)
  rw [← tk_add] at e2
  rw [tk_app, ← tk_add, List.append_assoc] at h1
  have l : prod (prod (p, X) (q, Y)) (r, Z) = mk (p + q + r + (((Pm.lat n).norm (tk q X ++ Y)).1 : Nat)) (tk r ((Pm.lat n).norm (tk q X ++ Y)).2 ++ Z) := by
    unfold prod
    simp only [mk]
    rw [show p + q + (((Pm.lat n).norm (tk q X ++ Y)).1 : Int) + r = p + q + r + (((Pm.lat n).norm (tk q X ++ Y)).1 : Int) by omega]
  have r' : prod (p, X) (prod (q, Y) (r, Z)) = mk (p + q + r + (((Pm.lat n).norm (tk r Y ++ Z)).1 : Nat)) (tk ((((Pm.lat n).norm (tk r Y ++ Z)).1 : Nat) + (q + r)) X ++ ((Pm.lat n).norm (tk r Y ++ Z)).2) := by
    unfold prod
    simp only [mk]
    rw [show p + (q + r + (((Pm.lat n).norm (tk r Y ++ Z)).1 : Int)) = p + q + r + (((Pm.lat n).norm (tk r Y ++ Z)).1 : Int) by omega, show q + r + (((Pm.lat n).norm (tk r Y ++ Z)).1 : Int) = (((Pm.lat n).norm (tk r Y ++ Z)).1 : Int) + (q + r) by omega]
  rw [l, r', h1, e2, Int.add_comm r q]
theorem e_prod {n : Nat} (h2 : 2 ≤ n) {v : Nm n} (hP : (Pm.lat n).Proper v.2) : prod (eN n) v = v := by
  unfold prod
  rw [tk_nil, List.nil_append, Int.zero_add, mk_proper h2 _ hP]
theorem prod_e {n : Nat} (h2 : 2 ≤ n) {v : Nm n} (hP : (Pm.lat n).Proper v.2) : prod v (eN n) = v := by
  unfold prod
  rw [tk_zero, List.append_nil, Int.add_zero, mk_proper h2 _ hP]
theorem prod_P {n : Nat} (h2 : 2 ≤ n) (v w : Nm n) : (Pm.lat n).Proper (prod v w).2 := (mk_spec h2 _ _).1
noncomputable def isN {n : Nat} (s : Pm n) : Nm n := mk (-1) [Pm.half n * s⁻¹]
theorem isN_P {n : Nat} (h2 : 2 ≤ n) (s : Pm n) : (Pm.lat n).Proper (isN s).2 := (mk_spec h2 (-1) [Pm.half n * s⁻¹]).1
noncomputable def sN {n : Nat} (s : Pm n) : Nm n := mk 0 [s]
theorem prod_mk {n : Nat} (h2 : 2 ≤ n) (v : Nm n) (q : Int) (Y : List (Pm n)) : prod v (mk q Y) = mk (v.1 + q) (tk q v.2 ++ Y) := by
  have h := mk_pre h2 (v.1 + q) (tk q v.2) Y
  rw [← tk_add] at h
  rw [← h]
  unfold prod
  simp only [mk]
  rw [show v.1 + (q + (((Pm.lat n).norm Y).1 : Int)) = v.1 + q + (((Pm.lat n).norm Y).1 : Int) by omega, Int.add_comm q]
theorem mk_prod {n : Nat} (h2 : 2 ≤ n) (q : Int) (Y : List (Pm n)) (w : Nm n) : prod (mk q Y) w = mk (q + w.1) (tk w.1 Y ++ w.2) := by
  have h := mk_tk h2 (q + w.1) w.1 Y w.2
  rw [← h]
  unfold prod
  simp only [mk]
  rw [show q + (((Pm.lat n).norm Y).1 : Int) + w.1 = q + w.1 + (((Pm.lat n).norm Y).1 : Int) by omega]
theorem mk_mk {n : Nat} (h2 : 2 ≤ n) (p q : Int) (X Y : List (Pm n)) : prod (mk p X) (mk q Y) = mk (p + q) (tk q X ++ Y) := by
  rw [prod_mk h2]
  have h := mk_tk h2 (p + q) q X Y
  rw [← h]
  simp only [mk]
  rw [show p + (((Pm.lat n).norm X).1 : Int) + q = p + q + (((Pm.lat n).norm X).1 : Int) by omega]
theorem mk_xK {n : Nat} (h2 : 2 ≤ n) (x : Pm n) : mk (-1) [x, (Pm.lat n).K x] = eN n := by
  have hm := Lat.nf_move (Γ := Pm.lat n) (p := []) (q := []) (x := x) (y := (Pm.lat n).K x) (c := (Pm.lat n).K x) trivial trivial trivial ((Pm.lat n).refl trivial) ((Pm.lat n).refl trivial) (allS _)
  rw [x_K, Grp.inv_mul] at hm
  have hd : (Pm.lat n).nf [Pm.half n, 1] = (Pm.lat n).Ds 1 ++ [] ++ Lat.ones 1 := by
    have := Lat.nf_Ds (Γ := Pm.lat n) 1 (Y := [1]) (allS _)
    rw [nf_1 Lat.Proper.nil] at this
    exact this
  have hn := Lat.norm_of (half_ne h2) (hm.trans hd) Lat.Proper.nil
  have hn' : (Pm.lat n).norm [x, (Pm.lat n).K x] = (1, []) := hn
  simp only [mk, hn']
  rfl
theorem K_left {n : Nat} (s : Pm n) : (Pm.lat n).K (Pm.half n * s⁻¹) = s := by
  rw [K_eq, mul_inv_rev, inv_inv, Pm.half_inv, Grp.assoc, Pm.half_half, Grp.mul_one]
theorem is_s {n : Nat} (h2 : 2 ≤ n) (s : Pm n) : prod (isN s) (sN s) = eN n := by
  have h := mk_xK h2 (Pm.half n * s⁻¹)
  rw [K_left] at h
  rw [← h]
  exact mk_mk h2 (-1) 0 _ _
theorem s_is {n : Nat} (h2 : 2 ≤ n) (s : Pm n) : prod (sN s) (isN s) = eN n := by
  have h := mk_xK h2 (trn s)
  have e : (Pm.lat n).K (trn s) = Pm.half n * s⁻¹ := by
    rw [K_eq]
    unfold trn
    simp only [mul_inv_rev, Pm.half_inv, Grp.assoc, Pm.half_half, Grp.mul_one]
  rw [e] at h
  rw [← h]
  exact mk_mk h2 0 (-1) _ _
theorem stepI_eq {n : Nat} (h2 : 2 ≤ n) (w : Nm n) (s : Pm n) : stepI w s = prod w (isN s) := (prod_mk h2 w (-1) _).symm
theorem foldI_P {n : Nat} (h2 : 2 ≤ n) : ∀ (l : List (Pm n)) (w : Nm n), (Pm.lat n).Proper w.2 → (Pm.lat n).Proper (l.foldl stepI w).2
  | [], w, h => h
  | s :: l, w, h => foldI_P h2 l _ (by rw [stepI_eq h2]; exact prod_P h2 _ _)
theorem foldI_prod {n : Nat} (h2 : 2 ≤ n) : ∀ (l : List (Pm n)) (w : Nm n), (Pm.lat n).Proper w.2 → l.foldl stepI w = prod w (l.foldl stepI (eN n))
  | [], w, h => (prod_e h2 h).symm
  | s :: l, w, h => by
    have h0 : (Pm.lat n).Proper (eN n).2 := Lat.Proper.nil
    rw [List.foldl_cons, List.foldl_cons, foldI_prod h2 l (stepI w s) (by rw [stepI_eq h2]; exact prod_P h2 _ _), foldI_prod h2 l (stepI (eN n) s) (by rw [stepI_eq h2]; exact prod_P h2 _ _), stepI_eq h2, stepI_eq h2, prod_assoc h2, e_prod h2 (isN_P h2 s)]
noncomputable def FA {n : Nat} (A : List (Pm n)) : Nm n := A.reverse.foldl stepI (eN n)
theorem FA_P {n : Nat} (h2 : 2 ≤ n) (A : List (Pm n)) : (Pm.lat n).Proper (FA A).2 := foldI_P h2 _ _ Lat.Proper.nil
theorem FA_cons {n : Nat} (h2 : 2 ≤ n) (s : Pm n) (A : List (Pm n)) : FA (s :: A) = prod (FA A) (isN s) := by
  unfold FA
  rw [List.reverse_cons, List.foldl_append, List.foldl_cons, List.foldl_nil, stepI_eq h2]
theorem PA_cons {n : Nat} (h2 : 2 ≤ n) (s : Pm n) (A : List (Pm n)) : mk 0 (s :: A) = prod (sN s) (mk 0 A) := (mk_mk h2 0 0 [s] A).symm
theorem FA_PA {n : Nat} (h2 : 2 ≤ n) : ∀ A : List (Pm n), prod (FA A) (mk 0 A) = eN n ∧ prod (mk 0 A) (FA A) = eN n
  | [] => by
    have h : mk 0 ([] : List (Pm n)) = eN n := mk_nil 0
    have h' : FA ([] : List (Pm n)) = eN n := rfl
    rw [h, h']
    exact ⟨e_prod h2 Lat.Proper.nil, e_prod h2 Lat.Proper.nil⟩
  | s :: A => by
    obtain ⟨i1, i2⟩ := FA_PA h2 A
    rw [FA_cons h2, PA_cons h2]
    constructor
    · rw [prod_assoc h2, ← prod_assoc h2 (isN s), is_s h2, e_prod h2 (mk_spec h2 _ _).1, i1]
    · rw [prod_assoc h2, ← prod_assoc h2 (mk 0 A), i2, e_prod h2 (isN_P h2 s), s_is h2]
theorem invN_eq {n : Nat} (h2 : 2 ≤ n) (v : Nm n) : invN v = prod (FA v.2) (-v.1, []) := by
  unfold prod
  rw [tk_neg_eq, List.append_nil, mk_proper h2 _ (tk_proper _ (FA_P h2 _))]
  rfl
theorem v_eq {n : Nat} (h2 : 2 ≤ n) {v : Nm n} (hP : (Pm.lat n).Proper v.2) : v = prod (v.1, []) (mk 0 v.2) := by
  rw [mk_proper h2 0 hP]
  unfold prod
  rw [tk_nil, List.nil_append, mk_proper h2 _ hP, Int.add_zero]
theorem D_D {n : Nat} (h2 : 2 ≤ n) (p q : Int) (h : p + q = 0) : prod ((p, []) : Nm n) (q, []) = eN n := by
  unfold prod
  rw [tk_nil, List.append_nil, h]
  exact mk_nil 0
theorem inv_l {n : Nat} (h2 : 2 ≤ n) {v : Nm n} (hP : (Pm.lat n).Proper v.2) : prod (invN v) v = eN n := by
  rw [invN_eq h2]
  have hv := v_eq h2 hP
  have : prod (prod (FA v.2) (-v.1, [])) v = prod (prod (FA v.2) (-v.1, [])) (prod (v.1, []) (mk 0 v.2)) := by rw [← hv]
  rw [this, prod_assoc h2, ← prod_assoc h2 (-v.1, []), D_D h2 _ _ (by omega), e_prod h2 (mk_spec h2 _ _).1, (FA_PA h2 _).1]
theorem inv_r {n : Nat} (h2 : 2 ≤ n) {v : Nm n} (hP : (Pm.lat n).Proper v.2) : prod v (invN v) = eN n := by
  rw [invN_eq h2]
  have hv := v_eq h2 hP
  have : prod v (prod (FA v.2) (-v.1, [])) = prod (prod (v.1, []) (mk 0 v.2)) (prod (FA v.2) (-v.1, [])) := by rw [← hv]
  rw [this, prod_assoc h2, ← prod_assoc h2 (mk 0 v.2), (FA_PA h2 _).2, e_prod h2 Lat.Proper.nil, D_D h2 _ _ (by omega)]
theorem invN_P {n : Nat} (h2 : 2 ≤ n) (v : Nm n) : (Pm.lat n).Proper (invN v).2 := by rw [invN_eq h2]; exact prod_P h2 _ _
/-! ### beginnings -/
end Go.Ev.Ytpfpjhfimmmkmaa
