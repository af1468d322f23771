/- Words read backward: the normal form's power and length stay. -/
import Derived.Test.YtpfpjhfimmmkmaaMwN
set_option linter.unusedVariables false
set_option linter.unusedSimpArgs false
namespace Go.Ev.Ytpfpjhfimmmkmaa
open Go.Ev Go.Gar
theorem bkL_cons {n : Nat} (a : Pm n) (A : List (Pm n)) : bkL (a :: A) = bkL A ++ [a⁻¹] := by simp [bkL]
theorem bkL_app {n : Nat} (A B : List (Pm n)) : bkL (A ++ B) = bkL B ++ bkL A := by simp [bkL]
theorem bkL_len {n : Nat} (A : List (Pm n)) : (bkL A).length = A.length := by simp [bkL]
/-- m divides both sides, read backward. -/
theorem inv_le1 {n : Nat} {m t : Pm n} (h : Pm.le m (t⁻¹ * Pm.half n)) : Pm.le m⁻¹ (m⁻¹ * t⁻¹) := by
  intro i j hij hlt
  have hlt' : m.g j < m.g i := hlt
  have hj : j < n := Pm.below hij hlt
  have h1 := h (m.g j) (m.g i) hlt' (by rw [m.fg, m.fg]; exact hij)
  have h2 : Pm.hf n (t.g (m.g i)) < Pm.hf n (t.g (m.g j)) := h1
  show t.g (m.g j) < t.g (m.g i)
  rcases Pm.hf_rev h2 with h3 | h3
  · exact h3
  · have := t.lt_g (m.lt_g hj)
    omega
theorem inv_le2 {n : Nat} {m a : Pm n} (h : Pm.le m a) : Pm.le m⁻¹ ((m⁻¹ * a) * Pm.half n) := by
  intro i j hij hlt
  have hlt' : m.g j < m.g i := hlt
  have hj : j < n := Pm.below hij hlt
  have h1 := h (m.g j) (m.g i) hlt' (by rw [m.fg, m.fg]; exact hij)
  show Pm.hf n (a.f (m.g j)) < Pm.hf n (a.f (m.g i))
  exact Pm.hf_anti h1 (a.lt (m.lt_g hj))
theorem mk_front {n : Nat} (h2 : 2 ≤ n) {X X' : List (Pm n)} (Y : List (Pm n)) (h : mk 0 X = mk 0 X') : mk 0 (X ++ Y) = mk 0 (X' ++ Y) := by
  rw [mk_app h2, h, ← mk_app h2]
theorem rev_L {n : Nat} (h2 : 2 ≤ n) : ∀ (A : List (Pm n)) (t : Pm n), mk 0 (bkL ((Pm.lat n).L t A)) = mk 0 (bkL (t :: A))
  | [], t => rfl
  | a :: A, t => by
    have C := Lat.cut (Γ := Pm.lat n) (t := t) (a := a) trivial trivial
    have c1 : Pm.le ((Pm.lat n).meet ((Pm.lat n).K t) a) (t⁻¹ * Pm.half n) := C.c_K
    have c2 : Pm.le ((Pm.lat n).meet ((Pm.lat n).K t) a) a := C.c_a
    have e : (Pm.lat n).L t (a :: A) = (t * (Pm.lat n).meet ((Pm.lat n).K t) a) :: (Pm.lat n).L (((Pm.lat n).meet ((Pm.lat n).K t) a)⁻¹ * a) A := rfl
    rw [e]
    generalize (Pm.lat n).meet ((Pm.lat n).K t) a = m at c1 c2
    rw [bkL_cons, mk_front h2 _ (rev_L h2 A (m⁻¹ * a)), bkL_cons, bkL_cons, bkL_cons, List.append_assoc, List.append_assoc]
    apply mk_nf
    have hm := Lat.nf_move (Γ := Pm.lat n) (p := bkL A) (q := []) (x := (m⁻¹ * a)⁻¹) (y := (t * m)⁻¹) (c := m⁻¹) trivial trivial trivial
      (by
        have := inv_le2 c2
        show Pm.le m⁻¹ (((m⁻¹ * a)⁻¹)⁻¹ * Pm.half n)
        rw [inv_inv]
        exact this)
      (by
        show Pm.le m⁻¹ ((t * m)⁻¹)
        rw [mul_inv_rev]
        exact inv_le1 c1) (allS _)
    have e1 : (m⁻¹ * a)⁻¹ * m⁻¹ = a⁻¹ := by rw [mul_inv_rev, inv_inv, Grp.assoc, Grp.mul_inv, Grp.mul_one]
    have e2 : (m⁻¹)⁻¹ * (t * m)⁻¹ = t⁻¹ := by rw [mul_inv_rev, inv_inv, ← Grp.assoc, Grp.mul_inv, Grp.one_mul]
    rw [e1, e2] at hm
    exact hm
theorem rev_nf {n : Nat} (h2 : 2 ≤ n) : ∀ (X : List (Pm n)), mk 0 (bkL ((Pm.lat n).nf X)) = mk 0 (bkL X)
  | [] => rfl
  | a :: X => by
    rw [Lat.nf_cons, rev_L h2, bkL_cons, mk_front h2 _ (rev_nf h2 X), bkL_cons]
theorem mk_ones {n : Nat} (h2 : 2 ≤ n) : ∀ (j : Nat) (Y : List (Pm n)), mk 0 (Lat.ones j ++ Y) = mk 0 Y
  | 0, Y => rfl
  | j + 1, Y => by
    have e : (Lat.ones (j + 1) : List (Pm n)) ++ Y = 1 :: (Lat.ones j ++ Y) := rfl
    rw [e, PA_cons h2, sN_one h2, mk_ones h2 j Y]
    exact e_prod h2 (mk_spec h2 0 Y).1
theorem mk_Ds {n : Nat} (h2 : 2 ≤ n) : ∀ (i : Nat), mk 0 ((Pm.lat n).Ds i) = ((i : Int), [])
  | 0 => mk_nil 0
  | i + 1 => by
    have e : (Pm.lat n).Ds (i + 1) = Pm.half n :: (Pm.lat n).Ds i := rfl
    rw [e, PA_cons h2, mk_Ds h2 i, sN, mk_D h2]
    unfold prod
    simp only [tk_nil, List.nil_append, mk_nil]
    rw [show (0 : Int) + 1 + (i : Int) = ((i + 1 : Nat) : Int) by omega]
theorem DD {n : Nat} (p q : Int) : prod ((p, []) : Nm n) (q, []) = (p + q, []) := by
  unfold prod
  simp only [tk_nil, List.nil_append, mk_nil]
theorem bk_ones' {n : Nat} (j : Nat) : bkL (Lat.ones j : List (Pm n)) = Lat.ones j := by
  simp only [bkL, Lat.ones, List.reverse_replicate, List.map_replicate, inv_one]
theorem bk_Ds' {n : Nat} (j : Nat) : bkL ((Pm.lat n).Ds j) = (Pm.lat n).Ds j := by
  simp only [bkL, Lat.Ds, List.reverse_replicate, List.map_replicate]
  rfl
/-- Backward. -/
noncomputable def rho {n : Nat} (v : Nm n) : Nm n := prod (mk 0 (bkL v.2)) (v.1, [])
theorem rho_mk {n : Nat} (h2 : 2 ≤ n) (p : Int) (X : List (Pm n)) : rho (mk p X) = prod (mk 0 (bkL X)) (p, []) := by
  obtain ⟨j, e, hP, _⟩ := Lat.norm_spec (Γ := Pm.lat n) (half_ne h2) (allS X)
  have h := rev_nf h2 X
  rw [e, bkL_app, bkL_app, bk_ones', bk_Ds', mk_ones h2] at h
  have h3 := mk_mk h2 0 0 (bkL ((Pm.lat n).norm X).2) ((Pm.lat n).Ds ((Pm.lat n).norm X).1)
  rw [tk_zero, Int.add_zero, h, mk_Ds h2] at h3
  show prod (mk 0 (bkL ((Pm.lat n).norm X).2)) (p + (((Pm.lat n).norm X).1 : Nat), []) = _
  rw [← h3, prod_assoc h2, DD, Int.add_comm]
theorem bk_trn {n : Nat} (A : List (Pm n)) : bkL (A.map trn) = (bkL A).map trn := by
  simp only [bkL, List.map_map, ← List.map_reverse]
  congr 1
theorem trn_sh {n : Nat} (s : Pm n) : trn (s * Pm.half n) = Pm.half n * s := by
  unfold trn
  rw [Grp.assoc, Grp.assoc, Pm.half_half, Grp.mul_one]
theorem swapN_inv {n : Nat} (p : Nat) : (swapN n p)⁻¹ = swapN n p := by
  unfold swapN
  split
  · exact swap_inv _
  · exact inv_one
theorem rho_step {n : Nat} (h2 : 2 ≤ n) (v : Nm n) (x : Int) : rho (stepN v x) = prod (gx n x) (rho v) := by
  unfold stepN gx
  by_cases h : 0 < x
  · rw [if_pos h, if_pos h, rho_mk h2, bkL_app, show bkL [swapN n (x.natAbs - 1)] = [(swapN n (x.natAbs - 1))⁻¹] from rfl, swapN_inv]
    show prod (mk 0 (swapN n (x.natAbs - 1) :: bkL v.2)) (v.1, []) = _
    rw [PA_cons h2, prod_assoc h2]
    rfl
  · rw [if_neg h, if_neg h, rho_mk h2, bkL_app, show bkL [Pm.half n * (swapN n (x.natAbs - 1))⁻¹] = [(Pm.half n * (swapN n (x.natAbs - 1))⁻¹)⁻¹] from rfl, bk_trn]
    have e : (Pm.half n * (swapN n (x.natAbs - 1))⁻¹)⁻¹ = swapN n (x.natAbs - 1) * Pm.half n := by rw [mul_inv_rev, inv_inv, Pm.half_inv]
    rw [e]
    unfold rho isN
    rw [← prod_assoc h2, mk_mk h2, tk_zero, mk_prod h2, mk_prod h2]
    simp only [List.append_nil]
    have e1 : tk (v.1 - 1) ([swapN n (x.natAbs - 1) * Pm.half n] ++ (bkL v.2).map trn) = tk v.1 ([Pm.half n * (swapN n (x.natAbs - 1))⁻¹] ++ bkL v.2) := by
      have e2 : [swapN n (x.natAbs - 1) * Pm.half n] ++ (bkL v.2).map trn = ([Pm.half n * (swapN n (x.natAbs - 1))⁻¹] ++ bkL v.2).map trn := by
        rw [List.map_append]
        congr 1
        show _ = [trn _]
        rw [swapN_inv, ← trn_sh, trn_trn]
      rw [e2, ← tk_neg, ← tk_add]
      rw [show v.1 - 1 + -1 = v.1 + -2 by omega, tk_add]
      have e3 : ∀ l : List (Pm n), tk (-2) l = l := fun l => rfl
      rw [e3]
    rw [e1, show 0 + (v.1 - 1) = -1 + 0 + v.1 by omega]
theorem rho_fold {n : Nat} (h2 : 2 ≤ n) : ∀ (w : List Int), nOf n w.reverse = rho (nOf n w) := by
  have key : ∀ (w : List Int) (v : Nm n), rho (w.foldl stepN v) = prod (nOf n w.reverse) (rho v) := by
    intro w
    induction w with
    | nil =>
      intro v
      exact (e_prod h2 (prod_P h2 _ _)).symm
    | cons x w ih =>
      intro v
      show rho (w.foldl stepN (stepN v x)) = _
      rw [ih, rho_step h2, List.reverse_cons, nOf_app h2, prod_assoc h2]
      congr 1
  intro w
  have h := key w (0, [])
  have e : rho ((0, []) : Nm n) = (0, []) := by
    unfold rho
    show prod (mk 0 []) (0, []) = _
    rw [mk_nil]
    exact DD 0 0
  rw [e, prod_e h2 (nOf_P h2 _)] at h
  exact h.symm
theorem rho_bounds {n : Nat} (h2 : 2 ≤ n) (v : Nm n) : v.1 ≤ (rho v).1 ∧ (rho v).1 + (rho v).2.length ≤ v.1 + v.2.length := by
  unfold rho
  rw [mk_prod h2]
  have := mk_spec h2 (0 + v.1) (tk v.1 (bkL v.2) ++ [])
  rw [List.append_nil, tk_len, bkL_len] at this
  simp only [List.append_nil]
  omega
/-- The same power and length. -/
theorem rev_same {n : Nat} (h1 : 1 ≤ n) {w : List Int} (hw : Lw n w) : (nOf n w.reverse).1 = (nOf n w).1 ∧ (nOf n w.reverse).2.length = (nOf n w).2.length := by
  by_cases h2 : 2 ≤ n
  · have a := rho_bounds h2 (nOf n w)
    have b := rho_bounds h2 (nOf n w.reverse)
    rw [← rho_fold h2] at a b
    rw [List.reverse_reverse] at b
    omega
  · obtain rfl : n = 1 := by omega
    rw [Lw_one hw]
    exact ⟨rfl, rfl⟩
end Go.Ev.Ytpfpjhfimmmkmaa
