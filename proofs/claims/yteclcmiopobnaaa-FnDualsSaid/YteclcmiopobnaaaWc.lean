/- Texts merged: MnA MnF MnG MnK Mw1. -/
import Derived.Test.YteclcmiopobnaaaWb
set_option linter.unusedVariables false
set_option linter.unusedSimpArgs false
namespace Go.Ev.Yteclcmiopobnaaa
open Go.Ev Go.Gar
def t1 {n : Nat} (p : Int) (s : Pm n) : Pm n := if p.tmod 2 = 0 then s else trn s
theorem mk_tk {n : Nat} (h2 : 2 ≤ n) (q k : Int) (l B : List (Pm n)) : mk (q + (((Pm.lat n).norm l).1 : Nat)) (tk k ((Pm.lat n).norm l).2 ++ B) = mk q (tk k l ++ B) := by
 have e : (Pm.lat n).norm (tk k l) = (((Pm.lat n).norm l).1, tk k ((Pm.lat n).norm l).2) := by
  unfold tk
  split
  · rfl
  · exact (trn_auto n).norm (half_ne h2) (allS l)
 rw [mk_app h2 q (tk k l) B]
 simp only [mk, e]
end Go.Ev.Yteclcmiopobnaaa
namespace Go.Ev.Yteclcmiopobnaaa
open Go.Ev Go.Gar
theorem bne_l (a b : List Int) : (a != b) = !decide (a = b) := by rw [Bool.eq_iff_iff]; simp
theorem c_Equal_4 (a b : List (List Int)) (h0 : a.length < 1000000000) (h1 : b.length = a.length) : ∀ i, i ≤ a.length → R ig_Equal___i_Simple_i_Simple__4 [tLA8 a, tLA8 b, tI (a.length : Int), tI (i : Int)] = some (if a.drop i = b.drop i then [tI 0] else [tI 1, tB false]) := by
 refine up_loop _ ?_ (fun i hi ih => ?_)
 · apply vg_Equal___i_Simple_i_Simple__4
   rw [List.drop_length, ← h1, List.drop_length]
   simp [bg_Equal___i_Simple_i_Simple__4, h1]
 · apply vg_Equal___i_Simple_i_Simple__4
   rw [List.drop_eq_getElem_cons hi, List.drop_eq_getElem_cons (by omega : i < b.length)]
   simp (disch := omega) only [bg_Equal___i_Simple_i_Simple__4, decide_eq_true, cond_true, Bool.and_true, Int.toNat_natCast, wrap_i64]
   rw [show (i : Int) + 1 = ((i + 1 : Nat) : Int) by omega, ih]
   simp only [List.getD_eq_getElem?_getD, List.getElem?_eq_getElem hi, List.getElem?_eq_getElem (by omega : i < b.length), Option.getD_some, List.cons.injEq]
   by_cases e : a[i] = b[i] <;> simp [e, bne_l]
theorem c_Equal (a b : List (List Int)) (h0 : a.length < 1000000000) : R ig_Equal___i_Simple_i_Simple_ [tLA8 a, tLA8 b] = some [tB (decide (a = b))] := by
 apply vg_Equal___i_Simple_i_Simple_
 by_cases e : b.length = a.length
 · have := c_Equal_4 a b h0 e 0 (Nat.zero_le _)
   simp only [List.drop_zero, Int.natCast_zero] at this
   simp only [bg_Equal___i_Simple_i_Simple_, e, bne_self_eq_false, cond_false, this]
   by_cases e2 : a = b <;> simp [e2]
 · have : a ≠ b := fun h => e (by rw [h])
   have e3 : ¬ ((a.length : Int) = b.length) := by omega
   simp [bg_Equal___i_Simple_i_Simple_, this, e3, bne_dec]
theorem c_sameNormal (a b : Int × Int × List (List Int)) (h0 : a.2.2.length < 1000000000) : R ii_sameNormal [tPIPILA8 a, tPIPILA8 b] = some [tB (decide (a = b))] := by
 apply vi_sameNormal
 obtain ⟨a1, a2, a3⟩ := a
 obtain ⟨b1, b2, b3⟩ := b
 by_cases q1 : a1 = b1
 · by_cases q2 : a2 = b2
   · simp [bi_sameNormal, q1, q2, c_Equal a3 b3 h0]
   · simp [bi_sameNormal, q2, beq_dec]
 · simp [bi_sameNormal, q1, beq_dec]
theorem foldN_ok {n : Nat} (h2 : 2 ≤ n) : ∀ (l : List Int) {v : Nm n} {j : Nat}, OkJ v j → OkJ (l.foldl stepN v) (j + l.length)
 | [], v, j, h => h
 | s :: l, v, j, h => by
  have := foldN_ok h2 l (stepN_ok h2 h s)
  rw [List.foldl_cons, List.length_cons, show j + (l.length + 1) = j + 1 + l.length by omega]
  exact this
theorem foldN_len {n : Nat} (h1 : 1 ≤ n) (w : List Int) (hw : Lw n w) (hl : w.length ≤ 200) : (nOf n w).2.length < 1000000 := by
 by_cases h2 : 2 ≤ n
 · have := (foldN_ok h2 w (OkJ.zero n)).len
   unfold nOf
   omega
 · have : n = 1 := by omega
   subst this
   have := Lw_one hw
   subst this
   simp [nOf]
noncomputable def vSame (a b : Int × List Int) : Bool × Int :=
 if isBr a && isBr b then (if a.1 = b.1 then (decide (enc (nOf a.1.toNat a.2) = enc (nOf a.1.toNat b.2)), 0) else (false, 2)) else (false, 1)
theorem c_SameBraid_i (a b : Int × List Int) (hl : a.2.length < 1000000000) (hl' : b.2.length < 1000000000) : R ii_SameBraid [tPILI a, tPILI b] = some [tB (vSame a b).1, tI (vSame a b).2] := by
 apply vi_SameBraid
 simp only [bi_SameBraid, c_IsBraid a hl, c_IsBraid b hl', Option.bind_some, getTV_here, vSame]
 cases h : isBr a with
 | false => simp
 | true =>
  cases h' : isBr b with
  | false => simp
  | true =>
   by_cases e : a.1 = b.1
   · obtain ⟨q1, q2, q3, q4, q5⟩ := isBr_Lw h
     obtain ⟨r1, r2, r3, r4, r5⟩ := isBr_Lw h'
     rw [← e] at r1
     have hc := c_normalOf a.1.toNat q3 q4 a.2 q1 q5
     have hc' := c_normalOf a.1.toNat q3 q4 b.2 r1 r5
     rw [← q2] at hc hc'
     have hn := foldN_len q3 a.2 q1 q5
     have hs := c_sameNormal (enc (nOf a.1.toNat a.2)) (enc (nOf a.1.toNat b.2)) (by simp only [enc, sL_len]; omega)
     rw [e] at hc hc' hs ⊢
     simp [hc, hc', hs]
   · simp [e, bne_dec]
end Go.Ev.Yteclcmiopobnaaa
namespace Go.Ev.Yteclcmiopobnaaa
open Go.Ev Go.Gar
theorem par (p : Int) : p.tmod 2 = 0 ↔ p % 2 = 0 :=
 ⟨fun h => Int.emod_eq_zero_of_dvd (Int.dvd_of_tmod_eq_zero h), fun h => Int.tmod_eq_zero_of_dvd (Int.dvd_of_emod_eq_zero h)⟩
theorem map_trn2 {n : Nat} (l : List (Pm n)) : (l.map trn).map trn = l := by
 rw [List.map_map]
 conv => rhs; rw [← List.map_id l]
 apply List.map_congr_left
 intro x _
 exact trn_trn x
theorem tk_add {n : Nat} (a b : Int) (l : List (Pm n)) : tk (a + b) l = tk a (tk b l) := by
 unfold tk
 have ha := par a
 have hb := par b
 have hab := par (a + b)
 by_cases h1 : a % 2 = 0
 · by_cases h2 : b % 2 = 0
   · rw [if_pos (hab.2 (by omega)), if_pos (ha.2 h1), if_pos (hb.2 h2)]
   · rw [if_neg (fun h => h2 (by have := hab.1 h; omega)), if_pos (ha.2 h1), if_neg (fun h => h2 (hb.1 h))]
 · by_cases h2 : b % 2 = 0
   · rw [if_neg (fun h => h1 (by have := hab.1 h; omega)), if_neg (fun h => h1 (ha.1 h)), if_pos (hb.2 h2)]
   · rw [if_pos (hab.2 (by omega)), if_neg (fun h => h1 (ha.1 h)), if_neg (fun h => h2 (hb.1 h)), map_trn2]
theorem tk_app {n : Nat} (k : Int) (l m : List (Pm n)) : tk k (l ++ m) = tk k l ++ tk k m := by
 unfold tk
 split
 · rfl
 · rw [List.map_append]
theorem tk_zero {n : Nat} (l : List (Pm n)) : tk 0 l = l := rfl
theorem K_eq {n : Nat} (x : Pm n) : (Pm.lat n).K x = x⁻¹ * Pm.half n := rfl
theorem trn_K {n : Nat} (x : Pm n) : ((Pm.lat n).K x)⁻¹ * Pm.half n = trn x := by
 rw [K_eq, mul_inv_rev, inv_inv, Pm.half_inv, Grp.assoc]
 rfl
theorem x_K {n : Nat} (x : Pm n) : x * (Pm.lat n).K x = Pm.half n := mul_inv_l x _
theorem nf_D1 {n : Nat} (x : Pm n) (Y : List (Pm n)) : (Pm.lat n).nf (x :: Pm.half n :: Y) = (Pm.lat n).nf (Pm.half n :: trn x :: Y) := by
 have h := Lat.nf_move (Γ := Pm.lat n) (p := []) (q := Y) (x := x) (y := Pm.half n) (c := (Pm.lat n).K x) trivial trivial trivial ((Pm.lat n).refl trivial) ((Pm.lat n).le_D trivial) (allS _)
 rw [x_K, trn_K] at h
 exact h
theorem nf_D {n : Nat} : ∀ (X Y : List (Pm n)), (Pm.lat n).nf (X ++ Pm.half n :: Y) = (Pm.lat n).nf (Pm.half n :: (X.map trn ++ Y))
 | [], Y => rfl
 | x :: X, Y => by
  rw [List.cons_append, Lat.nf_cons, nf_D X Y, ← Lat.nf_cons, nf_D1]
  rfl
theorem nf_Dk {n : Nat} : ∀ (i : Nat) (X Y : List (Pm n)), (Pm.lat n).nf (X ++ ((Pm.lat n).Ds i ++ Y)) = (Pm.lat n).nf ((Pm.lat n).Ds i ++ (tk (i : Int) X ++ Y))
 | 0, X, Y => rfl
 | i + 1, X, Y => by
  have e : (Pm.lat n).Ds (i + 1) = Pm.half n :: (Pm.lat n).Ds i := rfl
  rw [e, List.cons_append, nf_D, Lat.nf_cons, nf_Dk i, ← Lat.nf_cons, List.cons_append]
  rw [show ((i + 1 : Nat) : Int) = (i : Int) + 1 by omega, tk_add]
  rfl
theorem Ds_add {n : Nat} (i j : Nat) (Y : List (Pm n)) : (Pm.lat n).Ds i ++ ((Pm.lat n).Ds j ++ Y) = (Pm.lat n).Ds (i + j) ++ Y := by
 rw [← List.append_assoc]
 simp only [Lat.Ds, List.replicate_append_replicate]
theorem mk_pre {n : Nat} (h2 : 2 ≤ n) (q : Int) (X Y : List (Pm n)) : mk (q + (((Pm.lat n).norm Y).1 : Nat)) (tk (((Pm.lat n).norm Y).1 : Nat) X ++ ((Pm.lat n).norm Y).2) = mk q (X ++ Y) := by
 obtain ⟨j, e, hP, _⟩ := Lat.norm_spec (half_ne h2) (allS Y)
 generalize (Pm.lat n).norm Y = z at e hP ⊢
 obtain ⟨i, A⟩ := z
 simp only at e hP ⊢
 obtain ⟨j', e', hP', _⟩ := Lat.norm_spec (half_ne h2) (allS (tk (i : Int) X ++ A))
 have h : (Pm.lat n).nf (X ++ Y) = (Pm.lat n).Ds (i + ((Pm.lat n).norm (tk (i : Int) X ++ A)).1) ++ ((Pm.lat n).norm (tk (i : Int) X ++ A)).2 ++ Lat.ones (j' + j) := by
  rw [← Lat.nf_app_r (allS Y), e, List.append_assoc, nf_Dk, Lat.nf_Ds i (allS _), ← List.append_assoc (tk (i : Int) X)]
  have ho := Lat.nf_ones (Γ := Pm.lat n) (X := tk (i : Int) X ++ A) (Y := []) j (allS _) (allS _)
  rw [List.append_nil, List.append_nil] at ho
  rw [ho, e']
  rw [← Ds_add]
  simp only [Lat.ones, ← List.replicate_append_replicate, List.append_assoc]
 have hn := Lat.norm_of (half_ne h2) h hP'
 simp only [mk, hn]
 congr 1
 omega
theorem nf_1 {n : Nat} {A : List (Pm n)} (hP : (Pm.lat n).Proper A) : (Pm.lat n).nf (1 :: A) = A ++ [1] := by
 rw [Lat.nf_cons, Lat.nf_fix hP.W, Lat.L_one hP.S]
noncomputable def hd {n : Nat} (v : Nm n) : Pm n := if 0 < v.1 then Pm.half n else v.2.headD 1
end Go.Ev.Yteclcmiopobnaaa
namespace Go.Ev.Yteclcmiopobnaaa
open Go.Ev Go.Gar
abbrev eN (n : Nat) : Nm n := (0, [])
theorem tk_nil {n : Nat} (k : Int) : tk k ([] : List (Pm n)) = [] := by unfold tk; split <;> rfl
theorem prod_assoc {n : Nat} (h2 : 2 ≤ n) (u v w : Nm n) : prod (prod u v) w = prod u (prod v w) := by
 obtain ⟨p, X⟩ := u
 obtain ⟨q, Y⟩ := v
 obtain ⟨r, Z⟩ := w
 have h1 := mk_tk h2 (p + q + r) r (tk q X ++ Y) Z
 have e2 := mk_pre h2 (p + q + r) (tk (q + r) X) (tk r Y ++ Z)
 rw [← tk_add] at e2
 rw [tk_app, ← tk_add, List.append_assoc] at h1
 have l : prod (prod (p, X) (q, Y)) (r, Z) = mk (p + q + r + (((Pm.lat n).norm (tk q X ++ Y)).1 : Nat)) (tk r ((Pm.lat n).norm (tk q X ++ Y)).2 ++ Z) := by
  unfold prod
  simp only [mk]
  rw [show p + q + (((Pm.lat n).norm (tk q X ++ Y)).1 : Int) + r = p + q + r + (((Pm.lat n).norm (tk q X ++ Y)).1 : Int) by omega]
 have r' : prod (p, X) (prod (q, Y) (r, Z)) = mk (p + q + r + (((Pm.lat n).norm (tk r Y ++ Z)).1 : Nat)) (tk ((((Pm.lat n).norm (tk r Y ++ Z)).1 : Nat) + (q + r)) X ++ ((Pm.lat n).norm (tk r Y ++ Z)).2) := by
  unfold prod
  simp only [mk]
  rw [show p + (q + r + (((Pm.lat n).norm (tk r Y ++ Z)).1 : Int)) = p + q + r + (((Pm.lat n).norm (tk r Y ++ Z)).1 : Int) by omega, show q + r + (((Pm.lat n).norm (tk r Y ++ Z)).1 : Int) = (((Pm.lat n).norm (tk r Y ++ Z)).1 : Int) + (q + r) by omega]
 rw [l, r', h1, e2, Int.add_comm r q]
theorem e_prod {n : Nat} (h2 : 2 ≤ n) {v : Nm n} (hP : (Pm.lat n).Proper v.2) : prod (eN n) v = v := by
 unfold prod
 rw [tk_nil, List.nil_append, Int.zero_add, mk_proper h2 _ hP]
theorem prod_e {n : Nat} (h2 : 2 ≤ n) {v : Nm n} (hP : (Pm.lat n).Proper v.2) : prod v (eN n) = v := by
 unfold prod
 rw [tk_zero, List.append_nil, Int.add_zero, mk_proper h2 _ hP]
theorem prod_P {n : Nat} (h2 : 2 ≤ n) (v w : Nm n) : (Pm.lat n).Proper (prod v w).2 := (mk_spec h2 _ _).1
noncomputable def isN {n : Nat} (s : Pm n) : Nm n := mk (-1) [Pm.half n * s⁻¹]
theorem isN_P {n : Nat} (h2 : 2 ≤ n) (s : Pm n) : (Pm.lat n).Proper (isN s).2 := (mk_spec h2 (-1) [Pm.half n * s⁻¹]).1
noncomputable def sN {n : Nat} (s : Pm n) : Nm n := mk 0 [s]
theorem prod_mk {n : Nat} (h2 : 2 ≤ n) (v : Nm n) (q : Int) (Y : List (Pm n)) : prod v (mk q Y) = mk (v.1 + q) (tk q v.2 ++ Y) := by
 have h := mk_pre h2 (v.1 + q) (tk q v.2) Y
 rw [← tk_add] at h
 rw [← h]
 unfold prod
 simp only [mk]
 rw [show v.1 + (q + (((Pm.lat n).norm Y).1 : Int)) = v.1 + q + (((Pm.lat n).norm Y).1 : Int) by omega, Int.add_comm q]
theorem mk_mk {n : Nat} (h2 : 2 ≤ n) (p q : Int) (X Y : List (Pm n)) : prod (mk p X) (mk q Y) = mk (p + q) (tk q X ++ Y) := by
 rw [prod_mk h2]
 have h := mk_tk h2 (p + q) q X Y
 rw [← h]
 simp only [mk]
 rw [show p + (((Pm.lat n).norm X).1 : Int) + q = p + q + (((Pm.lat n).norm X).1 : Int) by omega]
theorem mk_xK {n : Nat} (h2 : 2 ≤ n) (x : Pm n) : mk (-1) [x, (Pm.lat n).K x] = eN n := by
 have hm := Lat.nf_move (Γ := Pm.lat n) (p := []) (q := []) (x := x) (y := (Pm.lat n).K x) (c := (Pm.lat n).K x) trivial trivial trivial ((Pm.lat n).refl trivial) ((Pm.lat n).refl trivial) (allS _)
 rw [x_K, Grp.inv_mul] at hm
 have hd : (Pm.lat n).nf [Pm.half n, 1] = (Pm.lat n).Ds 1 ++ [] ++ Lat.ones 1 := by
  have := Lat.nf_Ds (Γ := Pm.lat n) 1 (Y := [1]) (allS _)
  rw [nf_1 Lat.Proper.nil] at this
  exact this
 have hn := Lat.norm_of (half_ne h2) (hm.trans hd) Lat.Proper.nil
 have hn' : (Pm.lat n).norm [x, (Pm.lat n).K x] = (1, []) := hn
 simp only [mk, hn']
 rfl
theorem K_left {n : Nat} (s : Pm n) : (Pm.lat n).K (Pm.half n * s⁻¹) = s := by
 rw [K_eq, mul_inv_rev, inv_inv, Pm.half_inv, Grp.assoc, Pm.half_half, Grp.mul_one]
theorem is_s {n : Nat} (h2 : 2 ≤ n) (s : Pm n) : prod (isN s) (sN s) = eN n := by
 have h := mk_xK h2 (Pm.half n * s⁻¹)
 rw [K_left] at h
 rw [← h]
 exact mk_mk h2 (-1) 0 _ _
theorem s_is {n : Nat} (h2 : 2 ≤ n) (s : Pm n) : prod (sN s) (isN s) = eN n := by
 have h := mk_xK h2 (trn s)
 have e : (Pm.lat n).K (trn s) = Pm.half n * s⁻¹ := by
  rw [K_eq]
  unfold trn
  simp only [mul_inv_rev, Pm.half_inv, Grp.assoc, Pm.half_half, Grp.mul_one]
 rw [e] at h
 rw [← h]
 exact mk_mk h2 0 (-1) _ _
theorem stepI_eq {n : Nat} (h2 : 2 ≤ n) (w : Nm n) (s : Pm n) : stepI w s = prod w (isN s) := (prod_mk h2 w (-1) _).symm
theorem foldI_P {n : Nat} (h2 : 2 ≤ n) : ∀ (l : List (Pm n)) (w : Nm n), (Pm.lat n).Proper w.2 → (Pm.lat n).Proper (l.foldl stepI w).2
 | [], w, h => h
 | s :: l, w, h => foldI_P h2 l _ (by rw [stepI_eq h2]; exact prod_P h2 _ _)
noncomputable def FA {n : Nat} (A : List (Pm n)) : Nm n := A.reverse.foldl stepI (eN n)
theorem FA_P {n : Nat} (h2 : 2 ≤ n) (A : List (Pm n)) : (Pm.lat n).Proper (FA A).2 := foldI_P h2 _ _ Lat.Proper.nil
theorem FA_cons {n : Nat} (h2 : 2 ≤ n) (s : Pm n) (A : List (Pm n)) : FA (s :: A) = prod (FA A) (isN s) := by
 unfold FA
 rw [List.reverse_cons, List.foldl_append, List.foldl_cons, List.foldl_nil, stepI_eq h2]
theorem PA_cons {n : Nat} (h2 : 2 ≤ n) (s : Pm n) (A : List (Pm n)) : mk 0 (s :: A) = prod (sN s) (mk 0 A) := (mk_mk h2 0 0 [s] A).symm
theorem FA_PA {n : Nat} (h2 : 2 ≤ n) : ∀ A : List (Pm n), prod (FA A) (mk 0 A) = eN n ∧ prod (mk 0 A) (FA A) = eN n
 | [] => by
  have h : mk 0 ([] : List (Pm n)) = eN n := mk_nil 0
  have h' : FA ([] : List (Pm n)) = eN n := rfl
  rw [h, h']
  exact ⟨e_prod h2 Lat.Proper.nil, e_prod h2 Lat.Proper.nil⟩
 | s :: A => by
  obtain ⟨i1, i2⟩ := FA_PA h2 A
  rw [FA_cons h2, PA_cons h2]
  constructor
  · rw [prod_assoc h2, ← prod_assoc h2 (isN s), is_s h2, e_prod h2 (mk_spec h2 _ _).1, i1]
  · rw [prod_assoc h2, ← prod_assoc h2 (mk 0 A), i2, e_prod h2 (isN_P h2 s), s_is h2]
theorem invN_eq {n : Nat} (h2 : 2 ≤ n) (v : Nm n) : invN v = prod (FA v.2) (-v.1, []) := by
 unfold prod
 rw [tk_neg_eq, List.append_nil, mk_proper h2 _ (tk_proper _ (FA_P h2 _))]
 rfl
theorem v_eq {n : Nat} (h2 : 2 ≤ n) {v : Nm n} (hP : (Pm.lat n).Proper v.2) : v = prod (v.1, []) (mk 0 v.2) := by
 rw [mk_proper h2 0 hP]
 unfold prod
 rw [tk_nil, List.nil_append, mk_proper h2 _ hP, Int.add_zero]
theorem D_D {n : Nat} (h2 : 2 ≤ n) (p q : Int) (h : p + q = 0) : prod ((p, []) : Nm n) (q, []) = eN n := by
 unfold prod
 rw [tk_nil, List.append_nil, h]
 exact mk_nil 0
theorem inv_l {n : Nat} (h2 : 2 ≤ n) {v : Nm n} (hP : (Pm.lat n).Proper v.2) : prod (invN v) v = eN n := by
 rw [invN_eq h2]
 have hv := v_eq h2 hP
 have : prod (prod (FA v.2) (-v.1, [])) v = prod (prod (FA v.2) (-v.1, [])) (prod (v.1, []) (mk 0 v.2)) := by rw [← hv]
 rw [this, prod_assoc h2, ← prod_assoc h2 (-v.1, []), D_D h2 _ _ (by omega), e_prod h2 (mk_spec h2 _ _).1, (FA_PA h2 _).1]
theorem inv_r {n : Nat} (h2 : 2 ≤ n) {v : Nm n} (hP : (Pm.lat n).Proper v.2) : prod v (invN v) = eN n := by
 rw [invN_eq h2]
 have hv := v_eq h2 hP
 have : prod v (prod (FA v.2) (-v.1, [])) = prod (prod (v.1, []) (mk 0 v.2)) (prod (FA v.2) (-v.1, [])) := by rw [← hv]
 rw [this, prod_assoc h2, ← prod_assoc h2 (mk 0 v.2), (FA_PA h2 _).2, e_prod h2 Lat.Proper.nil, D_D h2 _ _ (by omega)]
end Go.Ev.Yteclcmiopobnaaa
namespace Go.Ev.Yteclcmiopobnaaa
open Go.Ev Go.Gar
theorem begL_first {n : Nat} {s : Pm n} {x : Int} {m : List Int} (h : begL s n = x :: m) : ∃ p, ∃ hp : p + 1 < n, s.f (p + 1) < s.f p ∧ x = ((p + 1 : Nat) : Int) := by
 obtain ⟨p, _, h1, h2, h3⟩ := (begL_mem s n (Nat.le_refl _) x).1 (by rw [h]; exact List.mem_cons_self)
 exact ⟨p, h1, h2, h3⟩
theorem begL_nil {n : Nat} {s : Pm n} (h : begL s n = []) : s = 1 := by
 have no : ∀ p, p + 1 < n → ¬ s.f (p + 1) < s.f p := fun p hp h2 => by
  have := (begL_mem s n (Nat.le_refl _) ((p + 1 : Nat) : Int)).2 ⟨p, by omega, hp, h2, rfl⟩
  rw [h] at this
  simp at this
 have G : Pm.Greedy s s 1 := ⟨Pm.one_le s, Pm.one_le s, fun p hp _ h => no p hp h.1⟩
 exact Pm.le_anti (G.max ((Pm.lat n).refl trivial) ((Pm.lat n).refl trivial)) (Pm.one_le s)
theorem swap_swap {n p : Nat} (h : p + 1 < n) : Pm.swap n p h * Pm.swap n p h = 1 := Pm.ext fun x => Pm.sf_sf p x
theorem swap_inv {n p : Nat} (h : p + 1 < n) : (Pm.swap n p h)⁻¹ = Pm.swap n p h := Pm.ext fun x => rfl
theorem swap_cnt {n p : Nat} (h : p + 1 < n) {s : Pm n} (hs : s.f (p + 1) < s.f p) : Pm.cnt (Pm.swap n p h * s)⁻¹ < Pm.cnt s⁻¹ := by
 have e : s⁻¹ = Pm.put1 (Pm.swap n p h * s)⁻¹ p h := by
  show s⁻¹ = (Pm.swap n p h * s)⁻¹ * Pm.swap n p h
  rw [mul_inv_rev, swap_inv, Grp.assoc, swap_swap, Grp.mul_one]
 have c : (Pm.swap n p h * s)⁻¹.g p < (Pm.swap n p h * s)⁻¹.g (p + 1) := by
  show s.f (Pm.sf p p) < s.f (Pm.sf p (p + 1))
  simp [Pm.sf]
  exact hs
 have := Pm.cnt_put1 (h := h) c
 rw [← e] at this
 exact this
theorem swap_le {n p : Nat} (h : p + 1 < n) {s : Pm n} (hs : s.f (p + 1) < s.f p) : Pm.le (Pm.swap n p h) s := by
 intro i j hij hlt
 have hlt' : Pm.sf p j < Pm.sf p i := hlt
 unfold Pm.sf at hlt'
 have : i = p ∧ j = p + 1 := by
  by_cases a : j = p
  · rw [if_pos a] at hlt'
    by_cases b : i = p
    · omega
    · rw [if_neg b] at hlt'
      by_cases c : i = p + 1
      · omega
      · rw [if_neg c] at hlt'; omega
  · rw [if_neg a] at hlt'
    by_cases a' : j = p + 1
    · rw [if_pos a'] at hlt'
      by_cases b : i = p
      · exact ⟨b, a'⟩
      · rw [if_neg b] at hlt'
        by_cases c : i = p + 1
        · omega
        · rw [if_neg c] at hlt'; omega
    · rw [if_neg a'] at hlt'
      by_cases b : i = p
      · rw [if_pos b] at hlt'; omega
      · rw [if_neg b] at hlt'
        by_cases c : i = p + 1
        · rw [if_pos c] at hlt'; omega
        · rw [if_neg c] at hlt'; omega
 obtain ⟨rfl, rfl⟩ := this
 exact hs
noncomputable def gx (n : Nat) (x : Int) : Nm n := if 0 < x then sN (swapN n (x.natAbs - 1)) else isN (swapN n (x.natAbs - 1))
theorem stepN_gx {n : Nat} (h2 : 2 ≤ n) (v : Nm n) (x : Int) : stepN v x = prod v (gx n x) := by
 unfold stepN gx
 by_cases h : 0 < x
 · rw [if_pos h, if_pos h]
   have := prod_mk h2 v 0 [swapN n (x.natAbs - 1)]
   rw [sN, this, Int.add_zero]
   rfl
 · rw [if_neg h, if_neg h]
   exact stepI_eq h2 v _
theorem mk_last_one {n : Nat} (h2 : 2 ≤ n) (p : Int) (X : List (Pm n)) : mk p (X ++ [1]) = mk p X := by
 rw [mk_app h2, mk_one h2 _ (mk_spec h2 p X).1]
theorem mk_nf {n : Nat} {X Y : List (Pm n)} (p : Int) (h : (Pm.lat n).nf X = (Pm.lat n).nf Y) : mk p X = mk p Y := by
 unfold mk
 rw [← Lat.norm_nf (Γ := Pm.lat n) (allS X), h, Lat.norm_nf (allS Y)]
theorem mk_join {n : Nat} (h2 : 2 ≤ n) (p : Int) {u s : Pm n} (h : Pm.le u s) : mk p [u, u⁻¹ * s] = mk p [s] := by
 have hm := Lat.nf_move (Γ := Pm.lat n) (p := []) (q := []) (x := u) (y := u⁻¹ * s) (c := u⁻¹ * s) trivial trivial trivial (Pm.p0 h) ((Pm.lat n).refl trivial) (allS _)
 rw [mul_inv_l, Grp.inv_mul] at hm
 simp only [List.nil_append] at hm
 rw [mk_nf p hm]
 exact mk_last_one h2 p [s]
theorem gx_pos {n p : Nat} (h : p + 1 < n) : gx n ((p + 1 : Nat) : Int) = sN (Pm.swap n p h) := by
 unfold gx
 rw [if_pos (by omega), show (((p + 1 : Nat) : Int)).natAbs - 1 = p by omega, swapN_eq h]
theorem gx_inv {n : Nat} (h2 : 2 ≤ n) {x : Int} (hx : x ≠ 0) : prod (gx n x) (gx n (-x)) = eN n := by
 unfold gx
 rw [show (-x).natAbs = x.natAbs by omega]
 by_cases h : 0 < x
 · rw [if_pos h, if_neg (by omega)]
   exact s_is h2 _
 · rw [if_neg h, if_pos (by omega)]
   exact is_s h2 _
def times (l : List Int) : Nat → List Int
 | 0 => []
 | k + 1 => l ++ times l k
end Go.Ev.Yteclcmiopobnaaa
