/- Cycling and decycling conjugate; where the walk stands still, the class has no better one. -/
import Derived.Test.YtgfleapbganjiaaGreatMv2
import Derived.Test.YtgfleapbganjiaaGreatMv3
import Derived.Test.YtgfleapbganjiaaGreatWd
set_option linter.unusedVariables false
set_option linter.unusedSimpArgs false
namespace Go.Ev.YtgfleapbganjiaaGreat
open Go.Ev Go.Gar
variable {m : Nat}
theorem turnC (m : Nat) : ∀ (p : Int) (a : NG m), 0 ≤ (cjG m).inf a → (cjG m).hd ((cjG m).D p * (a * (cjG m).D (-p))) = (cjG m).D p * ((cjG m).hd a * (cjG m).D (-p)) := fun p a _ => turnG p a
theorem cenC (m : Nat) : ∀ (k : Int) (a : NG m), (cjG m).D (2 * k) * a = a * (cjG m).D (2 * k) := cenG
theorem d_mG (p : Int) (Y : List (Pm (m + 2))) : (dG p * mG Y : NG m).1 = mk p Y := by
 rw [d_mul_l]
 show (p + (mk 0 Y).1, (mk 0 Y).2) = mk p Y
 simp only [mk, Int.zero_add]
theorem z_eq (p : Int) {A : List (Pm (m + 2))} (hP : (Pm.lat (m + 2)).Proper A) : (⟨(p, A), hP⟩ : NG m) = dG p * mG A := by
 apply Subtype.ext
 rw [d_mG, mk_proper (le2 m) p hP]
theorem t1_neg {n : Nat} (p : Int) (s : Pm n) : t1 (-p) s = t1 p s := by
 have h1 := par p
 have h2 := par (-p)
 unfold t1
 by_cases h : p % 2 = 0
 · rw [if_pos (h1.2 h), if_pos (h2.2 (by omega))]
 · rw [if_neg (fun e => h (h1.1 e)), if_neg (fun e => h (by have := h2.1 e; omega))]
theorem t1_t1 {n : Nat} (p : Int) (s : Pm n) : t1 p (t1 p s) = s := by
 unfold t1
 split
 · rfl
 · exact trn_trn s
theorem s_cj (s : Pm (m + 2)) (p : Int) : (dG p * (sG s * dG (-p)) : NG m) = sG (t1 p s) := by rw [s_conj, t1_neg]
theorem dd (p : Int) : (dG p * dG (-p) : NG m) = 1 := by
 rw [← d_mul, show p + -p = 0 by omega]
 rfl
theorem dd' (p : Int) : (dG (-p) * dG p : NG m) = 1 := by
 rw [← d_mul, show -p + p = 0 by omega]
 rfl
theorem d_s (s : Pm (m + 2)) (p : Int) : (dG p * sG s : NG m) = sG (t1 p s) * dG p := by
 rw [← s_cj, Grp.assoc, Grp.assoc, dd', Grp.mul_one]
theorem cyc_cy (z : NG m) : ((cjG m).cy z.1.1 z).1 = cyc z.1 := by
 obtain ⟨⟨p, A⟩, hP⟩ := z
 have hd0 : hd (dG (-p) * (⟨(p, A), hP⟩ : NG m)).1 = A.headD 1 := by
  rw [d_mul_l]
  show hd (-p + p, A) = _
  unfold hd
  simp only
  rw [if_neg (by omega)]
 have hg : (cjG m).gc p (⟨(p, A), hP⟩ : NG m) = sG (t1 p (A.headD 1)) := by
  show (dG p * (sG (hd (dG (-p) * (⟨(p, A), hP⟩ : NG m)).1) * dG (-p)) : NG m) = _
  rw [hd0, s_cj]
 show (Cj.cj (⟨(p, A), hP⟩ : NG m) ((cjG m).gc p (⟨(p, A), hP⟩ : NG m))).1 = cyc (p, A)
 rw [hg]
 cases A with
 | nil =>
  show (Cj.cj _ (sG (t1 p 1))).1 = _
  rw [t1_1, sG_one, Cj.cj_one]
  rfl
 | cons a A =>
  have e : (⟨(p, a :: A), hP⟩ : NG m) = sG (t1 p a) * (dG p * mG A) := by
   rw [z_eq p hP, show a :: A = [a] ++ A from rfl, mG_app, mG_one, ← Grp.assoc, d_s, Grp.assoc]
  show (Cj.cj _ (sG (t1 p a))).1 = _
  rw [e]
  unfold Cj.cj
  rw [Grp.assoc, inv_mul_l, Grp.assoc, ← mG_one, ← mG_app, d_mG]
  rfl
theorem inf_mG_inv : ∀ A : List (Pm (m + 2)), -(A.length : Int) ≤ ((mG A)⁻¹ : NG m).1.1
 | [] => by
  have : (mG [] : NG m) = 1 := Subtype.ext (mk_nil 0)
  rw [this, inv_one]
  exact Int.le_refl _
 | a :: A => by
  rw [show a :: A = [a] ++ A from rfl, mG_app, mG_one, mul_inv_rev]
  have h1 := inf_mulG ((mG A)⁻¹ : NG m) (sG a)⁻¹
  have h2 := inf_mG_inv A
  have h3 : -1 ≤ ((sG a)⁻¹ : NG m).1.1 := by
   rw [sG_inv]
   exact (mk_spec (le2 m) (-1) _).2.1
  simp only [List.length_append, List.length_cons, List.length_nil]
  omega
theorem inf_inv (z : NG m) : (z⁻¹).1.1 = -(z.1.1 + (z.1.2.length : Int)) := by
 have up : -(z.1.1 + (z.1.2.length : Int)) ≤ (z⁻¹).1.1 := by
  obtain ⟨⟨p, A⟩, hP⟩ := z
  have hi : ((dG p : NG m)⁻¹).1 = (-p, []) := by rw [inv_of (dd' p)]; rfl
  rw [z_eq p hP, mul_inv_rev]
  have h1 := inf_mulG ((mG A)⁻¹ : NG m) (dG p)⁻¹
  have h2 := inf_mG_inv A
  rw [hi] at h1
  rw [d_mG, mk_proper (le2 m) p hP]
  simp only at h1 ⊢
  omega
 have dn : (z⁻¹).1.1 ≤ -(z.1.1 + (z.1.2.length : Int)) := by
  have hpos : 0 ≤ (dG (-(z⁻¹).1.1) * z⁻¹ : NG m).1.1 := by rw [d_mul_l]; simp only; omega
  obtain ⟨Y, hY⟩ := pos_mk _ hpos
  have e : z * dG (z⁻¹).1.1 * mG Y = 1 := by
   rw [← hY, Grp.assoc, ← Grp.assoc (dG _) (dG _), dd, Grp.one_mul, Grp.mul_inv]
  generalize (z⁻¹).1.1 = k at e
  have e1 : (z * dG k * mG Y).1 = mk (z.1.1 + k) (tk k z.1.2 ++ Y) := by
   show prod (z * dG k).1 (mk 0 Y) = _
   rw [prod_mk (le2 m), mul_d]
   simp only [tk_zero, Int.add_zero]
  rw [e] at e1
  have hp : z.1.1 + k + (((Pm.lat (m + 2)).norm (tk k z.1.2 ++ Y)).1 : Int) = 0 := (congrArg Prod.fst e1).symm
  have hl : ((Pm.lat (m + 2)).norm (tk k z.1.2 ++ Y)).2 = [] := (congrArg Prod.snd e1).symm
  have hT := tk_proper k z.2
  have := sup_ge (le2 m) Y (tk k z.1.2) hT.W (fun x hx => (hT.no x hx).2)
  rw [hl, tk_len] at this
  simp only [List.length_nil] at this
  omega
 omega
theorem Wd_last {n : Nat} : ∀ {B : List (Pm n)} {a : Pm n}, (Pm.lat n).Wd (B ++ [a]) → ∀ x, B.getLast? = some x → (Pm.lat n).meet ((Pm.lat n).K x) a = 1
 | [], a, _, x, h => by simp at h
 | [b], a, hW, x, h => by
  simp only [List.getLast?_singleton, Option.some.injEq] at h
  subst h
  exact hW.1 a rfl
 | b :: c :: B, a, hW, x, h => Wd_last (B := c :: B) hW.2 x (by simpa using h)
theorem s_mul {t s : Pm (m + 2)} (h : (Pm.lat (m + 2)).le s ((Pm.lat (m + 2)).K t)) : (sG (t * s) : NG m) = sG t * sG s := by
 rw [← mG_one t, ← mG_one s, ← mG_app, ← mG_one]
 have e1 : (Pm.lat (m + 2)).nf ([t] ++ [s]) = (Pm.lat (m + 2)).nf [t * s] ++ [1] := Lat.L_mul (Γ := Pm.lat (m + 2)) trivial trivial h (allS [])
 have e2 : (Pm.lat (m + 2)).nf ([t * s] ++ [1]) = (Pm.lat (m + 2)).nf [t * s] ++ [1] := by
  have := Lat.nf_ones (Γ := Pm.lat (m + 2)) (X := [t * s]) (Y := []) 1 (allS _) (allS _)
  simpa using this
 have e3 : (Pm.lat (m + 2)).norm ([t] ++ [s]) = (Pm.lat (m + 2)).norm [t * s] := by
  have h1 := norm_one (le2 m) [t * s] []
  rw [List.append_nil, List.append_nil] at h1
  rw [← h1]
  unfold Lat.norm
  rw [e1, e2]
 apply Subtype.ext
 show mk 0 [t * s] = mk 0 ([t] ++ [s])
 simp only [mk, e3]
theorem half_s (a : Pm (m + 2)) : (sG (Pm.half (m + 2) * a⁻¹) * sG a : NG m) = dG 1 := by
 have h := s_mul (m := m) (t := Pm.half (m + 2) * a⁻¹) (s := a) (by rw [K_left]; exact (Pm.lat (m + 2)).refl trivial)
 rw [← h, Grp.assoc, Grp.inv_mul, Grp.mul_one, sG_half]
theorem t1_le {n : Nat} {k : Int} {s t : Pm n} (h : (Pm.lat n).le s t) : (Pm.lat n).le (t1 k s) (t1 k t) := by
 unfold t1
 split
 · exact h
 · have e : (Pm.lat n).meet s t = s := (Pm.lat n).anti trivial trivial ((Pm.lat n).meet_l trivial trivial) ((Pm.lat n).le_meet trivial trivial trivial ((Pm.lat n).refl trivial) h)
   have := (trn_auto n).meet s t trivial trivial
   rw [e] at this
   rw [this]
   exact (Pm.lat n).meet_r trivial trivial
theorem t1_K {n : Nat} (k : Int) (s : Pm n) : (Pm.lat n).K (t1 k s) = t1 k ((Pm.lat n).K s) := by
 unfold t1
 split
 · rfl
 · rw [K_eq, K_eq]
   unfold trn
   simp only [mul_inv_rev, Pm.half_inv, Grp.assoc, Pm.half_half, Grp.mul_one]
theorem hd_inv (p : Int) {B : List (Pm (m + 2))} {a : Pm (m + 2)} (hP : (Pm.lat (m + 2)).Proper (B ++ [a])) (q : Int) (hq : q = -(p + ((B ++ [a]).length : Int))) :
  hd (dG (-q) * (⟨(p, B ++ [a]), hP⟩ : NG m)⁻¹).1 = t1 (q + 1) (Pm.half (m + 2) * a⁻¹) := by
 have hB : (Pm.lat (m + 2)).Proper B := ⟨allS _, Wd_left hP.W, fun x hx => hP.no x (List.mem_append_left _ hx)⟩
 have ha := hP.no a (by simp)
 have hw : ((dG p * mG B : NG m)⁻¹).1.1 = q + 1 := by
  rw [inf_inv, d_mG, mk_proper (le2 m) p hB, hq]
  simp only [List.length_append, List.length_cons, List.length_nil]
  omega
 have ea : ((sG a)⁻¹ : NG m) = dG (-1) * sG (Pm.half (m + 2) * a⁻¹) := by
  rw [inv_of (a := dG (-1) * sG (Pm.half (m + 2) * a⁻¹)) (b := sG a)]
  rw [Grp.assoc, half_s]
  exact dd' 1
 generalize hb : Pm.half (m + 2) * a⁻¹ = b at ea ⊢
 have hKb : (Pm.lat (m + 2)).K b = a := by rw [← hb]; exact K_left a
 have hz : (⟨(p, B ++ [a]), hP⟩ : NG m) = dG p * mG B * sG a := by rw [z_eq p hP, mG_app, mG_one, Grp.assoc]
 generalize hwe : (dG p * mG B : NG m) = w at hw hz
 have hu : dG (-q) * (⟨(p, B ++ [a]), hP⟩ : NG m)⁻¹ = sG (t1 (q + 1) b) * (dG (-(q + 1)) * w⁻¹) := by
  rw [hz, mul_inv_rev, ea, ← Grp.assoc, ← Grp.assoc, ← d_mul, show -q + -1 = -(q + 1) by omega, d_s, t1_neg, Grp.assoc]
 rw [hu]
 have hu0 : (dG (-(q + 1)) * w⁻¹).1.1 = 0 := by
  rw [d_mul_l, hw]
  simp only
  omega
 generalize hu' : dG (-(q + 1)) * w⁻¹ = u' at hu0 ⊢
 have hpos : 0 ≤ (sG (t1 (q + 1) b) * u').1.1 := by
  have := inf_mulG (sG (t1 (q + 1) b)) u'
  have := hd_posG (m := m) (t1 (q + 1) b)
  omega
 have hle : (Pm.lat (m + 2)).le (t1 (q + 1) b) (hd (sG (t1 (q + 1) b) * u').1) := (le_s _ hpos _).1 (by rw [inv_mul_l]; omega)
 generalize ht : t1 (q + 1) b = t at hle hpos ⊢
 have h2 := hd_le _ hpos
 generalize hd (sG t * u').1 = h at hle h2 ⊢
 obtain ⟨_, hsK⟩ := Lat.P0 (Γ := Pm.lat (m + 2)) trivial trivial hle
 have eh : h = t * (t⁻¹ * h) := (mul_inv_l _ _).symm
 generalize t⁻¹ * h = s at hsK eh
 have hs1 : s = 1 := by
  apply Classical.byContradiction
  intro hne
  have hsa : (Pm.lat (m + 2)).le (t1 (q + 1) s) a := by
   have := t1_le (k := q + 1) hsK
   rw [← ht, t1_K, t1_t1, hKb] at this
   exact this
  have hσ1 : t1 (q + 1) s ≠ 1 := fun e => hne (by rw [← t1_t1 (q + 1) s, e, t1_1])
  have hσD : t1 (q + 1) s ≠ (Pm.lat (m + 2)).D := fun e => by
   rw [e] at hsa
   exact ha.1 ((Pm.lat (m + 2)).anti trivial trivial ((Pm.lat (m + 2)).le_D trivial) hsa)
  have hPσ : (Pm.lat (m + 2)).Proper (B ++ [t1 (q + 1) s]) := by
   refine ⟨allS _, Wd_snoc B _ hB.W (fun x hx => ?_), fun x hx => ?_⟩
   · have := Wd_last hP.W x hx
     exact Lat.meet_le (Γ := Pm.lat (m + 2)) trivial trivial trivial ((Pm.lat (m + 2)).meet_l trivial trivial) ((Pm.lat (m + 2)).trans trivial trivial trivial ((Pm.lat (m + 2)).meet_r trivial trivial) hsa) this
   · rcases List.mem_append.1 hx with hx | hx
     · exact hB.no x hx
     · rw [List.mem_singleton.1 hx]; exact ⟨hσD, hσ1⟩
  have hl : ((⟨(p, B ++ [t1 (q + 1) s]), hPσ⟩ : NG m)⁻¹).1.1 = -(p + ((B ++ [t1 (q + 1) s]).length : Int)) := inf_inv _
  have e1 : (⟨(p, B ++ [t1 (q + 1) s]), hPσ⟩ : NG m) = w * sG (t1 (q + 1) s) := by rw [z_eq p hPσ, mG_app, mG_one, ← hwe, Grp.assoc]
  have e2 : u' = sG s * ((sG h)⁻¹ * (sG t * u')) := by
   rw [eh, s_mul hsK, mul_inv_rev, Grp.assoc, inv_mul_l, mul_inv_l]
  have e3 : (w * sG (t1 (q + 1) s))⁻¹ = dG (q + 1) * ((sG h)⁻¹ * (sG t * u')) := by
   have e4 : w⁻¹ = dG (q + 1) * u' := by rw [← hu', ← Grp.assoc, dd, Grp.one_mul]
   rw [mul_inv_rev, e4]
   conv => lhs; rw [e2]
   rw [← Grp.assoc (dG (q + 1)), d_s, Grp.assoc, inv_mul_l]
  rw [e1, e3, d_mul_l] at hl
  simp only [List.length_append, List.length_cons, List.length_nil] at hl hq
  omega
 rw [eh, hs1, Grp.mul_one]
theorem snoc_of {α : Type} {l : List α} (h : l.length ≠ 0) : ∃ B a, l = B ++ [a] :=
 ⟨l.dropLast, l.getLast (fun e => h (by rw [e]; rfl)), (List.dropLast_concat_getLast _).symm⟩
theorem cyc_cj (z : NG m) : ∃ g, cyc z.1 = (Cj.cj z g).1 := ⟨_, (cyc_cy z).symm⟩
theorem decyc_F (z : NG m) : (((cjG m).F (z⁻¹).1.1 z⁻¹)⁻¹).1 = decyc z.1 := by
 have hq := inf_inv z
 generalize (z⁻¹).1.1 = q at hq
 obtain ⟨⟨p, A⟩, hP⟩ := z
 by_cases h : A.length = 0
 · have hA := List.length_eq_zero_iff.1 h
   subst hA
   have hz : (⟨(p, []), hP⟩ : NG m) = dG p := rfl
   have hgg : (cjG m).gg q (⟨(p, []), hP⟩ : NG m)⁻¹ = dG (-1) := by
    show dG q * (sG (hd (dG (-q) * (⟨(p, []), hP⟩ : NG m)⁻¹).1) * dG (-(q + 1))) = _
    have hq' : -q = p := by
     simp only [List.length_nil] at hq
     omega
    rw [hz, inv_of (dd' p), hq', dd]
    show dG q * (sG 1 * dG (-(q + 1))) = _
    rw [sG_one, Grp.one_mul, ← d_mul, show q + -(q + 1) = -1 by omega]
   have : (((cjG m).F q (⟨(p, []), hP⟩ : NG m)⁻¹)⁻¹) = (⟨(p, []), hP⟩ : NG m) := by
    show (Cj.cj _ ((cjG m).gg q _))⁻¹ = _
    rw [hgg, Cj.cj_inv, inv_inv, hz]
    show (dG (-1))⁻¹ * (dG p * dG (-1)) = dG p
    rw [← d_mul, Int.add_comm p, d_mul, inv_mul_l]
   rw [this]
   rfl
 · obtain ⟨B, a, rfl⟩ := snoc_of h
   have hh := hd_inv p hP q hq
   have ea : ((sG a)⁻¹ : NG m) = dG (-1) * sG (Pm.half (m + 2) * a⁻¹) := by
    rw [inv_of (a := dG (-1) * sG (Pm.half (m + 2) * a⁻¹)) (b := sG a)]
    rw [Grp.assoc, half_s]
    exact dd' 1
   have hgg : (cjG m).gg q (⟨(p, B ++ [a]), hP⟩ : NG m)⁻¹ = (sG a)⁻¹ := by
    show dG q * (sG (hd (dG (-q) * (⟨(p, B ++ [a]), hP⟩ : NG m)⁻¹).1) * dG (-(q + 1))) = _
    rw [hh, ← t1_neg (q + 1), ← s_cj, ea, Int.neg_neg, Grp.assoc, Grp.assoc, dd, Grp.mul_one, ← Grp.assoc, ← d_mul, show q + -(q + 1) = -1 by omega]
   have hz : (⟨(p, B ++ [a]), hP⟩ : NG m) = dG p * mG B * sG a := by rw [z_eq p hP, mG_app, mG_one, Grp.assoc]
   have : (((cjG m).F q (⟨(p, B ++ [a]), hP⟩ : NG m)⁻¹)⁻¹) = dG p * mG ([t1 p a] ++ B) := by
    show (Cj.cj _ ((cjG m).gg q _))⁻¹ = _
    rw [hgg, Cj.cj_inv, inv_inv, hz]
    unfold Cj.cj
    rw [inv_inv, Grp.assoc, Grp.mul_inv, Grp.mul_one, mG_app, mG_one, ← Grp.assoc, ← Grp.assoc, d_s, t1_t1]
   rw [this, d_mG]
   unfold decyc
   rw [if_neg h]
   simp only [List.length_append, List.length_cons, List.length_nil, Nat.zero_add, Nat.add_sub_cancel]
   rw [List.take_left']
   · simp only [List.singleton_append]
     congr 2
     rw [List.getD_eq_getElem?_getD, List.getElem?_append_right (Nat.le_refl _)]
     simp
   · rfl
theorem decyc_cj (z : NG m) : ∃ g, decyc z.1 = (Cj.cj z g).1 := by
 refine ⟨(cjG m).gg (z⁻¹).1.1 z⁻¹, ?_⟩
 rw [← decyc_F]
 show ((Cj.cj z⁻¹ _)⁻¹).1 = _
 rw [Cj.cj_inv, inv_inv]
theorem conj1_cj (z : NG m) (s : Pm (m + 2)) : conj1 z.1 s = (Cj.cj z (sG s)).1 := by
 unfold Cj.cj
 rw [← Grp.assoc, g_mul, sG_less]
 show _ = prod (less1 z.1 s) (mk 0 [s])
 rw [prod_mk (le2 m), tk_zero, Int.add_zero]
 rfl
theorem srch_cyc {z : NG m} {p : Int} (hp : p = z.1.1) : ∀ (d k : Nat), srch cyc (gA z.1) d ((cjG m).cyI p z k).1 = none → ((cjG m).cyI p z k).1.1 = p → ((cjG m).cyI p z (k + d)).1.1 = p
 | 0, k, _, h => h
 | d + 1, k, hs, h => by
  have e : cyc ((cjG m).cyI p z k).1 = ((cjG m).cyI p z (k + 1)).1 := by
   rw [← cyc_cy, h]
   rfl
  rw [srch] at hs
  split at hs
  · simp at hs
  · rename_i g
    rw [e] at hs g
    have hlo : p ≤ ((cjG m).cyI p z (k + 1)).1.1 := (cjG m).cyI_inf (x := z) (Int.le_of_eq hp) (k + 1)
    have hhi : ¬ z.1.1 < ((cjG m).cyI p z (k + 1)).1.1 := by simpa [gA] using g
    have := srch_cyc hp d (k + 1) hs (by omega)
    rw [show k + (d + 1) = k + 1 + d by omega]
    exact this
theorem srch_decyc {z : NG m} {q : Int} (hq : q = (z⁻¹).1.1) : ∀ (d k : Nat), srch decyc (gB' z.1) d ((Cj.cj z⁻¹ ((cjG m).Bk q z⁻¹ k))⁻¹).1 = none → (Cj.cj z⁻¹ ((cjG m).Bk q z⁻¹ k)).1.1 = q → (Cj.cj z⁻¹ ((cjG m).Bk q z⁻¹ (k + d))).1.1 = q
 | 0, k, _, h => h
 | d + 1, k, hs, h => by
  have e : decyc ((Cj.cj z⁻¹ ((cjG m).Bk q z⁻¹ k))⁻¹).1 = ((Cj.cj z⁻¹ ((cjG m).Bk q z⁻¹ (k + 1)))⁻¹).1 := by
   rw [← decyc_F, inv_inv, h, (cjG m).Bk_F]
  rw [srch] at hs
  split at hs
  · simp at hs
  · rename_i g
    rw [e] at hs g
    have hlo : q ≤ (Cj.cj z⁻¹ ((cjG m).Bk q z⁻¹ (k + 1))).1.1 := (cjG m).Bk_inf (x := z⁻¹) (Int.le_of_eq hq) (k + 1)
    have i1 := inf_inv z
    have i2 := inf_inv ((Cj.cj z⁻¹ ((cjG m).Bk q z⁻¹ (k + 1)))⁻¹)
    rw [inv_inv] at i2
    have hhi : z.1.1 + (z.1.2.length : Int) ≤ ((Cj.cj z⁻¹ ((cjG m).Bk q z⁻¹ (k + 1)))⁻¹).1.1 + (((Cj.cj z⁻¹ ((cjG m).Bk q z⁻¹ (k + 1)))⁻¹).1.2.length : Int) := by simpa [gB'] using g
    have := srch_decyc hq d (k + 1) hs (by omega)
    rw [show k + (d + 1) = k + 1 + d by omega]
    exact this
theorem cnt_half {m : Nat} (h : m + 2 ≤ 8) : Pm.cnt (Pm.half (m + 2)) = mN (m + 2) := by
 have h : m = 0 ∨ m = 1 ∨ m = 2 ∨ m = 3 ∨ m = 4 ∨ m = 5 ∨ m = 6 := by omega
 rcases h with rfl | rfl | rfl | rfl | rfl | rfl | rfl <;> decide
theorem top_of (hm : m + 2 ≤ 8) {z : NG m} (h : fA z.1 = none) (g : NG m) : (Cj.cj z g).1.1 ≤ z.1.1 := by
 apply Classical.byContradiction
 intro hn
 have h1 := srch_cyc (z := z) rfl (mN (m + 2)) 0 h rfl
 have h2 : z.1.1 + 1 ≤ ((cjG m).cyI z.1.1 z (Pm.cnt (Pm.half (m + 2)))).1.1 := (cjG m).cyc_max (turnC m) (cenC m) (p := z.1.1) (x := z) (g := g) (Int.le_refl _) (show z.1.1 + 1 ≤ (Cj.cj z g).1.1 by omega)
 rw [cnt_half hm] at h2
 rw [Nat.zero_add] at h1
 omega
theorem low_of (hm : m + 2 ≤ 8) {z : NG m} (h : fB z.1 = none) (g : NG m) : z.1.1 + (z.1.2.length : Int) ≤ (Cj.cj z g).1.1 + ((Cj.cj z g).1.2.length : Int) := by
 apply Classical.byContradiction
 intro hn
 have i1 := inf_inv z
 have i2 := inf_inv (Cj.cj z g)
 rw [Cj.cj_inv] at i2
 have e0 : (Cj.cj z⁻¹ ((cjG m).Bk (z⁻¹).1.1 z⁻¹ 0)) = z⁻¹ := Cj.cj_one _
 have h1 := srch_decyc (z := z) rfl (mN (m + 2)) 0 (by rw [e0, inv_inv]; exact h) (by rw [e0])
 have h2 : (z⁻¹).1.1 + 1 ≤ (Cj.cj z⁻¹ ((cjG m).Bk (z⁻¹).1.1 z⁻¹ (Pm.cnt (Pm.half (m + 2))))).1.1 := (cjG m).F_max (turnC m) (cenC m) (p := (z⁻¹).1.1) (x := z⁻¹) (g := g) (Int.le_refl _) (show (z⁻¹).1.1 + 1 ≤ (Cj.cj z⁻¹ g).1.1 by omega)
 rw [cnt_half hm] at h2
 rw [Nat.zero_add] at h1
 omega
theorem sumF_end {n : Nat} (hn1 : 1 ≤ n) (v0 : Nm n) : ∀ (f : Nat) (v : Nm n), v.2.length < f → Rel v v0 → fA (sumF f v) = none ∧ fB (sumF f v) = none := by
 intro f
 induction f with
 | zero => intro v h; omega
 | succ f ih =>
  intro v hf hv
  rw [sumF]
  cases hA : fA v with
  | some u =>
   have := fA_some hn1 hv hA
   exact ih u (by omega) this.1
  | none =>
   cases hB : fB v with
   | some u =>
    have := fB_some hn1 hv hB
    exact ih u (by omega) this.1
   | none => exact ⟨hA, hB⟩
theorem sumF_cj (x : NG m) : ∀ (f : Nat) (v : Nm (m + 2)), (∃ g, v = (Cj.cj x g).1) → ∃ g, sumF f v = (Cj.cj x g).1 := by
 have hc : ∀ v : Nm (m + 2), (∃ g, v = (Cj.cj x g).1) → ∃ g, cyc v = (Cj.cj x g).1 := by
  rintro v ⟨g, rfl⟩
  obtain ⟨h, e⟩ := cyc_cj (Cj.cj x g)
  exact ⟨g * h, by rw [e, Cj.cj_cj]⟩
 have hd : ∀ v : Nm (m + 2), (∃ g, v = (Cj.cj x g).1) → ∃ g, decyc v = (Cj.cj x g).1 := by
  rintro v ⟨g, rfl⟩
  obtain ⟨h, e⟩ := decyc_cj (Cj.cj x g)
  exact ⟨g * h, by rw [e, Cj.cj_cj]⟩
 intro f
 induction f with
 | zero => intro v h; exact h
 | succ f ih =>
  intro v h
  rw [sumF]
  cases hA : fA v with
  | some u => exact ih u (srch_some hc _ _ _ h hA).1
  | none =>
   cases hB : fB v with
   | some u => exact ih u (srch_some hd _ _ _ h hB).1
   | none => exact h
theorem sumN_cj (x : NG m) : ∃ g, sumN x.1 = (Cj.cj x g).1 := sumF_cj x _ _ ⟨1, by rw [Cj.cj_one]⟩
end Go.Ev.YtgfleapbganjiaaGreat
