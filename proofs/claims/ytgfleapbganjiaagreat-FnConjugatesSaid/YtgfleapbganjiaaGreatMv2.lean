/- Braids as a group with heads: what Mv1 asks. -/
import Derived.Test.YtgfleapbganjiaaGreatWd
import Derived.Test.YtgfleapbganjiaaGreatMv1
set_option linter.unusedVariables false
set_option linter.unusedSimpArgs false
namespace Go.Ev.YtgfleapbganjiaaGreat
open Go.Ev Go.Gar
abbrev NG (m : Nat) := {v : Nm (m + 2) // (Pm.lat (m + 2)).Proper v.2}
theorem le2 (m : Nat) : 2 ≤ m + 2 := by omega
noncomputable instance ngGrp (m : Nat) : Grp (NG m) where
 mul a b := ⟨prod a.1 b.1, prod_P (le2 m) _ _⟩
 one := ⟨eN (m + 2), Lat.Proper.nil⟩
 inv a := ⟨invN a.1, invN_P (le2 m) _⟩
 assoc a b c := Subtype.ext (prod_assoc (le2 m) _ _ _)
 one_mul a := Subtype.ext (e_prod (le2 m) a.2)
 mul_one a := Subtype.ext (prod_e (le2 m) a.2)
 inv_mul a := Subtype.ext (inv_l (le2 m) a.2)
 mul_inv a := Subtype.ext (inv_r (le2 m) a.2)
variable {m : Nat}
theorem g_mul (a b : NG m) : (a * b).1 = prod a.1 b.1 := rfl
def dG (k : Int) : NG m := ⟨(k, []), Lat.Proper.nil⟩
noncomputable def sG (s : Pm (m + 2)) : NG m := ⟨sN s, (mk_spec (le2 m) 0 [s]).1⟩
noncomputable def mG (Y : List (Pm (m + 2))) : NG m := ⟨mk 0 Y, (mk_spec (le2 m) 0 Y).1⟩
theorem inv_of {G : Type} [Grp G] {a b : G} (h : a * b = 1) : b⁻¹ = a := by
 have : a * b * b⁻¹ = b⁻¹ := by rw [h, Grp.one_mul]
 rw [← this, Grp.assoc, Grp.mul_inv, Grp.mul_one]
theorem sG_inv (s : Pm (m + 2)) : ((sG s)⁻¹ : NG m).1 = isN s := by
 have : (⟨isN s, isN_P (le2 m) s⟩ : NG m) * sG s = 1 := Subtype.ext (is_s (le2 m) s)
 rw [inv_of this]
theorem less_is {n : Nat} (h2 : 2 ≤ n) (v : Nm n) (s : Pm n) : prod (isN s) v = less1 v s := less1_eq h2 v s
theorem sG_less (s : Pm (m + 2)) (a : NG m) : ((sG s)⁻¹ * a).1 = less1 a.1 s := by rw [g_mul, sG_inv, less_is (le2 m)]
theorem mG_app (X Y : List (Pm (m + 2))) : (mG (X ++ Y) : NG m) = mG X * mG Y := Subtype.ext (mk_mk (le2 m) 0 0 X Y).symm
theorem mG_one (s : Pm (m + 2)) : (mG [s] : NG m) = sG s := rfl
theorem sN_one {n : Nat} (h2 : 2 ≤ n) : sN (1 : Pm n) = eN n := mk_one h2 0 Lat.Proper.nil
theorem sG_one : (sG 1 : NG m) = 1 := Subtype.ext (sN_one (le2 m))
theorem sG_half : (sG (Pm.half (m + 2)) : NG m) = dG 1 := Subtype.ext (mk_D (le2 m) 0)
theorem pos_mk (a : NG m) (h0 : 0 ≤ a.1.1) : ∃ Y, a = mG Y := by
 obtain ⟨⟨p, A⟩, hP⟩ := a
 refine ⟨(Pm.lat (m + 2)).Ds p.toNat ++ A, Subtype.ext ?_⟩
 have h : (Pm.lat (m + 2)).nf ((Pm.lat (m + 2)).Ds p.toNat ++ A) = (Pm.lat (m + 2)).Ds p.toNat ++ A ++ Lat.ones 0 := by
  rw [Lat.nf_Ds _ (allS _), Lat.nf_fix hP.W]
  simp only [Lat.ones, List.replicate_zero, List.append_nil]
 have hn := Lat.norm_of (half_ne (le2 m)) h hP
 show (p, A) = mk 0 _
 simp only [mk, hn]
 have : 0 ≤ p := h0
 congr 1
 omega
theorem L_headD {n : Nat} (t : Pm n) (Z : List (Pm n)) : ((Pm.lat n).L t Z).headD 1 = t * (Pm.lat n).meet ((Pm.lat n).K t) (Z.headD 1) := by
 cases Z with
 | nil =>
  show t = t * (Pm.lat n).meet ((Pm.lat n).K t) 1
  rw [Lat.meet_one_r (Γ := Pm.lat n) trivial, Grp.mul_one]
 | cons z Z => rfl
theorem foldr_headD {n : Nat} : ∀ (X Z Z' : List (Pm n)), Z.headD 1 = Z'.headD 1 → (X.foldr (Pm.lat n).L Z).headD 1 = (X.foldr (Pm.lat n).L Z').headD 1
 | [], Z, Z', h => h
 | x :: X, Z, Z', h => by
  rw [List.foldr_cons, List.foldr_cons, L_headD, L_headD, foldr_headD X Z Z' h]
theorem hd_mG (Y : List (Pm (m + 2))) : hd (mG Y : NG m).1 = ((Pm.lat (m + 2)).nf Y).headD 1 := hd_mk (le2 m) Y
theorem hd_sN {n : Nat} (h2 : 2 ≤ n) (s : Pm n) : hd (sN s) = s := hd_mk h2 [s]
theorem hd_sG (s : Pm (m + 2)) : hd (sG s : NG m).1 = s := hd_sN (le2 m) s
theorem hd_prodG {a b : NG m} (ha : 0 ≤ a.1.1) (hb : 0 ≤ b.1.1) : hd (a * b).1 = hd (a * sG (hd b.1)).1 := by
 obtain ⟨X, rfl⟩ := pos_mk a ha
 obtain ⟨Y, rfl⟩ := pos_mk b hb
 rw [← mG_app, ← mG_one, ← mG_app, hd_mG, hd_mG, Lat.nf_append, Lat.nf_append, hd_mG]
 exact foldr_headD _ _ _ rfl
theorem le_s (a : NG m) (h0 : 0 ≤ a.1.1) (s : Pm (m + 2)) : 0 ≤ ((sG s)⁻¹ * a).1.1 ↔ (Pm.lat (m + 2)).le s (hd a.1) := by
 constructor
 · intro h
   rw [sG_less] at h
   rw [hd_less (le2 m) a.1 a.2 s h]
   exact (Lat.P1 (Γ := Pm.lat (m + 2)) trivial trivial ((Pm.lat (m + 2)).meet_l trivial trivial)).2
 · intro h
   by_cases h1 : s = 1
   · subst h1
     rw [sG_one, inv_one, Grp.one_mul]
     exact h0
   · rw [sG_less]
     exact less_pos (le2 m) a.1 h0 s h1 h
theorem inf_mulG (a b : NG m) : a.1.1 + b.1.1 ≤ (a * b).1.1 := (mk_spec (le2 m) (a.1.1 + b.1.1) (tk b.1.1 a.1.2 ++ b.1.2)).2.1
theorem hd_posG (s : Pm (m + 2)) : 0 ≤ (sG s : NG m).1.1 := (mk_spec (le2 m) 0 [s]).2.1
theorem proper_nil {n : Nat} {A B : List (Pm n)} (h2 : 2 ≤ n) (hA : (Pm.lat n).Proper A) (h : (Pm.lat n).norm (A ++ B) = (0, [])) : A = [] := by
 have := sup_ge h2 B A hA.W (fun x hx => (hA.no x hx).2)
 rw [h] at this
 simp only [List.length_nil] at this
 cases A with
 | nil => rfl
 | cons a A => simp only [List.length_cons] at this; omega
theorem antiG (a : NG m) (h0 : 0 ≤ a.1.1) (h1 : 0 ≤ (a⁻¹).1.1) : a = 1 := by
 have e : (a * a⁻¹).1 = eN (m + 2) := by rw [Grp.mul_inv]; rfl
 obtain ⟨⟨p, A⟩, hP⟩ := a
 generalize ((⟨(p, A), hP⟩ : NG m)⁻¹) = b at e h1
 obtain ⟨⟨q, B⟩, hQ⟩ := b
 have e1 : mk (p + q) (tk q A ++ B) = eN (m + 2) := e
 simp only at h0 h1
 have hp : p + q + (((Pm.lat (m + 2)).norm (tk q A ++ B)).1 : Int) = 0 := congrArg Prod.fst e1
 have hl : ((Pm.lat (m + 2)).norm (tk q A ++ B)).2 = [] := congrArg Prod.snd e1
 have hn : (Pm.lat (m + 2)).norm (tk q A ++ B) = (0, []) := Prod.ext (by show _ = 0; omega) hl
 have hA := proper_nil (le2 m) (tk_proper q hP) hn
 have hA0 : A = [] := by
  have := congrArg List.length hA
  rw [tk_len] at this
  cases A with
  | nil => rfl
  | cons a A => simp at this
 apply Subtype.ext
 show (p, A) = (0, [])
 rw [hA0, show p = 0 by omega]
theorem hd_le (a : NG m) (h0 : 0 ≤ a.1.1) : 0 ≤ ((sG (hd a.1))⁻¹ * a).1.1 := (le_s a h0 _).2 ((Pm.lat (m + 2)).refl trivial)
theorem d_mul (p q : Int) : (dG (p + q) : NG m) = dG p * dG q := by
 apply Subtype.ext
 show (p + q, []) = mk (p + q) (tk q [] ++ [])
 rw [tk_nil, List.append_nil, mk_nil]
theorem mul_d (a : NG m) (q : Int) : (a * dG q).1 = (a.1.1 + q, tk q a.1.2) := by
 show mk (a.1.1 + q) (tk q a.1.2 ++ []) = _
 rw [List.append_nil, mk_proper (le2 m) _ (tk_proper q a.2)]
theorem d_mul_l (a : NG m) (q : Int) : (dG q * a).1 = (q + a.1.1, a.1.2) := by
 show mk (q + a.1.1) (tk a.1.1 [] ++ a.1.2) = _
 rw [tk_nil, List.nil_append, mk_proper (le2 m) _ a.2]
theorem d_conj (a : NG m) (p : Int) : (dG p * (a * dG (-p))).1 = (a.1.1, tk (-p) a.1.2) := by
 rw [d_mul_l, mul_d]
 simp only
 congr 1
 omega
theorem tk_norm {n : Nat} (h2 : 2 ≤ n) (k : Int) (l : List (Pm n)) : (Pm.lat n).norm (tk k l) = (((Pm.lat n).norm l).1, tk k ((Pm.lat n).norm l).2) := by
 unfold tk
 split
 · rfl
 · exact (trn_auto n).norm (half_ne h2) (allS l)
theorem s_conj (s : Pm (m + 2)) (p : Int) : (dG p * (sG s * dG (-p)) : NG m) = sG (t1 (-p) s) := by
 apply Subtype.ext
 rw [d_conj]
 show _ = mk 0 [t1 (-p) s]
 rw [← tk_one]
 simp only [mk, tk_norm (le2 m)]
 rfl
theorem t1_1 {n : Nat} (p : Int) : t1 p (1 : Pm n) = 1 := by
 unfold t1
 split
 · rfl
 · show Pm.half n * 1 * Pm.half n = 1
   rw [Grp.mul_one, Pm.half_half]
theorem t1_half {n : Nat} (p : Int) : t1 p (Pm.half n) = Pm.half n := by
 unfold t1
 split
 · rfl
 · show Pm.half n * Pm.half n * Pm.half n = Pm.half n
   rw [Pm.half_half, Grp.one_mul]
theorem hd_tk {n : Nat} (p q : Int) (A : List (Pm n)) : hd (p, tk q A) = t1 q (hd (p, A)) := by
 unfold hd
 simp only
 split
 · exact (t1_half q).symm
 · cases A with
   | nil => rw [tk_nil]; exact (t1_1 q).symm
   | cons a A => rw [tk_cons]; rfl
theorem turnG (p : Int) (a : NG m) : (sG (hd (dG p * (a * dG (-p))).1) : NG m) = dG p * (sG (hd a.1) * dG (-p)) := by
 rw [s_conj, d_conj, hd_tk]
theorem cenG (k : Int) (a : NG m) : dG (2 * k) * a = a * dG (2 * k) := by
 apply Subtype.ext
 rw [d_mul_l, mul_d]
 have : tk (2 * k) a.1.2 = a.1.2 := by
  unfold tk
  rw [if_pos ((par _).2 (by omega))]
 rw [this, Int.add_comm]
theorem hd_oneG (a : NG m) (h0 : 0 ≤ a.1.1) (h : hd a.1 = 1) : a = 1 := by
 obtain ⟨⟨p, A⟩, hP⟩ := a
 unfold hd at h
 simp only at h h0
 by_cases hp : 0 < p
 · rw [if_pos hp] at h
   exact absurd h (half_ne (le2 m))
 · rw [if_neg hp] at h
   cases A with
   | nil =>
    apply Subtype.ext
    show (p, []) = (0, [])
    rw [show p = 0 by omega]
   | cons a A => exact absurd h ((hP.no a List.mem_cons_self).2)
theorem rest (a : NG m) (h0 : 0 ≤ a.1.1) (h1 : hd a.1 ≠ 1) : ((sG (hd a.1))⁻¹ * a).1 = if 0 < a.1.1 then (a.1.1 - 1, a.1.2) else (0, a.1.2.drop 1) := by
 obtain ⟨⟨p, A⟩, hP⟩ := a
 unfold hd at h1 ⊢
 simp only at h0 h1 ⊢
 by_cases hp : 0 < p
 · simp only [if_pos hp, sG_half]
   have : (⟨(p, A), hP⟩ : NG m) = dG 1 * ⟨(p - 1, A), hP⟩ := by
    apply Subtype.ext
    rw [d_mul_l]
    show (p, A) = (1 + (p - 1), A)
    congr 1
    omega
   rw [this, inv_mul_l]
 · simp only [if_neg hp] at h1 ⊢
   have hp0 : p = 0 := by omega
   subst hp0
   cases A with
   | nil => exact absurd rfl h1
   | cons a A =>
    have hA : (Pm.lat (m + 2)).Proper A := proper_drop (A := a :: A) hP
    have hP' : (Pm.lat (m + 2)).Proper (a :: A) := hP
    have : (⟨(0, a :: A), hP⟩ : NG m) = sG a * ⟨(0, A), hA⟩ := by
     apply Subtype.ext
     rw [g_mul]
     show _ = prod (sN a) (0, A)
     have := PA_cons (le2 m) a A
     rw [mk_proper (le2 m) 0 hP', mk_proper (le2 m) 0 hA] at this
     exact this
    show ((sG a)⁻¹ * (⟨(0, a :: A), hP⟩ : NG m)).1 = _
    rw [this, inv_mul_l]
    rfl
theorem len_ltG (a : NG m) (h0 : 0 ≤ a.1.1) (h1 : hd a.1 ≠ 1) : ((sG (hd a.1))⁻¹ * a).1.1.toNat + ((sG (hd a.1))⁻¹ * a).1.2.length < a.1.1.toNat + a.1.2.length := by
 rw [rest a h0 h1]
 by_cases hp : 0 < a.1.1
 · rw [if_pos hp]
   simp only
   omega
 · rw [if_neg hp]
   simp only [List.length_drop]
   have : a.1.2.length ≠ 0 := by
    intro e
    apply h1
    unfold hd
    rw [if_neg hp, List.length_eq_zero_iff.1 e]
    rfl
   omega
theorem cnt_ltG {n : Nat} {s t : Pm n} (h : (Pm.lat n).le s t) (hne : s ≠ t) : Pm.cnt s < Pm.cnt t := by
 have h' : ¬ Pm.le t s := fun h2 => hne (Pm.le_anti h h2)
 unfold Pm.le at h'
 simp only [Classical.not_forall] at h'
 obtain ⟨i, j, hij, h1, h2⟩ := h'
 have hj := Pm.below hij h1
 unfold Pm.cnt
 refine Pm.countP_lt (x := (i, j)) (fun y _ hy => ?_) ?_ ?_ ?_
 · simp only [Bool.and_eq_true, decide_eq_true_eq] at hy ⊢
   exact ⟨hy.1, h y.1 y.2 hy.1 hy.2⟩
 · rw [List.mem_flatMap]
   exact ⟨i, List.mem_range.2 (by omega), List.mem_map.2 ⟨j, List.mem_range.2 hj, rfl⟩⟩
 · simp only [decide_eq_true hij, Bool.true_and, decide_eq_false h2]
 · simp only [decide_eq_true hij, Bool.true_and, decide_eq_true h1]
theorem cnt_le_half {n : Nat} (s : Pm n) : Pm.cnt s ≤ Pm.cnt (Pm.half n) := by
 by_cases h : s = Pm.half n
 · rw [h]; exact Nat.le_refl _
 · exact Nat.le_of_lt (cnt_ltG (Pm.le_half s) h)
noncomputable def cjG (m : Nat) : Cj (NG m) where
 D := dG
 inf a := a.1.1
 hd a := sG (hd a.1)
 cnt a := Pm.cnt (hd a.1)
 len a := a.1.1.toNat + a.1.2.length
 N := Pm.cnt (Pm.half (m + 2))
 D_add := d_mul
 D_zero := rfl
 inf_one := rfl
 inf_mul := inf_mulG
 inf_D _ := rfl
 anti := antiG
 hd_pos a _ := hd_posG _
 hd_le := hd_le
 hd_D a h0 := (le_s (dG 1) (show (0 : Int) ≤ 1 by omega) _).2 ((Pm.lat (m + 2)).le_D trivial)
 hd_max a b ha hb h := (le_s (sG (hd a.1)) (hd_posG _) _).2 (by rw [hd_sG]; exact (le_s a ha _).1 h)
 hd_D1 := sG_half
 hd_mul a b ha hb := by
  have hp : 0 ≤ (a * sG (hd b.1)).1.1 := by
   have := inf_mulG a (sG (hd b.1))
   have := hd_posG (hd b.1) (m := m)
   omega
  rw [hd_prodG ha hb]
  exact hd_le _ hp
 cnt_lt a b ha hb h hne := by
  rw [hd_sG, hd_sG]
  have h1 := (le_s (sG (hd b.1)) (hd_posG _) _).1 h
  rw [hd_sG] at h1
  exact cnt_ltG h1 (fun e => hne (by rw [e]))
 cnt_le a _ := cnt_le_half _
 hd_one a h0 h := by
  apply hd_oneG a h0
  have := congrArg (fun x : NG m => hd x.1) h
  simp only [hd_sG] at this
  rw [this]
  rfl
 len_lt a h0 h := len_ltG a h0 (fun e => h (by rw [e, sG_one]))
end Go.Ev.YtgfleapbganjiaaGreat
