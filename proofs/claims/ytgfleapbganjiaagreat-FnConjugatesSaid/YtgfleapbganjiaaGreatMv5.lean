/- Conjugate braids are told to be so; what sliding keeps. -/
import Derived.Test.YtgfleapbganjiaaGreatMv4
import Derived.Test.YtgfleapbganjiaaGreatMu8
set_option linter.unusedVariables false
set_option linter.unusedSimpArgs false
namespace Go.Ev.YtgfleapbganjiaaGreat
open Go.Ev Go.Gar
variable {m : Nat}
theorem sum_reach (hm : m + 2 ≤ 8) (x g : NG m) {b c : Nat} (hx : OkN x.1 b) (hy : OkN (Cj.cj x g).1 c) :
  (sumN (Cj.cj x g).1).1 = (sumN x.1).1 ∧ (sumN (Cj.cj x g).1).2.length = (sumN x.1).2.length ∧ Reach (sumN x.1) (sumN (Cj.cj x g).1) := by
 obtain ⟨a, ha⟩ := sumN_cj x
 obtain ⟨d, hdd⟩ := sumN_cj (Cj.cj x g)
 obtain ⟨hA, hB⟩ := sumF_end (show 1 ≤ m + 2 by omega) x.1 (x.1.2.length + 1) x.1 (by omega) (Rel.refl hx)
 obtain ⟨hC, hD⟩ := sumF_end (show 1 ≤ m + 2 by omega) (Cj.cj x g).1 ((Cj.cj x g).1.2.length + 1) (Cj.cj x g).1 (by omega) (Rel.refl hy)
 have hA' : fA (sumN x.1) = none := hA
 have hB' : fB (sumN x.1) = none := hB
 have hC' : fA (sumN (Cj.cj x g).1) = none := hC
 have hD' : fB (sumN (Cj.cj x g).1) = none := hD
 rw [ha] at hA' hB' ⊢
 rw [hdd] at hC' hD' ⊢
 have eY : Cj.cj (Cj.cj x g) d = Cj.cj (Cj.cj x a) (a⁻¹ * (g * d)) := by rw [Cj.cj_cj, Cj.cj_cj, mul_inv_l]
 have eX : Cj.cj x a = Cj.cj (Cj.cj (Cj.cj x g) d) ((a⁻¹ * (g * d))⁻¹) := by rw [eY, Cj.cj_cj, Grp.mul_inv, Cj.cj_one]
 generalize a⁻¹ * (g * d) = h at eX eY
 generalize Cj.cj (Cj.cj x g) d = Y at eX eY hC' hD' ⊢
 generalize Cj.cj x a = X at eX eY hA' hB' ⊢
 have t1 := top_of hm hA' h
 have t2 := top_of hm hC' h⁻¹
 have t3 := low_of hm hB' h
 have t4 := low_of hm hD' h⁻¹
 rw [← eY] at t1 t3
 rw [← eX] at t2 t4
 have e1 : Y.1.1 = X.1.1 := by omega
 have e2 : Y.1.2.length = X.1.2.length := by omega
 refine ⟨e1, e2, ?_⟩
 obtain ⟨f, f1, f2⟩ := (cjG m).conj_pos (cenC m) X h
 rw [← eY] at f2
 have iX := inf_inv X
 have iY := inf_inv Y
 have := (cjG m).path (turnC m) (p := X.1.1) (q := (X⁻¹).1.1) (Q := fun z => Reach X.1 z.1 ∧ ∃ u, z = Cj.cj X u) (y := Y) (show X.1.1 ≤ Y.1.1 by omega) (show (X⁻¹).1.1 ≤ (Y⁻¹).1.1 by omega)
  (fun z a h0 hQ h1 h2 => by
   obtain ⟨hR, u, hu⟩ := hQ
   have h1' : X.1.1 ≤ (Cj.cj z (sG (hd a.1))).1.1 := h1
   have h2' : (X⁻¹).1.1 ≤ ((Cj.cj z (sG (hd a.1)))⁻¹).1.1 := h2
   have eu : Cj.cj z (sG (hd a.1)) = Cj.cj X (u * sG (hd a.1)) := by rw [hu, Cj.cj_cj]
   have k1 := top_of hm hA' (u * sG (hd a.1))
   have k2 := low_of hm hB' (u * sG (hd a.1))
   rw [← eu] at k1 k2
   have iz := inf_inv (Cj.cj z (sG (hd a.1)))
   refine ⟨?_, u * sG (hd a.1), eu⟩
   show Reach X.1 (Cj.cj z (sG (hd a.1))).1
   have ec := conj1_cj z (hd a.1)
   rw [← ec]
   refine .step hR ?_ ?_
   · rw [ec]; omega
   · rw [ec]; omega)
  _ X f (Nat.lt_succ_self _) f1 f2 (Int.le_refl _) (Int.le_refl _) ⟨.base, 1, (Cj.cj_one X).symm⟩
 exact this.1
def CJ {n : Nat} (v w : Nm n) : Prop := n = 1 ∨ ∃ g : Nm n, (Pm.lat n).Proper g.2 ∧ w = prod (invN g) (prod v g)
theorem cj_CJ {x : NG m} {g : NG m} {w : Nm (m + 2)} (h : w = (Cj.cj x g).1) : CJ x.1 w := .inr ⟨g.1, g.2, h⟩
theorem two_add {n : Nat} (h : 2 ≤ n) : ∃ m, n = m + 2 := ⟨n - 2, by omega⟩
theorem CJ.sum {n : Nat} (hn1 : 1 ≤ n) (hn : n ≤ 8) {v w : Nm n} {b c : Nat} (hv : OkN v b) (hw : OkN w c) (h : CJ v w) :
  (sumN w).1 = (sumN v).1 ∧ (sumN w).2.length = (sumN v).2.length ∧ Reach (sumN v) (sumN w) := by
 by_cases h2 : 2 ≤ n
 · rcases h with h | ⟨g, hg, e⟩
   · omega
   · obtain ⟨m, rfl⟩ := two_add h2
     have e' : w = (Cj.cj (⟨v, hv.P⟩ : NG m) ⟨g, hg⟩).1 := e
     subst e'
     exact sum_reach hn ⟨v, hv.P⟩ ⟨g, hg⟩ hv hw
 · have e : n = 1 := by omega
   have e1 := hv.one e
   have e2 := hw.one e
   rw [e1, e2]
   exact ⟨rfl, rfl, .base⟩
theorem are_conj {n : Nat} (hn1 : 1 ≤ n) (hn : n ≤ 8) {v w : Nm n} (hv : OkN v 200) (hw : OkN w 200) (h : both (enc v) (enc w) = 0) (hc : CJ v w) :
  ∃ (r : Bool) (c : Int), R ii_AreConjugate [tPIPILA8 (enc v), tPIPILA8 (enc w)] = some [tB r, tI c] ∧ (c = 0 → r = true) := by
 obtain ⟨s1, s2, s3⟩ := hc.sum hn1 hn hv hw
 have ha : Rows8 (enc v).2.2 := sL_rows hn _
 have hb : Rows8 (enc w).2.2 := sL_rows hn _
 have b2 := c_areSameCount (enc v) (enc w) ha hb
 rw [h] at b2
 have e0 : ((0 : Int) != 0) = false := rfl
 have eV : ∀ x : VN, (x.1, x.2.1, x.2.2) = x := fun x => rfl
 have eN : (enc v).1 = (n : Int) := rfl
 have vi1 := c_summit n hn1 hn v (hv.mono (by omega))
 have vi2 := c_summit n hn1 hn w (hw.mono (by omega))
 have ri : ∀ r c, (bif decide (4 < (n : Int)) then some [tB false, tI 2] else
   bif (((sumN v).1) != ((sumN w).1)) then some [tB false, tI 0] else
   bif ((((sumN v).2.length : Nat) : Int) != (((sumN w).2.length : Nat) : Int)) then some [tB false, tI 0] else
   (R ii_superSummit [tPIPILA8 (enc v)]).bind fun o4 => bif (!(gB o4 1)) then some [tB false, tI 3] else
    (R ig_ContainsFunc___i_Normal_i_Normal__v2 [tLPIPILA8 (gLPIPILA8 o4 0), tPIPILA8 (enc (sumN w))]).bind fun o5 => some [tB (gB o5 0), tI 0]) = some [tB r, tI c] → R ii_AreConjugate [tPIPILA8 (enc v), tPIPILA8 (enc w)] = some [tB r, tI c] := by
  intro r c hh
  apply vi_AreConjugate
  simp only [bi_AreConjugate, eV, b2, Option.bind_some, getTV_here, e0, cond_false, vi1, vi2]
  simp only [eN, (enc_2 _).1, (enc_2 _).2]
  exact hh
 by_cases h4 : 4 < (n : Int)
 · refine ⟨false, 2, ri _ _ ?_, fun h => by omega⟩
   simp only [decide_eq_true h4, cond_true]
 · have p2 : (((sumN v).2.length : Nat) : Int) = (((sumN w).2.length : Nat) : Int) := by omega
   simp only [decide_eq_false h4, cond_false, s1, p2, bne_self_eq_false] at ri
   have hok := sumN_ok hn1 hw
   have key : ∀ ys : List VN, R ii_superSummit [tPIPILA8 (enc v)] = some [tLPIPILA8 ys, tB true] → (∀ z ∈ ys, z.2.2.length < 1000000000) → ys.length < 10000000 → enc (sumN w) ∈ ys → ∃ (r : Bool) (c : Int), R ii_AreConjugate [tPIPILA8 (enc v), tPIPILA8 (enc w)] = some [tB r, tI c] ∧ (c = 0 → r = true) := by
    intro ys g1 g2 g3 g4
    have hcon := c_ContainsFunc_v2 (enc (sumN w)) ys g2 g3
    refine ⟨true, 0, ri _ _ ?_, fun _ => rfl⟩
    simp only [g1, Option.bind_some, getTV_here, getTV_next, Bool.not_true, cond_false, hcon, decide_eq_true g4]
   by_cases n1 : n = 1
   · subst n1
     refine key _ (setI_one v hv) (fun z hz => ?_) (by simp) ?_
     · simp only [List.mem_singleton] at hz
       subst hz
       simp
     · have e1 := (sumN_ok hn1 hw).one rfl
       rw [e1]
       exact List.mem_singleton.2 rfl
   · rcases setsI_two n (by omega) (by omega) v hv with g1 | ⟨ys, g⟩
     · refine ⟨false, 3, ri _ _ ?_, fun h => by omega⟩
       simp [g1]
     · have hkl := (sumN_ok hn1 hv).len
       refine key ys g.impl (fun z hz => ?_) (by have := g.len; omega) ((g.mem _).1 s3)
       obtain ⟨y, rfl, hy⟩ := g.all z hz
       have := hy.len
       rw [(enc_2 _).2]
       omega
theorem slide_cj (z : NG m) : ∃ g, slide z.1 = (Cj.cj z g).1 := by
 unfold slide
 split
 · exact ⟨1, by rw [Cj.cj_one]⟩
 · exact ⟨_, conj1_cj z _⟩
theorem slide_relG (z : NG m) : z.1.1 ≤ (slide z.1).1 ∧ (slide z.1).1 + ((slide z.1).2.length : Int) ≤ z.1.1 + (z.1.2.length : Int) := by
 obtain ⟨⟨p, A⟩, hP⟩ := z
 by_cases h : A.length = 0
 · unfold slide
   rw [if_pos h]
   exact ⟨Int.le_refl _, Int.le_refl _⟩
 · have es : ∀ s, (slide (p, A) = conj1 (p, A) s) → slide (p, A) = (Cj.cj (⟨(p, A), hP⟩ : NG m) (sG s)).1 := fun s e => by rw [e]; exact conj1_cj (⟨(p, A), hP⟩ : NG m) s
   have e0 : slide (p, A) = conj1 (p, A) (Pm.meet (t1 p (A.getD 0 1)) ((A.getD (A.length - 1) 1)⁻¹ * Pm.half (m + 2))) := by
    unfold slide
    rw [if_neg h]
   have key : ∃ Y : List (Pm (m + 2)), Y.length = A.length ∧ slide (p, A) = mk p Y := by
    have e1 := es _ e0
    have hl1 := (Pm.lat (m + 2)).meet_l (x := t1 p (A.getD 0 1)) (y := (A.getD (A.length - 1) 1)⁻¹ * Pm.half (m + 2)) trivial trivial
    have hl2 := (Pm.lat (m + 2)).meet_r (x := t1 p (A.getD 0 1)) (y := (A.getD (A.length - 1) 1)⁻¹ * Pm.half (m + 2)) trivial trivial
    have hm : (Pm.lat (m + 2)).meet (t1 p (A.getD 0 1)) ((A.getD (A.length - 1) 1)⁻¹ * Pm.half (m + 2)) = Pm.meet (t1 p (A.getD 0 1)) ((A.getD (A.length - 1) 1)⁻¹ * Pm.half (m + 2)) := rfl
    rw [hm] at hl1 hl2
    generalize Pm.meet (t1 p (A.getD 0 1)) ((A.getD (A.length - 1) 1)⁻¹ * Pm.half (m + 2)) = s at e1 hl1 hl2
    clear e0 es hm
    obtain ⟨B, a, rfl⟩ := snoc_of h
    have ea : (B ++ [a]).getD ((B ++ [a]).length - 1) 1 = a := by
     rw [List.getD_eq_getElem?_getD]
     simp
    rw [ea] at hl2
    have hl2' : (Pm.lat (m + 2)).le s ((Pm.lat (m + 2)).K a) := hl2
    have hz : (⟨(p, B ++ [a]), hP⟩ : NG m) = dG p * mG B * sG a := by rw [z_eq p hP, mG_app, mG_one, Grp.assoc]
    have hzs : (⟨(p, B ++ [a]), hP⟩ : NG m) * sG s = dG p * mG (B ++ [a * s]) := by
     rw [hz, Grp.assoc, ← s_mul hl2', mG_app, mG_one, Grp.assoc]
    have take : ∀ {t : Pm (m + 2)}, (Pm.lat (m + 2)).le s t → ((sG s)⁻¹ * sG t : NG m) = sG (s⁻¹ * t) := fun {t} ht => by
     have hK := (Lat.P0 (Γ := Pm.lat (m + 2)) trivial trivial ht).2
     have := s_mul (m := m) hK
     rw [mul_inv_l] at this
     rw [this, inv_mul_l]
    rw [e1]
    unfold Cj.cj
    rw [hzs]
    cases B with
    | nil =>
     have ht : (Pm.lat (m + 2)).le s (t1 p (a * s)) := by
      have h1 : (Pm.lat (m + 2)).le a (a * s) := (Lat.P1 (Γ := Pm.lat (m + 2)) trivial trivial hl2').2
      exact (Pm.lat (m + 2)).trans trivial trivial trivial hl1 (t1_le h1)
     refine ⟨[t1 p (s⁻¹ * t1 p (a * s))], rfl, ?_⟩
     rw [List.nil_append, mG_one, d_s, ← Grp.assoc, take ht, ← d_mG, mG_one, d_s, t1_t1]
    | cons b B =>
     have ht : (Pm.lat (m + 2)).le s (t1 p b) := hl1
     refine ⟨t1 p (s⁻¹ * t1 p b) :: (B ++ [a * s]), by simp, ?_⟩
     have hc : ∀ c : Pm (m + 2), (mG (c :: (B ++ [a * s])) : NG m) = sG c * mG (B ++ [a * s]) := fun c => by
      rw [← mG_one, ← mG_app]
      rfl
     rw [← d_mG, List.cons_append, hc, hc]
     generalize (mG (B ++ [a * s]) : NG m) = M
     rw [← Grp.assoc (dG p) (sG b), d_s, Grp.assoc, ← Grp.assoc (sG s)⁻¹, take ht, ← Grp.assoc (dG p), d_s, t1_t1, Grp.assoc]
   obtain ⟨Y, hY, e⟩ := key
   have hs := mk_spec (le2 m) p Y
   rw [e]
   simp only at hs ⊢
   omega
theorem slide_rel {n : Nat} (hn1 : 1 ≤ n) {v : Nm n} {b : Nat} (hv : OkN v b) : v.1 ≤ (slide v).1 ∧ (slide v).1 + ((slide v).2.length : Int) ≤ v.1 + (v.2.length : Int) := by
 by_cases h2 : 2 ≤ n
 · obtain ⟨m, rfl⟩ := two_add h2
   exact slide_relG ⟨v, hv.P⟩
 · have e := hv.one (by omega)
   subst e
   have e1 : slide ((0, []) : Nm n) = (0, []) := by simp [slide]
   rw [e1]
   exact ⟨Int.le_refl _, Int.le_refl _⟩
theorem cyc_CJ {n : Nat} (hn1 : 1 ≤ n) {v : Nm n} {b : Nat} (hv : OkN v b) : CJ v (cyc v) := by
 by_cases h2 : 2 ≤ n
 · obtain ⟨m, rfl⟩ := two_add h2
   obtain ⟨g, e⟩ := cyc_cj (⟨v, hv.P⟩ : NG m)
   exact cj_CJ (x := ⟨v, hv.P⟩) e
 · exact .inl (by omega)
theorem slide_CJ {n : Nat} (hn1 : 1 ≤ n) {v : Nm n} {b : Nat} (hv : OkN v b) : CJ v (slide v) := by
 by_cases h2 : 2 ≤ n
 · obtain ⟨m, rfl⟩ := two_add h2
   obtain ⟨g, e⟩ := slide_cj (⟨v, hv.P⟩ : NG m)
   exact cj_CJ (x := ⟨v, hv.P⟩) e
 · exact .inl (by omega)
end Go.Ev.YtgfleapbganjiaaGreat
