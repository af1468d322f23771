/- Cycling, decycling and sliding keep conjugacy and do not lower the least power, and conjugates are as told: the law. -/
import Derived.Test.YtgfleapbganjiaaGreatMv5
import Derived.Test.YtgfleapbganjiaaGreatWf
import Derived.Test.YtgfleapbganjiaaGreatWd
set_option linter.unusedVariables false
set_option linter.unusedSimpArgs false
namespace Go.Ev.YtgfleapbganjiaaGreat
open Go.Ev Go.Gar
theorem one_prod : prod ((0, []) : Nm 1) (0, []) = (0, []) := by
 unfold prod
 rw [tk_nil, List.append_nil]
 exact mk_nil 0
theorem one_inv : invN ((0, []) : Nm 1) = (0, []) := by
 unfold invN
 simp only [List.reverse_nil, List.foldl_nil, tk_nil, Int.sub_zero]
theorem back_conj {n : Nat} (h1 : 1 ≤ n) {v w : Nm n} (hv : OkN v 200) (hw : OkN w 200) : prod w (prod (prod (invN w) v) w) = prod v w := by
 by_cases h2 : 2 ≤ n
 · rw [← prod_assoc h2, ← prod_assoc h2, inv_r h2 hw.P, e_prod h2 hv.P]
 · obtain rfl : n = 1 := by omega
   rw [hv.one rfl, hw.one rfl]
   simp only [one_inv, one_prod]
theorem conj_all (a b : VN) (ha : Rows8 a.2.2) (hb : Rows8 b.2.2) : ∃ (r : VN) (e : Int),
  R is_ConjugateBy [tPIPILA8 a, tPIPILA8 b] = some [tPIPILA8 r, tI e] ∧ R ii_ConjugateBy [tPIPILA8 a, tPIPILA8 b] = some [tPIPILA8 r, tI e] ∧ r.2.2.length ≤ 200 ∧
  ((e ≠ 0 ∧ r = NoV) ∨ (e = 0 ∧ ∃ (n : Nat) (v w : Nm n), 1 ≤ n ∧ n ≤ 8 ∧ OkN v 200 ∧ OkN w 200 ∧ OkN (prod (prod (invN w) v) w) 200 ∧ a = enc v ∧ b = enc w ∧ r = enc (prod (prod (invN w) v) w))) := by
 rcases both_cases a b with h1 | ⟨h1, n, v, w, q1, q2, q3, q4, rfl, rfl⟩
 · have := c_ConjugateBy_bad ha hb h1
   exact ⟨_, _, this.1, this.2, by simp, .inl ⟨h1, rfl⟩⟩
 · have h := c_ConjugateBy_ok q1 q2 q3 q4 h1
   have ho := prod_ok q1 (prod_ok q1 (invN_ok q1 q4) q3) q4
   unfold vConj at h
   by_cases hc : (limV (enc (prod (invN w) v))).2 = 0
   · rw [if_pos hc] at h
     rcases lim_enc (prod (prod (invN w) v) w) ho.P ho.one with ⟨e, k⟩ | e
     · rw [e] at h
       exact ⟨_, _, h.1, h.2, by simp only [enc, sL_len]; exact k.len, .inr ⟨rfl, n, v, w, q1, q2, q3, q4, k, rfl, rfl, rfl⟩⟩
     · rw [e] at h
       exact ⟨_, _, h.1, h.2, by simp, .inl ⟨by decide, rfl⟩⟩
   · rw [if_neg hc] at h
     exact ⟨_, _, h.1, h.2, by simp, .inl ⟨by decide, rfl⟩⟩
theorem cyc_all (a : VN) (ha : Rows8 a.2.2) : ∃ (r : VN) (e : Int), R is_CyclingOf [tPIPILA8 a] = some [tPIPILA8 r, tI e] ∧ R ii_CyclingOf [tPIPILA8 a] = some [tPIPILA8 r, tI e] ∧ r.2.2.length ≤ 200 ∧
  (e = 0 → ∃ (n : Nat) (v : Nm n), 1 ≤ n ∧ n ≤ 8 ∧ OkN v 200 ∧ OkN (cyc v) 200 ∧ a = enc v ∧ r = enc (cyc v)) := by
 rcases nm_cases a with h1 | ⟨_, n, v, q1, q2, q3, rfl⟩
 · have := c_CyclingOf_bad ha h1
   exact ⟨_, _, this.1, this.2, by simp, fun h => by omega⟩
 · have h := c_CyclingOf_ok q1 q2 q3
   have ho := cyc_ok q1 q3
   rcases lim_enc (cyc v) ho.P ho.one with ⟨e, k⟩ | e
   · rw [e] at h
     exact ⟨_, _, h.1, h.2, by simp only [enc, sL_len]; exact k.len, fun _ => ⟨n, v, q1, q2, q3, k, rfl, rfl⟩⟩
   · rw [e] at h
     exact ⟨_, _, h.1, h.2, by simp, fun h => by simp at h⟩
theorem decyc_all (a : VN) (ha : Rows8 a.2.2) : ∃ (r : VN) (e : Int), R is_DecyclingOf [tPIPILA8 a] = some [tPIPILA8 r, tI e] ∧ R ii_DecyclingOf [tPIPILA8 a] = some [tPIPILA8 r, tI e] ∧ r.2.2.length ≤ 200 ∧
  (e = 0 → ∃ (n : Nat) (v : Nm n), 1 ≤ n ∧ n ≤ 8 ∧ OkN v 200 ∧ OkN (decyc v) 200 ∧ a = enc v ∧ r = enc (decyc v)) := by
 rcases nm_cases a with h1 | ⟨_, n, v, q1, q2, q3, rfl⟩
 · have := c_DecyclingOf_bad ha h1
   exact ⟨_, _, this.1, this.2, by simp, fun h => by omega⟩
 · have h := c_DecyclingOf_ok q1 q2 q3
   have ho := decyc_ok q1 q3
   rcases lim_enc (decyc v) ho.P ho.one with ⟨e, k⟩ | e
   · rw [e] at h
     exact ⟨_, _, h.1, h.2, by simp only [enc, sL_len]; exact k.len, fun _ => ⟨n, v, q1, q2, q3, k, rfl, rfl⟩⟩
   · rw [e] at h
     exact ⟨_, _, h.1, h.2, by simp, fun h => by simp at h⟩
theorem slide_all (a : VN) (ha : Rows8 a.2.2) : ∃ (r : VN) (e : Int), R is_SlidingOf [tPIPILA8 a] = some [tPIPILA8 r, tI e] ∧ R ii_SlidingOf [tPIPILA8 a] = some [tPIPILA8 r, tI e] ∧ r.2.2.length ≤ 200 ∧
  (e = 0 → ∃ (n : Nat) (v : Nm n), 1 ≤ n ∧ n ≤ 8 ∧ OkN v 200 ∧ OkN (slide v) 200 ∧ a = enc v ∧ r = enc (slide v)) := by
 rcases nm_cases a with h1 | ⟨_, n, v, q1, q2, q3, rfl⟩
 · have := c_SlidingOf_bad ha h1
   exact ⟨_, _, this.1, this.2, by simp, fun h => by omega⟩
 · have h := c_SlidingOf_ok q1 q2 q3
   have ho := slide_ok q1 q3
   rcases lim_enc (slide v) ho.P ho.one with ⟨e, k⟩ | e
   · rw [e] at h
     exact ⟨_, _, h.1, h.2, by simp only [enc, sL_len]; exact k.len, fun _ => ⟨n, v, q1, q2, q3, k, rfl, rfl⟩⟩
   · rw [e] at h
     exact ⟨_, _, h.1, h.2, by simp, fun h => by simp at h⟩
theorem pm2 (s : Pm 2) : s = 1 ∨ s = Pm.half 2 := by
 have h0 := s.lt (x := 0) (by omega)
 have h1 := s.lt (x := 1) (by omega)
 have hne : s.f 0 ≠ s.f 1 := fun e => by have := s.inj e; omega
 by_cases h : s.f 0 = 0
 · left
   apply Pm.ext
   intro x
   by_cases hx : x < 2
   · have : x = 0 ∨ x = 1 := by omega
     rcases this with rfl | rfl
     · exact h
     · show s.f 1 = 1
       omega
   · rw [s.out x (by omega)]
     rfl
 · right
   apply Pm.ext
   intro x
   by_cases hx : x < 2
   · have : x = 0 ∨ x = 1 := by omega
     rcases this with rfl | rfl
     · show s.f 0 = 1
       omega
     · show s.f 1 = 0
       omega
   · rw [s.out x (by omega), (Pm.half 2).out x (by omega)]
theorem small_nil {n : Nat} (h1 : 1 ≤ n) (hn : n ≤ 2) {v : Nm n} {b : Nat} (hv : OkN v b) : v.2 = [] := by
 by_cases h : n = 1
 · rw [hv.one h]
 · obtain rfl : n = 2 := by omega
   obtain ⟨p, A⟩ := v
   cases A with
   | nil => rfl
   | cons a A =>
    have := hv.P.no a List.mem_cons_self
    rcases pm2 a with h | h
    · exact absurd h this.2
    · exact absurd h this.1
theorem cen_all (a : VN) (ha : Rows8 a.2.2) : ∃ (c : Bool) (e : Int), R is_IsCentral [tPIPILA8 a] = some [tB c, tI e] ∧ R ii_IsCentral [tPIPILA8 a] = some [tB c, tI e] ∧
  (c = true → ∃ (n : Nat) (v : Nm n), 1 ≤ n ∧ n ≤ 8 ∧ OkN v 200 ∧ a = enc v ∧ v.2 = [] ∧ (n ≤ 2 ∨ v.1.tmod 2 = 0)) := by
 have eV : ∀ x : VN, (x.1, x.2.1, x.2.2) = x := fun x => rfl
 have hs := c_l03Is a ha
 have hi := c_IsNormal a ha
 rcases nm_cases a with h1 | ⟨h1, n, v, q1, q2, q3, rfl⟩
 · rw [h1] at hs hi
   refine ⟨false, 1, ?_, ?_, fun h => by simp at h⟩
   · apply vs_IsCentral
     simp only [bs_IsCentral, eV, hs, Option.bind_some, getTV_here, Bool.not_false, cond_true]
   · apply vi_IsCentral
     simp only [bi_IsCentral, eV, hi, Option.bind_some, getTV_here, Bool.not_false, cond_true]
 · rw [h1] at hs hi
   have e1 : (enc v).1 = (n : Int) := rfl
   have e2 : (enc v).2.1 = v.1 := rfl
   have e3 : (((enc v).2.2.length : Nat) : Int) = ((v.2.length : Nat) : Int) := by rw [(enc_2 v).2]
   by_cases hn : n ≤ 2
   · have hl := small_nil q1 hn q3
     refine ⟨true, 0, ?_, ?_, fun _ => ⟨n, v, q1, q2, q3, rfl, hl, .inl hn⟩⟩
     · apply vs_IsCentral
       have h3 : (n : Int) < 3 := by omega
       simp only [bs_IsCentral, eV, hs, Option.bind_some, getTV_here, Bool.not_true, cond_false]
       simp only [cond_false, e1, e2, e3, hl, List.length_nil, decide_eq_true h3]
       cases (Int.tmod v.1 2 == 0) <;> rfl
     · apply vi_IsCentral
       have h3 : (n : Int) ≤ 2 := by omega
       simp only [bi_IsCentral, eV, hi, Option.bind_some, getTV_here, Bool.not_true, cond_false]
       simp only [cond_false, cond_true, e1, decide_eq_true h3]
   · have h3 : ¬ (n : Int) < 3 := by omega
     have h4 : ¬ (n : Int) ≤ 2 := by omega
     by_cases hl : v.2.length = 0
     · have hl' := List.length_eq_zero_iff.1 hl
       refine ⟨(Int.tmod v.1 2 == 0), 0, ?_, ?_, fun h => ⟨n, v, q1, q2, q3, rfl, hl', .inr (by simpa using h)⟩⟩
       · apply vs_IsCentral
         simp only [bs_IsCentral, eV, hs, Option.bind_some, getTV_here, Bool.not_true, cond_false]
         simp only [cond_false, e1, e2, e3, hl, decide_eq_false h3]
         cases (Int.tmod v.1 2 == 0) <;> rfl
       · apply vi_IsCentral
         simp only [bi_IsCentral, eV, hi, Option.bind_some, getTV_here, Bool.not_true, cond_false]
         simp only [cond_false, e1, e2, e3, hl, decide_eq_false h4]
         rfl
     · have hb : ((((v.2.length : Nat) : Int)) == 0) = false := by rw [beq0n, decide_eq_false hl]
       refine ⟨false, 0, ?_, ?_, fun h => by simp at h⟩
       · apply vs_IsCentral
         simp only [bs_IsCentral, eV, hs, Option.bind_some, getTV_here, Bool.not_true, cond_false]
         simp only [cond_false, e1, e2, e3, hb]
       · apply vi_IsCentral
         simp only [bi_IsCentral, eV, hi, Option.bind_some, getTV_here, Bool.not_true, cond_false]
         simp only [cond_false, e1, e2, e3, hb, decide_eq_false h4]
theorem per_all (a : VN) (ha : Rows8 a.2.2) : ∃ (c : Bool) (e : Int), R is_IsPeriodic [tPIPILA8 a] = some [tB c, tI e] ∧ R ii_IsPeriodic [tPIPILA8 a] = some [tB c, tI e] ∧
  ∀ (n : Nat) (v : Nm n), 1 ≤ n → n ≤ 8 → OkN v 200 → a = enc v → c = perB v := by
 rcases nm_cases a with h1 | ⟨h1, n, v, q1, q2, q3, rfl⟩
 · have := c_IsPeriodic_bad ha h1
   refine ⟨_, _, this.1, this.2, fun n v h2 h3 h4 h5 => ?_⟩
   rw [h5, isNm_enc h2 h3 h4] at h1
   simp at h1
 · refine ⟨_, _, c_IsPeriodic_s q1 q2 q3, c_IsPeriodic_i q1 q2 q3, fun n' v' h2 h3 h4 h5 => ?_⟩
   have en : n = n' := by
    have := congrArg Prod.fst h5
    simp only [enc] at this
    omega
   subst en
   rw [enc_inj q2 h5]
theorem prod_dd {n : Nat} (p q : Int) : prod ((p, []) : Nm n) (q, []) = (p + q, []) := by
 unfold prod
 rw [tk_nil, List.append_nil]
 exact mk_nil _
theorem pN_nil {n : Nat} (p : Int) : ∀ k, (pN ((p, []) : Nm n) k).2 = []
 | 0 => rfl
 | k + 1 => by
  have := pN_nil (n := n) p k
  obtain ⟨q, B⟩ : Nm n := pN ((p, []) : Nm n) k
  rw [pN]
  generalize pN ((p, []) : Nm n) k = z at this
  obtain ⟨q, B⟩ := z
  simp only at this
  rw [this, prod_dd]
theorem per_cen {n : Nat} {v : Nm n} (h : v.2 = []) : perB v = true := by
 obtain ⟨p, A⟩ := v
 simp only at h
 subst h
 unfold perB
 rw [pN_nil]
 rfl
theorem cen_conj {n : Nat} (h1 : 1 ≤ n) {v w : Nm n} (hv : OkN v 200) (hw : OkN w 200) (h : v.2 = []) (hc : n ≤ 2 ∨ v.1.tmod 2 = 0) : prod (prod (invN w) v) w = v := by
 by_cases h2 : 2 ≤ n
 · have ht : tk v.1 w.2 = w.2 := by
    rcases hc with hc | hc
    · rw [small_nil h1 hc hw, tk_nil]
    · unfold tk
      rw [if_pos hc]
   have e : prod v w = prod w v := by
    obtain ⟨p, A⟩ := v
    simp only at h ht
    subst h
    unfold prod
    simp only [tk_nil, List.nil_append, List.append_nil, ht, Int.add_comm]
   rw [prod_assoc h2, e, ← prod_assoc h2, inv_l h2 hw.P, e_prod h2 hv.P]
 · obtain rfl : n = 1 := by omega
   rw [hv.one rfl, hw.one rfl]
   simp only [one_inv, one_prod]
theorem c_FnConjugates_j44 (p q r : VN) (e : Int)
  (hm : (e ≠ 0 ∧ r = NoV) ∨ (e = 0 ∧ ∃ (n : Nat) (v w : Nm n), 1 ≤ n ∧ n ≤ 8 ∧ OkN v 200 ∧ OkN w 200 ∧ OkN (prod (prod (invN w) v) w) 200 ∧ p = enc v ∧ q = enc w ∧ r = enc (prod (prod (invN w) v) w))) :
  R iw_FnConjugates_j44 [tI p.1, tI p.2.1, tLA8 p.2.2, tI q.1, tI q.2.1, tLA8 q.2.2, tI r.1, tI r.2.1, tLA8 r.2.2, tI e] = some [tI 0, tB true] := by
 have eV : ∀ x : VN, (x.1, x.2.1, x.2.2) = x := fun x => rfl
 apply vw_FnConjugates_j44
 rcases hm with ⟨he, rfl⟩ | ⟨rfl, n, v, w, h1, hn, hv, hw, hp, rfl, rfl, rfl⟩
 · simp [bw_FnConjugates_j44, ne_b he]
 · have e1 := back_conj h1 hv hw
   rcases mulI_n h1 hn hw hp with ⟨k1, m1⟩ | m1
   · rcases mulI_n h1 hn hv hw with ⟨k2, m2⟩ | m2
     · have n9 := c_norm9 _ (prod v w) k1
       rw [e1, decide_eq_true rfl] at n9
       rw [e1] at m1
       simp only [bw_FnConjugates_j44, eV, e0, cond_false, m1, m2, n9, Option.bind_some, getTV_here, getTV_next]
     · have t3 : ((3 : Int) != 0) = true := rfl
       simp only [bw_FnConjugates_j44, eV, e0, cond_false, cond_true, m1, m2, t3, Option.bind_some, getTV_here, getTV_next]
   · have t3 : ((3 : Int) != 0) = true := rfl
     rcases mulI_n h1 hn hv hw with ⟨k2, m2⟩ | m2
     · simp only [bw_FnConjugates_j44, eV, e0, cond_false, cond_true, m1, m2, t3, Option.bind_some, getTV_here, getTV_next]
     · simp only [bw_FnConjugates_j44, eV, e0, cond_false, cond_true, m1, m2, t3, Option.bind_some, getTV_here, getTV_next]
theorem c_FnConjugates_j35 (p q r x a b c : VN) (e e1 e2 e3 : Int)
  (J : R iw_FnConjugates_j44 [tI p.1, tI p.2.1, tLA8 p.2.2, tI q.1, tI q.2.1, tLA8 q.2.2, tI r.1, tI r.2.1, tLA8 r.2.2, tI e] = some [tI 0, tB true])
  (h1 : e1 = 0 → ∃ (n : Nat) (v : Nm n), 1 ≤ n ∧ n ≤ 8 ∧ OkN v 200 ∧ OkN (cyc v) 200 ∧ x = enc v ∧ a = enc (cyc v))
  (h2 : e2 = 0 → ∃ (n : Nat) (v : Nm n), 1 ≤ n ∧ n ≤ 8 ∧ OkN v 200 ∧ OkN (decyc v) 200 ∧ x = enc v ∧ b = enc (decyc v))
  (h3 : e3 = 0 → ∃ (n : Nat) (v : Nm n), 1 ≤ n ∧ n ≤ 8 ∧ OkN v 200 ∧ OkN (slide v) 200 ∧ x = enc v ∧ c = enc (slide v)) :
  R iw_FnConjugates_j35 [tI p.1, tI p.2.1, tLA8 p.2.2, tI q.1, tI q.2.1, tLA8 q.2.2, tI r.1, tI r.2.1, tLA8 r.2.2, tI x.1, tI x.2.1, tLA8 x.2.2, tI a.1, tI a.2.1, tLA8 a.2.2, tI b.1, tI b.2.1, tLA8 b.2.2, tI c.1, tI c.2.1, tLA8 c.2.2, tI e, tI e1, tI e2, tI e3] = some [tI 0, tB true] := by
 apply vw_FnConjugates_j35
 by_cases q1 : e1 = 0
 · by_cases q2 : e2 = 0
   · by_cases q3 : e3 = 0
     · subst q1 q2 q3
       obtain ⟨n, v, n1, n8, hv, ha, rfl, rfl⟩ := h1 rfl
       obtain ⟨n', v', _, _, _, hb, ev, rfl⟩ := h2 rfl
       have en : n = n' := by
        have := congrArg Prod.fst ev
        simp only [enc] at this
        omega
       subst en
       obtain rfl := enc_inj n8 ev
       obtain ⟨n', v', _, _, _, hc, ev', rfl⟩ := h3 rfl
       have en : n = n' := by
        have := congrArg Prod.fst ev'
        simp only [enc] at this
        omega
       subst en
       obtain rfl := enc_inj n8 ev'
       have r1 := cyc_rel n1 (Rel.refl hv)
       have r2 := decyc_rel n1 (Rel.refl hv)
       have r3 := slide_rel n1 hv
       have r1l := r1.lo
       have r1h := r1.hi
       have r2l := r2.lo
       have r2h := r2.hi
       have v1 := hv.lo
       have v2 := hv.hi
       have v3 := hv.len
       have a1 := ha.lo
       have a2 := ha.hi
       have a3 := ha.len
       have b1 := hb.lo
       have b2 := hb.hi
       have b3 := hb.len
       have c1 := hc.lo
       have c2 := hc.hi
       have c3 := hc.len
       have w0 : wi64 (v.1 + ((v.2.length : Nat) : Int)) = v.1 + ((v.2.length : Nat) : Int) := by rw [wrap_i64] <;> omega
       have w1 : wi64 ((cyc v).1 + (((cyc v).2.length : Nat) : Int)) = (cyc v).1 + (((cyc v).2.length : Nat) : Int) := by rw [wrap_i64] <;> omega
       have w2 : wi64 ((decyc v).1 + (((decyc v).2.length : Nat) : Int)) = (decyc v).1 + (((decyc v).2.length : Nat) : Int) := by rw [wrap_i64] <;> omega
       have w3 : wi64 ((slide v).1 + (((slide v).2.length : Nat) : Int)) = (slide v).1 + (((slide v).2.length : Nat) : Int) := by rw [wrap_i64] <;> omega
       have d1 : ¬ (cyc v).1 < v.1 := by omega
       have d2 : ¬ (decyc v).1 < v.1 := by omega
       have d3 : ¬ (slide v).1 < v.1 := by omega
       have f1 : ¬ v.1 + ((v.2.length : Nat) : Int) < (cyc v).1 + (((cyc v).2.length : Nat) : Int) := by omega
       have f2 : ¬ v.1 + ((v.2.length : Nat) : Int) < (decyc v).1 + (((decyc v).2.length : Nat) : Int) := by omega
       have f3 : ¬ v.1 + ((v.2.length : Nat) : Int) < (slide v).1 + (((slide v).2.length : Nat) : Int) := by omega
       obtain ⟨k1, c4, A1, A2⟩ := are_conj n1 n8 hv ha (both_enc n1 n8 hv ha) (cyc_CJ n1 hv)
       obtain ⟨k2, c5, B1, B2⟩ := are_conj n1 n8 hv hc (both_enc n1 n8 hv hc) (slide_CJ n1 hv)
       have g : ∀ u : Nm n, (enc u).1 = (n : Int) ∧ (enc u).2.1 = u.1 ∧ (((enc u).2.2.length : Nat) : Int) = ((u.2.length : Nat) : Int) := fun u => ⟨rfl, rfl, by rw [(enc_2 u).2]⟩
       have eV : ∀ x : VN, (x.1, x.2.1, x.2.2) = x := fun x => rfl
       have A1' : R ii_AreConjugate [tPIPILA8 ((enc v).1, ((enc v).2.1, (enc v).2.2)), tPIPILA8 ((enc (cyc v)).1, ((enc (cyc v)).2.1, (enc (cyc v)).2.2))] = some [tB k1, tI c4] := A1
       have B1' : R ii_AreConjugate [tPIPILA8 ((enc v).1, ((enc v).2.1, (enc v).2.2)), tPIPILA8 ((enc (slide v)).1, ((enc (slide v)).2.1, (enc (slide v)).2.2))] = some [tB k2, tI c5] := B1
       unfold bw_FnConjugates_j35
       rw [A1', B1']
       simp only [g, w0, w1, w2, w3, decide_eq_false d1, decide_eq_false d2, decide_eq_false d3, decide_eq_false f1, decide_eq_false f2, decide_eq_false f3, e0', cond_true, cond_false, Option.bind_some, getTV_here, getTV_next]
       by_cases n4 : (n : Int) ≤ 4
       · simp only [decide_eq_true n4, cond_true]
         by_cases z1 : c4 = 0
         · have := A2 z1
           subst z1 this
           by_cases z2 : c5 = 0
           · have := B2 z2
             subst z2 this
             simp only [e0', cond_true, cond_false, Bool.not_true, J, Option.bind_some, getTV_here, getTV_next]
           · simp only [e0', ne_e z2, cond_true, cond_false, Bool.not_true, J, Option.bind_some, getTV_here, getTV_next]
         · by_cases z2 : c5 = 0
           · have := B2 z2
             subst z2 this
             simp only [e0', ne_e z1, cond_true, cond_false, Bool.not_true, J, Option.bind_some, getTV_here, getTV_next]
           · simp only [ne_e z1, ne_e z2, cond_true, cond_false, Bool.not_true, J, Option.bind_some, getTV_here, getTV_next]
       · simp only [decide_eq_false n4, cond_false, J, Option.bind_some, getTV_here, getTV_next]
     · simp only [bw_FnConjugates_j35, q1, q2, e0', ne_e q3, cond_true, cond_false, J, Option.bind_some, getTV_here, getTV_next]
   · simp only [bw_FnConjugates_j35, q1, e0', ne_e q2, cond_true, cond_false, J, Option.bind_some, getTV_here, getTV_next]
 · simp only [bw_FnConjugates_j35, ne_e q1, cond_false, J, Option.bind_some, getTV_here, getTV_next]
theorem law_FnConjugates (a : List Int) (h : Fit (.slice (.int .u8)) a) : R iw_FnConjugates [tLU8 a] = some [tB true] := by
 obtain ⟨hl, hb⟩ := fit_bytes h
 apply vw_FnConjugates
 by_cases hB : 4096 < ((a.length : Nat) : Int)
 · simp [bw_FnConjugates, c_big, hB]
 · have hy : Bytes a := ⟨hb, by omega⟩
   have eV : ∀ x : VN, (x.1, x.2.1, x.2.2) = x := fun x => rfl
   obtain ⟨p, q, d1, hp, hq⟩ := c_DrawConjugateBy a hy
   obtain ⟨x, d2, hx⟩ := c_DrawCyclingOf a hy
   obtain ⟨y, d3, hY⟩ := c_DrawIsCentral a hy
   obtain ⟨r, e, m1, m2, ml, hm⟩ := conj_all p q hp.rows hq.rows
   obtain ⟨r1, e1, a1, a2, al, ha⟩ := cyc_all x hx.rows
   obtain ⟨r2, e2, b1, b2, bl, hbb⟩ := decyc_all x hx.rows
   obtain ⟨r3, e3, c1, c2, cl, hc⟩ := slide_all x hx.rows
   obtain ⟨z, e4, f1, f2, hz⟩ := cen_all y hY.rows
   obtain ⟨u, e5, g1, g2, hu⟩ := per_all y hY.rows
   have n1 := c_normal9 r r (by omega)
   have n2 := c_normal9 r1 r1 (by omega)
   have n3 := c_normal9 r2 r2 (by omega)
   have n4 := c_normal9 r3 r3 (by omega)
   rw [decide_eq_true rfl] at n1 n2 n3 n4
   have J := c_FnConjugates_j35 p q r x r1 r2 r3 e e1 e2 e3 (c_FnConjugates_j44 p q r e hm) ha hbb hc
   cases z with
   | false =>
    simp only [bw_FnConjugates, eV, c_big, decide_eq_false hB, cond_false, d1, d2, d3, m1, m2, a1, a2, b1, b2, c1, c2, f1, f2, g1, g2, n1, n2, n3, n4, Option.bind_some, getTV_here, getTV_next, bne_self_eq_false, Bool.not_true, J]
   | true =>
    obtain ⟨n, v, h1, hn, hv, rfl, hnil, hev⟩ := hz rfl
    have hu' := hu n v h1 hn hv rfl
    rw [per_cen hnil] at hu'
    subst hu'
    have eN : (enc v).1 = (n : Int) := rfl
    by_cases hn1 : (1 : Int) < (enc v).1
    · obtain ⟨s, t1, hs⟩ := c_roll a hy.1 hy.2 9904
      obtain ⟨l, s', t2, _, hL, hll⟩ := c_letters9 s hs n (by omega) 4 (by omega)
      have t2' : R iw_letters9 [tPLU8PIU64 s, tI (enc v).1, tI 4] = some [tLI l, tPLU8PIU64 s'] := t2
      have t3 : R ii_NormalOf [tPILI ((enc v).1, l)] = some [tPIPILA8 (enc (nOf n l)), tI 0] := normalOf_ok h1 hn hL (by omega)
      have hg := nOf_okN h1 hL (by omega)
      obtain ⟨r4, e6, k1, k2, kl, hk⟩ := conj_all (enc v) (enc (nOf n l)) (sL_rows hn _) (sL_rows hn _)
      by_cases z6 : e6 = 0
      · subst z6
        rcases hk with ⟨hk, _⟩ | ⟨_, n', v', w', _, _, hv', hw', _, ev, ew, er⟩
        · exact absurd rfl hk
        · have en : n = n' := by
           have := congrArg Prod.fst ev
           simp only [enc] at this
           omega
          subst en
          obtain rfl := enc_inj hn ev
          obtain rfl := enc_inj hn ew
          rw [cen_conj h1 hv' hw' hnil hev] at er
          subst er
          have n5 := c_norm9 v v hv
          rw [decide_eq_true rfl] at n5
          simp only [bw_FnConjugates, eV, c_big, decide_eq_false hB, cond_false, cond_true, d1, d2, d3, m1, m2, a1, a2, b1, b2, c1, c2, f1, f2, g1, g2, n1, n2, n3, n4, n5, Option.bind_some, getTV_here, getTV_next, bne_self_eq_false, Bool.not_true, decide_eq_true hn1, t1, t2', t3, k2, e0, e0', J]
      · simp only [bw_FnConjugates, eV, c_big, decide_eq_false hB, cond_false, cond_true, d1, d2, d3, m1, m2, a1, a2, b1, b2, c1, c2, f1, f2, g1, g2, n1, n2, n3, n4, Option.bind_some, getTV_here, getTV_next, bne_self_eq_false, Bool.not_true, decide_eq_true hn1, t1, t2', t3, k2, e0, e0', ne_e z6, J]
    · simp only [bw_FnConjugates, eV, c_big, decide_eq_false hB, cond_false, cond_true, d1, d2, d3, m1, m2, a1, a2, b1, b2, c1, c2, f1, f2, g1, g2, n1, n2, n3, n4, Option.bind_some, getTV_here, getTV_next, bne_self_eq_false, Bool.not_true, decide_eq_false hn1, J]
end Go.Ev.YtgfleapbganjiaaGreat
