/- Beginnings and fractions of normal forms: the law. -/
import Derived.Test.YtpfpjhfimmmkmaaMw3
import Derived.Test.YtpfpjhfimmmkmaaMnJ
set_option linter.unusedVariables false
set_option linter.unusedSimpArgs false
namespace Go.Ev.Ytpfpjhfimmmkmaa
open Go.Ev Go.Gar
/-- A drawn normal form of any sort. -/
structure Ne (a : Int × Int × List (List Int)) : Prop where
  rows : Rows8 a.2.2
  len : a.2.2.length ≤ 2000
theorem Nd.ne {a : Int × Int × List (List Int)} (h : Nd a) : Ne a := ⟨h.rows, by have := h.len; omega⟩
theorem prod_ne {a b : Int × Int × List (List Int)} (ha : Nd a) (hb : Nd b) (na : isNm a = true) (nb : isNm b = true) (hab : a.1 = b.1) (x y : Int) (hx : 0 ≤ x ∧ x ≤ 2) (hy : 0 ≤ y ∧ y ≤ 2) (h1 : a.1 < 2 → x = 0 ∧ y = 0) :
    ∃ c, R is_l03Product [tPIPILA8 (a.1, x, a.2.2), tPIPILA8 (b.1, y, b.2.2)] = some [tPIPILA8 c] ∧ Ne c := by
  rcases nm_cases a with h | ⟨_, n, v, q1, q2, q3, rfl⟩
  · rw [h] at na; cases na
  rcases nm_cases b with h | ⟨_, m, w, r1, r2, r3, rfl⟩
  · rw [h] at nb; cases nb
  have e : n = m := by simp only [enc] at hab; omega
  subst e
  have hv : OkN ((x, v.2) : Nm n) 200 := ⟨q3.P, q3.len, by simp only; omega, by simp only; omega, fun h => by
    have := h1 (by simp only [enc]; omega)
    rw [this.1, q3.one h]⟩
  have hw : OkN ((y, w.2) : Nm n) 200 := ⟨r3.P, r3.len, by simp only; omega, by simp only; omega, fun h => by
    have := h1 (by simp only [enc]; omega)
    rw [this.2, r3.one h]⟩
  have := c_l03Product n q1 q2 (x, v.2) (y, w.2) (hv.mono (by omega)) (hw.mono (by omega))
  refine ⟨_, this, sL_rows q2 _, ?_⟩
  have := (prod_ok q1 hv hw).len
  simp only [enc, sL_len]
  omega
theorem Nd.at {a : Int × Int × List (List Int)} (h : Nd a) (x : Int) : Ne (a.1, x, a.2.2) := ⟨h.rows, by have := h.len; show a.2.2.length ≤ 2000; omega⟩
theorem c_l03Up (a : List Int) (h : Bytes a) : ∃ b c, R is_l03Up [tLU8 a] = some [tPIPILA8 b, tPIPILA8 c] ∧ Ne b ∧ Ne c := by
  obtain ⟨s, e, hs⟩ := c_l01From a h.1 h.2
  obtain ⟨b, c, e2, hb, hc⟩ := c_l03Pair a h
  obtain ⟨r3, s3, e3, hs3, _, _⟩ := c_next s hs 10
  have ib := c_l03Is b hb.rows
  have ic := c_l03Is c hc.rows
  by_cases h3 : 0 < r3
  · have p3 : decide (0 < r3) = true := decide_eq_true h3
    cases hB : isNm b with
    | false =>
      rw [hB] at ib
      refine ⟨b, c, ?_, hb.ne, hc.ne⟩
      apply vs_l03Up
      simp only [bs_l03Up, e, e2, e3, p3, ib, cond_true, cond_false, Option.bind_some, getTV_here, getTV_next]
    | true =>
      rw [hB] at ib
      cases hC : isNm c with
      | false =>
        rw [hC] at ic
        refine ⟨b, c, ?_, hb.ne, hc.ne⟩
        apply vs_l03Up
        simp only [bs_l03Up, e, e2, e3, p3, ib, ic, cond_true, cond_false, Option.bind_some, getTV_here, getTV_next]
      | true =>
        rw [hC] at ic
        obtain ⟨r6, s6, e6, hs6, a6, b6⟩ := c_next s3 hs3 2
        obtain ⟨r7, s7, e7, hs7, a7, b7⟩ := c_next s6 hs6 3
        obtain ⟨r8, s8, e8, hs8, _, _⟩ := c_next s7 hs7 3
        have b6' := b6 (by omega)
        have b7' := b7 (by omega)
        by_cases q1 : b.1 < 2
        · have p4 : decide (b.1 < 2) = true := decide_eq_true q1
          by_cases q2 : r8 = 0
          · have p5 : (r8 == 0) = true := by simp [q2]
            by_cases q3 : b.1 = c.1
            · have p6 : (b.1 == c.1) = true := by simp [q3]
              obtain ⟨d, e9, hd⟩ := prod_ne hb hc hB hC q3 0 0 (by omega) (by omega) (fun _ => ⟨rfl, rfl⟩)
              refine ⟨(b.1, 0, b.2.2), d, ?_, hb.at 0, hd⟩
              apply vs_l03Up
              simp only [bs_l03Up, e, e2, e3, p3, ib, ic, e6, e7, e8, p4, p5, p6, e9, cond_true, cond_false, Option.bind_some, getTV_here, getTV_next]
            · have p6 : (b.1 == c.1) = false := by simp [q3]
              refine ⟨(b.1, 0, b.2.2), (c.1, 0, c.2.2), ?_, hb.at 0, hc.at 0⟩
              apply vs_l03Up
              simp only [bs_l03Up, e, e2, e3, p3, ib, ic, e6, e7, e8, p4, p5, p6, cond_true, cond_false, Option.bind_some, getTV_here, getTV_next]
          · have p5 : (r8 == 0) = false := by simp [q2]
            refine ⟨(b.1, 0, b.2.2), (c.1, 0, c.2.2), ?_, hb.at 0, hc.at 0⟩
            apply vs_l03Up
            simp only [bs_l03Up, e, e2, e3, p3, ib, ic, e6, e7, e8, p4, p5, cond_true, cond_false, Option.bind_some, getTV_here, getTV_next]
        · have p4 : decide (b.1 < 2) = false := decide_eq_false q1
          by_cases q1' : c.1 < 2
          · have p4' : decide (c.1 < 2) = true := decide_eq_true q1'
            by_cases q2 : r8 = 0
            · have p5 : (r8 == 0) = true := by simp [q2]
              by_cases q3 : b.1 = c.1
              · exact absurd q1' (by omega)
              · have p6 : (b.1 == c.1) = false := by simp [q3]
                refine ⟨(b.1, 0, b.2.2), (c.1, 0, c.2.2), ?_, hb.at 0, hc.at 0⟩
                apply vs_l03Up
                simp only [bs_l03Up, e, e2, e3, p3, ib, ic, e6, e7, e8, p4, p4', p5, p6, cond_true, cond_false, Option.bind_some, getTV_here, getTV_next]
            · have p5 : (r8 == 0) = false := by simp [q2]
              refine ⟨(b.1, 0, b.2.2), (c.1, 0, c.2.2), ?_, hb.at 0, hc.at 0⟩
              apply vs_l03Up
              simp only [bs_l03Up, e, e2, e3, p3, ib, ic, e6, e7, e8, p4, p4', p5, cond_true, cond_false, Option.bind_some, getTV_here, getTV_next]
          · have p4' : decide (c.1 < 2) = false := decide_eq_false q1'
            by_cases q2 : r8 = 0
            · have p5 : (r8 == 0) = true := by simp [q2]
              by_cases q3 : b.1 = c.1
              · have p6 : (b.1 == c.1) = true := by simp [q3]
                obtain ⟨d, e9, hd⟩ := prod_ne hb hc hB hC q3 r6 r7 (by omega) (by omega) (fun h => absurd h q1)
                refine ⟨(b.1, r6, b.2.2), d, ?_, hb.at r6, hd⟩
                apply vs_l03Up
                simp only [bs_l03Up, e, e2, e3, p3, ib, ic, e6, e7, e8, p4, p4', p5, p6, e9, cond_true, cond_false, Option.bind_some, getTV_here, getTV_next]
              · have p6 : (b.1 == c.1) = false := by simp [q3]
                refine ⟨(b.1, r6, b.2.2), (c.1, r7, c.2.2), ?_, hb.at r6, hc.at r7⟩
                apply vs_l03Up
                simp only [bs_l03Up, e, e2, e3, p3, ib, ic, e6, e7, e8, p4, p4', p5, p6, cond_true, cond_false, Option.bind_some, getTV_here, getTV_next]
            · have p5 : (r8 == 0) = false := by simp [q2]
              refine ⟨(b.1, r6, b.2.2), (c.1, r7, c.2.2), ?_, hb.at r6, hc.at r7⟩
              apply vs_l03Up
              simp only [bs_l03Up, e, e2, e3, p3, ib, ic, e6, e7, e8, p4, p4', p5, cond_true, cond_false, Option.bind_some, getTV_here, getTV_next]
  · have p3 : decide (0 < r3) = false := decide_eq_false h3
    refine ⟨b, c, ?_, hb.ne, hc.ne⟩
    apply vs_l03Up
    simp only [bs_l03Up, e, e2, e3, p3, cond_true, cond_false, Option.bind_some, getTV_here, getTV_next]
theorem c_DrawCommonBeginning (a : List Int) (h : Bytes a) : ∃ b c, R is_DrawCommonBeginning [tLU8 a] = some [tPIPILA8 b, tPIPILA8 c] ∧ Ne b ∧ Ne c := by
  obtain ⟨b, c, e, hb, hc⟩ := c_l03Up a h
  refine ⟨b, c, ?_, hb, hc⟩
  apply vs_DrawCommonBeginning
  simp only [bs_DrawCommonBeginning, e, Option.bind_some, getTV_here, getTV_next]
theorem c_DrawIsBeginningOf (a : List Int) (h : Bytes a) : ∃ b c, R is_DrawIsBeginningOf [tLU8 a] = some [tPIPILA8 b, tPIPILA8 c] ∧ Ne b ∧ Ne c := by
  obtain ⟨b, c, e, hb, hc⟩ := c_l03Up a h
  refine ⟨b, c, ?_, hb, hc⟩
  apply vs_DrawIsBeginningOf
  simp only [bs_DrawIsBeginningOf, e, Option.bind_some, getTV_here, getTV_next]
/-! ### the three functions -/
/-- What a common beginning g of v and w has. -/
structure Gcd {n : Nat} (v w g : Nm n) : Prop where
  ok : OkN g 200
  pos : 0 ≤ g.1
  l : 0 ≤ (prod (invN g) v).1
  r : 0 ≤ (prod (invN g) w).1
  one : (Pm.lat n).meet (hd v) (hd w) = 1 → v.1 = 0 ∨ w.1 = 0 → g = (0, [])
theorem gcd_of {n : Nat} (h1 : 1 ≤ n) {v w : Nm n} {k : Int} {M : List (Pm n)} {a' b' : Nm n} (hv : OkN v 200) (hw : OkN w 200)
    (lM : M.length ≤ 200) (h : n = 1 ∧ a' = (0, []) ∧ k = 0 ∧ M = [] ∨ (2 ≤ n ∧ 0 ≤ k ∧ k ≤ v.1 ∧ k ≤ w.1 ∧ Gi 200 (v.1 - k, v.2) (w.1 - k, w.2) M a' b')) : Gcd v w (k, M) := by
  rcases h with ⟨e, rfl, rfl, rfl⟩ | ⟨h2, k0, k1, k2, g⟩
  · have ev := hv.one e
    have ew := hw.one e
    have ei : invN ((0, []) : Nm n) = (0, []) := rfl
    have ep : prod ((0, []) : Nm n) (0, []) = (0, []) := mk_nil _
    exact ⟨zero_okN n 200, Int.le_refl _, by rw [ev, ei, ep]; exact Int.le_refl _, by rw [ew, ei, ep]; exact Int.le_refl _, fun _ _ => rfl⟩
  · have ea : prod (k, M) a' = v := shift k _ _ v g.Ea
    have eb : prod (k, M) b' = w := shift k _ _ w g.Eb
    have hM : (Pm.lat n).Proper ((k, M) : Nm n).2 := g.P
    have := hv.hi
    refine ⟨⟨g.P, lM, by show -((200 : Nat) : Int) ≤ k; omega, by show k ≤ ((200 : Nat) : Int); omega, fun h => by omega⟩, k0, ?_, ?_, ?_⟩
    · rw [← ea, ← prod_assoc h2, inv_l h2 hM, e_prod h2 g.Pa]
      exact g.pa
    · rw [← eb, ← prod_assoc h2, inv_l h2 hM, e_prod h2 g.Pb]
      exact g.pb
    · intro hm hw0
      obtain rfl : k = 0 := by omega
      have l1 := hd_prod h2 (a := ((0, M) : Nm n)) (u := a') (Int.le_refl _) g.pa
      have l2 := hd_prod h2 (a := ((0, M) : Nm n)) (u := b') (Int.le_refl _) g.pb
      rw [ea] at l1
      rw [eb] at l2
      exact hd_one h2 hM (Int.le_refl _) (Lat.meet_le (Γ := Pm.lat n) trivial trivial trivial l1 l2 hm)
theorem com_all (a b : Int × Int × List (List Int)) (ha : Rows8 a.2.2) (hb : Rows8 b.2.2) : ∃ (r : Int × Int × List (List Int)) (e : Int),
    R is_CommonBeginning [tPIPILA8 a, tPIPILA8 b] = some [tPIPILA8 r, tI e] ∧ R ii_CommonBeginning [tPIPILA8 a, tPIPILA8 b] = some [tPIPILA8 r, tI e] ∧ r.2.2.length ≤ 200 ∧
    ((e ≠ 0 ∧ r = NoV) ∨ (e = 0 ∧ ∃ (n : Nat) (v w g : Nm n), 1 ≤ n ∧ n ≤ 8 ∧ OkN v 200 ∧ OkN w 200 ∧ 0 ≤ v.1 ∧ 0 ≤ w.1 ∧ Gcd v w g ∧ a = enc v ∧ b = enc w ∧ r = enc g)) := by
  rcases posC_cases a b with h1 | ⟨h1, h2, n, v, w, q1, q2, q3, q4, q5, q6, rfl, rfl⟩
  · have := c_CommonBeginning_bad ha hb h1
    exact ⟨NoV, _, this.1, this.2, by simp, .inl ⟨h1, rfl⟩⟩
  · obtain ⟨k, M, a', b', m1, _, m4, m2, m3⟩ := c_common_all n q1 q2 v w q3 q4 q5 q6 h2
    refine ⟨enc ((k, M) : Nm n), 0, ?_, m3, by simp only [enc, sL_len]; exact m1, .inr ⟨rfl, n, v, w, (k, M), q1, q2, q3, q4, q5, q6, gcd_of q1 q3 q4 m1 m4, rfl, rfl, rfl⟩⟩
    apply vs_CommonBeginning
    simp [bs_CommonBeginning, c_l03Positive _ _ ha hb, h1, m2]
theorem com_y {n : Nat} (h1 : 1 ≤ n) (hn : n ≤ 8) {v w : Nm n} (hv : OkN v 200) (hw : OkN w 200) (pv : 0 ≤ v.1) (pw : 0 ≤ w.1) : ∃ g : Nm n, R ii_CommonBeginning [tPIPILA8 (enc v), tPIPILA8 (enc w)] = some [tPIPILA8 (enc g), tI 0] ∧ Gcd v w g := by
  obtain ⟨k, M, a', b', m1, _, m4, m2, m3⟩ := c_common_all n h1 hn v w hv hw pv pw (both_enc h1 hn hv hw)
  exact ⟨(k, M), m3, gcd_of h1 hv hw m1 m4⟩
theorem posC_enc {n : Nat} (h1 : 1 ≤ n) (hn : n ≤ 8) {v w : Nm n} (hv : OkN v 200) (hw : OkN w 200) (pv : 0 ≤ v.1) (pw : 0 ≤ w.1) : posC (enc v) (enc w) = 0 := by
  unfold posC
  rw [if_pos (both_enc h1 hn hv hw), if_neg]
  simp only [enc]
  omega
theorem isb_all (a b : Int × Int × List (List Int)) (ha : Rows8 a.2.2) (hb : Rows8 b.2.2) : ∃ (r : Bool) (e : Int),
    R is_IsBeginningOf [tPIPILA8 a, tPIPILA8 b] = some [tB r, tI e] ∧ R ii_IsBeginningOf [tPIPILA8 a, tPIPILA8 b] = some [tB r, tI e] ∧
    (e ≠ 0 ∨ (e = 0 ∧ ∃ (n : Nat) (v w : Nm n), 1 ≤ n ∧ n ≤ 8 ∧ OkN v 200 ∧ OkN w 200 ∧ r = decide (0 ≤ (prod (invN v) w).1) ∧ a = enc v ∧ b = enc w)) := by
  rcases posC_cases a b with h1 | ⟨h1, h2, n, v, w, q1, q2, q3, q4, q5, q6, rfl, rfl⟩
  · have := c_IsBeginningOf_bad ha hb h1
    exact ⟨_, _, this.1, this.2, .inl h1⟩
  · obtain ⟨r, hr, m2, m3⟩ := c_IsBeginningOf_ok q1 q2 q3 q4 q5 q6 h2 h1
    exact ⟨r, 0, m2, m3, .inr ⟨rfl, n, v, w, q1, q2, q3, q4, hr, rfl, rfl⟩⟩
theorem isb_y {n : Nat} (h1 : 1 ≤ n) (hn : n ≤ 8) {v w : Nm n} (hv : OkN v 200) (hw : OkN w 200) (pv : 0 ≤ v.1) (pw : 0 ≤ w.1) (h : 0 ≤ (prod (invN v) w).1) : R ii_IsBeginningOf [tPIPILA8 (enc v), tPIPILA8 (enc w)] = some [tB true, tI 0] := by
  obtain ⟨r, hr, m2, m3⟩ := c_IsBeginningOf_ok h1 hn hv hw pv pw (both_enc h1 hn hv hw) (posC_enc h1 hn hv hw pv pw)
  rw [decide_eq_true h] at hr
  rw [hr] at m3
  exact m3
theorem fra_all (a : Int × Int × List (List Int)) (ha : Rows8 a.2.2) : ∃ (r r' : Int × Int × List (List Int)) (e : Int),
    R is_FractionOf [tPIPILA8 a] = some [tPIPILA8 r, tPIPILA8 r', tI e] ∧ R ii_FractionOf [tPIPILA8 a] = some [tPIPILA8 r, tPIPILA8 r', tI e] ∧ r.2.2.length ≤ 200 ∧ r'.2.2.length ≤ 200 ∧
    (e ≠ 0 ∨ (e = 0 ∧ ∃ (n : Nat) (v x y : Nm n), 1 ≤ n ∧ n ≤ 8 ∧ OkN v 200 ∧ OkN x 200 ∧ OkN y 200 ∧ 0 ≤ x.1 ∧ 0 ≤ y.1 ∧ OkN (invN x) 200 ∧ prod (invN x) y = v ∧ (Pm.lat n).meet (hd x) (hd y) = 1 ∧ (x.1 = 0 ∨ y.1 = 0) ∧ a = enc v ∧ r = enc x ∧ r' = enc y)) := by
  rcases nm_cases a with h1 | ⟨_, n, v, q1, q2, q3, rfl⟩
  · have := c_FractionOf_bad ha h1
    exact ⟨NoV, NoV, 1, this.1, this.2, by simp, by simp, .inl (by decide)⟩
  · obtain ⟨x, y, l1, l2, l3, l4, l5, l6, l7, l8, m1, m2⟩ := c_FractionOf_ok q1 q2 q3
    exact ⟨_, _, 0, m1, m2, by simp only [enc, sL_len]; exact l1.len, by simp only [enc, sL_len]; exact l2.len, .inr ⟨rfl, n, v, x, y, q1, q2, q3, l1, l2, l3, l4, l5, l6, l7, l8, rfl, rfl, rfl⟩⟩
theorem hd_zero {n : Nat} : hd ((0, []) : Nm n) = 1 := rfl
end Go.Ev.Ytpfpjhfimmmkmaa
