/- Beginnings of normal forms: the law. -/
import Derived.Test.YtpfpjhfimmmkmaaMw4
set_option linter.unusedVariables false
set_option linter.unusedSimpArgs false
namespace Go.Ev.Ytpfpjhfimmmkmaa
open Go.Ev Go.Gar
theorem law_FnBeginnings (a : List Int) (h : Fit (.slice (.int .u8)) a) : R iw_FnBeginnings [tLU8 a] = some [tB true] := by
  obtain ⟨hl, hb⟩ := fit_bytes h
  apply vw_FnBeginnings
  by_cases hB : 4096 < ((a.length : Nat) : Int)
  · simp [bw_FnBeginnings, c_big, hB]
  · have hy : Bytes a := ⟨hb, by omega⟩
    obtain ⟨p, q, d1, hp, hq⟩ := c_DrawCommonBeginning a hy
    obtain ⟨x, y, d2, hx, hy'⟩ := c_DrawIsBeginningOf a hy
    obtain ⟨w, d3, hw⟩ := c_DrawFractionOf a hy
    obtain ⟨r, e, m1, m2, ml, hm⟩ := com_all p q hp.rows hq.rows
    obtain ⟨rb, eb, b1, b2, hbm⟩ := isb_all x y hx.rows hy'.rows
    obtain ⟨rf, rf', ef, f1, f2, fl, fl', hf⟩ := fra_all w hw.rows
    have J29 : R iw_FnBeginnings_j29 [tI p.1, tI p.2.1, tLA8 p.2.2, tI q.1, tI q.2.1, tLA8 q.2.2, tI r.1, tI r.2.1, tLA8 r.2.2, tI e] = some [tI 0, tB true] := by
      apply vw_FnBeginnings_j29
      rcases hm with ⟨he, rfl⟩ | ⟨rfl, n, v, u, g, h1, hn, hv, hu, pv, pu, hg, rfl, rfl, rfl⟩
      · simp [bw_FnBeginnings_j29, ne_b he]
      · have i1 := isb_y h1 hn hg.ok hv hg.pos pv hg.l
        have i2 := isb_y h1 hn hg.ok hu hg.pos pu hg.r
        simp only [bw_FnBeginnings_j29, e0, e0', cond_false, cond_true, i1, i2, Option.bind_some, getTV_here, getTV_next]
    have J24 : R iw_FnBeginnings_j24 [tI p.1, tI p.2.1, tLA8 p.2.2, tI q.1, tI q.2.1, tLA8 q.2.2, tI r.1, tI r.2.1, tLA8 r.2.2, tI x.1, tI x.2.1, tLA8 x.2.2, tI y.1, tI y.2.1, tLA8 y.2.2, tI e, tB rb, tI eb] = some [tI 0, tB true] := by
      apply vw_FnBeginnings_j24
      rcases hbm with hbe | ⟨rfl, n, v, u, h1, hn, hv, hu, hr, rfl, rfl⟩
      · simp only [bw_FnBeginnings_j24, ne_e hbe, cond_false, J29, Option.bind_some, getTV_here, getTV_next]
      · obtain ⟨ri, ei, _, i2, _, him⟩ := inv_all (enc v) (sL_rows hn _)
        rcases him with ⟨hie, rfl⟩ | ⟨rfl, n', v', h1', hn', hv', hiv, ev, rfl⟩
        · obtain ⟨rm, em, _, k2, _, _⟩ := mul_all NoV (enc u) (fun x hx => by simp at hx) (sL_rows hn _)
          simp only [bw_FnBeginnings_j24, e0', cond_true, cond_false, i2, k2, ne_e hie, J29, Option.bind_some, getTV_here, getTV_next]
        · have en : n = n' := by
            have := congrArg Prod.fst ev
            simp only [enc] at this
            omega
          subst en
          have evv : v = v' := by
            simp only [enc, Prod.mk.injEq] at ev
            exact Prod.ext ev.2.1 (sL_inj hn ev.2.2)
          subst evv
          rcases mul_n h1 hn hiv hu with ⟨hok, k2⟩ | k2
          · have ee : (decide (0 ≤ (enc (prod (invN v) u)).2.1) != rb) = false := by
              rw [hr]
              exact bne_self_eq_false _
            simp only [bw_FnBeginnings_j24, e0', cond_true, cond_false, i2, k2, ee, J29, Option.bind_some, getTV_here, getTV_next]
          · have t3 : ((3 : Int) == 0) = false := rfl
            simp only [bw_FnBeginnings_j24, e0', cond_true, cond_false, i2, k2, t3, J29, Option.bind_some, getTV_here, getTV_next]
    have n1 := c_normal9 r r (by omega)
    have n2 := c_normal9 rf rf (by omega)
    have n3 := c_normal9 rf' rf' (by omega)
    rw [decide_eq_true rfl] at n1 n2 n3
    rcases hf with hfe | ⟨rfl, n, v, s, t, h1, hn, hv, hs, ht, ps, pt, hi, hst, hmt, h0, rfl, rfl, rfl⟩
    · simp only [bw_FnBeginnings, c_big, decide_eq_false hB, cond_false, cond_true, d1, d2, d3, m1, m2, b1, b2, f1, f2, Option.bind_some, getTV_here, getTV_next, bne_self_eq_false, n1, n2, n3, Bool.not_true, ne_e hfe, J24]
    · have z1 : R ii_InverseNormal [tPIPILA8 (enc s)] = some [tPIPILA8 (enc (invN s)), tI 0] := by
        have := (c_InverseNormal_ok h1 hn hs).2
        rw [lim_ok hi] at this
        exact this
      have z2 := mul_y h1 hn hi ht (by rw [hst]; exact hv)
      rw [hst] at z2
      obtain ⟨g, z3, hg⟩ := com_y h1 hn hs ht ps pt
      have hg0 := hg.one hmt h0
      subst hg0
      have z4 := c_norm9 v v hv
      rw [decide_eq_true rfl] at z4
      have z5 : R iw_trivial9 [tPIPILA8 (enc ((0, []) : Nm n))] = some [tB true] := c_trivial9 (n : Int) 0
      simp only [bw_FnBeginnings, c_big, decide_eq_false hB, cond_false, cond_true, d1, d2, d3, m1, m2, b1, b2, f1, f2, Option.bind_some, getTV_here, getTV_next, bne_self_eq_false, n1, n2, n3, Bool.not_true, e0', e0, z1, z2, z3, z4, z5, J24]
end Go.Ev.Ytpfpjhfimmmkmaa
