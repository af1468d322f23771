/- Dual forms and normal forms: the law. -/
import Derived.Test.YteclcmiopobnaaaMp22
import Derived.Test.YteclcmiopobnaaaMq7
import Derived.Test.YteclcmiopobnaaaMx2
set_option linter.unusedVariables false
set_option linter.unusedSimpArgs false
namespace Go.Ev.Yteclcmiopobnaaa
open Go.Ev Go.Gar
theorem c_braid5 (a : Int × List Int) (h : a.2.length < 1000000000) : R iw_braid5 [tPILI a, tPILI a] = some [tB true] := by
 apply vw_braid5
 have e := c_likeInts a.2 a.2 h
 rw [decide_eq_true rfl] at e
 simp only [bw_braid5, beq_self_eq_true, cond_true, e, Option.bind_some, getTV_here]
theorem c_dual5_4 (x0 x1 x3 x4 : Int) (a : List (List Int)) (h0 : a.length < 1000000000) : ∀ (d i : Nat), i + d = a.length → R iw_dual5_4 [tI x0, tI x1, tLA8 a, tI x3, tI x4, tLA8 a, tI (i : Int)] = some [tI 0] := by
 intro d
 induction d with
 | zero =>
  intro i hi
  apply vw_dual5_4
  have p1 : decide ((i : Int) < ((a.length : Nat) : Int)) = false := decide_eq_false (by omega)
  simp only [bw_dual5_4, p1, cond_false]
 | succ d ih =>
  intro i hi
  apply vw_dual5_4
  have p1 : decide ((i : Int) < ((a.length : Nat) : Int)) = true := decide_eq_true (by omega)
  have p3 : decide (0 ≤ (i : Int)) = true := decide_eq_true (by omega)
  have w : wi64 ((i : Int) + 1) = ((i + 1 : Nat) : Int) := by rw [wrap_i64] <;> omega
  simp only [bw_dual5_4, p1, p3, cond_true, cond_false, Bool.and_true, w, bne_self_eq_false, ih (i + 1) (by omega)]
theorem c_dual5 (a : Int × Int × List (List Int)) (h0 : a.2.2.length < 1000000000) : R iw_dual5 [tPIPILA8 a, tPIPILA8 a] = some [tB true] := by
 have h := c_dual5_4 a.1 a.2.1 a.1 a.2.1 a.2.2 h0 a.2.2.length 0 (by omega)
 simp only [Int.natCast_zero] at h
 have e : ((0 : Int) == 0) = true := rfl
 apply vw_dual5
 simp only [bw_dual5, bne_self_eq_false, cond_false, h, Option.bind_some, getTV_here, e, cond_true]
theorem e0 : ((0 : Int) != 0) = false := rfl
theorem e0' : ((0 : Int) == 0) = true := rfl
theorem ne_e {e : Int} (h : e ≠ 0) : (e == 0) = false := by simp [h]
theorem Lr_one {w : List Int} (h : ∀ x ∈ w, Lr 1 x) : w = [] := by
 cases w with
 | nil => rfl
 | cons x w =>
  have := h x List.mem_cons_self
  unfold Lr at this
  omega
theorem both_forms {n : Nat} (h1 : 1 ≤ n) {a b : List Int} (ha : ∀ x ∈ a, Lr n x) (hb : ∀ x ∈ b, Lr n x) : P.dOf n h1 a = P.dOf n h1 b ↔ nOf n a = nOf n b := by
 by_cases h2 : 2 ≤ n
 · constructor
   · intro h
     exact nOf_BE h2 (P.BE_of_dOf h2 ha hb h)
   · intro h
     exact P.dOf_BE h2 (BE_of_nOf h2 ha hb h)
 · obtain rfl : n = 1 := by omega
   rw [Lr_one ha, Lr_one hb]
   simp
theorem enc_iff {n : Nat} (hn : n ≤ 8) {v w : Nm n} : enc v = enc w ↔ v = w := by
 constructor
 · intro h
   simp only [enc, Prod.mk.injEq] at h
   exact Prod.ext h.2.1 (sL_inj hn h.2.2)
 · intro h
   rw [h]
theorem c_FnDuals_j26 (a : List Int) (hy : Bytes a) : R iw_FnDuals_j26 [tLU8 a] = some [tI 0, tB true] := by
 obtain ⟨g, d1, hg⟩ := P.c_DrawWordOfDual a hy
 have hl := hg.len
 obtain ⟨v, y, hv, w1, w2⟩ := P.both_WordOfDual g hg.rows (by omega)
 obtain ⟨r, i1, i2⟩ := P.dual_both g hg.rows (by omega)
 have b5 := c_braid5 v (by omega)
 apply vw_FnDuals_j26
 simp only [bw_FnDuals_j26, d1, w1, w2, i1, i2, b5, beq_self_eq_true, cond_true, Option.bind_some, getTV_here, getTV_next]
theorem c_FnDuals_j17 (a : List Int) (hy : Bytes a) : R iw_FnDuals_j17 [tLU8 a] = some [tI 0, tB true] := by
 have J := c_FnDuals_j26 a hy
 obtain ⟨e, f, d1, he, hf⟩ := P.c_DrawEqualByBands a hy
 obtain ⟨r, c, q1, q2, q3⟩ := P.dual_both3 e f he.l he.i64 hf.l hf.i64
 have s2 := c_SameBraid_i e f he.l hf.l
 apply vw_FnDuals_j17
 rcases q3 with q3 | ⟨rfl, n, h1, hn, en, fn, be, bf, rfl⟩
 · simp only [bw_FnDuals_j17, d1, q1, q2, bne_self_eq_false, ne_e q3, cond_false, J, Option.bind_some, getTV_here, getTV_next]
 · obtain ⟨x, a1⟩ := e
   obtain ⟨y, a2⟩ := f
   simp only at en fn
   subst en
   subst fn
   have la : ∀ x ∈ a1, Lr n x := (isBr_ok be).2.2.2
   have lb : ∀ x ∈ a2, Lr n x := (isBr_ok bf).2.2.2
   have hv : vSame ((n : Int), a1) ((n : Int), a2) = (decide (P.enc (P.dOf n h1 a1) = P.enc (P.dOf n h1 a2)), 0) := by
    unfold vSame
    rw [be, bf]
    simp only [Bool.and_self, if_true]
    rw [Prod.mk.injEq]
    refine ⟨?_, rfl⟩
    rw [decide_eq_decide, Int.toNat_natCast, enc_iff hn, P.encp_iff hn]
    exact (both_forms h1 la lb).symm
   rw [hv] at s2
   simp only [bw_FnDuals_j17, d1, q1, q2, s2, bne_self_eq_false, e0, e0', cond_false, cond_true, J, Option.bind_some, getTV_here, getTV_next]
theorem law_FnDuals (a : List Int) (h : Fit (.slice (.int .u8)) a) : R iw_FnDuals [tLU8 a] = some [tB true] := by
 obtain ⟨hl, hb⟩ := fit_bytes h
 apply vw_FnDuals
 by_cases hB : 4096 < ((a.length : Nat) : Int)
 · simp [bw_FnDuals, c_big, hB]
 · have hy : Bytes a := ⟨hb, by omega⟩
   have J := c_FnDuals_j17 a hy
   obtain ⟨b, d1, hbd⟩ := P.c_DrawDualForm a hy
   obtain ⟨d, e, f1, f2, dl, hd⟩ := P.df_all b hbd.l hbd.i64
   have d5 := c_dual5 d (by omega)
   rcases hd with he | ⟨rfl, n, h1, hn, bn, hbr, hlw, hbl, rfl⟩
   · simp only [bw_FnDuals, c_big, decide_eq_false hB, cond_false, cond_true, d1, f1, f2, d5, bne_self_eq_false, ne_e he, J, Option.bind_some, getTV_here, getTV_next, Bool.not_true]
   · obtain ⟨x, w⟩ := b
     simp only at bn hlw hbl
     subst bn
     obtain ⟨hP, k1, k2, k3, k4⟩ := P.dOf_bd h1 hlw hbl
     have lw : ∀ x ∈ w, Lr n x := hlw
     have id := P.isDual_true h1 hn (P.dOf n h1 w) hP (by omega) (by omega) (by omega) k4
     have id' : R ii_IsDual [tPIPILA8 (P.enc (P.dOf n h1 w))] = some [tB true] := id
     rcases P.wordOfDual h1 hn (P.dOf n h1 w) hP (by omega) (by omega) (by omega) k4 with g | ⟨W, lW, cW, hW, g⟩
     · have g' : R ii_WordOfDual [tPIPILA8 (P.enc (P.dOf n h1 w))] = some [tPILI (0, []), tI 3] := g
       have t1 : ((3 : Int) != 0) = true := rfl
       have t2 : ((3 : Int) != 3) = false := rfl
       have t3 : ((3 : Int) == 0) = false := rfl
       simp only [bw_FnDuals, c_big, decide_eq_false hB, cond_false, cond_true, d1, f1, f2, d5, bne_self_eq_false, e0', g', id', t1, t2, t3, J, Option.bind_some, getTV_here, getTV_next, Bool.not_true]
     · have g' : R ii_WordOfDual [tPIPILA8 (P.enc (P.dOf n h1 w))] = some [tPILI ((n : Int), W), tI 0] := g
       have bW : isBr ((n : Int), W) = true := by
        unfold isBr
        simp only [Bool.and_eq_true, decide_eq_true_eq, List.all_eq_true, okL]
        refine ⟨⟨⟨by omega, by omega⟩, hW⟩, fun x hx => ?_⟩
        have := lW x hx
        unfold Lr at this
        simp
        omega
       have same : P.dOf n h1 W = P.dOf n h1 w := by
        by_cases h2 : 2 ≤ n
        · apply P.dOf_BE h2
          have e1 := P.Wb_dOf h2 (h1 := h1) w lw
          rw [← cW, P.cl_eq W lW] at e1
          exact Bn.exact e1
        · obtain rfl : n = 1 := by omega
          rw [Lr_one lW, Lr_one lw]
       have sameN := (both_forms h1 lW lw).1 same
       have fW := P.c_dualOf n h1 hn W lW hW
       rw [same] at fW
       have ib := c_IsBraid ((n : Int), W) (by show W.length < _; omega)
       rw [bW] at ib
       have dW : R ii_DualForm [tPILI ((n : Int), W)] = some [tPIPILA8 (P.enc (P.dOf n h1 w)), tI 0] := by
        apply vi_DualForm
        simp only [bi_DualForm, ib, fW, Option.bind_some, getTV_here, Bool.not_true, cond_false]
       have sb := c_SameBraid_i ((n : Int), w) ((n : Int), W) hbd.l (by show W.length < _; omega)
       have hv : vSame ((n : Int), w) ((n : Int), W) = (true, 0) := by
        unfold vSame
        rw [hbr, bW]
        simp only [Bool.and_self, if_true]
        rw [Prod.mk.injEq]
        refine ⟨?_, rfl⟩
        apply decide_eq_true
        rw [Int.toNat_natCast, sameN]
       rw [hv] at sb
       simp only [bw_FnDuals, c_big, decide_eq_false hB, cond_false, cond_true, d1, f1, f2, d5, bne_self_eq_false, e0, e0', g', id', dW, sb, J, Option.bind_some, getTV_here, getTV_next, Bool.not_true]
end Go.Ev.Yteclcmiopobnaaa
