/- Normal forms: the law. -/
import Derived.Test.YtpfpjhfimmmkmaaMw2
import Derived.Test.YtpfpjhfimmmkmaaMw6
import Derived.Test.YtpfpjhfimmmkmaaMw7
set_option linter.unusedVariables false
set_option linter.unusedSimpArgs false
namespace Go.Ev.Ytpfpjhfimmmkmaa
open Go.Ev Go.Gar
/-- NormalOf. -/
theorem nor_all (a : Int × List Int) (ha : Bd a) : ∃ (r : Int × Int × List (List Int)) (e : Int),
    R is_NormalOf [tPILI a] = some [tPIPILA8 r, tI e] ∧ R ii_NormalOf [tPILI a] = some [tPIPILA8 r, tI e] ∧ r.2.2.length ≤ 200 ∧
    ((e ≠ 0 ∧ r = NoV ∧ isBr a = false) ∨ (e = 0 ∧ isBr a = true ∧ ∃ (n : Nat), a.1 = (n : Int) ∧ 1 ≤ n ∧ n ≤ 8 ∧ Lw n a.2 ∧ a.2.length ≤ 200 ∧ r = enc (nOf n a.2))) := by
  have hs := c_NormalOf_s a ha.l ha.i64
  have hi := c_NormalOf_i a ha.l
  refine ⟨_, _, hs, hi, (vNormalOf_ok a).1, ?_⟩
  unfold vNormalOf
  cases hb : isBr a with
  | false => exact .inl ⟨by show (1 : Int) ≠ 0; decide, rfl, rfl⟩
  | true =>
    obtain ⟨q1, q2, q3, q4, q5⟩ := isBr_Lw hb
    rw [if_pos rfl, lim_ok (nOf_okN q3 q1 q5)]
    exact .inr ⟨rfl, rfl, a.1.toNat, q2, q3, q4, q1, q5, rfl⟩
theorem c_FnNormals_51 (n : Nat) (h1 : 1 ≤ n) (hn : n ≤ 8) (A : List (Pm n)) (hA : A.length ≤ 200) (x0 x1 x3 x4 : Int) : ∀ (d i : Nat) (acc : Int), i + d = A.length → -100000 ≤ acc → acc + 64 * d ≤ 100000 →
    R iw_FnNormals_51 [tI x0, tI x1, tLA8 (sL A), tI x3, tI x4, tI (n : Int), tI acc, tI (i : Int)] = some [tI 0, tI x0, tI x1, tLA8 (sL A), tI x3, tI x4, tI (acc + ((sm (A.drop i) : Nat) : Int))] := by
  intro d
  induction d with
  | zero =>
    intro i acc h _ _
    apply vw_FnNormals_51
    have p1 : decide ((i : Int) < ((A.length : Nat) : Int)) = false := decide_eq_false (by omega)
    rw [List.drop_eq_nil_of_le (by omega)]
    simp only [bw_FnNormals_51, sL_len, p1, cond_false, sm, List.map_nil, List.sum_nil, Int.natCast_zero, Int.add_zero]
  | succ d ih =>
    intro i acc h h2 h3
    apply vw_FnNormals_51
    have p1 : decide ((i : Int) < ((A.length : Nat) : Int)) = true := decide_eq_true (by omega)
    have p2 : decide (0 ≤ (i : Int)) = true := decide_eq_true (by omega)
    have w1 : wi64 ((i : Int) + 1) = ((i + 1 : Nat) : Int) := by rw [wrap_i64] <;> omega
    have hl := len_le (A[i]'(by omega))
    have w2 : wi64 (acc + ((len (A[i]'(by omega)) : Nat) : Int)) = acc + ((len (A[i]'(by omega)) : Nat) : Int) := by rw [wrap_i64] <;> omega
    have c0 : ((0 : Int) != 0) = false := rfl
    simp only [bw_FnNormals_51, sL_len, p1, p2, cond_true, cond_false, Bool.and_true, Int.toNat_natCast, sL_get (show i < A.length by omega), c_LengthOfSimple n h1 hn, Option.bind_some, getTV_here, getTV_next, c0, w1, w2]
    have da : A.drop i = A[i]'(by omega) :: A.drop (i + 1) := List.drop_eq_getElem_cons _
    rw [ih (i + 1) _ (by omega) (by omega) (by omega), da, sm_cons, Int.natCast_add, Int.add_assoc]
theorem half_sum {n : Nat} (h1 : 1 ≤ n) (hn : n ≤ 8) (p : Int) (hp : -200 ≤ p) (hp' : p ≤ 200) :
    wi64 (Int.tdiv (wi64 ((wi64 (p * (n : Int))) * (wi64 ((n : Int) - 1)))) 2) = p * ((len (Pm.half n) : Nat) : Int) := by
  have hh := len_half n h1 hn
  have w1 : wi64 ((n : Int) - 1) = ((n - 1 : Nat) : Int) := by rw [wrap_i64] <;> omega
  have b1 : -1600 ≤ p * (n : Int) ∧ p * (n : Int) ≤ 1600 := by
    constructor
    · have := Int.mul_le_mul_of_nonneg_right hp (show (0 : Int) ≤ n by omega)
      omega
    · have := Int.mul_le_mul_of_nonneg_right hp' (show (0 : Int) ≤ n by omega)
      omega
  have w2 : wi64 (p * (n : Int)) = p * (n : Int) := by rw [wrap_i64] <;> omega
  have e : p * (n : Int) * ((n - 1 : Nat) : Int) = 2 * (p * ((len (Pm.half n) : Nat) : Int)) := by
    rw [Int.mul_assoc, ← Int.natCast_mul, ← hh, Int.natCast_mul, ← Int.mul_assoc, ← Int.mul_assoc, Int.mul_comm p ((2 : Nat) : Int)]
    rfl
  have hl := len_le (Pm.half n)
  have b2 : -12800 ≤ p * ((len (Pm.half n) : Nat) : Int) ∧ p * ((len (Pm.half n) : Nat) : Int) ≤ 12800 := by
    constructor
    · have := Int.mul_le_mul_of_nonneg_right hp (show (0 : Int) ≤ ((len (Pm.half n) : Nat) : Int) by omega)
      omega
    · have := Int.mul_le_mul_of_nonneg_right hp' (show (0 : Int) ≤ ((len (Pm.half n) : Nat) : Int) by omega)
      omega
  rw [w1, w2, e]
  have w3 : wi64 (2 * (p * ((len (Pm.half n) : Nat) : Int))) = 2 * (p * ((len (Pm.half n) : Nat) : Int)) := by rw [wrap_i64] <;> omega
  rw [w3, Int.mul_tdiv_cancel_left _ (by decide), wrap_i64] <;> omega
theorem c_FnNormals_j45 (a : Int × List Int) (r : Int × Int × List (List Int)) (e : Int)
    (h : (e ≠ 0 ∧ r = NoV ∧ isBr a = false) ∨ (e = 0 ∧ isBr a = true ∧ ∃ (n : Nat), a.1 = (n : Int) ∧ 1 ≤ n ∧ n ≤ 8 ∧ Lw n a.2 ∧ a.2.length ≤ 200 ∧ r = enc (nOf n a.2))) :
    R iw_FnNormals_j45 [tI a.1, tLI a.2, tI r.1, tI r.2.1, tLA8 r.2.2, tI e] = some [tI 0, tB true] := by
  apply vw_FnNormals_j45
  rcases h with ⟨he, rfl, _⟩ | ⟨rfl, _, n, en, h1, hn, hw, hl, rfl⟩
  · simp [bw_FnNormals_j45, ne_b he]
  · obtain ⟨x, w⟩ := a
    simp only at en hw hl
    subst en
    have ok := nOf_okN h1 hw hl
    have k1 := ok.lo
    have k2 := ok.hi
    have k3 := ok.len
    have hs := c_SumOf h1 hn hw hl
    have hex := ex_nOf h1 hn hw
    have hL := len_le (Pm.half n)
    have b2 : -12800 ≤ (nOf n w).1 * ((len (Pm.half n) : Nat) : Int) ∧ (nOf n w).1 * ((len (Pm.half n) : Nat) : Int) ≤ 12800 := by
      constructor
      · have := Int.mul_le_mul_of_nonneg_right k1 (show (0 : Int) ≤ ((len (Pm.half n) : Nat) : Int) by omega)
        omega
      · have := Int.mul_le_mul_of_nonneg_right k2 (show (0 : Int) ≤ ((len (Pm.half n) : Nat) : Int) by omega)
        omega
    have h51 := c_FnNormals_51 n h1 hn (nOf n w).2 k3 (n : Int) (nOf n w).1 (sgs w) 0 (nOf n w).2.length 0 ((nOf n w).1 * ((len (Pm.half n) : Nat) : Int)) (by omega) (by omega) (by omega)
    simp only [Int.natCast_zero, List.drop_zero] at h51
    have e2 : (nOf n w).1 * ((len (Pm.half n) : Nat) : Int) + ((sm (nOf n w).2 : Nat) : Int) = sgs w := hex
    rw [e2] at h51
    have hN := c_IsNormal (enc (nOf n w)) (sL_rows hn _)
    rw [isNm_enc h1 hn ok] at hN
    have hN' : R ii_IsNormal [tPIPILA8 ((n : Int), (nOf n w).1, sL (nOf n w).2)] = some [tB true] := hN
    have x1 : (enc (nOf n w)).1 = (n : Int) := rfl
    have x2 : (enc (nOf n w)).2.1 = (nOf n w).1 := rfl
    have x3 : (enc (nOf n w)).2.2 = sL (nOf n w).2 := rfl
    simp only [bw_FnNormals_j45, e0, e0', cond_false, cond_true, hs, Option.bind_some, getTV_here, getTV_next, x1, x2, x3, half_sum h1 hn _ k1 k2, h51, beq_self_eq_true, hN']
theorem enc_inj {n : Nat} (hn : n ≤ 8) {v w : Nm n} (h : enc v = enc w) : v = w := by
  simp only [enc, Prod.mk.injEq] at h
  exact Prod.ext h.2.1 (sL_inj hn h.2.2)
theorem c_DrawSameBraid (a : List Int) (h : Bytes a) : ∃ b c, R is_DrawSameBraid [tLU8 a] = some [tPILI b, tPILI c] ∧ Bd b ∧ Bd c := by
  obtain ⟨s, e, hs⟩ := c_l01From a h.1 h.2
  obtain ⟨b, s2, e2, hs2, hb⟩ := c_spoil s hs
  have e3 := c_l01Is b hb.l hb.i64
  -- the other branch, from any source
  have other : ∀ t : Sc, Src t → ∃ c, ((R is_l01Spoil [tPLU8PIU64 t]).bind fun o7 =>
        (R is_l01Is [tPILI b]).bind fun o8 =>
        bif (gB o8 0) then
          (R is_l01Next [tPLU8PIU64 ((gPLU8PIU64 o7 1).1, (((gPLU8PIU64 o7 1).2).1, ((gPLU8PIU64 o7 1).2).2)), tI 4]).bind fun o9 =>
          bif decide (0 < (gI o9 0)) then
            (R is_l01Draw [tPLU8PIU64 ((gPLU8PIU64 o9 1).1, (((gPLU8PIU64 o9 1).2).1, ((gPLU8PIU64 o9 1).2).2)), tI b.1, tI 12]).bind fun o10 =>
            some [tPILI (b.1, b.2), tPILI (b.1, (gLI o10 0))]
          else
            some [tPILI (b.1, b.2), tPILI ((gPILI o7 0).1, (gPILI o7 0).2)]
        else
          some [tPILI (b.1, b.2), tPILI ((gPILI o7 0).1, (gPILI o7 0).2)]) = some [tPILI b, tPILI c] ∧ Bd c := by
    intro t ht
    obtain ⟨c, s3, f1, hs3, hc⟩ := c_spoil t ht
    cases hB : isBr b with
    | false =>
      rw [hB] at e3
      refine ⟨c, ?_, hc⟩
      simp only [f1, e3, Option.bind_some, getTV_here, getTV_next, cond_false]
    | true =>
      rw [hB] at e3
      obtain ⟨k, s4, f2, hs4, k0, k1⟩ := c_next s3 hs3 4
      by_cases hk : 0 < k
      · obtain ⟨q1, q2, q3, q4, q5⟩ := isBr_Lw hB
        obtain ⟨w, s5, f3, _, hw, hl⟩ := c_draw s4 hs4 b.1 12 (by omega) (by omega) (by omega) (by omega)
        refine ⟨(b.1, w), ?_, Bd.mk' hw (by omega) (by omega) (by omega)⟩
        simp only [f1, e3, f2, f3, decide_eq_true hk, Option.bind_some, getTV_here, getTV_next, cond_true]
      · refine ⟨c, ?_, hc⟩
        simp only [f1, e3, f2, decide_eq_false hk, Option.bind_some, getTV_here, getTV_next, cond_true, cond_false]
  cases hB : isBr b with
  | false =>
    rw [hB] at e3
    obtain ⟨c, f, hc⟩ := other s2 hs2
    refine ⟨b, c, ?_, hb, hc⟩
    apply vs_DrawSameBraid
    simp only [bs_DrawSameBraid, e, e2, e3, Option.bind_some, getTV_here, getTV_next, cond_false]
    simp only [e3, Option.bind_some, getTV_here, cond_false] at f
    exact f
  | true =>
    rw [hB] at e3
    obtain ⟨k, s4, f2, hs4, k0, k1⟩ := c_next s2 hs2 2
    obtain ⟨c, f, hc⟩ := other s4 hs4
    by_cases hk : k = 0
    · have p0 : (k == 0) = true := by simp [hk]
      obtain ⟨q1, q2, q3, q4, q5⟩ := isBr_Lw hB
      have g1 := c_l03Of b.1.toNat q3 q4 b.2 q1 q5
      have ok := nOf_okN q3 q1 q5
      have g2 := c_l03Word b.1.toNat q4 (nOf b.1.toNat b.2) ok
      rw [← q2] at g1
      by_cases hl : (wordN (nOf b.1.toNat b.2)).length ≤ 200
      · have p1 : decide ((((wordN (nOf b.1.toNat b.2)).length : Nat) : Int) ≤ 200) = true := decide_eq_true (by omega)
        refine ⟨b, (b.1, wordN (nOf b.1.toNat b.2)), ?_, hb, ⟨hb.lo, hb.hi, by show (wordN (nOf b.1.toNat b.2)).length ≤ 1000; omega, fun x hx => ?_⟩⟩
        · apply vs_DrawSameBraid
          simp only [bs_DrawSameBraid, e, e2, e3, f2, g1, g2, p0, p1, Option.bind_some, getTV_here, getTV_next, cond_true]
        · have := wordN_Lw (nOf b.1.toNat b.2) x hx
          omega
      · have p1 : decide ((((wordN (nOf b.1.toNat b.2)).length : Nat) : Int) ≤ 200) = false := decide_eq_false (by omega)
        refine ⟨b, c, ?_, hb, hc⟩
        apply vs_DrawSameBraid
        simp only [bs_DrawSameBraid, e, e2, e3, f2, g1, g2, p0, p1, Option.bind_some, getTV_here, getTV_next, cond_true, cond_false]
        simp only [e3, Option.bind_some, getTV_here, cond_true] at f
        exact f
    · have p0 : (k == 0) = false := by simp [hk]
      refine ⟨b, c, ?_, hb, hc⟩
      apply vs_DrawSameBraid
      simp only [bs_DrawSameBraid, e, e2, e3, f2, p0, Option.bind_some, getTV_here, getTV_next, cond_true, cond_false]
      simp only [e3, Option.bind_some, getTV_here, cond_true] at f
      exact f
/-- The lengths and IsPositive. -/
theorem len_all (a : Int × Int × List (List Int)) (ha : Rows8 a.2.2) : ∃ (w : List Int) (e : Int), R is_LengthsOf [tPIPILA8 a] = some [tLI w, tI e] ∧ R ii_LengthsOf [tPIPILA8 a] = some [tLI w, tI e] ∧ w.length ≤ 3 := by
  cases h : isNm a with
  | false =>
    refine ⟨[], 1, ?_, ?_, by simp⟩
    · apply vs_LengthsOf
      simp [bs_LengthsOf, c_l03Is a ha, h]
    · apply vi_LengthsOf
      simp [bi_LengthsOf, c_IsNormal a ha, h]
  | true =>
    refine ⟨[a.2.1, (wi64 (a.2.1 + ((a.2.2.length : Nat) : Int))), ((a.2.2.length : Nat) : Int)], 0, ?_, ?_, by simp⟩
    · apply vs_LengthsOf
      simp [bs_LengthsOf, c_l03Is a ha, h]
    · apply vi_LengthsOf
      simp [bi_LengthsOf, c_IsNormal a ha, h]
theorem pos_all (a : Int × Int × List (List Int)) (ha : Rows8 a.2.2) : ∃ (b : Bool) (e : Int), R is_IsPositive [tPIPILA8 a] = some [tB b, tI e] ∧ R ii_IsPositive [tPIPILA8 a] = some [tB b, tI e] := by
  cases h : isNm a with
  | false =>
    refine ⟨false, 1, ?_, ?_⟩
    · apply vs_IsPositive
      simp [bs_IsPositive, c_l03Is a ha, h]
    · apply vi_IsPositive
      simp [bi_IsPositive, c_IsNormal a ha, h]
  | true =>
    refine ⟨decide (0 ≤ a.2.1), 0, ?_, ?_⟩
    · apply vs_IsPositive
      simp [bs_IsPositive, c_l03Is a ha, h]
    · apply vi_IsPositive
      simp [bi_IsPositive, c_IsNormal a ha, h]
theorem isn_all (a : Int × Int × List (List Int)) (ha : Rows8 a.2.2) : R is_IsNormal [tPIPILA8 a] = some [tB (isNm a)] ∧ R ii_IsNormal [tPIPILA8 a] = some [tB (isNm a)] := by
  refine ⟨?_, c_IsNormal a ha⟩
  apply vs_IsNormal
  simp [bs_IsNormal, c_l03Is a ha]
theorem wor_all (a : Int × Int × List (List Int)) (ha : Rows8 a.2.2) : ∃ (w : List Int) (e : Int), R is_WordOfNormal [tPIPILA8 a] = some [tLI w, tI e] ∧ R ii_WordOfNormal [tPIPILA8 a] = some [tLI w, tI e] ∧ w.length ≤ 200 ∧
    (e ≠ 0 ∨ (e = 0 ∧ ∃ (n : Nat) (v : Nm n), 1 ≤ n ∧ n ≤ 8 ∧ OkN v 200 ∧ a = enc v ∧ w = wordN v)) := by
  rcases nm_cases a with h | ⟨_, n, v, q1, q2, q3, rfl⟩
  · have := c_WordOfNormal_bad ha h
    exact ⟨[], 1, this.1, this.2, by simp, .inl (by decide)⟩
  · have hs := c_WordOfNormal_s q1 q2 q3
    have hi := c_WordOfNormal_i q1 q2 q3
    refine ⟨_, _, hs, hi, ?_, ?_⟩
    · unfold lim3
      split
      · simp
      · show (wordN v).length ≤ 200
        omega
    · unfold lim3
      split
      · exact .inl (show (3 : Int) ≠ 0 by decide)
      · exact .inr ⟨rfl, n, v, q1, q2, q3, rfl, rfl⟩
theorem law_FnNormals (a : List Int) (h : Fit (.slice (.int .u8)) a) : R iw_FnNormals [tLU8 a] = some [tB true] := by
  obtain ⟨hl, hb⟩ := fit_bytes h
  apply vw_FnNormals
  by_cases hB : 4096 < ((a.length : Nat) : Int)
  · simp [bw_FnNormals, c_big, hB]
  · have hy : Bytes a := ⟨hb, by omega⟩
    obtain ⟨b, d1, hbd⟩ := c_DrawNormalOf a hy
    obtain ⟨r, d2, hr⟩ := c_DrawRightNormalOf a hy
    obtain ⟨w, d3, hw⟩ := c_DrawWordOfNormal a hy
    obtain ⟨s, t, d4, hs, ht⟩ := c_DrawSameBraid a hy
    obtain ⟨l, d5, hll⟩ := c_DrawLengthsOf a hy
    obtain ⟨nb, eb, n1, n2, nl, hn⟩ := nor_all b hbd
    have r1 := c_RightNormalOf_s r hr.l hr.i64
    have r2 := c_RightNormalOf_i r hr.l
    obtain ⟨ww, ew, w1, w2, wl, hww⟩ := wor_all w hw.rows
    obtain ⟨i1, i2⟩ := isn_all w hw.rows
    have s1 := c_SameBraid_s s t hs.l hs.i64 ht.l ht.i64
    have s2 := c_SameBraid_i s t hs.l ht.l
    obtain ⟨lw, el, l1, l2, ll⟩ := len_all l hll.rows
    obtain ⟨pb, ep, p1, p2⟩ := pos_all l hll.rows
    obtain ⟨ns, es, _, ns2, nsl, hns⟩ := nor_all s hs
    obtain ⟨nt, et, _, nt2, ntl, hnt⟩ := nor_all t ht
    obtain ⟨nr, er, _, nr2, nrl, hnr⟩ := nor_all r hr
    have J45 := c_FnNormals_j45 b nb eb hn
    have J40 : R iw_FnNormals_j40 [tI b.1, tLI b.2, tI nb.1, tI nb.2.1, tLA8 nb.2.2, tI s.1, tLI s.2, tI t.1, tLI t.2, tI eb, tB (vSame s t).1, tI (vSame s t).2] = some [tI 0, tB true] := by
      apply vw_FnNormals_j40
      rcases hns with ⟨_, _, hsb⟩ | ⟨rfl, hsb, n, en, m1, m2, _, _, rfl⟩
      · simp [bw_FnNormals_j40, vSame, hsb, J45]
      · rcases hnt with ⟨_, _, htb⟩ | ⟨rfl, htb, m, em, _, _, _, _, rfl⟩
        · simp [bw_FnNormals_j40, vSame, hsb, htb, J45]
        · by_cases hst : s.1 = t.1
          · have enm : n = m := by omega
            subst enm
            have e1 : s.1.toNat = n := by omega
            have n9 := c_normal9 (enc (nOf n s.2)) (enc (nOf n t.2)) (by omega)
            have hv : vSame s t = (decide (enc (nOf n s.2) = enc (nOf n t.2)), 0) := by
              unfold vSame
              rw [hsb, htb]
              simp only [Bool.and_self, if_true, if_pos hst]
              rw [Prod.mk.injEq]
              exact ⟨by rw [decide_eq_decide, e1], rfl⟩
            rw [hv]
            simp only [bw_FnNormals_j40, e0', e0, cond_true, cond_false, ns2, nt2, n9, Option.bind_some, getTV_here, getTV_next, bne_self_eq_false, J45]
          · simp [bw_FnNormals_j40, vSame, hsb, htb, hst, J45]
    have J36 : R iw_FnNormals_j36 [tI b.1, tLI b.2, tI nb.1, tI nb.2.1, tLA8 nb.2.2, tI r.1, tLI r.2, tI (vRight r).1.1, tI (vRight r).1.2.1, tLA8 (vRight r).1.2.2, tI s.1, tLI s.2, tI t.1, tLI t.2, tI eb, tI (vRight r).2, tB (vSame s t).1, tI (vSame s t).2] = some [tI 0, tB true] := by
      apply vw_FnNormals_j36
      rcases hnr with ⟨_, _, hrb⟩ | ⟨rfl, hrb, n, en, m1, m2, m3, m4, rfl⟩
      · have e1 : (vRight r).2 = 1 := by unfold vRight; rw [hrb]; rfl
        rw [e1]
        have c1 : ((1 : Int) == 0) = false := rfl
        simp only [bw_FnNormals_j36, c1, cond_false, J40, Option.bind_some, getTV_here, getTV_next]
      · by_cases hz : (vRight r).2 = 0
        · have hv : (vRight r).1 = rOf r := by
            unfold vRight at hz ⊢
            rw [hrb, if_pos rfl] at hz ⊢
            unfold limV at hz ⊢
            split
            · rfl
            · rename_i hno
              rw [if_neg hno] at hz
              exact absurd hz (by decide)
          have e1 : r.1.toNat = n := by omega
          obtain ⟨k1, k2⟩ := rev_same m1 m3
          have q1 : ((enc (nOf n r.2)).2.1 != (rOf r).2.1) = false := by
            show ((nOf n r.2).1 != (nOf r.1.toNat r.2.reverse).1) = false
            rw [e1, k1]
            exact bne_self_eq_false _
          have q2 : ((((enc (nOf n r.2)).2.2.length : Nat) : Int) != (((rOf r).2.2.length : Nat) : Int)) = false := by
            show ((((sL (nOf n r.2).2).length : Nat) : Int) != (((sL (bkL (nOf r.1.toNat r.2.reverse).2)).length : Nat) : Int)) = false
            rw [sL_len, sL_len, bkL_len, e1, k2]
            exact bne_self_eq_false _
          rw [hz, hv]
          simp only [bw_FnNormals_j36, e0', e0, cond_true, cond_false, nr2, q1, q2, J40, Option.bind_some, getTV_here, getTV_next]
        · simp only [bw_FnNormals_j36, ne_e hz, cond_false, J40, Option.bind_some, getTV_here, getTV_next]
    have vr : (vRight r).1.2.2.length ≤ 200 := by
      unfold vRight
      split
      · exact limV_len _
      · simp
    have z1 := c_normal9 nb nb (by omega)
    have z2 := c_normal9 (vRight r).1 (vRight r).1 (by omega)
    have z3 := c_likeInts ww ww (by omega)
    have z4 := c_likeInts lw lw (by omega)
    rw [decide_eq_true rfl] at z1 z2 z3 z4
    rcases hww with hwe | ⟨rfl, n, v, m1, m2, m3, rfl, rfl⟩
    · simp only [bw_FnNormals, c_big, decide_eq_false hB, cond_false, cond_true, d1, d2, d3, d4, d5, n1, n2, r1, r2, w1, w2, i1, i2, s1, s2, l1, l2, p1, p2, Option.bind_some, getTV_here, getTV_next, bne_self_eq_false, z1, z2, z3, z4, Bool.not_true, ne_e hwe, J36]
    · have y1 := normalOf_ok m1 m2 (wordN_Lw v) wl
      rw [nOf_wordN m1 m3] at y1
      have y2 := c_norm9 v v m3
      rw [decide_eq_true rfl] at y2
      have x1 : (enc v).1 = (n : Int) := rfl
      have y1' : R ii_NormalOf [tPILI ((enc v).1, wordN v)] = some [tPIPILA8 (enc v), tI 0] := y1
      simp only [bw_FnNormals, c_big, decide_eq_false hB, cond_false, cond_true, d1, d2, d3, d4, d5, n1, n2, r1, r2, w1, w2, i1, i2, s1, s2, l1, l2, p1, p2, Option.bind_some, getTV_here, getTV_next, bne_self_eq_false, z1, z2, z3, z4, Bool.not_true, e0, e0', y1', y2, J36]
end Go.Ev.Ytpfpjhfimmmkmaa
