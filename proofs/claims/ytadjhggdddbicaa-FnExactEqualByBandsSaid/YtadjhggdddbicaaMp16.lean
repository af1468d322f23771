/- EqualByBands: the law. -/
import Derived.Test.YtadjhggdddbicaaMp15
set_option linter.unusedVariables false
set_option linter.unusedSimpArgs false
namespace Go.Ev.Ytadjhggdddbicaa
open Go.Ev Go.Gar
theorem c_l07Same_4 (x0 x1 x3 x4 : Int) (a b : List (List Int)) (h0 : a.length < 1000000000) (h1 : b.length = a.length) : ∀ i, i ≤ a.length → R is_l07Same_4 [tI x0, tI x1, tLA8 a, tI x3, tI x4, tLA8 b, tI (i : Int)] = some (if a.drop i = b.drop i then [tI 0] else [tI 1, tB false]) := by
  refine up_loop _ ?_ (fun i hi ih => ?_)
  · apply vs_l07Same_4
    rw [List.drop_length, ← h1, List.drop_length]
    simp [bs_l07Same_4, h1]
  · apply vs_l07Same_4
    rw [List.drop_eq_getElem_cons hi, List.drop_eq_getElem_cons (by omega : i < b.length)]
    simp (disch := omega) only [bs_l07Same_4, decide_eq_true, cond_true, Bool.and_true, Int.toNat_natCast, wrap_i64]
    rw [show (i : Int) + 1 = ((i + 1 : Nat) : Int) by omega, ih]
    simp only [List.getD_eq_getElem?_getD, List.getElem?_eq_getElem hi, List.getElem?_eq_getElem (by omega : i < b.length), Option.getD_some, List.cons.injEq]
    by_cases e : a[i] = b[i] <;> simp [e, bne_ll]
theorem c_Equal_4 (a b : List (List Int)) (h0 : a.length < 1000000000) (h1 : b.length = a.length) : ∀ i, i ≤ a.length → R ig_Equal___i_Part_i_Part__4 [tLA8 a, tLA8 b, tI (a.length : Int), tI (i : Int)] = some (if a.drop i = b.drop i then [tI 0] else [tI 1, tB false]) := by
  refine up_loop _ ?_ (fun i hi ih => ?_)
  · apply vg_Equal___i_Part_i_Part__4
    rw [List.drop_length, ← h1, List.drop_length]
    simp [bg_Equal___i_Part_i_Part__4, h1]
  · apply vg_Equal___i_Part_i_Part__4
    rw [List.drop_eq_getElem_cons hi, List.drop_eq_getElem_cons (by omega : i < b.length)]
    simp (disch := omega) only [bg_Equal___i_Part_i_Part__4, decide_eq_true, cond_true, Bool.and_true, Int.toNat_natCast, wrap_i64]
    rw [show (i : Int) + 1 = ((i + 1 : Nat) : Int) by omega, ih]
    simp only [List.getD_eq_getElem?_getD, List.getElem?_eq_getElem hi, List.getElem?_eq_getElem (by omega : i < b.length), Option.getD_some, List.cons.injEq]
    by_cases e : a[i] = b[i] <;> simp [e, bne_ll]
theorem c_Equal (a b : List (List Int)) (h0 : a.length < 1000000000) : R ig_Equal___i_Part_i_Part_ [tLA8 a, tLA8 b] = some [tB (decide (a = b))] := by
  apply vg_Equal___i_Part_i_Part_
  by_cases e : b.length = a.length
  · have := c_Equal_4 a b h0 e 0 (Nat.zero_le _)
    simp only [List.drop_zero, Int.natCast_zero] at this
    simp only [bg_Equal___i_Part_i_Part_, e, bne_self_eq_false, cond_false, this]
    by_cases e2 : a = b <;> simp [e2]
  · have : a ≠ b := fun h => e (by rw [h])
    have e3 : ¬ ((a.length : Int) = b.length) := by omega
    simp [bg_Equal___i_Part_i_Part_, this, e3, bne_dec]
theorem c_l07Same (a b : Int × Int × List (List Int)) (h0 : a.2.2.length < 1000000000) : R is_l07Same [tPIPILA8 a, tPIPILA8 b] = some [tB (decide (a = b))] := by
  apply vs_l07Same
  obtain ⟨a1, a2, a3⟩ := a
  obtain ⟨b1, b2, b3⟩ := b
  by_cases q1 : a1 = b1
  · by_cases q2 : a2 = b2
    · by_cases e : b3.length = a3.length
      · have := c_l07Same_4 a1 a2 b1 b2 a3 b3 h0 e 0 (Nat.zero_le _)
        simp only [List.drop_zero, Int.natCast_zero] at this
        subst q1
        subst q2
        simp only [bs_l07Same, e, bne_self_eq_false, cond_false, this]
        by_cases e2 : a3 = b3 <;> simp [e2]
      · have : a3 ≠ b3 := fun h => e (by rw [h])
        have e3 : ¬ ((a3.length : Int) = b3.length) := by omega
        simp [bs_l07Same, this, e3, bne_dec]
    · simp [bs_l07Same, q2, bne_dec]
  · simp [bs_l07Same, q1, bne_dec]
theorem dual_both2 (a b : Int × List Int) (hl : a.2.length < 1000000000) (hw : I64 a.2) (hl' : b.2.length < 1000000000) (hw' : I64 b.2) : ∃ (r : Bool) (c : Int), R is_EqualByBands [tPILI a, tPILI b] = some [tB r, tI c] ∧ R ii_EqualByBands [tPILI a, tPILI b] = some [tB r, tI c] := by
  cases h : isBr a with
  | false =>
    refine ⟨false, 1, ?_, ?_⟩
    · apply vs_EqualByBands
      simp [bs_EqualByBands, c_l01Is a hl hw, h]
    · apply vi_EqualByBands
      simp [bi_EqualByBands, c_IsBraid a hl, h]
  | true =>
    cases h' : isBr b with
    | false =>
      refine ⟨false, 1, ?_, ?_⟩
      · apply vs_EqualByBands
        simp [bs_EqualByBands, c_l01Is a hl hw, c_l01Is b hl' hw', h, h']
      · apply vi_EqualByBands
        simp [bi_EqualByBands, c_IsBraid a hl, c_IsBraid b hl', h, h']
    | true =>
      by_cases e : a.1 = b.1
      · obtain ⟨n, q1, q2, q3, q4, q5⟩ := isBr_Lw h
        obtain ⟨m, r1, r2, r3, r4, r5⟩ := isBr_Lw h'
        have hnm : n = m := by omega
        subst hnm
        have f1 := c_l07Form n q2 q3 a.2 q5 q4
        have f2 := c_dualOf n q2 q3 a.2 q5 q4
        have g1 := c_l07Form n q2 q3 b.2 r5 r4
        have g2 := c_dualOf n q2 q3 b.2 r5 r4
        have hn := dOf_len q2 a.2 q5 q4
        have hs := c_l07Same (enc (dOf n q2 a.2)) (enc (dOf n q2 b.2)) (by simp only [enc, sL_len]; omega)
        have hs' := c_Equal (enc (dOf n q2 a.2)).2.2 (enc (dOf n q2 b.2)).2.2 (by simp only [enc, sL_len]; omega)
        obtain ⟨a1, a2⟩ := a
        obtain ⟨b1, b2⟩ := b
        simp only at q1 r1
        subst q1
        subst r1
        refine ⟨decide (enc (dOf n q2 a2) = enc (dOf n q2 b2)), 0, ?_, ?_⟩
        · apply vs_EqualByBands
          simp [bs_EqualByBands, c_l01Is ((n : Int), a2) hl hw, c_l01Is ((n : Int), b2) hl' hw', h, h', f1, g1, hs]
        · apply vi_EqualByBands
          by_cases k : (enc (dOf n q2 a2)).2.1 = (enc (dOf n q2 b2)).2.1
          · have e2 : (enc (dOf n q2 a2) = enc (dOf n q2 b2)) ↔ (enc (dOf n q2 a2)).2.2 = (enc (dOf n q2 b2)).2.2 := by
              constructor
              · intro h; rw [h]
              · intro h
                show ((n : Int), (enc (dOf n q2 a2)).2.1, (enc (dOf n q2 a2)).2.2) = ((n : Int), (enc (dOf n q2 b2)).2.1, (enc (dOf n q2 b2)).2.2)
                rw [k, h]
            have e3 : decide (enc (dOf n q2 a2) = enc (dOf n q2 b2)) = decide ((enc (dOf n q2 a2)).2.2 = (enc (dOf n q2 b2)).2.2) := by rw [decide_eq_decide]; exact e2
            rw [e3]
            simp [bi_EqualByBands, c_IsBraid ((n : Int), a2) hl, c_IsBraid ((n : Int), b2) hl', h, h', f2, g2, k, hs']
          · have e2 : ¬ (enc (dOf n q2 a2) = enc (dOf n q2 b2)) := fun h => k (by rw [h])
            simp [bi_EqualByBands, c_IsBraid ((n : Int), a2) hl, c_IsBraid ((n : Int), b2) hl', h, h', f2, g2, k, e2, beq_dec]
      · refine ⟨false, 2, ?_, ?_⟩
        · apply vs_EqualByBands
          simp [bs_EqualByBands, c_l01Is a hl hw, c_l01Is b hl' hw', h, h', e, bne_dec]
        · apply vi_EqualByBands
          simp [bi_EqualByBands, c_IsBraid a hl, c_IsBraid b hl', h, h', e, bne_dec]
theorem law_FnExactEqualByBands (a : Int × List Int) (h : Fit (.pair (.int .i64) (.slice (.int .i64))) a) (b : Int × List Int) (h' : Fit (.pair (.int .i64) (.slice (.int .i64))) b) : R iw_FnExactEqualByBands [tPILI a, tPILI b] = some [tB true] := by
  obtain ⟨hl, hw⟩ := fit_braid h
  obtain ⟨hl', hw'⟩ := fit_braid h'
  apply vw_FnExactEqualByBands
  by_cases hb : (1048576 : Int) < a.2.length
  · simp [bw_FnExactEqualByBands, c_szBraid a 1048576 hl (by omega) (by omega), hb]
  · have hs : a.2.length < 1000000000 := by omega
    have e : ¬ (1048576 - (a.2.length : Int) < 0) := by omega
    by_cases hb' : 1048576 - (a.2.length : Int) < b.2.length
    · simp [bw_FnExactEqualByBands, c_szBraid a 1048576 hl (by omega) (by omega), hb, e, c_szBraid b (1048576 - (a.2.length : Int)) hl' (by omega) (by omega), hb']
    · have hs' : b.2.length < 1000000000 := by omega
      have e' : ¬ (1048576 - (a.2.length : Int) - b.2.length < 0) := by omega
      obtain ⟨r, c, hss, hii⟩ := dual_both2 a b hs hw hs' hw'
      simp [bw_FnExactEqualByBands, c_szBraid a 1048576 hl (by omega) (by omega), hb, e, c_szBraid b (1048576 - (a.2.length : Int)) hl' (by omega) (by omega), hb', e', c_toBraid a hs, c_toBraid b hs', hss, hii, c_eqBraid a _ hs, c_eqBraid b _ hs']
end Go.Ev.Ytadjhggdddbicaa
