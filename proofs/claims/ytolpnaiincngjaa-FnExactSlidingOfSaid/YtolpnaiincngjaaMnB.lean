/- CyclingOf, DecyclingOf, SlidingOf: the laws. (Printed by a program.) -/
import Derived.Test.YtolpnaiincngjaaMnA
set_option linter.unusedVariables false
set_option linter.unusedSimpArgs false
namespace Go.Ev.Ytolpnaiincngjaa
open Go.Ev Go.Gar
theorem cyc_ok {n : Nat} (hn1 : 1 ≤ n) {v : Nm n} {b : Nat} (hv : OkN v b) : OkN (cyc v) (4 * b + 4) := ((cyc_rel hn1 (Rel.refl hv)).ok hv).mono (by omega)
theorem decyc_ok {n : Nat} (hn1 : 1 ≤ n) {v : Nm n} {b : Nat} (hv : OkN v b) : OkN (decyc v) (4 * b + 4) := ((decyc_rel hn1 (Rel.refl hv)).ok hv).mono (by omega)
theorem c_CyclingOf_bad {a : Int × Int × List (List Int)} (ha : Rows8 a.2.2) (h : isNm a = false) : R is_CyclingOf [tPIPILA8 a] = some [tPIPILA8 NoV, tI 1] ∧ R ii_CyclingOf [tPIPILA8 a] = some [tPIPILA8 NoV, tI 1] := by
  constructor
  · apply vs_CyclingOf
    simp [bs_CyclingOf, c_l03Is a ha, h]
  · have hc : R ii_changed [tPIPILA8 a] = some [tPIPILA8 NoV, tI 1] := by
      apply vi_changed
      simp [bi_changed, c_IsNormal a ha, h]
    apply vi_CyclingOf
    simp [bi_CyclingOf, hc]
theorem c_CyclingOf_ok {n : Nat} (hn1 : 1 ≤ n) (hn : n ≤ 8) {v : Nm n} (hv : OkN v 200) :
    R is_CyclingOf [tPIPILA8 (enc v)] = some [tPIPILA8 (limV (enc (cyc v))).1, tI (limV (enc (cyc v))).2] ∧ R ii_CyclingOf [tPIPILA8 (enc v)] = some [tPIPILA8 (limV (enc (cyc v))).1, tI (limV (enc (cyc v))).2] := by
  have hr : Rows8 (enc v).2.2 := sL_rows hn v.2
  have h := isNm_enc hn1 hn hv
  have hk := cyc_ok hn1 hv
  have e1 := c_l04Cycle n hn1 hn v (hv.mono (by omega))
  have e2 := c_cycled n hn1 hn v (hv.mono (by omega))
  have e3 : R is_l03Make [tI (enc v).1, tI (enc (cyc v)).2.1, tLA8 (enc (cyc v)).2.2] = some [tPIPILA8 (enc (cyc v))] := c_again n hn1 hn (cyc v) (hk.mono (by omega))
  constructor
  · apply vs_CyclingOf
    simp [bs_CyclingOf, c_l03Is _ hr, h, e1, e3, c_l03Fit]
  · have hc : R ii_changed [tPIPILA8 (enc v)] = some [tPIPILA8 (limV (enc (cyc v))).1, tI (limV (enc (cyc v))).2] := by
      apply vi_changed
      simp [bi_changed, c_IsNormal _ hr, h, e2, c_limited]
    apply vi_CyclingOf
    simp [bi_CyclingOf, hc]
theorem law_FnExactCyclingOf (a : Int × Int × List (List Int)) (h : Fit (.pair (.int .i64) (.pair (.int .i64) (.slice (.arr .u8 8)))) a) : R iw_FnExactCyclingOf [tPIPILA8 a] = some [tB true] := by
  obtain ⟨hl, hw⟩ := fit_normal h
  apply vw_FnExactCyclingOf
  by_cases hb : (1048576 : Int) < a.2.2.length
  · simp [bw_FnExactCyclingOf, c_szNormal a 1048576 hl (by omega) (by omega), hb]
  · have hs : a.2.2.length < 1000000000 := by omega
    have e : ¬ (1048576 - (a.2.2.length : Int) < 0) := by omega
    have e1 : ¬ (1 + 8 * (a.2.2.length : Int) < 0) := by omega
    obtain ⟨r, c, hv, h8, hss, hii⟩ : ∃ (r : Int × Int × List (List Int)) (c : Int), r.2.2.length ≤ 200 ∧ Len8 r.2.2 ∧ R is_CyclingOf [tPIPILA8 a] = some [tPIPILA8 r, tI c] ∧ R ii_CyclingOf [tPIPILA8 a] = some [tPIPILA8 r, tI c] := by
      rcases nm_cases a with h1 | ⟨_, n, v, q1, q2, q3, rfl⟩
      · have := c_CyclingOf_bad hw h1
        exact ⟨NoV, 1, by simp, noV_8, this.1, this.2⟩
      · have := c_CyclingOf_ok q1 q2 q3
        exact ⟨_, _, limV_len _, limV_8 _ (sL_8 _), this.1, this.2⟩
    have e2 : ¬ (1 + 8 * (r.2.2.length : Int) < 0) := by omega
    simp [bw_FnExactCyclingOf, c_szNormal a 1048576 hl (by omega) (by omega), hb, e, c_toNormal a hw.len8 hs, hss, hii, c_eqNormal a _ hw.len8 hw.len8 hs, c_eqNormal r _ h8 h8 (by omega),
      c_markNormal a 1 hw.len8 (by omega) (by omega), c_markNormal r 1 h8 (by omega) (by omega), c_heldNormal _ _ 1 r.2.2.length (by omega) (by omega), e1, e2]
theorem c_DecyclingOf_bad {a : Int × Int × List (List Int)} (ha : Rows8 a.2.2) (h : isNm a = false) : R is_DecyclingOf [tPIPILA8 a] = some [tPIPILA8 NoV, tI 1] ∧ R ii_DecyclingOf [tPIPILA8 a] = some [tPIPILA8 NoV, tI 1] := by
  constructor
  · apply vs_DecyclingOf
    simp [bs_DecyclingOf, c_l03Is a ha, h]
  · have hc : R ii_changed_v2 [tPIPILA8 a] = some [tPIPILA8 NoV, tI 1] := by
      apply vi_changed_v2
      simp [bi_changed_v2, c_IsNormal a ha, h]
    apply vi_DecyclingOf
    simp [bi_DecyclingOf, hc]
theorem c_DecyclingOf_ok {n : Nat} (hn1 : 1 ≤ n) (hn : n ≤ 8) {v : Nm n} (hv : OkN v 200) :
    R is_DecyclingOf [tPIPILA8 (enc v)] = some [tPIPILA8 (limV (enc (decyc v))).1, tI (limV (enc (decyc v))).2] ∧ R ii_DecyclingOf [tPIPILA8 (enc v)] = some [tPIPILA8 (limV (enc (decyc v))).1, tI (limV (enc (decyc v))).2] := by
  have hr : Rows8 (enc v).2.2 := sL_rows hn v.2
  have h := isNm_enc hn1 hn hv
  have hk := decyc_ok hn1 hv
  have e1 := c_l04Decycle n hn1 hn v (hv.mono (by omega))
  have e2 := c_decycled n hn1 hn v (hv.mono (by omega))
  have e3 : R is_l03Make [tI (enc v).1, tI (enc (decyc v)).2.1, tLA8 (enc (decyc v)).2.2] = some [tPIPILA8 (enc (decyc v))] := c_again n hn1 hn (decyc v) (hk.mono (by omega))
  constructor
  · apply vs_DecyclingOf
    simp [bs_DecyclingOf, c_l03Is _ hr, h, e1, e3, c_l03Fit]
  · have hc : R ii_changed_v2 [tPIPILA8 (enc v)] = some [tPIPILA8 (limV (enc (decyc v))).1, tI (limV (enc (decyc v))).2] := by
      apply vi_changed_v2
      simp [bi_changed_v2, c_IsNormal _ hr, h, e2, c_limited]
    apply vi_DecyclingOf
    simp [bi_DecyclingOf, hc]
theorem law_FnExactDecyclingOf (a : Int × Int × List (List Int)) (h : Fit (.pair (.int .i64) (.pair (.int .i64) (.slice (.arr .u8 8)))) a) : R iw_FnExactDecyclingOf [tPIPILA8 a] = some [tB true] := by
  obtain ⟨hl, hw⟩ := fit_normal h
  apply vw_FnExactDecyclingOf
  by_cases hb : (1048576 : Int) < a.2.2.length
  · simp [bw_FnExactDecyclingOf, c_szNormal a 1048576 hl (by omega) (by omega), hb]
  · have hs : a.2.2.length < 1000000000 := by omega
    have e : ¬ (1048576 - (a.2.2.length : Int) < 0) := by omega
    have e1 : ¬ (1 + 8 * (a.2.2.length : Int) < 0) := by omega
    obtain ⟨r, c, hv, h8, hss, hii⟩ : ∃ (r : Int × Int × List (List Int)) (c : Int), r.2.2.length ≤ 200 ∧ Len8 r.2.2 ∧ R is_DecyclingOf [tPIPILA8 a] = some [tPIPILA8 r, tI c] ∧ R ii_DecyclingOf [tPIPILA8 a] = some [tPIPILA8 r, tI c] := by
      rcases nm_cases a with h1 | ⟨_, n, v, q1, q2, q3, rfl⟩
      · have := c_DecyclingOf_bad hw h1
        exact ⟨NoV, 1, by simp, noV_8, this.1, this.2⟩
      · have := c_DecyclingOf_ok q1 q2 q3
        exact ⟨_, _, limV_len _, limV_8 _ (sL_8 _), this.1, this.2⟩
    have e2 : ¬ (1 + 8 * (r.2.2.length : Int) < 0) := by omega
    simp [bw_FnExactDecyclingOf, c_szNormal a 1048576 hl (by omega) (by omega), hb, e, c_toNormal a hw.len8 hs, hss, hii, c_eqNormal a _ hw.len8 hw.len8 hs, c_eqNormal r _ h8 h8 (by omega),
      c_markNormal a 1 hw.len8 (by omega) (by omega), c_markNormal r 1 h8 (by omega) (by omega), c_heldNormal _ _ 1 r.2.2.length (by omega) (by omega), e1, e2]
theorem c_SlidingOf_bad {a : Int × Int × List (List Int)} (ha : Rows8 a.2.2) (h : isNm a = false) : R is_SlidingOf [tPIPILA8 a] = some [tPIPILA8 NoV, tI 1] ∧ R ii_SlidingOf [tPIPILA8 a] = some [tPIPILA8 NoV, tI 1] := by
  constructor
  · apply vs_SlidingOf
    simp [bs_SlidingOf, c_l03Is a ha, h]
  · have hc : R ii_changed_v3 [tPIPILA8 a] = some [tPIPILA8 NoV, tI 1] := by
      apply vi_changed_v3
      simp [bi_changed_v3, c_IsNormal a ha, h]
    apply vi_SlidingOf
    simp [bi_SlidingOf, hc]
theorem c_SlidingOf_ok {n : Nat} (hn1 : 1 ≤ n) (hn : n ≤ 8) {v : Nm n} (hv : OkN v 200) :
    R is_SlidingOf [tPIPILA8 (enc v)] = some [tPIPILA8 (limV (enc (slide v))).1, tI (limV (enc (slide v))).2] ∧ R ii_SlidingOf [tPIPILA8 (enc v)] = some [tPIPILA8 (limV (enc (slide v))).1, tI (limV (enc (slide v))).2] := by
  have hr : Rows8 (enc v).2.2 := sL_rows hn v.2
  have h := isNm_enc hn1 hn hv
  have hk := slide_ok hn1 hv
  have e1 := c_l04Slide n hn1 hn v (hv.mono (by omega))
  have e2 := c_slid n hn1 hn v (hv.mono (by omega))
  have e3 : R is_l03Make [tI (enc v).1, tI (enc (slide v)).2.1, tLA8 (enc (slide v)).2.2] = some [tPIPILA8 (enc (slide v))] := c_again n hn1 hn (slide v) (hk.mono (by omega))
  constructor
  · apply vs_SlidingOf
    simp [bs_SlidingOf, c_l03Is _ hr, h, e1, e3, c_l03Fit]
  · have hc : R ii_changed_v3 [tPIPILA8 (enc v)] = some [tPIPILA8 (limV (enc (slide v))).1, tI (limV (enc (slide v))).2] := by
      apply vi_changed_v3
      simp [bi_changed_v3, c_IsNormal _ hr, h, e2, c_limited]
    apply vi_SlidingOf
    simp [bi_SlidingOf, hc]
theorem law_FnExactSlidingOf (a : Int × Int × List (List Int)) (h : Fit (.pair (.int .i64) (.pair (.int .i64) (.slice (.arr .u8 8)))) a) : R iw_FnExactSlidingOf [tPIPILA8 a] = some [tB true] := by
  obtain ⟨hl, hw⟩ := fit_normal h
  apply vw_FnExactSlidingOf
  by_cases hb : (1048576 : Int) < a.2.2.length
  · simp [bw_FnExactSlidingOf, c_szNormal a 1048576 hl (by omega) (by omega), hb]
  · have hs : a.2.2.length < 1000000000 := by omega
    have e : ¬ (1048576 - (a.2.2.length : Int) < 0) := by omega
    have e1 : ¬ (1 + 8 * (a.2.2.length : Int) < 0) := by omega
    obtain ⟨r, c, hv, h8, hss, hii⟩ : ∃ (r : Int × Int × List (List Int)) (c : Int), r.2.2.length ≤ 200 ∧ Len8 r.2.2 ∧ R is_SlidingOf [tPIPILA8 a] = some [tPIPILA8 r, tI c] ∧ R ii_SlidingOf [tPIPILA8 a] = some [tPIPILA8 r, tI c] := by
      rcases nm_cases a with h1 | ⟨_, n, v, q1, q2, q3, rfl⟩
      · have := c_SlidingOf_bad hw h1
        exact ⟨NoV, 1, by simp, noV_8, this.1, this.2⟩
      · have := c_SlidingOf_ok q1 q2 q3
        exact ⟨_, _, limV_len _, limV_8 _ (sL_8 _), this.1, this.2⟩
    have e2 : ¬ (1 + 8 * (r.2.2.length : Int) < 0) := by omega
    simp [bw_FnExactSlidingOf, c_szNormal a 1048576 hl (by omega) (by omega), hb, e, c_toNormal a hw.len8 hs, hss, hii, c_eqNormal a _ hw.len8 hw.len8 hs, c_eqNormal r _ h8 h8 (by omega),
      c_markNormal a 1 hw.len8 (by omega) (by omega), c_markNormal r 1 h8 (by omega) (by omega), c_heldNormal _ _ 1 r.2.2.length (by omega) (by omega), e1, e2]
end Go.Ev.Ytolpnaiincngjaa
