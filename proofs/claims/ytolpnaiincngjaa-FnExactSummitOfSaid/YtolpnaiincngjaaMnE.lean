/- SummitOf: the law. (Printed by a program.) -/
import Derived.Test.YtolpnaiincngjaaMnC
set_option linter.unusedVariables false
set_option linter.unusedSimpArgs false
namespace Go.Ev.Ytolpnaiincngjaa
open Go.Ev Go.Gar
theorem c_SummitOf_bad {a : Int × Int × List (List Int)} (ha : Rows8 a.2.2) (h : isNm a = false) : R is_SummitOf [tPIPILA8 a] = some [tPIPILA8 NoV, tI 1] ∧ R ii_SummitOf [tPIPILA8 a] = some [tPIPILA8 NoV, tI 1] := by
  constructor
  · apply vs_SummitOf
    simp [bs_SummitOf, c_l03Is a ha, h]
  · have hc : R ii_changed_v4 [tPIPILA8 a] = some [tPIPILA8 NoV, tI 1] := by
      apply vi_changed_v4
      simp [bi_changed_v4, c_IsNormal a ha, h]
    apply vi_SummitOf
    simp [bi_SummitOf, hc]
theorem c_SummitOf_ok {n : Nat} (hn1 : 1 ≤ n) (hn : n ≤ 8) {v : Nm n} (hv : OkN v 200) :
    R is_SummitOf [tPIPILA8 (enc v)] = some [tPIPILA8 (limV (enc (sumN v))).1, tI (limV (enc (sumN v))).2] ∧ R ii_SummitOf [tPIPILA8 (enc v)] = some [tPIPILA8 (limV (enc (sumN v))).1, tI (limV (enc (sumN v))).2] := by
  have hr : Rows8 (enc v).2.2 := sL_rows hn v.2
  have h := isNm_enc hn1 hn hv
  have hk := sumN_ok hn1 hv
  have e1 := c_l04Summit n hn1 hn v (hv.mono (by omega))
  have e2 := c_summit n hn1 hn v (hv.mono (by omega))
  have e3 : R is_l03Make [tI (enc (sumN v)).1, tI (enc (sumN v)).2.1, tLA8 (enc (sumN v)).2.2] = some [tPIPILA8 (enc (sumN v))] := c_again n hn1 hn (sumN v) (hk.mono (by omega))
  constructor
  · apply vs_SummitOf
    simp [bs_SummitOf, c_l03Is _ hr, h, e1, e3, c_l03Fit]
  · have hc : R ii_changed_v4 [tPIPILA8 (enc v)] = some [tPIPILA8 (limV (enc (sumN v))).1, tI (limV (enc (sumN v))).2] := by
      apply vi_changed_v4
      simp [bi_changed_v4, c_IsNormal _ hr, h, e2, c_limited]
    apply vi_SummitOf
    simp [bi_SummitOf, hc]
theorem law_FnExactSummitOf (a : Int × Int × List (List Int)) (h : Fit (.pair (.int .i64) (.pair (.int .i64) (.slice (.arr .u8 8)))) a) : R iw_FnExactSummitOf [tPIPILA8 a] = some [tB true] := by
  obtain ⟨hl, hw⟩ := fit_normal h
  apply vw_FnExactSummitOf
  by_cases hb : (1048576 : Int) < a.2.2.length
  · simp [bw_FnExactSummitOf, c_szNormal a 1048576 hl (by omega) (by omega), hb]
  · have hs : a.2.2.length < 1000000000 := by omega
    have e : ¬ (1048576 - (a.2.2.length : Int) < 0) := by omega
    have e1 : ¬ (1 + 8 * (a.2.2.length : Int) < 0) := by omega
    obtain ⟨r, c, hv, h8, hss, hii⟩ : ∃ (r : Int × Int × List (List Int)) (c : Int), r.2.2.length ≤ 200 ∧ Len8 r.2.2 ∧ R is_SummitOf [tPIPILA8 a] = some [tPIPILA8 r, tI c] ∧ R ii_SummitOf [tPIPILA8 a] = some [tPIPILA8 r, tI c] := by
      rcases nm_cases a with h1 | ⟨_, n, v, q1, q2, q3, rfl⟩
      · have := c_SummitOf_bad hw h1
        exact ⟨NoV, 1, by simp, noV_8, this.1, this.2⟩
      · have := c_SummitOf_ok q1 q2 q3
        exact ⟨_, _, limV_len _, limV_8 _ (sL_8 _), this.1, this.2⟩
    have e2 : ¬ (1 + 8 * (r.2.2.length : Int) < 0) := by omega
    simp [bw_FnExactSummitOf, c_szNormal a 1048576 hl (by omega) (by omega), hb, e, c_toNormal a hw.len8 hs, hss, hii, c_eqNormal a _ hw.len8 hw.len8 hs, c_eqNormal r _ h8 h8 (by omega),
      c_markNormal a 1 hw.len8 (by omega) (by omega), c_markNormal r 1 h8 (by omega) (by omega), c_heldNormal _ _ 1 r.2.2.length (by omega) (by omega), e1, e2]
end Go.Ev.Ytolpnaiincngjaa
