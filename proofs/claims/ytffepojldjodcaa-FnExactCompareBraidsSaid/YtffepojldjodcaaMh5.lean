/- The laws on handles hold: WordSign, FirstHandle, ReduceHandle, HandleFree, MainLetter, IsTrivial, CompareBraids. -/
import Derived.Test.YtffepojldjodcaaMh4
import Derived.Test.YtffepojldjodcaaMb3
set_option linter.unusedVariables false
set_option linter.unusedSimpArgs false
namespace Go.Ev.Ytffepojldjodcaa
open Go.Ev
theorem law_FnExactWordSign (a : Int × List Int) (h : Fit (.pair (.int .i64) (.slice (.int .i64))) a) : R iw_FnExactWordSign [tPILI a] = some [tB true] := by
  obtain ⟨hl, hw⟩ := fit_braid h
  apply vw_FnExactWordSign
  by_cases hb : (1048576 : Int) < a.2.length
  · simp [bw_FnExactWordSign, c_szBraid a 1048576 hl (by omega) (by omega), hb]
  · have hs : a.2.length < 1000000000 := by omega
    have e : ¬ (1048576 - (a.2.length : Int) < 0) := by omega
    simp [bw_FnExactWordSign, c_szBraid a 1048576 hl (by omega) (by omega), hb, e, c_toBraid a hs, c_WordSign_s a hs hw, c_WordSign_i a hs, c_eqBraid a _ hs]
theorem law_FnExactFirstHandle (a : Int × List Int) (h : Fit (.pair (.int .i64) (.slice (.int .i64))) a) : R iw_FnExactFirstHandle [tPILI a] = some [tB true] := by
  obtain ⟨hl, hw⟩ := fit_braid h
  apply vw_FnExactFirstHandle
  by_cases hb : (1048576 : Int) < a.2.length
  · simp [bw_FnExactFirstHandle, c_szBraid a 1048576 hl (by omega) (by omega), hb]
  · have hs : a.2.length < 1000000000 := by omega
    have e : ¬ (1048576 - (a.2.length : Int) < 0) := by omega
    have hv := vFirstHandle_len a
    have e1 : ¬ (1 + (a.2.length : Int) < 0) := by omega
    have e2 : ¬ (1 + ((vFirstHandle a).1.length : Int) < 0) := by omega
    simp [bw_FnExactFirstHandle, c_szBraid a 1048576 hl (by omega) (by omega), hb, e, c_toBraid a hs, c_FirstHandle_s a hs hw, c_FirstHandle_i a hs, c_eqBraid a _ hs, c_eqInt64S (vFirstHandle a).1 _ (by omega),
      c_markBraid a 1 (by omega) (by omega), c_markInt64S (vFirstHandle a).1 1 (by omega) (by omega), c_heldInt64S 1 (vFirstHandle a).1.length (by omega) (by omega), e1, e2]
theorem law_FnExactReduceHandle (a : Int × List Int) (h : Fit (.pair (.int .i64) (.slice (.int .i64))) a) : R iw_FnExactReduceHandle [tPILI a] = some [tB true] := by
  obtain ⟨hl, hw⟩ := fit_braid h
  apply vw_FnExactReduceHandle
  by_cases hb : (1048576 : Int) < a.2.length
  · simp [bw_FnExactReduceHandle, c_szBraid a 1048576 hl (by omega) (by omega), hb]
  · have hs : a.2.length < 1000000000 := by omega
    have e : ¬ (1048576 - (a.2.length : Int) < 0) := by omega
    have hv := vReduceHandle_len a
    have e1 : ¬ (1 + (a.2.length : Int) < 0) := by omega
    have e2 : ¬ (1 + ((vReduceHandle a).1.2.length : Int) < 0) := by omega
    simp [bw_FnExactReduceHandle, c_szBraid a 1048576 hl (by omega) (by omega), hb, e, c_toBraid a hs, c_ReduceHandle_s a hs hw, c_ReduceHandle_i a hs, c_eqBraid a _ hs, c_eqBraid (vReduceHandle a).1 _ (by omega),
      c_markBraid a 1 (by omega) (by omega), c_markBraid (vReduceHandle a).1 1 (by omega) (by omega), c_heldBraid _ 1 (vReduceHandle a).1.2.length (by omega) (by omega), e1, e2]
theorem law_FnExactHandleFree (a : Int × List Int) (h : Fit (.pair (.int .i64) (.slice (.int .i64))) a) : R iw_FnExactHandleFree [tPILI a] = some [tB true] := by
  obtain ⟨hl, hw⟩ := fit_braid h
  apply vw_FnExactHandleFree
  by_cases hb : (1048576 : Int) < a.2.length
  · simp [bw_FnExactHandleFree, c_szBraid a 1048576 hl (by omega) (by omega), hb]
  · have hs : a.2.length < 1000000000 := by omega
    have e : ¬ (1048576 - (a.2.length : Int) < 0) := by omega
    have hv := vHandleFree_len a
    have e1 : ¬ (1 + (a.2.length : Int) < 0) := by omega
    have e2 : ¬ (1 + ((vHandleFree a).1.2.length : Int) < 0) := by omega
    simp [bw_FnExactHandleFree, c_szBraid a 1048576 hl (by omega) (by omega), hb, e, c_toBraid a hs, c_HandleFree_s a hs hw, c_HandleFree_i a hs, c_eqBraid a _ hs, c_eqBraid (vHandleFree a).1 _ (by omega),
      c_markBraid a 1 (by omega) (by omega), c_markBraid (vHandleFree a).1 1 (by omega) (by omega), c_heldBraid _ 1 (vHandleFree a).1.2.length (by omega) (by omega), e1, e2]
theorem law_FnExactMainLetter (a : Int × List Int) (h : Fit (.pair (.int .i64) (.slice (.int .i64))) a) : R iw_FnExactMainLetter [tPILI a] = some [tB true] := by
  obtain ⟨hl, hw⟩ := fit_braid h
  apply vw_FnExactMainLetter
  by_cases hb : (1048576 : Int) < a.2.length
  · simp [bw_FnExactMainLetter, c_szBraid a 1048576 hl (by omega) (by omega), hb]
  · have hs : a.2.length < 1000000000 := by omega
    have e : ¬ (1048576 - (a.2.length : Int) < 0) := by omega
    simp [bw_FnExactMainLetter, c_szBraid a 1048576 hl (by omega) (by omega), hb, e, c_toBraid a hs, c_MainLetter_s a hs hw, c_MainLetter_i a hs, c_eqBraid a _ hs]
theorem law_FnExactIsTrivial (a : Int × List Int) (h : Fit (.pair (.int .i64) (.slice (.int .i64))) a) : R iw_FnExactIsTrivial [tPILI a] = some [tB true] := by
  obtain ⟨hl, hw⟩ := fit_braid h
  apply vw_FnExactIsTrivial
  by_cases hb : (1048576 : Int) < a.2.length
  · simp [bw_FnExactIsTrivial, c_szBraid a 1048576 hl (by omega) (by omega), hb]
  · have hs : a.2.length < 1000000000 := by omega
    have e : ¬ (1048576 - (a.2.length : Int) < 0) := by omega
    simp [bw_FnExactIsTrivial, c_szBraid a 1048576 hl (by omega) (by omega), hb, e, c_toBraid a hs, c_IsTrivial_s a hs hw, c_IsTrivial_i a hs, c_eqBraid a _ hs]
theorem law_FnExactCompareBraids (a : Int × List Int) (h : Fit (.pair (.int .i64) (.slice (.int .i64))) a) (b : Int × List Int) (h' : Fit (.pair (.int .i64) (.slice (.int .i64))) b) : R iw_FnExactCompareBraids [tPILI a, tPILI b] = some [tB true] := by
  obtain ⟨hl, hw⟩ := fit_braid h
  obtain ⟨hl', hw'⟩ := fit_braid h'
  apply vw_FnExactCompareBraids
  by_cases hb : (1048576 : Int) < a.2.length
  · simp [bw_FnExactCompareBraids, c_szBraid a 1048576 hl (by omega) (by omega), hb]
  · have hs : a.2.length < 1000000000 := by omega
    have e : ¬ (1048576 - (a.2.length : Int) < 0) := by omega
    by_cases hb' : 1048576 - (a.2.length : Int) < b.2.length
    · simp [bw_FnExactCompareBraids, c_szBraid a 1048576 hl (by omega) (by omega), hb, e, c_szBraid b (1048576 - (a.2.length : Int)) hl' (by omega) (by omega), hb']
    · have hs' : b.2.length < 1000000000 := by omega
      have e' : ¬ (1048576 - (a.2.length : Int) - b.2.length < 0) := by omega
      simp [bw_FnExactCompareBraids, c_szBraid a 1048576 hl (by omega) (by omega), hb, e, c_szBraid b (1048576 - (a.2.length : Int)) hl' (by omega) (by omega), hb', e', c_toBraid a hs, c_toBraid b hs', c_CompareBraids_s a b hs hw hs' hw', c_CompareBraids_i a b hs hs', c_eqBraid a _ hs, c_eqBraid b _ hs']
end Go.Ev.Ytffepojldjodcaa
