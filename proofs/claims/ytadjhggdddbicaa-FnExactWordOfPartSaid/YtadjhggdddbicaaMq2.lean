/- The laws RankOf and WordOfPart. -/
import Derived.Test.YtadjhggdddbicaaMq1
import Derived.Test.YtadjhggdddbicaaMp5
set_option linter.unusedVariables false
set_option linter.unusedSimpArgs false
namespace Go.Ev.Ytadjhggdddbicaa
open Go.Ev
theorem law_FnExactRankOf (a : List Int) (h : Fit (.arr .u8 8) a) (k : Int) (h' : Fit (.int .i64) k) : R iw_FnExactRankOf [tA8 a, tI k] = some [tB true] := by
  have ha := fit_part h
  apply vw_FnExactRankOf
  obtain ⟨x, y, h1, h2⟩ := both_RankOf a ha k
  simp [bw_FnExactRankOf, c_toPart a ha.1, h1, h2]
theorem law_FnExactWordOfPart (a : List Int) (h : Fit (.arr .u8 8) a) (k : Int) (h' : Fit (.int .i64) k) : R iw_FnExactWordOfPart [tA8 a, tI k] = some [tB true] := by
  have ha := fit_part h
  apply vw_FnExactWordOfPart
  obtain ⟨v, y, hv, h1, h2⟩ := both_WordOfPart a ha k
  have e2 : ¬ (1 + (v.2.length : Int) < 0) := by omega
  simp [bw_FnExactWordOfPart, c_toPart a ha.1, h1, h2, c_eqBraid v _ (show v.2.length < 1000000000 by omega), c_markBraid v 1 (by omega) (by omega), c_heldBraid _ 1 v.2.length (by omega) (by omega), e2]
end Go.Ev.Ytadjhggdddbicaa
