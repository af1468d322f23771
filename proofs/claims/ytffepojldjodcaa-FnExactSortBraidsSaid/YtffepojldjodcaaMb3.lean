/- Braids as they come in. -/
import Derived.Test.YtffepojldjodcaaMb2
set_option linter.unusedVariables false
set_option linter.unusedSimpArgs false
namespace Go.Ev.Ytffepojldjodcaa
open Go.Ev
theorem fit_ints {l : List Int} (h : Fit (.slice (.int .i64)) l) : l.length ≤ 9223372036854775807 ∧ I64 l :=
  ⟨h.1, fun x hx => wf_i64 (h.2 x hx)⟩
theorem fit_braid {a : Int × List Int} (h : Fit (.pair (.int .i64) (.slice (.int .i64))) a) : a.2.length ≤ 9223372036854775807 ∧ I64 a.2 := fit_ints h.2
end Go.Ev.Ytffepojldjodcaa
