/- Is it a braid? Both ways of asking answer alike. -/
import Derived.Test.YtolpnaiincngjaaGreatMb1
set_option linter.unusedVariables false
set_option linter.unusedSimpArgs false
namespace Go.Ev.YtolpnaiincngjaaGreat
open Go.Ev
theorem getD_at {l : List Int} {i : Nat} (h : i < l.length) : List.getD l i 0 = l[i] := by
  simp [List.getD_eq_getElem?_getD, List.getElem?_eq_getElem h]
end Go.Ev.YtolpnaiincngjaaGreat
