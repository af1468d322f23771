/- Products, inverses, powers and conjugates of normal forms: what both packages answer. -/
import Derived.Test.YtolpnaiincngjaaGreatMn8
set_option linter.unusedVariables false
set_option linter.unusedSimpArgs false
namespace Go.Ev.YtolpnaiincngjaaGreat
open Go.Ev Go.Gar
/-- The code of two arguments. -/
noncomputable def both (a b : Int × Int × List (List Int)) : Int := if isNm a && isNm b then (if a.1 = b.1 then 0 else 2) else 1
end Go.Ev.YtolpnaiincngjaaGreat
