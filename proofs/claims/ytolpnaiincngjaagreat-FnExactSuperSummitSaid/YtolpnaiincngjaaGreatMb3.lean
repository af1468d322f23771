/- Braids as they come in. -/
import Derived.Test.YtolpnaiincngjaaGreatMb2
set_option linter.unusedVariables false
set_option linter.unusedSimpArgs false
namespace Go.Ev.YtolpnaiincngjaaGreat
open Go.Ev
end Go.Ev.YtolpnaiincngjaaGreat
