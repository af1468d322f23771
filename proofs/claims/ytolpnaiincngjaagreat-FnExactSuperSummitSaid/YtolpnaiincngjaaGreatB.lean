/- All bodies. -/
import Derived.Test.YtolpnaiincngjaaGreatB0
import Derived.Test.YtolpnaiincngjaaGreatB1
import Derived.Test.YtolpnaiincngjaaGreatB2
