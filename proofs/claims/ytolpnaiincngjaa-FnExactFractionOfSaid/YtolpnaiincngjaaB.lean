/- All bodies. -/
import Derived.Test.YtolpnaiincngjaaB0
import Derived.Test.YtolpnaiincngjaaB1
import Derived.Test.YtolpnaiincngjaaB2
import Derived.Test.YtolpnaiincngjaaB3
import Derived.Test.YtolpnaiincngjaaB4
