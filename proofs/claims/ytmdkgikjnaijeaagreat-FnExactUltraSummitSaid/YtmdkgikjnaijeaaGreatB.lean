/- All bodies. -/
import Derived.Test.YtmdkgikjnaijeaaGreatB0
import Derived.Test.YtmdkgikjnaijeaaGreatB1
import Derived.Test.YtmdkgikjnaijeaaGreatB2
import Derived.Test.YtmdkgikjnaijeaaGreatB3
