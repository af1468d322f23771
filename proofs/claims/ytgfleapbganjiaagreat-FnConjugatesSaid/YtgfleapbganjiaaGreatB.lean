/- All bodies. -/
import Derived.Test.YtgfleapbganjiaaGreatB0
import Derived.Test.YtgfleapbganjiaaGreatB1
import Derived.Test.YtgfleapbganjiaaGreatB2
import Derived.Test.YtgfleapbganjiaaGreatB3
