/- All bodies. -/
import Derived.Test.YtknhngnhjdpedaaGreatB0
import Derived.Test.YtknhngnhjdpedaaGreatB1
import Derived.Test.YtknhngnhjdpedaaGreatB2
