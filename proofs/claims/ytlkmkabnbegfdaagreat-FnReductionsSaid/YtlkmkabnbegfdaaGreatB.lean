/- All bodies. -/
import Derived.Test.YtlkmkabnbegfdaaGreatB0
import Derived.Test.YtlkmkabnbegfdaaGreatB1
import Derived.Test.YtlkmkabnbegfdaaGreatB2
