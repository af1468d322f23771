/- All bodies. -/
import Derived.Test.YtlkmkabnbegfdaaGreatPB0
