/- All bodies. -/
import Derived.Test.YtadjhggdddbicaaB0
