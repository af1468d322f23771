/- All bodies. -/
import Derived.Test.YtadjhggdddbicaaB0
import Derived.Test.YtadjhggdddbicaaB1
import Derived.Test.YtadjhggdddbicaaB2
import Derived.Test.YtadjhggdddbicaaB3
