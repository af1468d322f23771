/- All bodies. -/
import Derived.Test.YteclcmiopobnaaaB0
import Derived.Test.YteclcmiopobnaaaB1
import Derived.Test.YteclcmiopobnaaaB2
import Derived.Test.YteclcmiopobnaaaB3
