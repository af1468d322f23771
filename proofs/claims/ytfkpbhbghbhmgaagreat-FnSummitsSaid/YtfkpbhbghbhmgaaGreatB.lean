/- All bodies. -/
import Derived.Test.YtfkpbhbghbhmgaaGreatB0
import Derived.Test.YtfkpbhbghbhmgaaGreatB1
import Derived.Test.YtfkpbhbghbhmgaaGreatB2
import Derived.Test.YtfkpbhbghbhmgaaGreatB3
import Derived.Test.YtfkpbhbghbhmgaaGreatB4
