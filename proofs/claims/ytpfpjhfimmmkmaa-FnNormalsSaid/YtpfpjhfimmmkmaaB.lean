/- All bodies. -/
import Derived.Test.YtpfpjhfimmmkmaaB0
import Derived.Test.YtpfpjhfimmmkmaaB1
import Derived.Test.YtpfpjhfimmmkmaaB2
import Derived.Test.YtpfpjhfimmmkmaaB3
