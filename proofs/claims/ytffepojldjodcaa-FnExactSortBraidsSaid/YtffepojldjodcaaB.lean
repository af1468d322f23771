/- All bodies. -/
import Derived.Test.YtffepojldjodcaaB0
import Derived.Test.YtffepojldjodcaaB1
