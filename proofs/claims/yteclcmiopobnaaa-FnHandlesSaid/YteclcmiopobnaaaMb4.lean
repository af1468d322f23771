/- Braids' marks read. -/
import Derived.Test.YteclcmiopobnaaaMb3
namespace Go.Ev.Yteclcmiopobnaaa
open Go.Ev
end Go.Ev.Yteclcmiopobnaaa
