/- Braids' marks read. -/
import Derived.Test.YtadjhggdddbicaaMb3
namespace Go.Ev.Ytadjhggdddbicaa
open Go.Ev
end Go.Ev.Ytadjhggdddbicaa
