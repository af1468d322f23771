/- Braids' marks read. -/
import Derived.Test.YtadjhggdddbicaaMb3
namespace Go.Ev.Ytadjhggdddbicaa
open Go.Ev
theorem c_heldBraid (n k : Int) (m : Nat) (hk : 0 ≤ k) (hk' : k + m < 4000000000) : R iw_heldBraid [tPILI (n, marks k m), tI k] = some [tI (k + m)] := by
  apply vw_heldBraid
  have e : ¬ (k + (m : Int) < 0) := by omega
  simp [bw_heldBraid, c_heldInt64S k m hk hk', e]
end Go.Ev.Ytadjhggdddbicaa
