/- The greatest common beginning of two positive braids: the plain part. -/
import Derived.Test.YtolpnaiincngjaaGreatMnA
set_option linter.unusedVariables false
set_option linter.unusedSimpArgs false
namespace Go.Ev.YtolpnaiincngjaaGreat
open Go.Ev Go.Gar
noncomputable def hd {n : Nat} (v : Nm n) : Pm n := if 0 < v.1 then Pm.half n else v.2.headD 1
theorem mk_D {n : Nat} (h2 : 2 ≤ n) (p : Int) : mk p [Pm.half n] = (p + 1, []) := by
  have hn : (Pm.lat n).norm [Pm.half n] = (1, []) := Lat.norm_of (half_ne h2) (i := 1) (j := 0) (by rfl) Lat.Proper.nil
  simp only [mk, hn]
  rfl
end Go.Ev.YtolpnaiincngjaaGreat
