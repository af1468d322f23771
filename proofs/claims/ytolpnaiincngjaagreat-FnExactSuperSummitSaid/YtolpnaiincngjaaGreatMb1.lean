/- What the laws' own words do to lists of numbers and to braids. -/
import Derived.Test.YtolpnaiincngjaaGreatB
import Derived.Test.YtolpnaiincngjaaGreatV4
set_option linter.unusedVariables false
set_option linter.unusedSimpArgs false
namespace Go.Ev.YtolpnaiincngjaaGreat
open Go.Ev
theorem c_l01In (x l h : Int) : R is_l01In [tI x, tI l, tI h] = some [tB (decide (l ≤ x) && decide (x ≤ h))] := by
  apply vs_l01In
  by_cases e : l ≤ x <;> simp [bs_l01In, e]
theorem c_within (x l h : Int) : R ii_within [tI x, tI l, tI h] = some [tB (decide (l ≤ x) && decide (x ≤ h))] := by
  apply vi_within
  by_cases e : l ≤ x <;> simp [bi_within, e]
theorem c_isCount (x : Int) : R ii_isCount [tI x] = some [tB (decide (1 ≤ x) && decide (x ≤ 8))] := by
  apply vi_isCount
  simp [bi_isCount, c_within]
/-- Numbers from k on. -/
def marks (k : Int) : Nat → List Int
  | 0 => []
  | n + 1 => k :: marks (k + 1) n
end Go.Ev.YtolpnaiincngjaaGreat
