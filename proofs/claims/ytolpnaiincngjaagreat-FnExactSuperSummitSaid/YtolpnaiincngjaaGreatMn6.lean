/- The normal form of a word, both packages; NormalOf and SameBraid. -/
import Derived.Test.YtolpnaiincngjaaGreatMn5
import Derived.Test.YtolpnaiincngjaaGreatMs1
set_option linter.unusedVariables false
set_option linter.unusedSimpArgs false
namespace Go.Ev.YtolpnaiincngjaaGreat
open Go.Ev Go.Gar
/-- After j letters. -/
structure OkJ {n : Nat} (v : Nm n) (j : Nat) : Prop where
  P : (Pm.lat n).Proper v.2
  lo : -(j : Int) ≤ v.1
  hi : v.1 + v.2.length ≤ j
  len : v.2.length ≤ j
theorem mk_len {n : Nat} (h2 : 2 ≤ n) (p : Int) (l : List (Pm n)) : (mk p l).2.length ≤ l.length := by
  obtain ⟨j, _, hP, hl⟩ := Lat.norm_spec (half_ne h2) (allS l)
  simp only [mk]
  omega
theorem OkJ.zero (n : Nat) : OkJ ((0, []) : Nm n) 0 := ⟨Lat.Proper.nil, by simp, by simp, by simp⟩
/-- Within the limits, or an error. -/
def limV (v : Int × Int × List (List Int)) : (Int × Int × List (List Int)) × Int := if -200 ≤ v.2.1 ∧ v.2.1 ≤ 200 ∧ v.2.2.length ≤ 200 then (v, 0) else ((0, 0, []), 3)
theorem c_limited (v : Int × Int × List (List Int)) : R ii_limited [tPIPILA8 v] = some [tPIPILA8 (limV v).1, tI (limV v).2] := by
  apply vi_limited
  simp only [bi_limited, c_within, Option.bind_some, getTV_here, limV]
  by_cases h1 : -200 ≤ v.2.1
  · by_cases h2 : v.2.1 ≤ 200
    · by_cases h3 : v.2.2.length ≤ 200
      · have h4 : ¬ ((200 : Int) < (v.2.2.length : Int)) := by omega
        simp [h1, h2, h3, h4]
      · have h4 : ((200 : Int) < (v.2.2.length : Int)) := by omega
        simp [h1, h2, h3, h4]
    · simp [h1, h2]
  · simp [h1]
theorem c_l03Fit (v : Int × Int × List (List Int)) : R is_l03Fit [tPIPILA8 v] = some [tPIPILA8 (limV v).1, tI (limV v).2] := by
  apply vs_l03Fit
  simp only [bs_l03Fit, c_l01In, Option.bind_some, getTV_here, limV]
  by_cases h1 : -200 ≤ v.2.1
  · by_cases h2 : v.2.1 ≤ 200
    · by_cases h3 : v.2.2.length ≤ 200
      · have h4 : ¬ ((200 : Int) < (v.2.2.length : Int)) := by omega
        simp [h1, h2, h3, h4]
      · have h4 : ((200 : Int) < (v.2.2.length : Int)) := by omega
        simp [h1, h2, h3, h4]
    · simp [h1, h2]
  · simp [h1]
theorem sL_8 {n : Nat} (l : List (Pm n)) : Len8 (sL l) := fun x hx => by
  obtain ⟨s, _, rfl⟩ := List.mem_map.1 hx
  exact sA_len s
end Go.Ev.YtolpnaiincngjaaGreat
