/- Normal forms of words, and the limits. -/
import Derived.Test.YtpfpjhfimmmkmaaMw1
import Derived.Test.YtpfpjhfimmmkmaaMw3
set_option linter.unusedVariables false
set_option linter.unusedSimpArgs false
namespace Go.Ev.Ytpfpjhfimmmkmaa
open Go.Ev Go.Gar
theorem isBr_of {n : Nat} (h1 : 1 ≤ n) (hn : n ≤ 8) {w : List Int} (hw : Lw n w) (hl : w.length ≤ 200) : isBr ((n : Int), w) = true := by
  unfold isBr
  simp only [Bool.and_eq_true, decide_eq_true_eq, List.all_eq_true, okL]
  refine ⟨⟨⟨by omega, by omega⟩, hl⟩, fun x hx => ?_⟩
  have := hw x hx
  simp
  omega
theorem nOf_one {w : List Int} (hw : Lw 1 w) : nOf 1 w = (0, []) := by
  rw [Lw_one hw]
  rfl
theorem nOf_okN {n : Nat} (h1 : 1 ≤ n) {w : List Int} (hw : Lw n w) (hl : w.length ≤ 200) : OkN (nOf n w) 200 := by
  have h := nOf_len h1 w hw
  refine ⟨?_, by omega, by omega, by omega, ?_⟩
  · by_cases h2 : 2 ≤ n
    · exact nOf_P h2 w
    · obtain rfl : n = 1 := by omega
      rw [nOf_one hw]
      exact Lat.Proper.nil
  · intro e
    subst e
    exact nOf_one hw
theorem nOf_app' {n : Nat} (h1 : 1 ≤ n) {u w : List Int} (hu : Lw n u) (hw : Lw n w) : nOf n (u ++ w) = prod (nOf n u) (nOf n w) := by
  by_cases h2 : 2 ≤ n
  · exact nOf_app h2 u w
  · obtain rfl : n = 1 := by omega
    rw [nOf_one (hu.app hw), nOf_one hu, nOf_one hw]
    exact (prod_one rfl (fun _ => rfl) (fun _ => rfl)).symm
theorem normalOf_ok {n : Nat} (h1 : 1 ≤ n) (hn : n ≤ 8) {w : List Int} (hw : Lw n w) (hl : w.length ≤ 200) : R ii_NormalOf [tPILI ((n : Int), w)] = some [tPIPILA8 (enc (nOf n w)), tI 0] := by
  have h := c_NormalOf_i ((n : Int), w) (by show w.length < 1000000000; omega)
  unfold vNormalOf at h
  rw [isBr_of h1 hn hw hl, if_pos rfl] at h
  simp only [Int.toNat_natCast] at h
  rw [lim_ok (nOf_okN h1 hw hl)] at h
  exact h
end Go.Ev.Ytpfpjhfimmmkmaa
