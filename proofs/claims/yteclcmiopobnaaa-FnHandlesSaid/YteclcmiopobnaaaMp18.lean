/- Dual forms keep under the braid relations; EqualByBands of such words. -/
import Derived.Test.YteclcmiopobnaaaMp17
import Derived.Test.YteclcmiopobnaaaMk1
set_option linter.unusedVariables false
set_option linter.unusedSimpArgs false
namespace Go.Ev.Yteclcmiopobnaaa.P
open Go.Ev.Yteclcmiopobnaaa
open Go.Ev Go.Gar
theorem isP_swapN {n p : Nat} (h1 : 1 ≤ n) : isP (swapN n p) := by
  unfold swapN
  split
  · exact isP_swap _
  · exact (latP n h1).S_one
theorem stepD_P {n : Nat} (h2 : 2 ≤ n) {h1 : 1 ≤ n} {v : Nm n} (h : (latP n h1).Proper v.2) (x : Int) : (latP n h1).Proper (stepD h1 v x).2 := by
  unfold stepD
  split
  · exact (mk_spec h2 h1 _ (snoc_S h.S (isP_swapN h1))).1
  · exact (mk_spec h2 h1 _ (snoc_S ((T_auto n h1).AllS h.S) (isP_left h1 (isP_swapN h1)))).1
theorem dOf_BE {n : Nat} (h2 : 2 ≤ n) {h1 : 1 ≤ n} {a b : List Int} (h : BE n a b) : dOf n h1 a = dOf n h1 b :=
  h.fold (P := fun v : Nm n => (latP n h1).Proper v.2) (f := stepD h1) (fun s x hs => stepD_P h2 hs x) (fun s x hs hx => rel_free h2 hs hx)
    (fun s i j hs hij hj => rel_far h2 hs (by omega) hj hij) (fun s i hs hi => rel_braid h2 hs hi) (0, []) Lat.Proper.nil
theorem eqb_true {n : Nat} (q2 : 1 ≤ n) (q3 : n ≤ 8) {a b : List Int} (h : isBr ((n : Int), a) = true) (h' : isBr ((n : Int), b) = true) (hBE : BE n a b) : R ii_EqualByBands [tPILI ((n : Int), a), tPILI ((n : Int), b)] = some [tB true, tI 0] := by
  have ok := isBr_ok h
  have ok' := isBr_ok h'
  have ha : Lw n a := ok.2.2.2
  have hb : Lw n b := ok'.2.2.2
  have la : a.length ≤ 200 := ok.2.2.1
  have lb : b.length ≤ 200 := ok'.2.2.1
  have e : dOf n q2 a = dOf n q2 b := by
    by_cases h2 : 2 ≤ n
    · exact dOf_BE h2 hBE
    · obtain rfl : n = 1 := by omega
      rw [Lw_one ha, Lw_one hb]
  have f2 := c_dualOf n q2 q3 a ha la
  have g2 := c_dualOf n q2 q3 b hb lb
  have hn := dOf_len q2 b hb lb
  rw [e] at f2
  have hs' := c_Equal (enc (dOf n q2 b)).2.2 (enc (dOf n q2 b)).2.2 (by simp only [enc, sL_len]; omega)
  apply vi_EqualByBands
  simp [bi_EqualByBands, c_IsBraid ((n : Int), a) (by show a.length < _; omega), c_IsBraid ((n : Int), b) (by show b.length < _; omega), h, h', f2, g2, hs']
end Go.Ev.Yteclcmiopobnaaa.P
