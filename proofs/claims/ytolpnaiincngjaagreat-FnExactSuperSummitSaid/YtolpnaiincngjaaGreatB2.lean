/- Bodies, part 2. -/
import Derived.KernelRfl
import Derived.Test.YtolpnaiincngjaaGreatEnv
set_option linter.unusedVariables false
namespace Go.Ev.YtolpnaiincngjaaGreat
open Go.Ev
/-- slices.Index[[]impl.Simple,impl.Simple] -/
noncomputable def bg_Index___i_Simple_i_Simple_ (call : Oracle) (a0 : List (List Int)) (a1 : List Int) : Option (List TV) :=
  (call ig_Index___i_Simple_i_Simple__2 [tLA8 a0, tA8 a1, tI ((List.length a0 : Nat) : Int), tI 0]).bind fun o1 =>
  bif ((gI o1 0) == 0) then
    some [tI (-1)]
  else
    some [tI (gI o1 1)]
theorem eg_Index___i_Simple_i_Simple_ (call : Oracle) (a0 : List (List Int)) (a1 : List Int) : run1 E call ig_Index___i_Simple_i_Simple_ [tLA8 a0, tA8 a1] = bg_Index___i_Simple_i_Simple_ call a0 a1 := by kernel_rfl
theorem vg_Index___i_Simple_i_Simple_ (a0 : List (List Int)) (a1 : List Int) {o : List TV} (h : bg_Index___i_Simple_i_Simple_ R a0 a1 = some o) : R ig_Index___i_Simple_i_Simple_ [tLA8 a0, tA8 a1] = some o := ev_step ((eg_Index___i_Simple_i_Simple_ R a0 a1).trans h)
/-- slices.Contains[[]impl.Simple,impl.Simple] -/
noncomputable def bg_Contains___i_Simple_i_Simple_ (call : Oracle) (a0 : List (List Int)) (a1 : List Int) : Option (List TV) :=
  (call ig_Index___i_Simple_i_Simple_ [tLA8 a0, tA8 a1]).bind fun o1 =>
  some [tB (decide (0 ≤ (gI o1 0)))]
theorem eg_Contains___i_Simple_i_Simple_ (call : Oracle) (a0 : List (List Int)) (a1 : List Int) : run1 E call ig_Contains___i_Simple_i_Simple_ [tLA8 a0, tA8 a1] = bg_Contains___i_Simple_i_Simple_ call a0 a1 := by kernel_rfl
theorem vg_Contains___i_Simple_i_Simple_ (a0 : List (List Int)) (a1 : List Int) {o : List TV} (h : bg_Contains___i_Simple_i_Simple_ R a0 a1 = some o) : R ig_Contains___i_Simple_i_Simple_ [tLA8 a0, tA8 a1] = some o := ev_step ((eg_Contains___i_Simple_i_Simple_ R a0 a1).trans h)
/-- impl.allSimple loop 3 -/
noncomputable def bi_allSimple_3 (call : Oracle) (x0 : List (List Int)) (x1 : Int) (x2 : Int) : Option (List TV) :=
  bif decide (x2 < ((List.length x0 : Nat) : Int)) then
    (call ii_allSimple_6 [tLA8 x0, tI x1, tI x2, tI 1]).bind fun o9 =>
    call ii_allSimple_3 [tLA8 (gLA8 o9 1), tI (gI o9 2), tI (wi64 ((gI o9 3) + 1))]
  else
    some [tI 0, tLA8 x0]
theorem ei_allSimple_3 (call : Oracle) (x0 : List (List Int)) (x1 : Int) (x2 : Int) : run1 E call ii_allSimple_3 [tLA8 x0, tI x1, tI x2] = bi_allSimple_3 call x0 x1 x2 := by kernel_rfl
theorem vi_allSimple_3 (x0 : List (List Int)) (x1 : Int) (x2 : Int) {o : List TV} (h : bi_allSimple_3 R x0 x1 x2 = some o) : R ii_allSimple_3 [tLA8 x0, tI x1, tI x2] = some o := ev_step ((ei_allSimple_3 R x0 x1 x2).trans h)
/-- impl.allSimple loop 6 -/
noncomputable def bi_allSimple_6 (call : Oracle) (x0 : List (List Int)) (x1 : Int) (x2 : Int) (x3 : Int) : Option (List TV) :=
  bif decide (x3 < x1) then
    bif (decide (0 ≤ x2) && decide (x2 < ((List.length x0 : Nat) : Int))) then
      (call ii_exchange [tI x3, tI x1]).bind fun o5 =>
      (call ii_then [tA8 (List.getD x0 (Int.toNat x2) (List.replicate 8 0)), tA8 (gA8 o5 0), tI x1]).bind fun o6 =>
      (call ig_Contains___i_Simple_i_Simple_ [tLA8 x0, tA8 (gA8 o6 0)]).bind fun o7 =>
      bif (!(gB o7 0)) then
        bif (apOk x0 [(gA8 o6 0)]) then
          call ii_allSimple_6 [tLA8 (x0 ++ [(gA8 o6 0)]), tI x1, tI x2, tI (wi64 (x3 + 1))]
        else none
      else
        call ii_allSimple_6 [tLA8 x0, tI x1, tI x2, tI (wi64 (x3 + 1))]
    else none
  else
    some [tI 0, tLA8 x0, tI x1, tI x2]
theorem ei_allSimple_6 (call : Oracle) (x0 : List (List Int)) (x1 : Int) (x2 : Int) (x3 : Int) : run1 E call ii_allSimple_6 [tLA8 x0, tI x1, tI x2, tI x3] = bi_allSimple_6 call x0 x1 x2 x3 := by kernel_rfl
theorem vi_allSimple_6 (x0 : List (List Int)) (x1 : Int) (x2 : Int) (x3 : Int) {o : List TV} (h : bi_allSimple_6 R x0 x1 x2 x3 = some o) : R ii_allSimple_6 [tLA8 x0, tI x1, tI x2, tI x3] = some o := ev_step ((ei_allSimple_6 R x0 x1 x2 x3).trans h)
/-- impl.allSimple -/
noncomputable def bi_allSimple (call : Oracle) (a0 : Int) : Option (List TV) :=
  (call ii_nothing [tI a0]).bind fun o1 =>
  (call ii_allSimple_3 [tLA8 [(gA8 o1 0)], tI a0, tI 0]).bind fun o10 =>
  some [tLA8 (gLA8 o10 1)]
theorem ei_allSimple (call : Oracle) (a0 : Int) : run1 E call ii_allSimple [tI a0] = bi_allSimple call a0 := by kernel_rfl
theorem vi_allSimple (a0 : Int) {o : List TV} (h : bi_allSimple R a0 = some o) : R ii_allSimple [tI a0] = some o := ev_step ((ei_allSimple R a0).trans h)
/-- (*impl.Normal).turnBy loop 4 -/
noncomputable def b__i_Normal__turnBy_4 (call : Oracle) (x0 : Int) (x1 : Int) (x2 : List (List Int)) (x3 : Int) (x4 : Int) : Option (List TV) :=
  bif decide (x4 < x3) then
    bif (decide (0 ≤ x4) && decide (x4 < ((List.length x2 : Nat) : Int))) then
      (call ii_turn [tA8 (List.getD x2 (Int.toNat x4) (List.replicate 8 0)), tI x0]).bind fun o2 =>
      bif (decide (0 ≤ x4) && decide (x4 < ((List.length x2 : Nat) : Int))) then
        call i__i_Normal__turnBy_4 [tI x0, tI x1, tLA8 (List.set x2 (Int.toNat x4) (gA8 o2 0)), tI x3, tI (wi64 (x4 + 1))]
      else none
    else none
  else
    some [tI 0, tI x0, tI x1, tLA8 x2]
theorem e__i_Normal__turnBy_4 (call : Oracle) (x0 : Int) (x1 : Int) (x2 : List (List Int)) (x3 : Int) (x4 : Int) : run1 E call i__i_Normal__turnBy_4 [tI x0, tI x1, tLA8 x2, tI x3, tI x4] = b__i_Normal__turnBy_4 call x0 x1 x2 x3 x4 := by kernel_rfl
theorem v__i_Normal__turnBy_4 (x0 : Int) (x1 : Int) (x2 : List (List Int)) (x3 : Int) (x4 : Int) {o : List TV} (h : b__i_Normal__turnBy_4 R x0 x1 x2 x3 x4 = some o) : R i__i_Normal__turnBy_4 [tI x0, tI x1, tLA8 x2, tI x3, tI x4] = some o := ev_step ((e__i_Normal__turnBy_4 R x0 x1 x2 x3 x4).trans h)
/-- (*impl.Normal).turnBy -/
noncomputable def b__i_Normal__turnBy (call : Oracle) (a0 : Int × Int × List (List Int)) (a1 : Int) : Option (List TV) :=
  bif decide (a0.1 < 2) then
    some [tPIPILA8 (a0.1, (a0.2.1, a0.2.2))]
  else
    bif ((Int.tmod a1 2) != 0) then
      (call i__i_Normal__turnBy_4 [tI a0.1, tI (wi64 (a0.2.1 + a1)), tLA8 a0.2.2, tI ((List.length a0.2.2 : Nat) : Int), tI 0]).bind fun o3 =>
      some [tPIPILA8 ((gI o3 1), ((gI o3 2), (gLA8 o3 3)))]
    else
      some [tPIPILA8 (a0.1, ((wi64 (a0.2.1 + a1)), a0.2.2))]
theorem e__i_Normal__turnBy (call : Oracle) (a0 : Int × Int × List (List Int)) (a1 : Int) : run1 E call i__i_Normal__turnBy [tPIPILA8 a0, tI a1] = b__i_Normal__turnBy call a0 a1 := by kernel_rfl
theorem v__i_Normal__turnBy (a0 : Int × Int × List (List Int)) (a1 : Int) {o : List TV} (h : b__i_Normal__turnBy R a0 a1 = some o) : R i__i_Normal__turnBy [tPIPILA8 a0, tI a1] = some o := ev_step ((e__i_Normal__turnBy R a0 a1).trans h)
/-- impl.leftComplement -/
noncomputable def bi_leftComplement (call : Oracle) (a0 : List Int) (a1 : Int) : Option (List TV) :=
  (call ii_halfTurn [tI a1]).bind fun o1 =>
  (call ii_backOf [tA8 a0, tI a1]).bind fun o2 =>
  (call ii_then [tA8 (gA8 o1 0), tA8 (gA8 o2 0), tI a1]).bind fun o3 =>
  some [tA8 (gA8 o3 0)]
theorem ei_leftComplement (call : Oracle) (a0 : List Int) (a1 : Int) : run1 E call ii_leftComplement [tA8 a0, tI a1] = bi_leftComplement call a0 a1 := by kernel_rfl
theorem vi_leftComplement (a0 : List Int) (a1 : Int) {o : List TV} (h : bi_leftComplement R a0 a1 = some o) : R ii_leftComplement [tA8 a0, tI a1] = some o := ev_step ((ei_leftComplement R a0 a1).trans h)
/-- (*impl.Normal).putInverse -/
noncomputable def b__i_Normal__putInverse (call : Oracle) (a0 : Int × Int × List (List Int)) (a1 : List Int) : Option (List TV) :=
  (call i__i_Normal__turnBy [tPIPILA8 (a0.1, (a0.2.1, a0.2.2)), tI (-1)]).bind fun o1 =>
  (call ii_leftComplement [tA8 a1, tI ((gPIPILA8 o1 0).1)]).bind fun o2 =>
  (call i__i_Normal__put [tPIPILA8 ((gPIPILA8 o1 0).1, (((gPIPILA8 o1 0).2).1, ((gPIPILA8 o1 0).2).2)), tA8 (gA8 o2 0)]).bind fun o3 =>
  some [tPIPILA8 ((gPIPILA8 o3 0).1, (((gPIPILA8 o3 0).2).1, ((gPIPILA8 o3 0).2).2))]
theorem e__i_Normal__putInverse (call : Oracle) (a0 : Int × Int × List (List Int)) (a1 : List Int) : run1 E call i__i_Normal__putInverse [tPIPILA8 a0, tA8 a1] = b__i_Normal__putInverse call a0 a1 := by kernel_rfl
theorem v__i_Normal__putInverse (a0 : Int × Int × List (List Int)) (a1 : List Int) {o : List TV} (h : b__i_Normal__putInverse R a0 a1 = some o) : R i__i_Normal__putInverse [tPIPILA8 a0, tA8 a1] = some o := ev_step ((e__i_Normal__putInverse R a0 a1).trans h)
/-- impl.product loop 4 -/
noncomputable def bi_product_4 (call : Oracle) (x0 : Int) (x1 : Int) (x2 : List (List Int)) (x3 : Int) (x4 : Int) (x5 : List (List Int)) (x6 : List (List Int)) (x7 : Int) (x8 : Int) : Option (List TV) :=
  bif decide (x8 < x7) then
    bif (decide (0 ≤ x8) && decide (x8 < ((List.length x6 : Nat) : Int))) then
      (call i__i_Normal__put [tPIPILA8 (x3, (x4, x5)), tA8 (List.getD x6 (Int.toNat x8) (List.replicate 8 0))]).bind fun o4 =>
      call ii_product_4 [tI x0, tI x1, tLA8 x2, tI ((gPIPILA8 o4 0).1), tI (((gPIPILA8 o4 0).2).1), tLA8 (((gPIPILA8 o4 0).2).2), tLA8 x6, tI x7, tI (wi64 (x8 + 1))]
    else none
  else
    some [tI 0, tI x0, tI x1, tLA8 x2, tI x3, tI x4, tLA8 x5]
theorem ei_product_4 (call : Oracle) (x0 : Int) (x1 : Int) (x2 : List (List Int)) (x3 : Int) (x4 : Int) (x5 : List (List Int)) (x6 : List (List Int)) (x7 : Int) (x8 : Int) : run1 E call ii_product_4 [tI x0, tI x1, tLA8 x2, tI x3, tI x4, tLA8 x5, tLA8 x6, tI x7, tI x8] = bi_product_4 call x0 x1 x2 x3 x4 x5 x6 x7 x8 := by kernel_rfl
theorem vi_product_4 (x0 : Int) (x1 : Int) (x2 : List (List Int)) (x3 : Int) (x4 : Int) (x5 : List (List Int)) (x6 : List (List Int)) (x7 : Int) (x8 : Int) {o : List TV} (h : bi_product_4 R x0 x1 x2 x3 x4 x5 x6 x7 x8 = some o) : R ii_product_4 [tI x0, tI x1, tLA8 x2, tI x3, tI x4, tLA8 x5, tLA8 x6, tI x7, tI x8] = some o := ev_step ((ei_product_4 R x0 x1 x2 x3 x4 x5 x6 x7 x8).trans h)
/-- impl.product -/
noncomputable def bi_product (call : Oracle) (a0 : Int × Int × List (List Int)) (a1 : Int × Int × List (List Int)) : Option (List TV) :=
  (call ii_copyNormal [tPIPILA8 (a0.1, (a0.2.1, a0.2.2))]).bind fun o1 =>
  (call i__i_Normal__turnBy [tPIPILA8 ((gPIPILA8 o1 0).1, (((gPIPILA8 o1 0).2).1, ((gPIPILA8 o1 0).2).2)), tI a1.2.1]).bind fun o2 =>
  (call ii_product_4 [tI 0, tI 0, tLA8 [], tI ((gPIPILA8 o2 0).1), tI (((gPIPILA8 o2 0).2).1), tLA8 (((gPIPILA8 o2 0).2).2), tLA8 a1.2.2, tI ((List.length a1.2.2 : Nat) : Int), tI 0]).bind fun o5 =>
  some [tPIPILA8 ((gI o5 4), ((gI o5 5), (gLA8 o5 6)))]
theorem ei_product (call : Oracle) (a0 : Int × Int × List (List Int)) (a1 : Int × Int × List (List Int)) : run1 E call ii_product [tPIPILA8 a0, tPIPILA8 a1] = bi_product call a0 a1 := by kernel_rfl
theorem vi_product (a0 : Int × Int × List (List Int)) (a1 : Int × Int × List (List Int)) {o : List TV} (h : bi_product R a0 a1 = some o) : R ii_product [tPIPILA8 a0, tPIPILA8 a1] = some o := ev_step ((ei_product R a0 a1).trans h)
/-- impl.withoutHead -/
noncomputable def bi_withoutHead (call : Oracle) (a0 : Int × Int × List (List Int)) (a1 : List Int) : Option (List TV) :=
  (call i__i_Normal__putInverse [tPIPILA8 (a0.1, (0, [])), tA8 a1]).bind fun o1 =>
  (call ii_product [tPIPILA8 ((gPIPILA8 o1 0).1, (((gPIPILA8 o1 0).2).1, ((gPIPILA8 o1 0).2).2)), tPIPILA8 (a0.1, (a0.2.1, a0.2.2))]).bind fun o2 =>
  some [tPIPILA8 ((gPIPILA8 o2 0).1, (((gPIPILA8 o2 0).2).1, ((gPIPILA8 o2 0).2).2))]
theorem ei_withoutHead (call : Oracle) (a0 : Int × Int × List (List Int)) (a1 : List Int) : run1 E call ii_withoutHead [tPIPILA8 a0, tA8 a1] = bi_withoutHead call a0 a1 := by kernel_rfl
theorem vi_withoutHead (a0 : Int × Int × List (List Int)) (a1 : List Int) {o : List TV} (h : bi_withoutHead R a0 a1 = some o) : R ii_withoutHead [tPIPILA8 a0, tA8 a1] = some o := ev_step ((ei_withoutHead R a0 a1).trans h)
/-- impl.conjugate -/
noncomputable def bi_conjugate (call : Oracle) (a0 : Int × Int × List (List Int)) (a1 : List Int) : Option (List TV) :=
  (call ii_withoutHead [tPIPILA8 (a0.1, (a0.2.1, a0.2.2)), tA8 a1]).bind fun o1 =>
  (call i__i_Normal__put [tPIPILA8 ((gPIPILA8 o1 0).1, (((gPIPILA8 o1 0).2).1, ((gPIPILA8 o1 0).2).2)), tA8 a1]).bind fun o2 =>
  some [tPIPILA8 ((gPIPILA8 o2 0).1, (((gPIPILA8 o2 0).2).1, ((gPIPILA8 o2 0).2).2))]
theorem ei_conjugate (call : Oracle) (a0 : Int × Int × List (List Int)) (a1 : List Int) : run1 E call ii_conjugate [tPIPILA8 a0, tA8 a1] = bi_conjugate call a0 a1 := by kernel_rfl
theorem vi_conjugate (a0 : Int × Int × List (List Int)) (a1 : List Int) {o : List TV} (h : bi_conjugate R a0 a1 = some o) : R ii_conjugate [tPIPILA8 a0, tA8 a1] = some o := ev_step ((ei_conjugate R a0 a1).trans h)
/-- slices.Equal[[]impl.Simple,impl.Simple] loop 4 -/
noncomputable def bg_Equal___i_Simple_i_Simple__4 (call : Oracle) (x0 : List (List Int)) (x1 : List (List Int)) (x2 : Int) (x3 : Int) : Option (List TV) :=
  bif decide (x3 < x2) then
    bif (decide (0 ≤ x3) && decide (x3 < ((List.length x0 : Nat) : Int))) then
      bif (decide (0 ≤ x3) && decide (x3 < ((List.length x1 : Nat) : Int))) then
        bif ((List.getD x0 (Int.toNat x3) (List.replicate 8 0)) != (List.getD x1 (Int.toNat x3) (List.replicate 8 0))) then
          some [tI 1, tB false]
        else
          call ig_Equal___i_Simple_i_Simple__4 [tLA8 x0, tLA8 x1, tI x2, tI (wi64 (x3 + 1))]
      else none
    else none
  else
    some [tI 0]
theorem eg_Equal___i_Simple_i_Simple__4 (call : Oracle) (x0 : List (List Int)) (x1 : List (List Int)) (x2 : Int) (x3 : Int) : run1 E call ig_Equal___i_Simple_i_Simple__4 [tLA8 x0, tLA8 x1, tI x2, tI x3] = bg_Equal___i_Simple_i_Simple__4 call x0 x1 x2 x3 := by kernel_rfl
theorem vg_Equal___i_Simple_i_Simple__4 (x0 : List (List Int)) (x1 : List (List Int)) (x2 : Int) (x3 : Int) {o : List TV} (h : bg_Equal___i_Simple_i_Simple__4 R x0 x1 x2 x3 = some o) : R ig_Equal___i_Simple_i_Simple__4 [tLA8 x0, tLA8 x1, tI x2, tI x3] = some o := ev_step ((eg_Equal___i_Simple_i_Simple__4 R x0 x1 x2 x3).trans h)
/-- slices.Equal[[]impl.Simple,impl.Simple] -/
noncomputable def bg_Equal___i_Simple_i_Simple_ (call : Oracle) (a0 : List (List Int)) (a1 : List (List Int)) : Option (List TV) :=
  bif (((List.length a0 : Nat) : Int) != ((List.length a1 : Nat) : Int)) then
    some [tB false]
  else
    (call ig_Equal___i_Simple_i_Simple__4 [tLA8 a0, tLA8 a1, tI ((List.length a0 : Nat) : Int), tI 0]).bind fun o1 =>
    bif ((gI o1 0) == 0) then
      some [tB true]
    else
      some [tB (gB o1 1)]
theorem eg_Equal___i_Simple_i_Simple_ (call : Oracle) (a0 : List (List Int)) (a1 : List (List Int)) : run1 E call ig_Equal___i_Simple_i_Simple_ [tLA8 a0, tLA8 a1] = bg_Equal___i_Simple_i_Simple_ call a0 a1 := by kernel_rfl
theorem vg_Equal___i_Simple_i_Simple_ (a0 : List (List Int)) (a1 : List (List Int)) {o : List TV} (h : bg_Equal___i_Simple_i_Simple_ R a0 a1 = some o) : R ig_Equal___i_Simple_i_Simple_ [tLA8 a0, tLA8 a1] = some o := ev_step ((eg_Equal___i_Simple_i_Simple_ R a0 a1).trans h)
/-- impl.sameNormal -/
noncomputable def bi_sameNormal (call : Oracle) (a0 : Int × Int × List (List Int)) (a1 : Int × Int × List (List Int)) : Option (List TV) :=
  bif (a0.1 == a1.1) then
    bif (a0.2.1 == a1.2.1) then
      (call ig_Equal___i_Simple_i_Simple_ [tLA8 a0.2.2, tLA8 a1.2.2]).bind fun o1 =>
      some [tB (gB o1 0)]
    else
      some [tB false]
  else
    some [tB false]
theorem ei_sameNormal (call : Oracle) (a0 : Int × Int × List (List Int)) (a1 : Int × Int × List (List Int)) : run1 E call ii_sameNormal [tPIPILA8 a0, tPIPILA8 a1] = bi_sameNormal call a0 a1 := by kernel_rfl
theorem vi_sameNormal (a0 : Int × Int × List (List Int)) (a1 : Int × Int × List (List Int)) {o : List TV} (h : bi_sameNormal R a0 a1 = some o) : R ii_sameNormal [tPIPILA8 a0, tPIPILA8 a1] = some o := ev_step ((ei_sameNormal R a0 a1).trans h)
/-- impl.superSummit$1 -/
noncomputable def bi_superSummitK1 (call : Oracle) (a0 : Int × Int × List (List Int)) (a1 : Int × Int × List (List Int)) : Option (List TV) :=
  (call ii_sameNormal [tPIPILA8 (a0.1, (a0.2.1, a0.2.2)), tPIPILA8 (a1.1, (a1.2.1, a1.2.2))]).bind fun o1 =>
  some [tB (gB o1 0)]
theorem ei_superSummitK1 (call : Oracle) (a0 : Int × Int × List (List Int)) (a1 : Int × Int × List (List Int)) : run1 E call ii_superSummitK1 [tPIPILA8 a0, tPIPILA8 a1] = bi_superSummitK1 call a0 a1 := by kernel_rfl
theorem vi_superSummitK1 (a0 : Int × Int × List (List Int)) (a1 : Int × Int × List (List Int)) {o : List TV} (h : bi_superSummitK1 R a0 a1 = some o) : R ii_superSummitK1 [tPIPILA8 a0, tPIPILA8 a1] = some o := ev_step ((ei_superSummitK1 R a0 a1).trans h)
/-- slices.IndexFunc[[]impl.Normal,impl.Normal] loop 2 -/
noncomputable def bg_IndexFunc___i_Normal_i_Normal__2 (call : Oracle) (x0 : List (Int × Int × List (List Int))) (x1 : Int) (x2 : Int) (x3 : List (List Int)) (x4 : Int) (x5 : Int) : Option (List TV) :=
  bif decide (x5 < x4) then
    bif (decide (0 ≤ x5) && decide (x5 < ((List.length x0 : Nat) : Int))) then
      (call ii_superSummitK1 [tPIPILA8 ((List.getD x0 (Int.toNat x5) (0, (0, []))).1, (((List.getD x0 (Int.toNat x5) (0, (0, []))).2).1, ((List.getD x0 (Int.toNat x5) (0, (0, []))).2).2)), tPIPILA8 (x1, (x2, x3))]).bind fun o2 =>
      bif (gB o2 0) then
        some [tI 1, tI x5]
      else
        call ig_IndexFunc___i_Normal_i_Normal__2 [tLPIPILA8 x0, tI x1, tI x2, tLA8 x3, tI x4, tI (wi64 (x5 + 1))]
    else none
  else
    some [tI 0]
theorem eg_IndexFunc___i_Normal_i_Normal__2 (call : Oracle) (x0 : List (Int × Int × List (List Int))) (x1 : Int) (x2 : Int) (x3 : List (List Int)) (x4 : Int) (x5 : Int) : run1 E call ig_IndexFunc___i_Normal_i_Normal__2 [tLPIPILA8 x0, tI x1, tI x2, tLA8 x3, tI x4, tI x5] = bg_IndexFunc___i_Normal_i_Normal__2 call x0 x1 x2 x3 x4 x5 := by kernel_rfl
theorem vg_IndexFunc___i_Normal_i_Normal__2 (x0 : List (Int × Int × List (List Int))) (x1 : Int) (x2 : Int) (x3 : List (List Int)) (x4 : Int) (x5 : Int) {o : List TV} (h : bg_IndexFunc___i_Normal_i_Normal__2 R x0 x1 x2 x3 x4 x5 = some o) : R ig_IndexFunc___i_Normal_i_Normal__2 [tLPIPILA8 x0, tI x1, tI x2, tLA8 x3, tI x4, tI x5] = some o := ev_step ((eg_IndexFunc___i_Normal_i_Normal__2 R x0 x1 x2 x3 x4 x5).trans h)
/-- slices.IndexFunc[[]impl.Normal,impl.Normal] -/
noncomputable def bg_IndexFunc___i_Normal_i_Normal_ (call : Oracle) (a0 : List (Int × Int × List (List Int))) (a1 : Int × Int × List (List Int)) : Option (List TV) :=
  (call ig_IndexFunc___i_Normal_i_Normal__2 [tLPIPILA8 a0, tI a1.1, tI a1.2.1, tLA8 a1.2.2, tI ((List.length a0 : Nat) : Int), tI 0]).bind fun o3 =>
  bif ((gI o3 0) == 0) then
    some [tI (-1)]
  else
    some [tI (gI o3 1)]
theorem eg_IndexFunc___i_Normal_i_Normal_ (call : Oracle) (a0 : List (Int × Int × List (List Int))) (a1 : Int × Int × List (List Int)) : run1 E call ig_IndexFunc___i_Normal_i_Normal_ [tLPIPILA8 a0, tPIPILA8 a1] = bg_IndexFunc___i_Normal_i_Normal_ call a0 a1 := by kernel_rfl
theorem vg_IndexFunc___i_Normal_i_Normal_ (a0 : List (Int × Int × List (List Int))) (a1 : Int × Int × List (List Int)) {o : List TV} (h : bg_IndexFunc___i_Normal_i_Normal_ R a0 a1 = some o) : R ig_IndexFunc___i_Normal_i_Normal_ [tLPIPILA8 a0, tPIPILA8 a1] = some o := ev_step ((eg_IndexFunc___i_Normal_i_Normal_ R a0 a1).trans h)
/-- slices.ContainsFunc[[]impl.Normal,impl.Normal] -/
noncomputable def bg_ContainsFunc___i_Normal_i_Normal_ (call : Oracle) (a0 : List (Int × Int × List (List Int))) (a1 : Int × Int × List (List Int)) : Option (List TV) :=
  (call ig_IndexFunc___i_Normal_i_Normal_ [tLPIPILA8 a0, tPIPILA8 (a1.1, (a1.2.1, a1.2.2))]).bind fun o1 =>
  some [tB (decide (0 ≤ (gI o1 0)))]
theorem eg_ContainsFunc___i_Normal_i_Normal_ (call : Oracle) (a0 : List (Int × Int × List (List Int))) (a1 : Int × Int × List (List Int)) : run1 E call ig_ContainsFunc___i_Normal_i_Normal_ [tLPIPILA8 a0, tPIPILA8 a1] = bg_ContainsFunc___i_Normal_i_Normal_ call a0 a1 := by kernel_rfl
theorem vg_ContainsFunc___i_Normal_i_Normal_ (a0 : List (Int × Int × List (List Int))) (a1 : Int × Int × List (List Int)) {o : List TV} (h : bg_ContainsFunc___i_Normal_i_Normal_ R a0 a1 = some o) : R ig_ContainsFunc___i_Normal_i_Normal_ [tLPIPILA8 a0, tPIPILA8 a1] = some o := ev_step ((eg_ContainsFunc___i_Normal_i_Normal_ R a0 a1).trans h)
/-- cmp.isNaN[byte] -/
noncomputable def bcmp_isNaN_byte_ (call : Oracle) (a0 : Int) : Option (List TV) :=
  some [tB (a0 != a0)]
theorem ecmp_isNaN_byte_ (call : Oracle) (a0 : Int) : run1 E call icmp_isNaN_byte_ [tU8 a0] = bcmp_isNaN_byte_ call a0 := by kernel_rfl
theorem vcmp_isNaN_byte_ (a0 : Int) {o : List TV} (h : bcmp_isNaN_byte_ R a0 = some o) : R icmp_isNaN_byte_ [tU8 a0] = some o := ev_step ((ecmp_isNaN_byte_ R a0).trans h)
/-- cmp.Compare[byte] -/
noncomputable def bcmp_Compare_byte_ (call : Oracle) (a0 : Int) (a1 : Int) : Option (List TV) :=
  (call icmp_isNaN_byte_ [tU8 a0]).bind fun o1 =>
  (call icmp_isNaN_byte_ [tU8 a1]).bind fun o2 =>
  bif (gB o1 0) then
    bif (gB o2 0) then
      some [tI 0]
    else
      some [tI (-1)]
  else
    bif (gB o2 0) then
      some [tI 1]
    else
      bif decide (a0 < a1) then
        some [tI (-1)]
      else
        bif decide (a1 < a0) then
          some [tI 1]
        else
          some [tI 0]
theorem ecmp_Compare_byte_ (call : Oracle) (a0 : Int) (a1 : Int) : run1 E call icmp_Compare_byte_ [tU8 a0, tU8 a1] = bcmp_Compare_byte_ call a0 a1 := by kernel_rfl
theorem vcmp_Compare_byte_ (a0 : Int) (a1 : Int) {o : List TV} (h : bcmp_Compare_byte_ R a0 a1 = some o) : R icmp_Compare_byte_ [tU8 a0, tU8 a1] = some o := ev_step ((ecmp_Compare_byte_ R a0 a1).trans h)
/-- slices.Compare[[]byte,byte] loop 2 -/
noncomputable def bg_Compare___byte_byte__2 (call : Oracle) (x0 : List Int) (x1 : List Int) (x2 : Int) (x3 : Int) : Option (List TV) :=
  bif decide (x3 < x2) then
    bif (decide (0 ≤ x3) && decide (x3 < ((List.length x0 : Nat) : Int))) then
      bif decide (((List.length x1 : Nat) : Int) ≤ x3) then
        some [tI 1, tI 1]
      else
        bif (decide (0 ≤ x3) && decide (x3 < ((List.length x1 : Nat) : Int))) then
          (call icmp_Compare_byte_ [tU8 (List.getD x0 (Int.toNat x3) 0), tU8 (List.getD x1 (Int.toNat x3) 0)]).bind fun o2 =>
          bif ((gI o2 0) != 0) then
            some [tI 1, tI (gI o2 0)]
          else
            call ig_Compare___byte_byte__2 [tLU8 x0, tLU8 x1, tI x2, tI (wi64 (x3 + 1))]
        else none
    else none
  else
    some [tI 0, tLU8 x0, tLU8 x1]
theorem eg_Compare___byte_byte__2 (call : Oracle) (x0 : List Int) (x1 : List Int) (x2 : Int) (x3 : Int) : run1 E call ig_Compare___byte_byte__2 [tLU8 x0, tLU8 x1, tI x2, tI x3] = bg_Compare___byte_byte__2 call x0 x1 x2 x3 := by kernel_rfl
theorem vg_Compare___byte_byte__2 (x0 : List Int) (x1 : List Int) (x2 : Int) (x3 : Int) {o : List TV} (h : bg_Compare___byte_byte__2 R x0 x1 x2 x3 = some o) : R ig_Compare___byte_byte__2 [tLU8 x0, tLU8 x1, tI x2, tI x3] = some o := ev_step ((eg_Compare___byte_byte__2 R x0 x1 x2 x3).trans h)
/-- slices.Compare[[]byte,byte] -/
noncomputable def bg_Compare___byte_byte_ (call : Oracle) (a0 : List Int) (a1 : List Int) : Option (List TV) :=
  (call ig_Compare___byte_byte__2 [tLU8 a0, tLU8 a1, tI ((List.length a0 : Nat) : Int), tI 0]).bind fun o3 =>
  bif ((gI o3 0) == 0) then
    bif decide (((List.length (gLU8 o3 1) : Nat) : Int) < ((List.length (gLU8 o3 2) : Nat) : Int)) then
      some [tI (-1)]
    else
      some [tI 0]
  else
    some [tI (gI o3 1)]
theorem eg_Compare___byte_byte_ (call : Oracle) (a0 : List Int) (a1 : List Int) : run1 E call ig_Compare___byte_byte_ [tLU8 a0, tLU8 a1] = bg_Compare___byte_byte_ call a0 a1 := by kernel_rfl
theorem vg_Compare___byte_byte_ (a0 : List Int) (a1 : List Int) {o : List TV} (h : bg_Compare___byte_byte_ R a0 a1 = some o) : R ig_Compare___byte_byte_ [tLU8 a0, tLU8 a1] = some o := ev_step ((eg_Compare___byte_byte_ R a0 a1).trans h)
/-- impl.compareSimple -/
noncomputable def bi_compareSimple (call : Oracle) (a0 : List Int) (a1 : List Int) : Option (List TV) :=
  (call ig_Compare___byte_byte_ [tLU8 a0, tLU8 a1]).bind fun o1 =>
  some [tI (gI o1 0)]
theorem ei_compareSimple (call : Oracle) (a0 : List Int) (a1 : List Int) : run1 E call ii_compareSimple [tA8 a0, tA8 a1] = bi_compareSimple call a0 a1 := by kernel_rfl
theorem vi_compareSimple (a0 : List Int) (a1 : List Int) {o : List TV} (h : bi_compareSimple R a0 a1 = some o) : R ii_compareSimple [tA8 a0, tA8 a1] = some o := ev_step ((ei_compareSimple R a0 a1).trans h)
/-- slices.CompareFunc[[]impl.Simple,[]impl.Simple,impl.Simple,impl.Simple] loop 2 -/
noncomputable def bg_CompareFunc___i_Simple___i_Simple_i_Simple_i_Simple__2 (call : Oracle) (x0 : List (List Int)) (x1 : List (List Int)) (x2 : Int) (x3 : Int) : Option (List TV) :=
  bif decide (x3 < x2) then
    bif (decide (0 ≤ x3) && decide (x3 < ((List.length x0 : Nat) : Int))) then
      bif decide (((List.length x1 : Nat) : Int) ≤ x3) then
        some [tI 1, tI 1]
      else
        bif (decide (0 ≤ x3) && decide (x3 < ((List.length x1 : Nat) : Int))) then
          (call ii_compareSimple [tA8 (List.getD x0 (Int.toNat x3) (List.replicate 8 0)), tA8 (List.getD x1 (Int.toNat x3) (List.replicate 8 0))]).bind fun o2 =>
          bif ((gI o2 0) != 0) then
            some [tI 1, tI (gI o2 0)]
          else
            call ig_CompareFunc___i_Simple___i_Simple_i_Simple_i_Simple__2 [tLA8 x0, tLA8 x1, tI x2, tI (wi64 (x3 + 1))]
        else none
    else none
  else
    some [tI 0, tLA8 x0, tLA8 x1]
theorem eg_CompareFunc___i_Simple___i_Simple_i_Simple_i_Simple__2 (call : Oracle) (x0 : List (List Int)) (x1 : List (List Int)) (x2 : Int) (x3 : Int) : run1 E call ig_CompareFunc___i_Simple___i_Simple_i_Simple_i_Simple__2 [tLA8 x0, tLA8 x1, tI x2, tI x3] = bg_CompareFunc___i_Simple___i_Simple_i_Simple_i_Simple__2 call x0 x1 x2 x3 := by kernel_rfl
theorem vg_CompareFunc___i_Simple___i_Simple_i_Simple_i_Simple__2 (x0 : List (List Int)) (x1 : List (List Int)) (x2 : Int) (x3 : Int) {o : List TV} (h : bg_CompareFunc___i_Simple___i_Simple_i_Simple_i_Simple__2 R x0 x1 x2 x3 = some o) : R ig_CompareFunc___i_Simple___i_Simple_i_Simple_i_Simple__2 [tLA8 x0, tLA8 x1, tI x2, tI x3] = some o := ev_step ((eg_CompareFunc___i_Simple___i_Simple_i_Simple_i_Simple__2 R x0 x1 x2 x3).trans h)
/-- slices.CompareFunc[[]impl.Simple,[]impl.Simple,impl.Simple,impl.Simple] -/
noncomputable def bg_CompareFunc___i_Simple___i_Simple_i_Simple_i_Simple_ (call : Oracle) (a0 : List (List Int)) (a1 : List (List Int)) : Option (List TV) :=
  (call ig_CompareFunc___i_Simple___i_Simple_i_Simple_i_Simple__2 [tLA8 a0, tLA8 a1, tI ((List.length a0 : Nat) : Int), tI 0]).bind fun o3 =>
  bif ((gI o3 0) == 0) then
    bif decide (((List.length (gLA8 o3 1) : Nat) : Int) < ((List.length (gLA8 o3 2) : Nat) : Int)) then
      some [tI (-1)]
    else
      some [tI 0]
  else
    some [tI (gI o3 1)]
theorem eg_CompareFunc___i_Simple___i_Simple_i_Simple_i_Simple_ (call : Oracle) (a0 : List (List Int)) (a1 : List (List Int)) : run1 E call ig_CompareFunc___i_Simple___i_Simple_i_Simple_i_Simple_ [tLA8 a0, tLA8 a1] = bg_CompareFunc___i_Simple___i_Simple_i_Simple_i_Simple_ call a0 a1 := by kernel_rfl
theorem vg_CompareFunc___i_Simple___i_Simple_i_Simple_i_Simple_ (a0 : List (List Int)) (a1 : List (List Int)) {o : List TV} (h : bg_CompareFunc___i_Simple___i_Simple_i_Simple_i_Simple_ R a0 a1 = some o) : R ig_CompareFunc___i_Simple___i_Simple_i_Simple_i_Simple_ [tLA8 a0, tLA8 a1] = some o := ev_step ((eg_CompareFunc___i_Simple___i_Simple_i_Simple_i_Simple_ R a0 a1).trans h)
/-- impl.compareFactors -/
noncomputable def bi_compareFactors (call : Oracle) (a0 : Int × Int × List (List Int)) (a1 : Int × Int × List (List Int)) : Option (List TV) :=
  (call ig_CompareFunc___i_Simple___i_Simple_i_Simple_i_Simple_ [tLA8 a0.2.2, tLA8 a1.2.2]).bind fun o1 =>
  some [tI (gI o1 0)]
theorem ei_compareFactors (call : Oracle) (a0 : Int × Int × List (List Int)) (a1 : Int × Int × List (List Int)) : run1 E call ii_compareFactors [tPIPILA8 a0, tPIPILA8 a1] = bi_compareFactors call a0 a1 := by kernel_rfl
theorem vi_compareFactors (a0 : Int × Int × List (List Int)) (a1 : Int × Int × List (List Int)) {o : List TV} (h : bi_compareFactors R a0 a1 = some o) : R ii_compareFactors [tPIPILA8 a0, tPIPILA8 a1] = some o := ev_step ((ei_compareFactors R a0 a1).trans h)
/-- slices.SortFunc[[]impl.Normal,impl.Normal] -/
noncomputable def bg_SortFunc___i_Normal_i_Normal_ (call : Oracle) (x0 : List (Int × Int × List (List Int))) : Option (List TV) :=
  sortE call 66 (.pair (.int .i64) (.pair (.int .i64) (.slice (.arr .u8 8)))) x0
theorem eg_SortFunc___i_Normal_i_Normal_ (call : Oracle) (x0 : List (Int × Int × List (List Int))) : run1 E call ig_SortFunc___i_Normal_i_Normal_ [tLPIPILA8 x0] = bg_SortFunc___i_Normal_i_Normal_ call x0 := by kernel_rfl
theorem vg_SortFunc___i_Normal_i_Normal_ (x0 : List (Int × Int × List (List Int))) {o : List TV} (h : bg_SortFunc___i_Normal_i_Normal_ R x0 = some o) : R ig_SortFunc___i_Normal_i_Normal_ [tLPIPILA8 x0] = some o := ev_step ((eg_SortFunc___i_Normal_i_Normal_ R x0).trans h)
/-- impl.superSummit loop 4 -/
noncomputable def bi_superSummit_4 (call : Oracle) (x0 : List (Int × Int × List (List Int))) (x1 : List (List Int)) (x2 : Int) : Option (List TV) :=
  bif decide (x2 < ((List.length x0 : Nat) : Int)) then
    (call ii_superSummit_7 [tLPIPILA8 x0, tLA8 x1, tI x2, tI ((List.length x1 : Nat) : Int), tI 0]).bind fun o8 =>
    bif ((gI o8 0) == 0) then
      call ii_superSummit_4 [tLPIPILA8 (gLPIPILA8 o8 1), tLA8 (gLA8 o8 2), tI (wi64 ((gI o8 3) + 1))]
    else
      some [tI 1, tLPIPILA8 (gLPIPILA8 o8 1), tB (gB o8 2)]
  else
    some [tI 0, tLPIPILA8 x0]
theorem ei_superSummit_4 (call : Oracle) (x0 : List (Int × Int × List (List Int))) (x1 : List (List Int)) (x2 : Int) : run1 E call ii_superSummit_4 [tLPIPILA8 x0, tLA8 x1, tI x2] = bi_superSummit_4 call x0 x1 x2 := by kernel_rfl
theorem vi_superSummit_4 (x0 : List (Int × Int × List (List Int))) (x1 : List (List Int)) (x2 : Int) {o : List TV} (h : bi_superSummit_4 R x0 x1 x2 = some o) : R ii_superSummit_4 [tLPIPILA8 x0, tLA8 x1, tI x2] = some o := ev_step ((ei_superSummit_4 R x0 x1 x2).trans h)
/-- impl.superSummit loop 7 -/
noncomputable def bi_superSummit_7 (call : Oracle) (x0 : List (Int × Int × List (List Int))) (x1 : List (List Int)) (x2 : Int) (x3 : Int) (x4 : Int) : Option (List TV) :=
  bif decide (x4 < x3) then
    bif (decide (0 ≤ x4) && decide (x4 < ((List.length x1 : Nat) : Int))) then
      bif (decide (0 ≤ x2) && decide (x2 < ((List.length x0 : Nat) : Int))) then
        (call ii_conjugate [tPIPILA8 ((List.getD x0 (Int.toNat x2) (0, (0, []))).1, (((List.getD x0 (Int.toNat x2) (0, (0, []))).2).1, ((List.getD x0 (Int.toNat x2) (0, (0, []))).2).2)), tA8 (List.getD x1 (Int.toNat x4) (List.replicate 8 0))]).bind fun o5 =>
        bif decide (0 < ((List.length x0 : Nat) : Int)) then
          bif (((gPIPILA8 o5 0).2).1 != ((List.getD x0 0 (0, (0, []))).2).1) then
            call ii_superSummit_7 [tLPIPILA8 x0, tLA8 x1, tI x2, tI x3, tI (wi64 (x4 + 1))]
          else
            bif decide (0 < ((List.length x0 : Nat) : Int)) then
              bif (((List.length (((gPIPILA8 o5 0).2).2) : Nat) : Int) != ((List.length (((List.getD x0 0 (0, (0, []))).2).2) : Nat) : Int)) then
                call ii_superSummit_7 [tLPIPILA8 x0, tLA8 x1, tI x2, tI x3, tI (wi64 (x4 + 1))]
              else
                (call ig_ContainsFunc___i_Normal_i_Normal_ [tLPIPILA8 x0, tPIPILA8 ((gPIPILA8 o5 0).1, (((gPIPILA8 o5 0).2).1, ((gPIPILA8 o5 0).2).2))]).bind fun o6 =>
                bif (gB o6 0) then
                  call ii_superSummit_7 [tLPIPILA8 x0, tLA8 x1, tI x2, tI x3, tI (wi64 (x4 + 1))]
                else
                  bif (((List.length x0 : Nat) : Int) == 120) then
                    some [tI 1, tLPIPILA8 [], tB false]
                  else
                    bif (apOk x0 [((gPIPILA8 o5 0).1, (((gPIPILA8 o5 0).2).1, ((gPIPILA8 o5 0).2).2))]) then
                      call ii_superSummit_7 [tLPIPILA8 (x0 ++ [((gPIPILA8 o5 0).1, (((gPIPILA8 o5 0).2).1, ((gPIPILA8 o5 0).2).2))]), tLA8 x1, tI x2, tI x3, tI (wi64 (x4 + 1))]
                    else none
            else none
        else none
      else none
    else none
  else
    some [tI 0, tLPIPILA8 x0, tLA8 x1, tI x2]
theorem ei_superSummit_7 (call : Oracle) (x0 : List (Int × Int × List (List Int))) (x1 : List (List Int)) (x2 : Int) (x3 : Int) (x4 : Int) : run1 E call ii_superSummit_7 [tLPIPILA8 x0, tLA8 x1, tI x2, tI x3, tI x4] = bi_superSummit_7 call x0 x1 x2 x3 x4 := by kernel_rfl
theorem vi_superSummit_7 (x0 : List (Int × Int × List (List Int))) (x1 : List (List Int)) (x2 : Int) (x3 : Int) (x4 : Int) {o : List TV} (h : bi_superSummit_7 R x0 x1 x2 x3 x4 = some o) : R ii_superSummit_7 [tLPIPILA8 x0, tLA8 x1, tI x2, tI x3, tI x4] = some o := ev_step ((ei_superSummit_7 R x0 x1 x2 x3 x4).trans h)
/-- impl.superSummit -/
noncomputable def bi_superSummit (call : Oracle) (a0 : Int × Int × List (List Int)) : Option (List TV) :=
  (call ii_summit [tPIPILA8 (a0.1, (a0.2.1, a0.2.2))]).bind fun o1 =>
  (call ii_allSimple [tI a0.1]).bind fun o2 =>
  (call ii_superSummit_4 [tLPIPILA8 [((gPIPILA8 o1 0).1, (((gPIPILA8 o1 0).2).1, ((gPIPILA8 o1 0).2).2))], tLA8 (gLA8 o2 0), tI 0]).bind fun o9 =>
  bif ((gI o9 0) == 0) then
    (call ig_SortFunc___i_Normal_i_Normal_ [tLPIPILA8 (gLPIPILA8 o9 1)]).bind fun o10 =>
    some [tLPIPILA8 (gLPIPILA8 o10 0), tB true]
  else
    some [tLPIPILA8 (gLPIPILA8 o9 1), tB (gB o9 2)]
theorem ei_superSummit (call : Oracle) (a0 : Int × Int × List (List Int)) : run1 E call ii_superSummit [tPIPILA8 a0] = bi_superSummit call a0 := by kernel_rfl
theorem vi_superSummit (a0 : Int × Int × List (List Int)) {o : List TV} (h : bi_superSummit R a0 = some o) : R ii_superSummit [tPIPILA8 a0] = some o := ev_step ((ei_superSummit R a0).trans h)
/-- impl.limited -/
noncomputable def bi_limited (call : Oracle) (a0 : Int × Int × List (List Int)) : Option (List TV) :=
  (call ii_within [tI a0.2.1, tI (-200), tI 200]).bind fun o1 =>
  bif (!(gB o1 0)) then
    some [tPIPILA8 (0, (0, [])), tI 3]
  else
    bif decide (200 < ((List.length a0.2.2 : Nat) : Int)) then
      some [tPIPILA8 (0, (0, [])), tI 3]
    else
      some [tPIPILA8 (a0.1, (a0.2.1, a0.2.2)), tI 0]
theorem ei_limited (call : Oracle) (a0 : Int × Int × List (List Int)) : run1 E call ii_limited [tPIPILA8 a0] = bi_limited call a0 := by kernel_rfl
theorem vi_limited (a0 : Int × Int × List (List Int)) {o : List TV} (h : bi_limited R a0 = some o) : R ii_limited [tPIPILA8 a0] = some o := ev_step ((ei_limited R a0).trans h)
/-- impl.SuperSummit -/
noncomputable def bi_SuperSummit (call : Oracle) (a0 : Int × Int × List (List Int)) : Option (List TV) :=
  (call ii_IsNormal [tPIPILA8 (a0.1, (a0.2.1, a0.2.2))]).bind fun o1 =>
  bif (!(gB o1 0)) then
    some [tLPIPILA8 [], tI 1]
  else
    bif decide (4 < a0.1) then
      some [tLPIPILA8 [], tI 2]
    else
      (call ii_superSummit [tPIPILA8 (a0.1, (a0.2.1, a0.2.2))]).bind fun o2 =>
      bif (!(gB o2 1)) then
        some [tLPIPILA8 [], tI 3]
      else
        bif decide (0 < ((List.length (gLPIPILA8 o2 0) : Nat) : Int)) then
          (call ii_limited [tPIPILA8 ((List.getD (gLPIPILA8 o2 0) 0 (0, (0, []))).1, (((List.getD (gLPIPILA8 o2 0) 0 (0, (0, []))).2).1, ((List.getD (gLPIPILA8 o2 0) 0 (0, (0, []))).2).2))]).bind fun o3 =>
          bif ((gI o3 1) != 0) then
            some [tLPIPILA8 [], tI (gI o3 1)]
          else
            some [tLPIPILA8 (gLPIPILA8 o2 0), tI 0]
        else none
theorem ei_SuperSummit (call : Oracle) (a0 : Int × Int × List (List Int)) : run1 E call ii_SuperSummit [tPIPILA8 a0] = bi_SuperSummit call a0 := by kernel_rfl
theorem vi_SuperSummit (a0 : Int × Int × List (List Int)) {o : List TV} (h : bi_SuperSummit R a0 = some o) : R ii_SuperSummit [tPIPILA8 a0] = some o := ev_step ((ei_SuperSummit R a0).trans h)
/-- laws.eqSimple loop 2 -/
noncomputable def bw_eqSimple_2 (call : Oracle) (x0 : List Int) (x1 : List Int) (x2 : Int) : Option (List TV) :=
  bif decide (x2 < 8) then
    bif (decide (0 ≤ x2) && decide (x2 < 8)) then
      bif (decide (0 ≤ x2) && decide (x2 < 8)) then
        bif ((List.getD x0 (Int.toNat x2) 0) != (List.getD x1 (Int.toNat x2) 0)) then
          some [tI 1, tB false]
        else
          call iw_eqSimple_2 [tA8 x0, tA8 x1, tI (wi64 (x2 + 1))]
      else none
    else none
  else
    some [tI 0]
theorem ew_eqSimple_2 (call : Oracle) (x0 : List Int) (x1 : List Int) (x2 : Int) : run1 E call iw_eqSimple_2 [tA8 x0, tA8 x1, tI x2] = bw_eqSimple_2 call x0 x1 x2 := by kernel_rfl
theorem vw_eqSimple_2 (x0 : List Int) (x1 : List Int) (x2 : Int) {o : List TV} (h : bw_eqSimple_2 R x0 x1 x2 = some o) : R iw_eqSimple_2 [tA8 x0, tA8 x1, tI x2] = some o := ev_step ((ew_eqSimple_2 R x0 x1 x2).trans h)
/-- laws.eqSimple -/
noncomputable def bw_eqSimple (call : Oracle) (a0 : List Int) (a1 : List Int) : Option (List TV) :=
  (call iw_eqSimple_2 [tA8 a0, tA8 a1, tI 0]).bind fun o1 =>
  bif ((gI o1 0) == 0) then
    some [tB true]
  else
    some [tB (gB o1 1)]
theorem ew_eqSimple (call : Oracle) (a0 : List Int) (a1 : List Int) : run1 E call iw_eqSimple [tA8 a0, tA8 a1] = bw_eqSimple call a0 a1 := by kernel_rfl
theorem vw_eqSimple (a0 : List Int) (a1 : List Int) {o : List TV} (h : bw_eqSimple R a0 a1 = some o) : R iw_eqSimple [tA8 a0, tA8 a1] = some o := ev_step ((ew_eqSimple R a0 a1).trans h)
/-- laws.eqSimpleS loop 4 -/
noncomputable def bw_eqSimpleS_4 (call : Oracle) (x0 : List (List Int)) (x1 : List (List Int)) (x2 : Int) : Option (List TV) :=
  bif decide (x2 < ((List.length x0 : Nat) : Int)) then
    bif (decide (0 ≤ x2) && decide (x2 < ((List.length x0 : Nat) : Int))) then
      bif (decide (0 ≤ x2) && decide (x2 < ((List.length x1 : Nat) : Int))) then
        (call iw_eqSimple [tA8 (List.getD x0 (Int.toNat x2) (List.replicate 8 0)), tA8 (List.getD x1 (Int.toNat x2) (List.replicate 8 0))]).bind fun o2 =>
        bif (!(gB o2 0)) then
          some [tI 1, tB false]
        else
          call iw_eqSimpleS_4 [tLA8 x0, tLA8 x1, tI (wi64 (x2 + 1))]
      else none
    else none
  else
    some [tI 0]
theorem ew_eqSimpleS_4 (call : Oracle) (x0 : List (List Int)) (x1 : List (List Int)) (x2 : Int) : run1 E call iw_eqSimpleS_4 [tLA8 x0, tLA8 x1, tI x2] = bw_eqSimpleS_4 call x0 x1 x2 := by kernel_rfl
theorem vw_eqSimpleS_4 (x0 : List (List Int)) (x1 : List (List Int)) (x2 : Int) {o : List TV} (h : bw_eqSimpleS_4 R x0 x1 x2 = some o) : R iw_eqSimpleS_4 [tLA8 x0, tLA8 x1, tI x2] = some o := ev_step ((ew_eqSimpleS_4 R x0 x1 x2).trans h)
/-- laws.eqSimpleS -/
noncomputable def bw_eqSimpleS (call : Oracle) (a0 : List (List Int)) (a1 : List (List Int)) : Option (List TV) :=
  bif (((List.length a0 : Nat) : Int) != ((List.length a1 : Nat) : Int)) then
    some [tB false]
  else
    (call iw_eqSimpleS_4 [tLA8 a0, tLA8 a1, tI 0]).bind fun o3 =>
    bif ((gI o3 0) == 0) then
      some [tB true]
    else
      some [tB (gB o3 1)]
theorem ew_eqSimpleS (call : Oracle) (a0 : List (List Int)) (a1 : List (List Int)) : run1 E call iw_eqSimpleS [tLA8 a0, tLA8 a1] = bw_eqSimpleS call a0 a1 := by kernel_rfl
theorem vw_eqSimpleS (a0 : List (List Int)) (a1 : List (List Int)) {o : List TV} (h : bw_eqSimpleS R a0 a1 = some o) : R iw_eqSimpleS [tLA8 a0, tLA8 a1] = some o := ev_step ((ew_eqSimpleS R a0 a1).trans h)
/-- laws.eqNormal -/
noncomputable def bw_eqNormal (call : Oracle) (a0 : Int × Int × List (List Int)) (a1 : Int × Int × List (List Int)) : Option (List TV) :=
  bif (a0.1 != a1.1) then
    some [tB false]
  else
    bif (a0.2.1 != a1.2.1) then
      some [tB false]
    else
      (call iw_eqSimpleS [tLA8 a0.2.2, tLA8 a1.2.2]).bind fun o1 =>
      bif (!(gB o1 0)) then
        some [tB false]
      else
        some [tB true]
theorem ew_eqNormal (call : Oracle) (a0 : Int × Int × List (List Int)) (a1 : Int × Int × List (List Int)) : run1 E call iw_eqNormal [tPIPILA8 a0, tPIPILA8 a1] = bw_eqNormal call a0 a1 := by kernel_rfl
theorem vw_eqNormal (a0 : Int × Int × List (List Int)) (a1 : Int × Int × List (List Int)) {o : List TV} (h : bw_eqNormal R a0 a1 = some o) : R iw_eqNormal [tPIPILA8 a0, tPIPILA8 a1] = some o := ev_step ((ew_eqNormal R a0 a1).trans h)
/-- laws.eqNormalS loop 4 -/
noncomputable def bw_eqNormalS_4 (call : Oracle) (x0 : List (Int × Int × List (List Int))) (x1 : List (Int × Int × List (List Int))) (x2 : Int) : Option (List TV) :=
  bif decide (x2 < ((List.length x0 : Nat) : Int)) then
    bif (decide (0 ≤ x2) && decide (x2 < ((List.length x0 : Nat) : Int))) then
      bif (decide (0 ≤ x2) && decide (x2 < ((List.length x1 : Nat) : Int))) then
        (call iw_eqNormal [tPIPILA8 ((List.getD x0 (Int.toNat x2) (0, (0, []))).1, (((List.getD x0 (Int.toNat x2) (0, (0, []))).2).1, ((List.getD x0 (Int.toNat x2) (0, (0, []))).2).2)), tPIPILA8 ((List.getD x1 (Int.toNat x2) (0, (0, []))).1, (((List.getD x1 (Int.toNat x2) (0, (0, []))).2).1, ((List.getD x1 (Int.toNat x2) (0, (0, []))).2).2))]).bind fun o2 =>
        bif (!(gB o2 0)) then
          some [tI 1, tB false]
        else
          call iw_eqNormalS_4 [tLPIPILA8 x0, tLPIPILA8 x1, tI (wi64 (x2 + 1))]
      else none
    else none
  else
    some [tI 0]
theorem ew_eqNormalS_4 (call : Oracle) (x0 : List (Int × Int × List (List Int))) (x1 : List (Int × Int × List (List Int))) (x2 : Int) : run1 E call iw_eqNormalS_4 [tLPIPILA8 x0, tLPIPILA8 x1, tI x2] = bw_eqNormalS_4 call x0 x1 x2 := by kernel_rfl
theorem vw_eqNormalS_4 (x0 : List (Int × Int × List (List Int))) (x1 : List (Int × Int × List (List Int))) (x2 : Int) {o : List TV} (h : bw_eqNormalS_4 R x0 x1 x2 = some o) : R iw_eqNormalS_4 [tLPIPILA8 x0, tLPIPILA8 x1, tI x2] = some o := ev_step ((ew_eqNormalS_4 R x0 x1 x2).trans h)
/-- laws.eqNormalS -/
noncomputable def bw_eqNormalS (call : Oracle) (a0 : List (Int × Int × List (List Int))) (a1 : List (Int × Int × List (List Int))) : Option (List TV) :=
  bif (((List.length a0 : Nat) : Int) != ((List.length a1 : Nat) : Int)) then
    some [tB false]
  else
    (call iw_eqNormalS_4 [tLPIPILA8 a0, tLPIPILA8 a1, tI 0]).bind fun o3 =>
    bif ((gI o3 0) == 0) then
      some [tB true]
    else
      some [tB (gB o3 1)]
theorem ew_eqNormalS (call : Oracle) (a0 : List (Int × Int × List (List Int))) (a1 : List (Int × Int × List (List Int))) : run1 E call iw_eqNormalS [tLPIPILA8 a0, tLPIPILA8 a1] = bw_eqNormalS call a0 a1 := by kernel_rfl
theorem vw_eqNormalS (a0 : List (Int × Int × List (List Int))) (a1 : List (Int × Int × List (List Int))) {o : List TV} (h : bw_eqNormalS R a0 a1 = some o) : R iw_eqNormalS [tLPIPILA8 a0, tLPIPILA8 a1] = some o := ev_step ((ew_eqNormalS R a0 a1).trans h)
/-- laws.markSimpleS loop 2 -/
noncomputable def bw_markSimpleS_2 (call : Oracle) (x0 : List (List Int)) (x1 : Int) (x2 : Int) : Option (List TV) :=
  bif decide (x2 < ((List.length x0 : Nat) : Int)) then
    (call iw_markSimpleS_5 [tLA8 x0, tI x1, tI x2, tI 0]).bind fun o2 =>
    call iw_markSimpleS_2 [tLA8 (gLA8 o2 1), tI (gI o2 2), tI (wi64 ((gI o2 3) + 1))]
  else
    some [tI 0, tLA8 x0, tI x1]
theorem ew_markSimpleS_2 (call : Oracle) (x0 : List (List Int)) (x1 : Int) (x2 : Int) : run1 E call iw_markSimpleS_2 [tLA8 x0, tI x1, tI x2] = bw_markSimpleS_2 call x0 x1 x2 := by kernel_rfl
theorem vw_markSimpleS_2 (x0 : List (List Int)) (x1 : Int) (x2 : Int) {o : List TV} (h : bw_markSimpleS_2 R x0 x1 x2 = some o) : R iw_markSimpleS_2 [tLA8 x0, tI x1, tI x2] = some o := ev_step ((ew_markSimpleS_2 R x0 x1 x2).trans h)
/-- laws.markSimpleS loop 5 -/
noncomputable def bw_markSimpleS_5 (call : Oracle) (x0 : List (List Int)) (x1 : Int) (x2 : Int) (x3 : Int) : Option (List TV) :=
  bif decide (x3 < 8) then
    bif (decide (0 ≤ x2) && decide (x2 < ((List.length x0 : Nat) : Int))) then
      bif (decide (0 ≤ x3) && decide (x3 < 8)) then
        call iw_markSimpleS_5 [tLA8 (List.set x0 (Int.toNat x2) (List.set (List.getD x0 (Int.toNat x2) []) (Int.toNat x3) (wu8 (x1)))), tI (wi64 (x1 + 1)), tI x2, tI (wi64 (x3 + 1))]
      else none
    else none
  else
    some [tI 0, tLA8 x0, tI x1, tI x2]
theorem ew_markSimpleS_5 (call : Oracle) (x0 : List (List Int)) (x1 : Int) (x2 : Int) (x3 : Int) : run1 E call iw_markSimpleS_5 [tLA8 x0, tI x1, tI x2, tI x3] = bw_markSimpleS_5 call x0 x1 x2 x3 := by kernel_rfl
theorem vw_markSimpleS_5 (x0 : List (List Int)) (x1 : Int) (x2 : Int) (x3 : Int) {o : List TV} (h : bw_markSimpleS_5 R x0 x1 x2 x3 = some o) : R iw_markSimpleS_5 [tLA8 x0, tI x1, tI x2, tI x3] = some o := ev_step ((ew_markSimpleS_5 R x0 x1 x2 x3).trans h)
/-- laws.markSimpleS -/
noncomputable def bw_markSimpleS (call : Oracle) (a0 : List (List Int)) (a1 : Int) : Option (List TV) :=
  (call iw_markSimpleS_2 [tLA8 a0, tI a1, tI 0]).bind fun o3 =>
  some [tI (gI o3 2), tLA8 (gLA8 o3 1)]
theorem ew_markSimpleS (call : Oracle) (a0 : List (List Int)) (a1 : Int) : run1 E call iw_markSimpleS [tLA8 a0, tI a1] = bw_markSimpleS call a0 a1 := by kernel_rfl
theorem vw_markSimpleS (a0 : List (List Int)) (a1 : Int) {o : List TV} (h : bw_markSimpleS R a0 a1 = some o) : R iw_markSimpleS [tLA8 a0, tI a1] = some o := ev_step ((ew_markSimpleS R a0 a1).trans h)
/-- laws.markNormal -/
noncomputable def bw_markNormal (call : Oracle) (a0 : Int × Int × List (List Int)) (a1 : Int) : Option (List TV) :=
  (call iw_markSimpleS [tLA8 a0.2.2, tI a1]).bind fun o1 =>
  some [tI (gI o1 0), tPIPILA8 (a0.1, (a0.2.1, (gLA8 o1 1)))]
theorem ew_markNormal (call : Oracle) (a0 : Int × Int × List (List Int)) (a1 : Int) : run1 E call iw_markNormal [tPIPILA8 a0, tI a1] = bw_markNormal call a0 a1 := by kernel_rfl
theorem vw_markNormal (a0 : Int × Int × List (List Int)) (a1 : Int) {o : List TV} (h : bw_markNormal R a0 a1 = some o) : R iw_markNormal [tPIPILA8 a0, tI a1] = some o := ev_step ((ew_markNormal R a0 a1).trans h)
/-- laws.markNormalS loop 2 -/
noncomputable def bw_markNormalS_2 (call : Oracle) (x0 : List (Int × Int × List (List Int))) (x1 : Int) (x2 : Int) : Option (List TV) :=
  bif decide (x2 < ((List.length x0 : Nat) : Int)) then
    bif (decide (0 ≤ x2) && decide (x2 < ((List.length x0 : Nat) : Int))) then
      bif (decide (0 ≤ x2) && decide (x2 < ((List.length (List.set x0 (Int.toNat x2) (x1, (List.getD x0 (Int.toNat x2) (0, (0, []))).2)) : Nat) : Int))) then
        bif (decide (0 ≤ x2) && decide (x2 < ((List.length (List.set (List.set x0 (Int.toNat x2) (x1, (List.getD x0 (Int.toNat x2) (0, (0, []))).2)) (Int.toNat x2) ((List.getD (List.set x0 (Int.toNat x2) (x1, (List.getD x0 (Int.toNat x2) (0, (0, []))).2)) (Int.toNat x2) (0, (0, []))).1, ((wi64 (x1 + 1)), ((List.getD (List.set x0 (Int.toNat x2) (x1, (List.getD x0 (Int.toNat x2) (0, (0, []))).2)) (Int.toNat x2) (0, (0, []))).2).2))) : Nat) : Int))) then
          (call iw_markSimpleS [tLA8 (((List.getD (List.set (List.set x0 (Int.toNat x2) (x1, (List.getD x0 (Int.toNat x2) (0, (0, []))).2)) (Int.toNat x2) ((List.getD (List.set x0 (Int.toNat x2) (x1, (List.getD x0 (Int.toNat x2) (0, (0, []))).2)) (Int.toNat x2) (0, (0, []))).1, ((wi64 (x1 + 1)), ((List.getD (List.set x0 (Int.toNat x2) (x1, (List.getD x0 (Int.toNat x2) (0, (0, []))).2)) (Int.toNat x2) (0, (0, []))).2).2))) (Int.toNat x2) (0, (0, []))).2).2), tI (wi64 ((wi64 (x1 + 1)) + 1))]).bind fun o2 =>
          call iw_markNormalS_2 [tLPIPILA8 (List.set (List.set (List.set x0 (Int.toNat x2) (x1, (List.getD x0 (Int.toNat x2) (0, (0, []))).2)) (Int.toNat x2) ((List.getD (List.set x0 (Int.toNat x2) (x1, (List.getD x0 (Int.toNat x2) (0, (0, []))).2)) (Int.toNat x2) (0, (0, []))).1, ((wi64 (x1 + 1)), ((List.getD (List.set x0 (Int.toNat x2) (x1, (List.getD x0 (Int.toNat x2) (0, (0, []))).2)) (Int.toNat x2) (0, (0, []))).2).2))) (Int.toNat x2) ((List.getD (List.set (List.set x0 (Int.toNat x2) (x1, (List.getD x0 (Int.toNat x2) (0, (0, []))).2)) (Int.toNat x2) ((List.getD (List.set x0 (Int.toNat x2) (x1, (List.getD x0 (Int.toNat x2) (0, (0, []))).2)) (Int.toNat x2) (0, (0, []))).1, ((wi64 (x1 + 1)), ((List.getD (List.set x0 (Int.toNat x2) (x1, (List.getD x0 (Int.toNat x2) (0, (0, []))).2)) (Int.toNat x2) (0, (0, []))).2).2))) (Int.toNat x2) (0, (0, []))).1, (((List.getD (List.set (List.set x0 (Int.toNat x2) (x1, (List.getD x0 (Int.toNat x2) (0, (0, []))).2)) (Int.toNat x2) ((List.getD (List.set x0 (Int.toNat x2) (x1, (List.getD x0 (Int.toNat x2) (0, (0, []))).2)) (Int.toNat x2) (0, (0, []))).1, ((wi64 (x1 + 1)), ((List.getD (List.set x0 (Int.toNat x2) (x1, (List.getD x0 (Int.toNat x2) (0, (0, []))).2)) (Int.toNat x2) (0, (0, []))).2).2))) (Int.toNat x2) (0, (0, []))).2).1, (gLA8 o2 1)))), tI (gI o2 0), tI (wi64 (x2 + 1))]
        else none
      else none
    else none
  else
    some [tI 0, tLPIPILA8 x0, tI x1]
theorem ew_markNormalS_2 (call : Oracle) (x0 : List (Int × Int × List (List Int))) (x1 : Int) (x2 : Int) : run1 E call iw_markNormalS_2 [tLPIPILA8 x0, tI x1, tI x2] = bw_markNormalS_2 call x0 x1 x2 := by kernel_rfl
theorem vw_markNormalS_2 (x0 : List (Int × Int × List (List Int))) (x1 : Int) (x2 : Int) {o : List TV} (h : bw_markNormalS_2 R x0 x1 x2 = some o) : R iw_markNormalS_2 [tLPIPILA8 x0, tI x1, tI x2] = some o := ev_step ((ew_markNormalS_2 R x0 x1 x2).trans h)
/-- laws.markNormalS -/
noncomputable def bw_markNormalS (call : Oracle) (a0 : List (Int × Int × List (List Int))) (a1 : Int) : Option (List TV) :=
  (call iw_markNormalS_2 [tLPIPILA8 a0, tI a1, tI 0]).bind fun o3 =>
  some [tI (gI o3 2), tLPIPILA8 (gLPIPILA8 o3 1)]
theorem ew_markNormalS (call : Oracle) (a0 : List (Int × Int × List (List Int))) (a1 : Int) : run1 E call iw_markNormalS [tLPIPILA8 a0, tI a1] = bw_markNormalS call a0 a1 := by kernel_rfl
theorem vw_markNormalS (a0 : List (Int × Int × List (List Int))) (a1 : Int) {o : List TV} (h : bw_markNormalS R a0 a1 = some o) : R iw_markNormalS [tLPIPILA8 a0, tI a1] = some o := ev_step ((ew_markNormalS R a0 a1).trans h)
/-- laws.heldSimpleS loop 2 -/
noncomputable def bw_heldSimpleS_2 (call : Oracle) (x0 : List (List Int)) (x1 : Int) (x2 : Int) : Option (List TV) :=
  bif decide (x2 < ((List.length x0 : Nat) : Int)) then
    (call iw_heldSimpleS_5 [tLA8 x0, tI x1, tI x2, tI 0]).bind fun o2 =>
    bif ((gI o2 0) == 0) then
      call iw_heldSimpleS_2 [tLA8 (gLA8 o2 1), tI (gI o2 2), tI (wi64 ((gI o2 3) + 1))]
    else
      some [tI 1, tI (gI o2 1)]
  else
    some [tI 0, tI x1]
theorem ew_heldSimpleS_2 (call : Oracle) (x0 : List (List Int)) (x1 : Int) (x2 : Int) : run1 E call iw_heldSimpleS_2 [tLA8 x0, tI x1, tI x2] = bw_heldSimpleS_2 call x0 x1 x2 := by kernel_rfl
theorem vw_heldSimpleS_2 (x0 : List (List Int)) (x1 : Int) (x2 : Int) {o : List TV} (h : bw_heldSimpleS_2 R x0 x1 x2 = some o) : R iw_heldSimpleS_2 [tLA8 x0, tI x1, tI x2] = some o := ev_step ((ew_heldSimpleS_2 R x0 x1 x2).trans h)
/-- laws.heldSimpleS loop 5 -/
noncomputable def bw_heldSimpleS_5 (call : Oracle) (x0 : List (List Int)) (x1 : Int) (x2 : Int) (x3 : Int) : Option (List TV) :=
  bif decide (x3 < 8) then
    bif (decide (0 ≤ x2) && decide (x2 < ((List.length x0 : Nat) : Int))) then
      bif (decide (0 ≤ x3) && decide (x3 < 8)) then
        bif ((List.getD (List.getD x0 (Int.toNat x2) []) (Int.toNat x3) 0) != (wu8 (x1))) then
          some [tI 1, tI (-1)]
        else
          call iw_heldSimpleS_5 [tLA8 x0, tI (wi64 (x1 + 1)), tI x2, tI (wi64 (x3 + 1))]
      else none
    else none
  else
    some [tI 0, tLA8 x0, tI x1, tI x2]
theorem ew_heldSimpleS_5 (call : Oracle) (x0 : List (List Int)) (x1 : Int) (x2 : Int) (x3 : Int) : run1 E call iw_heldSimpleS_5 [tLA8 x0, tI x1, tI x2, tI x3] = bw_heldSimpleS_5 call x0 x1 x2 x3 := by kernel_rfl
theorem vw_heldSimpleS_5 (x0 : List (List Int)) (x1 : Int) (x2 : Int) (x3 : Int) {o : List TV} (h : bw_heldSimpleS_5 R x0 x1 x2 x3 = some o) : R iw_heldSimpleS_5 [tLA8 x0, tI x1, tI x2, tI x3] = some o := ev_step ((ew_heldSimpleS_5 R x0 x1 x2 x3).trans h)
/-- laws.heldSimpleS -/
noncomputable def bw_heldSimpleS (call : Oracle) (a0 : List (List Int)) (a1 : Int) : Option (List TV) :=
  (call iw_heldSimpleS_2 [tLA8 a0, tI a1, tI 0]).bind fun o3 =>
  bif ((gI o3 0) == 0) then
    some [tI (gI o3 1)]
  else
    some [tI (gI o3 1)]
theorem ew_heldSimpleS (call : Oracle) (a0 : List (List Int)) (a1 : Int) : run1 E call iw_heldSimpleS [tLA8 a0, tI a1] = bw_heldSimpleS call a0 a1 := by kernel_rfl
theorem vw_heldSimpleS (a0 : List (List Int)) (a1 : Int) {o : List TV} (h : bw_heldSimpleS R a0 a1 = some o) : R iw_heldSimpleS [tLA8 a0, tI a1] = some o := ev_step ((ew_heldSimpleS R a0 a1).trans h)
/-- laws.heldNormalS loop 2 -/
noncomputable def bw_heldNormalS_2 (call : Oracle) (x0 : List (Int × Int × List (List Int))) (x1 : Int) (x2 : Int) : Option (List TV) :=
  bif decide (x2 < ((List.length x0 : Nat) : Int)) then
    bif (decide (0 ≤ x2) && decide (x2 < ((List.length x0 : Nat) : Int))) then
      bif ((List.getD x0 (Int.toNat x2) (0, (0, []))).1 != x1) then
        some [tI 1, tI (-1)]
      else
        bif (decide (0 ≤ x2) && decide (x2 < ((List.length x0 : Nat) : Int))) then
          bif (((List.getD x0 (Int.toNat x2) (0, (0, []))).2).1 != (wi64 (x1 + 1))) then
            some [tI 1, tI (-1)]
          else
            bif (decide (0 ≤ x2) && decide (x2 < ((List.length x0 : Nat) : Int))) then
              (call iw_heldSimpleS [tLA8 (((List.getD x0 (Int.toNat x2) (0, (0, []))).2).2), tI (wi64 ((wi64 (x1 + 1)) + 1))]).bind fun o2 =>
              bif decide ((gI o2 0) < 0) then
                some [tI 1, tI (-1)]
              else
                call iw_heldNormalS_2 [tLPIPILA8 x0, tI (gI o2 0), tI (wi64 (x2 + 1))]
            else none
        else none
    else none
  else
    some [tI 0, tI x1]
theorem ew_heldNormalS_2 (call : Oracle) (x0 : List (Int × Int × List (List Int))) (x1 : Int) (x2 : Int) : run1 E call iw_heldNormalS_2 [tLPIPILA8 x0, tI x1, tI x2] = bw_heldNormalS_2 call x0 x1 x2 := by kernel_rfl
theorem vw_heldNormalS_2 (x0 : List (Int × Int × List (List Int))) (x1 : Int) (x2 : Int) {o : List TV} (h : bw_heldNormalS_2 R x0 x1 x2 = some o) : R iw_heldNormalS_2 [tLPIPILA8 x0, tI x1, tI x2] = some o := ev_step ((ew_heldNormalS_2 R x0 x1 x2).trans h)
/-- laws.heldNormalS -/
noncomputable def bw_heldNormalS (call : Oracle) (a0 : List (Int × Int × List (List Int))) (a1 : Int) : Option (List TV) :=
  (call iw_heldNormalS_2 [tLPIPILA8 a0, tI a1, tI 0]).bind fun o3 =>
  bif ((gI o3 0) == 0) then
    some [tI (gI o3 1)]
  else
    some [tI (gI o3 1)]
theorem ew_heldNormalS (call : Oracle) (a0 : List (Int × Int × List (List Int))) (a1 : Int) : run1 E call iw_heldNormalS [tLPIPILA8 a0, tI a1] = bw_heldNormalS call a0 a1 := by kernel_rfl
theorem vw_heldNormalS (a0 : List (Int × Int × List (List Int))) (a1 : Int) {o : List TV} (h : bw_heldNormalS R a0 a1 = some o) : R iw_heldNormalS [tLPIPILA8 a0, tI a1] = some o := ev_step ((ew_heldNormalS R a0 a1).trans h)
/-- laws.FnExactSuperSummit -/
noncomputable def bw_FnExactSuperSummit (call : Oracle) (a0 : Int × Int × List (List Int)) : Option (List TV) :=
  (call iw_szNormal [tPIPILA8 (a0.1, (a0.2.1, a0.2.2)), tI 1048576]).bind fun o1 =>
  bif decide ((gI o1 0) < 0) then
    some [tB true]
  else
    (call iw_toNormal [tPIPILA8 (a0.1, (a0.2.1, a0.2.2))]).bind fun o2 =>
    (call is_SuperSummit [tPIPILA8 ((gPIPILA8 o2 0).1, (((gPIPILA8 o2 0).2).1, ((gPIPILA8 o2 0).2).2))]).bind fun o3 =>
    (call iw_toNormal [tPIPILA8 (a0.1, (a0.2.1, a0.2.2))]).bind fun o4 =>
    (call ii_SuperSummit [tPIPILA8 ((gPIPILA8 o4 0).1, (((gPIPILA8 o4 0).2).1, ((gPIPILA8 o4 0).2).2))]).bind fun o5 =>
    (call iw_eqNormalS [tLPIPILA8 (gLPIPILA8 o5 0), tLPIPILA8 (gLPIPILA8 o3 0)]).bind fun o6 =>
    bif (!(gB o6 0)) then
      some [tB false]
    else
      bif ((gI o5 1) != (gI o3 1)) then
        some [tB false]
      else
        (call iw_toNormal [tPIPILA8 (a0.1, (a0.2.1, a0.2.2))]).bind fun o7 =>
        (call iw_eqNormal [tPIPILA8 ((gPIPILA8 o4 0).1, (((gPIPILA8 o4 0).2).1, ((gPIPILA8 o4 0).2).2)), tPIPILA8 ((gPIPILA8 o7 0).1, (((gPIPILA8 o7 0).2).1, ((gPIPILA8 o7 0).2).2))]).bind fun o8 =>
        bif (!(gB o8 0)) then
          some [tB false]
        else
          (call iw_markNormal [tPIPILA8 ((gPIPILA8 o4 0).1, (((gPIPILA8 o4 0).2).1, ((gPIPILA8 o4 0).2).2)), tI 1]).bind fun o9 =>
          bif decide ((gI o9 0) < 0) then
            some [tB false]
          else
            (call iw_eqNormalS [tLPIPILA8 (gLPIPILA8 o5 0), tLPIPILA8 (gLPIPILA8 o3 0)]).bind fun o10 =>
            bif (!(gB o10 0)) then
              some [tB false]
            else
              bif ((gI o5 1) != (gI o3 1)) then
                some [tB false]
              else
                (call iw_markNormalS [tLPIPILA8 (gLPIPILA8 o5 0), tI 1]).bind fun o11 =>
                (call iw_heldNormalS [tLPIPILA8 (gLPIPILA8 o11 1), tI 1]).bind fun o12 =>
                bif decide ((gI o12 0) < 0) then
                  some [tB false]
                else
                  bif ((gI o12 0) != (gI o11 0)) then
                    some [tB false]
                  else
                    (call iw_toNormal [tPIPILA8 (a0.1, (a0.2.1, a0.2.2))]).bind fun o13 =>
                    (call ii_SuperSummit [tPIPILA8 ((gPIPILA8 o13 0).1, (((gPIPILA8 o13 0).2).1, ((gPIPILA8 o13 0).2).2))]).bind fun o14 =>
                    (call iw_eqNormalS [tLPIPILA8 (gLPIPILA8 o14 0), tLPIPILA8 (gLPIPILA8 o3 0)]).bind fun o15 =>
                    bif (!(gB o15 0)) then
                      some [tB false]
                    else
                      bif ((gI o14 1) != (gI o3 1)) then
                        some [tB false]
                      else
                        (call iw_heldNormalS [tLPIPILA8 (gLPIPILA8 o11 1), tI 1]).bind fun o16 =>
                        bif decide ((gI o16 0) < 0) then
                          some [tB false]
                        else
                          bif ((gI o16 0) != (gI o11 0)) then
                            some [tB false]
                          else
                            some [tB true]
theorem ew_FnExactSuperSummit (call : Oracle) (a0 : Int × Int × List (List Int)) : run1 E call iw_FnExactSuperSummit [tPIPILA8 a0] = bw_FnExactSuperSummit call a0 := by kernel_rfl
theorem vw_FnExactSuperSummit (a0 : Int × Int × List (List Int)) {o : List TV} (h : bw_FnExactSuperSummit R a0 = some o) : R iw_FnExactSuperSummit [tPIPILA8 a0] = some o := ev_step ((ew_FnExactSuperSummit R a0).trans h)
end Go.Ev.YtolpnaiincngjaaGreat
