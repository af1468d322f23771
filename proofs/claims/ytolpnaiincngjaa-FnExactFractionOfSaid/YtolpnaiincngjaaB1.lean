/- Bodies, part 1. -/
import Derived.KernelRfl
import Derived.Test.YtolpnaiincngjaaEnv
set_option linter.unusedVariables false
namespace Go.Ev.Ytolpnaiincngjaa
open Go.Ev
/-- (*impl.Normal).turnBy loop 4 -/
noncomputable def b__i_Normal__turnBy_4 (call : Oracle) (x0 : Int) (x1 : Int) (x2 : List (List Int)) (x3 : Int) (x4 : Int) : Option (List TV) :=
  bif decide (x4 < x3) then
    bif (decide (0 ≤ x4) && decide (x4 < ((List.length x2 : Nat) : Int))) then
      (call ii_turn [tA8 (List.getD x2 (Int.toNat x4) (List.replicate 8 0)), tI x0]).bind fun o2 =>
      bif (decide (0 ≤ x4) && decide (x4 < ((List.length x2 : Nat) : Int))) then
        call i__i_Normal__turnBy_4 [tI x0, tI x1, tLA8 (List.set x2 (Int.toNat x4) (gA8 o2 0)), tI x3, tI (wi64 (x4 + 1))]
      else none
    else none
  else
    some [tI 0, tI x0, tI x1, tLA8 x2]
theorem e__i_Normal__turnBy_4 (call : Oracle) (x0 : Int) (x1 : Int) (x2 : List (List Int)) (x3 : Int) (x4 : Int) : run1 E call i__i_Normal__turnBy_4 [tI x0, tI x1, tLA8 x2, tI x3, tI x4] = b__i_Normal__turnBy_4 call x0 x1 x2 x3 x4 := by kernel_rfl
theorem v__i_Normal__turnBy_4 (x0 : Int) (x1 : Int) (x2 : List (List Int)) (x3 : Int) (x4 : Int) {o : List TV} (h : b__i_Normal__turnBy_4 R x0 x1 x2 x3 x4 = some o) : R i__i_Normal__turnBy_4 [tI x0, tI x1, tLA8 x2, tI x3, tI x4] = some o := ev_step ((e__i_Normal__turnBy_4 R x0 x1 x2 x3 x4).trans h)
/-- (*impl.Normal).turnBy -/
noncomputable def b__i_Normal__turnBy (call : Oracle) (a0 : Int × Int × List (List Int)) (a1 : Int) : Option (List TV) :=
  bif decide (a0.1 < 2) then
    some [tPIPILA8 (a0.1, (a0.2.1, a0.2.2))]
  else
    bif ((Int.tmod a1 2) != 0) then
      (call i__i_Normal__turnBy_4 [tI a0.1, tI (wi64 (a0.2.1 + a1)), tLA8 a0.2.2, tI ((List.length a0.2.2 : Nat) : Int), tI 0]).bind fun o3 =>
      some [tPIPILA8 ((gI o3 1), ((gI o3 2), (gLA8 o3 3)))]
    else
      some [tPIPILA8 (a0.1, ((wi64 (a0.2.1 + a1)), a0.2.2))]
theorem e__i_Normal__turnBy (call : Oracle) (a0 : Int × Int × List (List Int)) (a1 : Int) : run1 E call i__i_Normal__turnBy [tPIPILA8 a0, tI a1] = b__i_Normal__turnBy call a0 a1 := by kernel_rfl
theorem v__i_Normal__turnBy (a0 : Int × Int × List (List Int)) (a1 : Int) {o : List TV} (h : b__i_Normal__turnBy R a0 a1 = some o) : R i__i_Normal__turnBy [tPIPILA8 a0, tI a1] = some o := ev_step ((e__i_Normal__turnBy R a0 a1).trans h)
/-- impl.leftComplement -/
noncomputable def bi_leftComplement (call : Oracle) (a0 : List Int) (a1 : Int) : Option (List TV) :=
  (call ii_halfTurn [tI a1]).bind fun o1 =>
  (call ii_backOf [tA8 a0, tI a1]).bind fun o2 =>
  (call ii_then [tA8 (gA8 o1 0), tA8 (gA8 o2 0), tI a1]).bind fun o3 =>
  some [tA8 (gA8 o3 0)]
theorem ei_leftComplement (call : Oracle) (a0 : List Int) (a1 : Int) : run1 E call ii_leftComplement [tA8 a0, tI a1] = bi_leftComplement call a0 a1 := by kernel_rfl
theorem vi_leftComplement (a0 : List Int) (a1 : Int) {o : List TV} (h : bi_leftComplement R a0 a1 = some o) : R ii_leftComplement [tA8 a0, tI a1] = some o := ev_step ((ei_leftComplement R a0 a1).trans h)
/-- (*impl.Normal).putInverse -/
noncomputable def b__i_Normal__putInverse (call : Oracle) (a0 : Int × Int × List (List Int)) (a1 : List Int) : Option (List TV) :=
  (call i__i_Normal__turnBy [tPIPILA8 (a0.1, (a0.2.1, a0.2.2)), tI (-1)]).bind fun o1 =>
  (call ii_leftComplement [tA8 a1, tI ((gPIPILA8 o1 0).1)]).bind fun o2 =>
  (call i__i_Normal__put [tPIPILA8 ((gPIPILA8 o1 0).1, (((gPIPILA8 o1 0).2).1, ((gPIPILA8 o1 0).2).2)), tA8 (gA8 o2 0)]).bind fun o3 =>
  some [tPIPILA8 ((gPIPILA8 o3 0).1, (((gPIPILA8 o3 0).2).1, ((gPIPILA8 o3 0).2).2))]
theorem e__i_Normal__putInverse (call : Oracle) (a0 : Int × Int × List (List Int)) (a1 : List Int) : run1 E call i__i_Normal__putInverse [tPIPILA8 a0, tA8 a1] = b__i_Normal__putInverse call a0 a1 := by kernel_rfl
theorem v__i_Normal__putInverse (a0 : Int × Int × List (List Int)) (a1 : List Int) {o : List TV} (h : b__i_Normal__putInverse R a0 a1 = some o) : R i__i_Normal__putInverse [tPIPILA8 a0, tA8 a1] = some o := ev_step ((e__i_Normal__putInverse R a0 a1).trans h)
/-- impl.normalOf loop 3 -/
noncomputable def bi_normalOf_3 (call : Oracle) (x0 : Int) (x1 : List Int) (x2 : Int) (x3 : Int) (x4 : List (List Int)) (x5 : Int) (x6 : Int) (x7 : List (List Int)) (x8 : Int) (x9 : Int) : Option (List TV) :=
  bif decide (x9 < x8) then
    bif (decide (0 ≤ x9) && decide (x9 < ((List.length x1 : Nat) : Int))) then
      bif decide (0 < (List.getD x1 (Int.toNat x9) 0)) then
        (call ii_exchange [tI (List.getD x1 (Int.toNat x9) 0), tI x0]).bind fun o5 =>
        (call i__i_Normal__put [tPIPILA8 (x5, (x6, x7)), tA8 (gA8 o5 0)]).bind fun o6 =>
        call ii_normalOf_3 [tI x0, tLI x1, tI x2, tI x3, tLA8 x4, tI ((gPIPILA8 o6 0).1), tI (((gPIPILA8 o6 0).2).1), tLA8 (((gPIPILA8 o6 0).2).2), tI x8, tI (wi64 (x9 + 1))]
      else
        (call ii_exchange [tI (wi64 (0 - (List.getD x1 (Int.toNat x9) 0))), tI x0]).bind fun o7 =>
        (call i__i_Normal__putInverse [tPIPILA8 (x5, (x6, x7)), tA8 (gA8 o7 0)]).bind fun o8 =>
        call ii_normalOf_3 [tI x0, tLI x1, tI x2, tI x3, tLA8 x4, tI ((gPIPILA8 o8 0).1), tI (((gPIPILA8 o8 0).2).1), tLA8 (((gPIPILA8 o8 0).2).2), tI x8, tI (wi64 (x9 + 1))]
    else none
  else
    some [tI 0, tI x2, tI x3, tLA8 x4, tI x5, tI x6, tLA8 x7]
theorem ei_normalOf_3 (call : Oracle) (x0 : Int) (x1 : List Int) (x2 : Int) (x3 : Int) (x4 : List (List Int)) (x5 : Int) (x6 : Int) (x7 : List (List Int)) (x8 : Int) (x9 : Int) : run1 E call ii_normalOf_3 [tI x0, tLI x1, tI x2, tI x3, tLA8 x4, tI x5, tI x6, tLA8 x7, tI x8, tI x9] = bi_normalOf_3 call x0 x1 x2 x3 x4 x5 x6 x7 x8 x9 := by kernel_rfl
theorem vi_normalOf_3 (x0 : Int) (x1 : List Int) (x2 : Int) (x3 : Int) (x4 : List (List Int)) (x5 : Int) (x6 : Int) (x7 : List (List Int)) (x8 : Int) (x9 : Int) {o : List TV} (h : bi_normalOf_3 R x0 x1 x2 x3 x4 x5 x6 x7 x8 x9 = some o) : R ii_normalOf_3 [tI x0, tLI x1, tI x2, tI x3, tLA8 x4, tI x5, tI x6, tLA8 x7, tI x8, tI x9] = some o := ev_step ((ei_normalOf_3 R x0 x1 x2 x3 x4 x5 x6 x7 x8 x9).trans h)
/-- impl.normalOf -/
noncomputable def bi_normalOf (call : Oracle) (a0 : Int × List Int) : Option (List TV) :=
  (call ii_normalOf_3 [tI a0.1, tLI a0.2, tI 0, tI 0, tLA8 [], tI a0.1, tI 0, tLA8 [], tI ((List.length a0.2 : Nat) : Int), tI 0]).bind fun o9 =>
  some [tPIPILA8 ((gI o9 4), ((gI o9 5), (gLA8 o9 6)))]
theorem ei_normalOf (call : Oracle) (a0 : Int × List Int) : run1 E call ii_normalOf [tPILI a0] = bi_normalOf call a0 := by kernel_rfl
theorem vi_normalOf (a0 : Int × List Int) {o : List TV} (h : bi_normalOf R a0 = some o) : R ii_normalOf [tPILI a0] = some o := ev_step ((ei_normalOf R a0).trans h)
/-- slices.Equal[[]impl.Simple,impl.Simple] loop 4 -/
noncomputable def bg_Equal___i_Simple_i_Simple__4 (call : Oracle) (x0 : List (List Int)) (x1 : List (List Int)) (x2 : Int) (x3 : Int) : Option (List TV) :=
  bif decide (x3 < x2) then
    bif (decide (0 ≤ x3) && decide (x3 < ((List.length x0 : Nat) : Int))) then
      bif (decide (0 ≤ x3) && decide (x3 < ((List.length x1 : Nat) : Int))) then
        bif ((List.getD x0 (Int.toNat x3) (List.replicate 8 0)) != (List.getD x1 (Int.toNat x3) (List.replicate 8 0))) then
          some [tI 1, tB false]
        else
          call ig_Equal___i_Simple_i_Simple__4 [tLA8 x0, tLA8 x1, tI x2, tI (wi64 (x3 + 1))]
      else none
    else none
  else
    some [tI 0]
theorem eg_Equal___i_Simple_i_Simple__4 (call : Oracle) (x0 : List (List Int)) (x1 : List (List Int)) (x2 : Int) (x3 : Int) : run1 E call ig_Equal___i_Simple_i_Simple__4 [tLA8 x0, tLA8 x1, tI x2, tI x3] = bg_Equal___i_Simple_i_Simple__4 call x0 x1 x2 x3 := by kernel_rfl
theorem vg_Equal___i_Simple_i_Simple__4 (x0 : List (List Int)) (x1 : List (List Int)) (x2 : Int) (x3 : Int) {o : List TV} (h : bg_Equal___i_Simple_i_Simple__4 R x0 x1 x2 x3 = some o) : R ig_Equal___i_Simple_i_Simple__4 [tLA8 x0, tLA8 x1, tI x2, tI x3] = some o := ev_step ((eg_Equal___i_Simple_i_Simple__4 R x0 x1 x2 x3).trans h)
/-- slices.Equal[[]impl.Simple,impl.Simple] -/
noncomputable def bg_Equal___i_Simple_i_Simple_ (call : Oracle) (a0 : List (List Int)) (a1 : List (List Int)) : Option (List TV) :=
  bif (((List.length a0 : Nat) : Int) != ((List.length a1 : Nat) : Int)) then
    some [tB false]
  else
    (call ig_Equal___i_Simple_i_Simple__4 [tLA8 a0, tLA8 a1, tI ((List.length a0 : Nat) : Int), tI 0]).bind fun o1 =>
    bif ((gI o1 0) == 0) then
      some [tB true]
    else
      some [tB (gB o1 1)]
theorem eg_Equal___i_Simple_i_Simple_ (call : Oracle) (a0 : List (List Int)) (a1 : List (List Int)) : run1 E call ig_Equal___i_Simple_i_Simple_ [tLA8 a0, tLA8 a1] = bg_Equal___i_Simple_i_Simple_ call a0 a1 := by kernel_rfl
theorem vg_Equal___i_Simple_i_Simple_ (a0 : List (List Int)) (a1 : List (List Int)) {o : List TV} (h : bg_Equal___i_Simple_i_Simple_ R a0 a1 = some o) : R ig_Equal___i_Simple_i_Simple_ [tLA8 a0, tLA8 a1] = some o := ev_step ((eg_Equal___i_Simple_i_Simple_ R a0 a1).trans h)
/-- impl.sameNormal -/
noncomputable def bi_sameNormal (call : Oracle) (a0 : Int × Int × List (List Int)) (a1 : Int × Int × List (List Int)) : Option (List TV) :=
  bif (a0.1 == a1.1) then
    bif (a0.2.1 == a1.2.1) then
      (call ig_Equal___i_Simple_i_Simple_ [tLA8 a0.2.2, tLA8 a1.2.2]).bind fun o1 =>
      some [tB (gB o1 0)]
    else
      some [tB false]
  else
    some [tB false]
theorem ei_sameNormal (call : Oracle) (a0 : Int × Int × List (List Int)) (a1 : Int × Int × List (List Int)) : run1 E call ii_sameNormal [tPIPILA8 a0, tPIPILA8 a1] = bi_sameNormal call a0 a1 := by kernel_rfl
theorem vi_sameNormal (a0 : Int × Int × List (List Int)) (a1 : Int × Int × List (List Int)) {o : List TV} (h : bi_sameNormal R a0 a1 = some o) : R ii_sameNormal [tPIPILA8 a0, tPIPILA8 a1] = some o := ev_step ((ei_sameNormal R a0 a1).trans h)
/-- impl.SameBraid -/
noncomputable def bi_SameBraid (call : Oracle) (a0 : Int × List Int) (a1 : Int × List Int) : Option (List TV) :=
  (call ii_IsBraid [tPILI (a0.1, a0.2)]).bind fun o1 =>
  bif (!(gB o1 0)) then
    some [tB false, tI 1]
  else
    (call ii_IsBraid [tPILI (a1.1, a1.2)]).bind fun o2 =>
    bif (!(gB o2 0)) then
      some [tB false, tI 1]
    else
      bif (a0.1 != a1.1) then
        some [tB false, tI 2]
      else
        (call ii_normalOf [tPILI (a0.1, a0.2)]).bind fun o3 =>
        (call ii_normalOf [tPILI (a1.1, a1.2)]).bind fun o4 =>
        (call ii_sameNormal [tPIPILA8 ((gPIPILA8 o3 0).1, (((gPIPILA8 o3 0).2).1, ((gPIPILA8 o3 0).2).2)), tPIPILA8 ((gPIPILA8 o4 0).1, (((gPIPILA8 o4 0).2).1, ((gPIPILA8 o4 0).2).2))]).bind fun o5 =>
        some [tB (gB o5 0), tI 0]
theorem ei_SameBraid (call : Oracle) (a0 : Int × List Int) (a1 : Int × List Int) : run1 E call ii_SameBraid [tPILI a0, tPILI a1] = bi_SameBraid call a0 a1 := by kernel_rfl
theorem vi_SameBraid (a0 : Int × List Int) (a1 : Int × List Int) {o : List TV} (h : bi_SameBraid R a0 a1 = some o) : R ii_SameBraid [tPILI a0, tPILI a1] = some o := ev_step ((ei_SameBraid R a0 a1).trans h)
/-- laws.eqInt64S loop 4 -/
noncomputable def bw_eqInt64S_4 (call : Oracle) (x0 : List Int) (x1 : List Int) (x2 : Int) : Option (List TV) :=
  bif decide (x2 < ((List.length x0 : Nat) : Int)) then
    bif (decide (0 ≤ x2) && decide (x2 < ((List.length x0 : Nat) : Int))) then
      bif (decide (0 ≤ x2) && decide (x2 < ((List.length x1 : Nat) : Int))) then
        bif ((List.getD x0 (Int.toNat x2) 0) != (List.getD x1 (Int.toNat x2) 0)) then
          some [tI 1, tB false]
        else
          call iw_eqInt64S_4 [tLI x0, tLI x1, tI (wi64 (x2 + 1))]
      else none
    else none
  else
    some [tI 0]
theorem ew_eqInt64S_4 (call : Oracle) (x0 : List Int) (x1 : List Int) (x2 : Int) : run1 E call iw_eqInt64S_4 [tLI x0, tLI x1, tI x2] = bw_eqInt64S_4 call x0 x1 x2 := by kernel_rfl
theorem vw_eqInt64S_4 (x0 : List Int) (x1 : List Int) (x2 : Int) {o : List TV} (h : bw_eqInt64S_4 R x0 x1 x2 = some o) : R iw_eqInt64S_4 [tLI x0, tLI x1, tI x2] = some o := ev_step ((ew_eqInt64S_4 R x0 x1 x2).trans h)
/-- laws.eqInt64S -/
noncomputable def bw_eqInt64S (call : Oracle) (a0 : List Int) (a1 : List Int) : Option (List TV) :=
  bif (((List.length a0 : Nat) : Int) != ((List.length a1 : Nat) : Int)) then
    some [tB false]
  else
    (call iw_eqInt64S_4 [tLI a0, tLI a1, tI 0]).bind fun o1 =>
    bif ((gI o1 0) == 0) then
      some [tB true]
    else
      some [tB (gB o1 1)]
theorem ew_eqInt64S (call : Oracle) (a0 : List Int) (a1 : List Int) : run1 E call iw_eqInt64S [tLI a0, tLI a1] = bw_eqInt64S call a0 a1 := by kernel_rfl
theorem vw_eqInt64S (a0 : List Int) (a1 : List Int) {o : List TV} (h : bw_eqInt64S R a0 a1 = some o) : R iw_eqInt64S [tLI a0, tLI a1] = some o := ev_step ((ew_eqInt64S R a0 a1).trans h)
/-- laws.eqBraid -/
noncomputable def bw_eqBraid (call : Oracle) (a0 : Int × List Int) (a1 : Int × List Int) : Option (List TV) :=
  bif (a0.1 != a1.1) then
    some [tB false]
  else
    (call iw_eqInt64S [tLI a0.2, tLI a1.2]).bind fun o1 =>
    bif (!(gB o1 0)) then
      some [tB false]
    else
      some [tB true]
theorem ew_eqBraid (call : Oracle) (a0 : Int × List Int) (a1 : Int × List Int) : run1 E call iw_eqBraid [tPILI a0, tPILI a1] = bw_eqBraid call a0 a1 := by kernel_rfl
theorem vw_eqBraid (a0 : Int × List Int) (a1 : Int × List Int) {o : List TV} (h : bw_eqBraid R a0 a1 = some o) : R iw_eqBraid [tPILI a0, tPILI a1] = some o := ev_step ((ew_eqBraid R a0 a1).trans h)
/-- laws.FnExactSameBraid -/
noncomputable def bw_FnExactSameBraid (call : Oracle) (a0 : Int × List Int) (a1 : Int × List Int) : Option (List TV) :=
  (call iw_szBraid [tPILI (a0.1, a0.2), tI 1048576]).bind fun o1 =>
  bif decide ((gI o1 0) < 0) then
    some [tB true]
  else
    (call iw_szBraid [tPILI (a1.1, a1.2), tI (gI o1 0)]).bind fun o2 =>
    bif decide ((gI o2 0) < 0) then
      some [tB true]
    else
      (call iw_toBraid [tPILI (a0.1, a0.2)]).bind fun o3 =>
      (call iw_toBraid [tPILI (a1.1, a1.2)]).bind fun o4 =>
      (call is_SameBraid [tPILI ((gPILI o3 0).1, (gPILI o3 0).2), tPILI ((gPILI o4 0).1, (gPILI o4 0).2)]).bind fun o5 =>
      (call iw_toBraid [tPILI (a0.1, a0.2)]).bind fun o6 =>
      (call iw_toBraid [tPILI (a1.1, a1.2)]).bind fun o7 =>
      (call ii_SameBraid [tPILI ((gPILI o6 0).1, (gPILI o6 0).2), tPILI ((gPILI o7 0).1, (gPILI o7 0).2)]).bind fun o8 =>
      bif ((gB o8 0) != (gB o5 0)) then
        some [tB false]
      else
        bif ((gI o8 1) != (gI o5 1)) then
          some [tB false]
        else
          (call iw_toBraid [tPILI (a0.1, a0.2)]).bind fun o9 =>
          (call iw_eqBraid [tPILI ((gPILI o6 0).1, (gPILI o6 0).2), tPILI ((gPILI o9 0).1, (gPILI o9 0).2)]).bind fun o10 =>
          bif (!(gB o10 0)) then
            some [tB false]
          else
            (call iw_toBraid [tPILI (a1.1, a1.2)]).bind fun o11 =>
            (call iw_eqBraid [tPILI ((gPILI o7 0).1, (gPILI o7 0).2), tPILI ((gPILI o11 0).1, (gPILI o11 0).2)]).bind fun o12 =>
            bif (!(gB o12 0)) then
              some [tB false]
            else
              some [tB true]
theorem ew_FnExactSameBraid (call : Oracle) (a0 : Int × List Int) (a1 : Int × List Int) : run1 E call iw_FnExactSameBraid [tPILI a0, tPILI a1] = bw_FnExactSameBraid call a0 a1 := by kernel_rfl
theorem vw_FnExactSameBraid (a0 : Int × List Int) (a1 : Int × List Int) {o : List TV} (h : bw_FnExactSameBraid R a0 a1 = some o) : R iw_FnExactSameBraid [tPILI a0, tPILI a1] = some o := ev_step ((ew_FnExactSameBraid R a0 a1).trans h)
/-- laws.szSimpleS -/
noncomputable def bw_szSimpleS (call : Oracle) (a0 : List (List Int)) (a1 : Int) : Option (List TV) :=
  bif decide ((wi64 (a1 - ((List.length a0 : Nat) : Int))) < 0) then
    some [tI (-1)]
  else
    some [tI (wi64 (a1 - ((List.length a0 : Nat) : Int)))]
theorem ew_szSimpleS (call : Oracle) (a0 : List (List Int)) (a1 : Int) : run1 E call iw_szSimpleS [tLA8 a0, tI a1] = bw_szSimpleS call a0 a1 := by kernel_rfl
theorem vw_szSimpleS (a0 : List (List Int)) (a1 : Int) {o : List TV} (h : bw_szSimpleS R a0 a1 = some o) : R iw_szSimpleS [tLA8 a0, tI a1] = some o := ev_step ((ew_szSimpleS R a0 a1).trans h)
/-- laws.szNormal -/
noncomputable def bw_szNormal (call : Oracle) (a0 : Int × Int × List (List Int)) (a1 : Int) : Option (List TV) :=
  (call iw_szSimpleS [tLA8 a0.2.2, tI a1]).bind fun o1 =>
  bif decide ((gI o1 0) < 0) then
    some [tI (-1)]
  else
    some [tI (gI o1 0)]
theorem ew_szNormal (call : Oracle) (a0 : Int × Int × List (List Int)) (a1 : Int) : run1 E call iw_szNormal [tPIPILA8 a0, tI a1] = bw_szNormal call a0 a1 := by kernel_rfl
theorem vw_szNormal (a0 : Int × Int × List (List Int)) (a1 : Int) {o : List TV} (h : bw_szNormal R a0 a1 = some o) : R iw_szNormal [tPIPILA8 a0, tI a1] = some o := ev_step ((ew_szNormal R a0 a1).trans h)
/-- laws.toSimple loop 3 -/
noncomputable def bw_toSimple_3 (call : Oracle) (x0 : List Int) (x1 : List Int) (x2 : List Int) (x3 : Int) : Option (List TV) :=
  bif decide (x3 < 8) then
    bif (decide (0 ≤ x3) && decide (x3 < 8)) then
      bif (decide (0 ≤ x3) && decide (x3 < 8)) then
        call iw_toSimple_3 [tA8 x0, tA8 x1, tA8 (List.set x2 (Int.toNat x3) (List.getD x0 (Int.toNat x3) 0)), tI (wi64 (x3 + 1))]
      else none
    else none
  else
    some [tI 0, tA8 x1, tA8 x2]
theorem ew_toSimple_3 (call : Oracle) (x0 : List Int) (x1 : List Int) (x2 : List Int) (x3 : Int) : run1 E call iw_toSimple_3 [tA8 x0, tA8 x1, tA8 x2, tI x3] = bw_toSimple_3 call x0 x1 x2 x3 := by kernel_rfl
theorem vw_toSimple_3 (x0 : List Int) (x1 : List Int) (x2 : List Int) (x3 : Int) {o : List TV} (h : bw_toSimple_3 R x0 x1 x2 x3 = some o) : R iw_toSimple_3 [tA8 x0, tA8 x1, tA8 x2, tI x3] = some o := ev_step ((ew_toSimple_3 R x0 x1 x2 x3).trans h)
/-- laws.toSimple -/
noncomputable def bw_toSimple (call : Oracle) (a0 : List Int) : Option (List TV) :=
  (call iw_toSimple_3 [tA8 a0, tA8 (List.replicate 8 0), tA8 (List.replicate 8 0), tI 0]).bind fun o1 =>
  some [tA8 (gA8 o1 2)]
theorem ew_toSimple (call : Oracle) (a0 : List Int) : run1 E call iw_toSimple [tA8 a0] = bw_toSimple call a0 := by kernel_rfl
theorem vw_toSimple (a0 : List Int) {o : List TV} (h : bw_toSimple R a0 = some o) : R iw_toSimple [tA8 a0] = some o := ev_step ((ew_toSimple R a0).trans h)
/-- laws.toSimpleS loop 3 -/
noncomputable def bw_toSimpleS_3 (call : Oracle) (x0 : List (List Int)) (x1 : List (List Int)) (x2 : Int) : Option (List TV) :=
  bif decide (x2 < ((List.length x0 : Nat) : Int)) then
    bif (decide (0 ≤ x2) && decide (x2 < ((List.length x0 : Nat) : Int))) then
      (call iw_toSimple [tA8 (List.getD x0 (Int.toNat x2) (List.replicate 8 0))]).bind fun o2 =>
      bif (decide (0 ≤ x2) && decide (x2 < ((List.length x1 : Nat) : Int))) then
        call iw_toSimpleS_3 [tLA8 x0, tLA8 (List.set x1 (Int.toNat x2) (gA8 o2 0)), tI (wi64 (x2 + 1))]
      else none
    else none
  else
    some [tI 0, tLA8 x1]
theorem ew_toSimpleS_3 (call : Oracle) (x0 : List (List Int)) (x1 : List (List Int)) (x2 : Int) : run1 E call iw_toSimpleS_3 [tLA8 x0, tLA8 x1, tI x2] = bw_toSimpleS_3 call x0 x1 x2 := by kernel_rfl
theorem vw_toSimpleS_3 (x0 : List (List Int)) (x1 : List (List Int)) (x2 : Int) {o : List TV} (h : bw_toSimpleS_3 R x0 x1 x2 = some o) : R iw_toSimpleS_3 [tLA8 x0, tLA8 x1, tI x2] = some o := ev_step ((ew_toSimpleS_3 R x0 x1 x2).trans h)
/-- laws.toSimpleS -/
noncomputable def bw_toSimpleS (call : Oracle) (a0 : List (List Int)) : Option (List TV) :=
  bif (mkOk ((List.length a0 : Nat) : Int)) then
    (call iw_toSimpleS_3 [tLA8 a0, tLA8 (List.replicate (Int.toNat ((List.length a0 : Nat) : Int)) (List.replicate 8 0)), tI 0]).bind fun o3 =>
    some [tLA8 (gLA8 o3 1)]
  else none
theorem ew_toSimpleS (call : Oracle) (a0 : List (List Int)) : run1 E call iw_toSimpleS [tLA8 a0] = bw_toSimpleS call a0 := by kernel_rfl
theorem vw_toSimpleS (a0 : List (List Int)) {o : List TV} (h : bw_toSimpleS R a0 = some o) : R iw_toSimpleS [tLA8 a0] = some o := ev_step ((ew_toSimpleS R a0).trans h)
/-- laws.toNormal -/
noncomputable def bw_toNormal (call : Oracle) (a0 : Int × Int × List (List Int)) : Option (List TV) :=
  (call iw_toSimpleS [tLA8 a0.2.2]).bind fun o1 =>
  some [tPIPILA8 (a0.1, (a0.2.1, (gLA8 o1 0)))]
theorem ew_toNormal (call : Oracle) (a0 : Int × Int × List (List Int)) : run1 E call iw_toNormal [tPIPILA8 a0] = bw_toNormal call a0 := by kernel_rfl
theorem vw_toNormal (a0 : Int × Int × List (List Int)) {o : List TV} (h : bw_toNormal R a0 = some o) : R iw_toNormal [tPIPILA8 a0] = some o := ev_step ((ew_toNormal R a0).trans h)
/-- spec.l02Is loop 5 -/
noncomputable def bs_l02Is_5 (call : Oracle) (x0 : List Int) (x1 : List Bool) (x2 : Int) (x3 : Int) : Option (List TV) :=
  bif decide (x3 < 8) then
    bif decide (x2 ≤ x3) then
      bif (decide (0 ≤ x3) && decide (x3 < 8)) then
        bif ((List.getD x0 (Int.toNat x3) 0) != 0) then
          some [tI 1, tB false]
        else
          call is_l02Is_5 [tA8 x0, tAB8 x1, tI x2, tI (wi64 (x3 + 1))]
      else none
    else
      bif (decide (0 ≤ x3) && decide (x3 < 8)) then
        bif decide (x2 ≤ (wi64 ((List.getD x0 (Int.toNat x3) 0)))) then
          some [tI 1, tB false]
        else
          bif (decide (0 ≤ x3) && decide (x3 < 8)) then
            bif (decide (0 ≤ (List.getD x0 (Int.toNat x3) 0)) && decide ((List.getD x0 (Int.toNat x3) 0) < 8)) then
              bif (List.getD x1 (Int.toNat (List.getD x0 (Int.toNat x3) 0)) false) then
                some [tI 1, tB false]
              else
                bif (decide (0 ≤ x3) && decide (x3 < 8)) then
                  bif (decide (0 ≤ (List.getD x0 (Int.toNat x3) 0)) && decide ((List.getD x0 (Int.toNat x3) 0) < 8)) then
                    call is_l02Is_5 [tA8 x0, tAB8 (List.set x1 (Int.toNat (List.getD x0 (Int.toNat x3) 0)) true), tI x2, tI (wi64 (x3 + 1))]
                  else none
                else none
            else none
          else none
      else none
  else
    some [tI 0]
theorem es_l02Is_5 (call : Oracle) (x0 : List Int) (x1 : List Bool) (x2 : Int) (x3 : Int) : run1 E call is_l02Is_5 [tA8 x0, tAB8 x1, tI x2, tI x3] = bs_l02Is_5 call x0 x1 x2 x3 := by kernel_rfl
theorem vs_l02Is_5 (x0 : List Int) (x1 : List Bool) (x2 : Int) (x3 : Int) {o : List TV} (h : bs_l02Is_5 R x0 x1 x2 x3 = some o) : R is_l02Is_5 [tA8 x0, tAB8 x1, tI x2, tI x3] = some o := ev_step ((es_l02Is_5 R x0 x1 x2 x3).trans h)
/-- spec.l02Is -/
noncomputable def bs_l02Is (call : Oracle) (a0 : List Int) (a1 : Int) : Option (List TV) :=
  (call is_l01In [tI a1, tI 1, tI 8]).bind fun o1 =>
  bif (!(gB o1 0)) then
    some [tB false]
  else
    (call is_l02Is_5 [tA8 a0, tAB8 (List.replicate 8 false), tI a1, tI 0]).bind fun o2 =>
    bif ((gI o2 0) == 0) then
      some [tB true]
    else
      some [tB (gB o2 1)]
theorem es_l02Is (call : Oracle) (a0 : List Int) (a1 : Int) : run1 E call is_l02Is [tA8 a0, tI a1] = bs_l02Is call a0 a1 := by kernel_rfl
theorem vs_l02Is (a0 : List Int) (a1 : Int) {o : List TV} (h : bs_l02Is R a0 a1 = some o) : R is_l02Is [tA8 a0, tI a1] = some o := ev_step ((es_l02Is R a0 a1).trans h)
/-- spec.l03Weighted loop 3 -/
noncomputable def bs_l03Weighted_3 (call : Oracle) (x0 : List Int) (x1 : List Int) (x2 : Int) (x3 : Int) : Option (List TV) :=
  bif decide (x3 < x2) then
    bif (decide (0 ≤ (wi64 (x3 - 1))) && decide ((wi64 (x3 - 1)) < 8)) then
      bif (decide (0 ≤ x3) && decide (x3 < 8)) then
        bif decide ((List.getD x0 (Int.toNat x3) 0) < (List.getD x0 (Int.toNat (wi64 (x3 - 1))) 0)) then
          bif (decide (0 ≤ (wi64 (x3 - 1))) && decide ((wi64 (x3 - 1)) < 8)) then
            bif (decide (0 ≤ x3) && decide (x3 < 8)) then
              bif decide ((List.getD x1 (Int.toNat (wi64 (x3 - 1))) 0) < (List.getD x1 (Int.toNat x3) 0)) then
                some [tI 1, tB false]
              else
                call is_l03Weighted_3 [tA8 x0, tA8 x1, tI x2, tI (wi64 (x3 + 1))]
            else none
          else none
        else
          call is_l03Weighted_3 [tA8 x0, tA8 x1, tI x2, tI (wi64 (x3 + 1))]
      else none
    else none
  else
    some [tI 0]
theorem es_l03Weighted_3 (call : Oracle) (x0 : List Int) (x1 : List Int) (x2 : Int) (x3 : Int) : run1 E call is_l03Weighted_3 [tA8 x0, tA8 x1, tI x2, tI x3] = bs_l03Weighted_3 call x0 x1 x2 x3 := by kernel_rfl
theorem vs_l03Weighted_3 (x0 : List Int) (x1 : List Int) (x2 : Int) (x3 : Int) {o : List TV} (h : bs_l03Weighted_3 R x0 x1 x2 x3 = some o) : R is_l03Weighted_3 [tA8 x0, tA8 x1, tI x2, tI x3] = some o := ev_step ((es_l03Weighted_3 R x0 x1 x2 x3).trans h)
/-- spec.l03Weighted -/
noncomputable def bs_l03Weighted (call : Oracle) (a0 : List Int) (a1 : List Int) (a2 : Int) : Option (List TV) :=
  (call is_l02Back [tA8 a0, tI a2]).bind fun o1 =>
  (call is_l03Weighted_3 [tA8 a1, tA8 (gA8 o1 0), tI a2, tI 1]).bind fun o2 =>
  bif ((gI o2 0) == 0) then
    some [tB true]
  else
    some [tB (gB o2 1)]
theorem es_l03Weighted (call : Oracle) (a0 : List Int) (a1 : List Int) (a2 : Int) : run1 E call is_l03Weighted [tA8 a0, tA8 a1, tI a2] = bs_l03Weighted call a0 a1 a2 := by kernel_rfl
theorem vs_l03Weighted (a0 : List Int) (a1 : List Int) (a2 : Int) {o : List TV} (h : bs_l03Weighted R a0 a1 a2 = some o) : R is_l03Weighted [tA8 a0, tA8 a1, tI a2] = some o := ev_step ((es_l03Weighted R a0 a1 a2).trans h)
/-- spec.l03Is loop 5 -/
noncomputable def bs_l03Is_5 (call : Oracle) (x0 : Int) (x1 : Int) (x2 : List (List Int)) (x3 : Int) (x4 : Int) : Option (List TV) :=
  bif decide (x4 < ((List.length x2 : Nat) : Int)) then
    bif (decide (0 ≤ x4) && decide (x4 < ((List.length x2 : Nat) : Int))) then
      (call is_l02Is [tA8 (List.getD x2 (Int.toNat x4) (List.replicate 8 0)), tI x3]).bind fun o7 =>
      bif (!(gB o7 0)) then
        some [tI 1, tB false]
      else
        (call is_l02Same [tI x3]).bind fun o8 =>
        bif ((List.getD x2 (Int.toNat x4) (List.replicate 8 0)) == (gA8 o8 0)) then
          some [tI 1, tB false]
        else
          (call is_l02Half [tI x3]).bind fun o9 =>
          bif ((List.getD x2 (Int.toNat x4) (List.replicate 8 0)) == (gA8 o9 0)) then
            some [tI 1, tB false]
          else
            bif decide (0 < x4) then
              bif (decide (0 ≤ (wi64 (x4 - 1))) && decide ((wi64 (x4 - 1)) < ((List.length x2 : Nat) : Int))) then
                (call is_l03Weighted [tA8 (List.getD x2 (Int.toNat (wi64 (x4 - 1))) (List.replicate 8 0)), tA8 (List.getD x2 (Int.toNat x4) (List.replicate 8 0)), tI x3]).bind fun o10 =>
                bif (!(gB o10 0)) then
                  some [tI 1, tB false]
                else
                  call is_l03Is_5 [tI x0, tI x1, tLA8 x2, tI x3, tI (wi64 (x4 + 1))]
              else none
            else
              call is_l03Is_5 [tI x0, tI x1, tLA8 x2, tI x3, tI (wi64 (x4 + 1))]
    else none
  else
    some [tI 0]
theorem es_l03Is_5 (call : Oracle) (x0 : Int) (x1 : Int) (x2 : List (List Int)) (x3 : Int) (x4 : Int) : run1 E call is_l03Is_5 [tI x0, tI x1, tLA8 x2, tI x3, tI x4] = bs_l03Is_5 call x0 x1 x2 x3 x4 := by kernel_rfl
theorem vs_l03Is_5 (x0 : Int) (x1 : Int) (x2 : List (List Int)) (x3 : Int) (x4 : Int) {o : List TV} (h : bs_l03Is_5 R x0 x1 x2 x3 x4 = some o) : R is_l03Is_5 [tI x0, tI x1, tLA8 x2, tI x3, tI x4] = some o := ev_step ((es_l03Is_5 R x0 x1 x2 x3 x4).trans h)
/-- spec.l03Is -/
noncomputable def bs_l03Is (call : Oracle) (a0 : Int × Int × List (List Int)) : Option (List TV) :=
  (call is_l01In [tI a0.1, tI 1, tI 8]).bind fun o1 =>
  bif (!(gB o1 0)) then
    some [tB false]
  else
    (call is_l01In [tI a0.2.1, tI (-200), tI 200]).bind fun o2 =>
    bif (!(gB o2 0)) then
      some [tB false]
    else
      bif decide (200 < ((List.length a0.2.2 : Nat) : Int)) then
        some [tB false]
      else
        bif decide (a0.1 < 2) then
          bif (a0.2.1 != 0) then
            some [tB false]
          else
            (call is_l03Is_5 [tI a0.1, tI a0.2.1, tLA8 a0.2.2, tI a0.1, tI 0]).bind fun o11 =>
            bif ((gI o11 0) == 0) then
              some [tB true]
            else
              some [tB (gB o11 1)]
        else
          (call is_l03Is_5 [tI a0.1, tI a0.2.1, tLA8 a0.2.2, tI a0.1, tI 0]).bind fun o12 =>
          bif ((gI o12 0) == 0) then
            some [tB true]
          else
            some [tB (gB o12 1)]
theorem es_l03Is (call : Oracle) (a0 : Int × Int × List (List Int)) : run1 E call is_l03Is [tPIPILA8 a0] = bs_l03Is call a0 := by kernel_rfl
theorem vs_l03Is (a0 : Int × Int × List (List Int)) {o : List TV} (h : bs_l03Is R a0 = some o) : R is_l03Is [tPIPILA8 a0] = some o := ev_step ((es_l03Is R a0).trans h)
/-- spec.l03Product -/
noncomputable def bs_l03Product (call : Oracle) (a0 : Int × Int × List (List Int)) (a1 : Int × Int × List (List Int)) : Option (List TV) :=
  (call is_l03Turned [tLA8 a0.2.2, tI a0.1, tI a1.2.1]).bind fun o1 =>
  bif (apOk (gLA8 o1 0) a1.2.2) then
    (call is_l03Make [tI a0.1, tI (wi64 (a0.2.1 + a1.2.1)), tLA8 ((gLA8 o1 0) ++ a1.2.2)]).bind fun o2 =>
    some [tPIPILA8 ((gPIPILA8 o2 0).1, (((gPIPILA8 o2 0).2).1, ((gPIPILA8 o2 0).2).2))]
  else none
theorem es_l03Product (call : Oracle) (a0 : Int × Int × List (List Int)) (a1 : Int × Int × List (List Int)) : run1 E call is_l03Product [tPIPILA8 a0, tPIPILA8 a1] = bs_l03Product call a0 a1 := by kernel_rfl
theorem vs_l03Product (a0 : Int × Int × List (List Int)) (a1 : Int × Int × List (List Int)) {o : List TV} (h : bs_l03Product R a0 a1 = some o) : R is_l03Product [tPIPILA8 a0, tPIPILA8 a1] = some o := ev_step ((es_l03Product R a0 a1).trans h)
/-- spec.IsPeriodic loop 5 -/
noncomputable def bs_IsPeriodic_5 (call : Oracle) (x0 : Int) (x1 : Int) (x2 : List (List Int)) (x3 : Int) (x4 : Int) (x5 : List (List Int)) (x6 : Int) : Option (List TV) :=
  bif decide (x6 ≤ x0) then
    (call is_l03Product [tPIPILA8 (x3, (x4, x5)), tPIPILA8 (x0, (x1, x2))]).bind fun o3 =>
    bif decide ((wi64 (x0 - 1)) ≤ x6) then
      bif (((List.length (((gPIPILA8 o3 0).2).2) : Nat) : Int) == 0) then
        some [tI 1, tB true, tI 0]
      else
        call is_IsPeriodic_5 [tI x0, tI x1, tLA8 x2, tI ((gPIPILA8 o3 0).1), tI (((gPIPILA8 o3 0).2).1), tLA8 (((gPIPILA8 o3 0).2).2), tI (wi64 (x6 + 1))]
    else
      call is_IsPeriodic_5 [tI x0, tI x1, tLA8 x2, tI ((gPIPILA8 o3 0).1), tI (((gPIPILA8 o3 0).2).1), tLA8 (((gPIPILA8 o3 0).2).2), tI (wi64 (x6 + 1))]
  else
    some [tI 0]
theorem es_IsPeriodic_5 (call : Oracle) (x0 : Int) (x1 : Int) (x2 : List (List Int)) (x3 : Int) (x4 : Int) (x5 : List (List Int)) (x6 : Int) : run1 E call is_IsPeriodic_5 [tI x0, tI x1, tLA8 x2, tI x3, tI x4, tLA8 x5, tI x6] = bs_IsPeriodic_5 call x0 x1 x2 x3 x4 x5 x6 := by kernel_rfl
theorem vs_IsPeriodic_5 (x0 : Int) (x1 : Int) (x2 : List (List Int)) (x3 : Int) (x4 : Int) (x5 : List (List Int)) (x6 : Int) {o : List TV} (h : bs_IsPeriodic_5 R x0 x1 x2 x3 x4 x5 x6 = some o) : R is_IsPeriodic_5 [tI x0, tI x1, tLA8 x2, tI x3, tI x4, tLA8 x5, tI x6] = some o := ev_step ((es_IsPeriodic_5 R x0 x1 x2 x3 x4 x5 x6).trans h)
/-- spec.IsPeriodic -/
noncomputable def bs_IsPeriodic (call : Oracle) (a0 : Int × Int × List (List Int)) : Option (List TV) :=
  (call is_l03Is [tPIPILA8 (a0.1, (a0.2.1, a0.2.2))]).bind fun o1 =>
  bif (!(gB o1 0)) then
    some [tB false, tI 1]
  else
    (call is_IsPeriodic_5 [tI a0.1, tI a0.2.1, tLA8 a0.2.2, tI a0.1, tI 0, tLA8 [], tI 1]).bind fun o4 =>
    bif ((gI o4 0) == 0) then
      some [tB false, tI 0]
    else
      some [tB (gB o4 1), tI (gI o4 2)]
theorem es_IsPeriodic (call : Oracle) (a0 : Int × Int × List (List Int)) : run1 E call is_IsPeriodic [tPIPILA8 a0] = bs_IsPeriodic call a0 := by kernel_rfl
theorem vs_IsPeriodic (a0 : Int × Int × List (List Int)) {o : List TV} (h : bs_IsPeriodic R a0 = some o) : R is_IsPeriodic [tPIPILA8 a0] = some o := ev_step ((es_IsPeriodic R a0).trans h)
/-- impl.IsSimple loop 5 -/
noncomputable def bi_IsSimple_5 (call : Oracle) (x0 : List Bool) (x1 : Int) (x2 : List Int) (x3 : Int) : Option (List TV) :=
  bif decide (x3 < 8) then
    bif (decide (0 ≤ x3) && decide (x3 < 8)) then
      bif decide (x1 ≤ x3) then
        bif ((List.getD x2 (Int.toNat x3) 0) != 0) then
          some [tI 1, tB false]
        else
          call ii_IsSimple_5 [tAB8 x0, tI x1, tA8 x2, tI (wi64 (x3 + 1))]
      else
        bif decide (x1 ≤ (wi64 ((List.getD x2 (Int.toNat x3) 0)))) then
          some [tI 1, tB false]
        else
          bif (decide (0 ≤ (List.getD x2 (Int.toNat x3) 0)) && decide ((List.getD x2 (Int.toNat x3) 0) < 8)) then
            bif (List.getD x0 (Int.toNat (List.getD x2 (Int.toNat x3) 0)) false) then
              some [tI 1, tB false]
            else
              bif (decide (0 ≤ (List.getD x2 (Int.toNat x3) 0)) && decide ((List.getD x2 (Int.toNat x3) 0) < 8)) then
                call ii_IsSimple_5 [tAB8 (List.set x0 (Int.toNat (List.getD x2 (Int.toNat x3) 0)) true), tI x1, tA8 x2, tI (wi64 (x3 + 1))]
              else none
          else none
    else none
  else
    some [tI 0]
theorem ei_IsSimple_5 (call : Oracle) (x0 : List Bool) (x1 : Int) (x2 : List Int) (x3 : Int) : run1 E call ii_IsSimple_5 [tAB8 x0, tI x1, tA8 x2, tI x3] = bi_IsSimple_5 call x0 x1 x2 x3 := by kernel_rfl
theorem vi_IsSimple_5 (x0 : List Bool) (x1 : Int) (x2 : List Int) (x3 : Int) {o : List TV} (h : bi_IsSimple_5 R x0 x1 x2 x3 = some o) : R ii_IsSimple_5 [tAB8 x0, tI x1, tA8 x2, tI x3] = some o := ev_step ((ei_IsSimple_5 R x0 x1 x2 x3).trans h)
/-- impl.IsSimple -/
noncomputable def bi_IsSimple (call : Oracle) (a0 : List Int) (a1 : Int) : Option (List TV) :=
  (call ii_isCount [tI a1]).bind fun o1 =>
  bif (!(gB o1 0)) then
    some [tB false]
  else
    (call ii_IsSimple_5 [tAB8 (List.replicate 8 false), tI a1, tA8 a0, tI 0]).bind fun o2 =>
    bif ((gI o2 0) == 0) then
      some [tB true]
    else
      some [tB (gB o2 1)]
theorem ei_IsSimple (call : Oracle) (a0 : List Int) (a1 : Int) : run1 E call ii_IsSimple [tA8 a0, tI a1] = bi_IsSimple call a0 a1 := by kernel_rfl
theorem vi_IsSimple (a0 : List Int) (a1 : Int) {o : List TV} (h : bi_IsSimple R a0 a1 = some o) : R ii_IsSimple [tA8 a0, tI a1] = some o := ev_step ((ei_IsSimple R a0 a1).trans h)
/-- impl.begins -/
noncomputable def bi_begins (call : Oracle) (a0 : List Int) (a1 : Int) : Option (List TV) :=
  bif (decide (0 ≤ (wi64 (a1 - 1))) && decide ((wi64 (a1 - 1)) < 8)) then
    bif (decide (0 ≤ a1) && decide (a1 < 8)) then
      some [tB (decide ((List.getD a0 (Int.toNat a1) 0) < (List.getD a0 (Int.toNat (wi64 (a1 - 1))) 0)))]
    else none
  else none
theorem ei_begins (call : Oracle) (a0 : List Int) (a1 : Int) : run1 E call ii_begins [tA8 a0, tI a1] = bi_begins call a0 a1 := by kernel_rfl
theorem vi_begins (a0 : List Int) (a1 : Int) {o : List TV} (h : bi_begins R a0 a1 = some o) : R ii_begins [tA8 a0, tI a1] = some o := ev_step ((ei_begins R a0 a1).trans h)
/-- impl.beginning loop 3 -/
noncomputable def bi_beginning_3 (call : Oracle) (x0 : List Int) (x1 : List Int) (x2 : Int) (x3 : Int) : Option (List TV) :=
  bif decide (x3 < x2) then
    (call ii_begins [tA8 x0, tI x3]).bind fun o2 =>
    bif (gB o2 0) then
      bif (apOk x1 [x3]) then
        call ii_beginning_3 [tA8 x0, tLI (x1 ++ [x3]), tI x2, tI (wi64 (x3 + 1))]
      else none
    else
      call ii_beginning_3 [tA8 x0, tLI x1, tI x2, tI (wi64 (x3 + 1))]
  else
    some [tI 0, tLI x1]
theorem ei_beginning_3 (call : Oracle) (x0 : List Int) (x1 : List Int) (x2 : Int) (x3 : Int) : run1 E call ii_beginning_3 [tA8 x0, tLI x1, tI x2, tI x3] = bi_beginning_3 call x0 x1 x2 x3 := by kernel_rfl
theorem vi_beginning_3 (x0 : List Int) (x1 : List Int) (x2 : Int) (x3 : Int) {o : List TV} (h : bi_beginning_3 R x0 x1 x2 x3 = some o) : R ii_beginning_3 [tA8 x0, tLI x1, tI x2, tI x3] = some o := ev_step ((ei_beginning_3 R x0 x1 x2 x3).trans h)
/-- impl.beginning -/
noncomputable def bi_beginning (call : Oracle) (a0 : List Int) (a1 : Int) : Option (List TV) :=
  (call ii_beginning_3 [tA8 a0, tLI [], tI a1, tI 1]).bind fun o3 =>
  some [tLI (gLI o3 1)]
theorem ei_beginning (call : Oracle) (a0 : List Int) (a1 : Int) : run1 E call ii_beginning [tA8 a0, tI a1] = bi_beginning call a0 a1 := by kernel_rfl
theorem vi_beginning (a0 : List Int) (a1 : Int) {o : List TV} (h : bi_beginning R a0 a1 = some o) : R ii_beginning [tA8 a0, tI a1] = some o := ev_step ((ei_beginning R a0 a1).trans h)
/-- impl.endsAll loop 3 -/
noncomputable def bi_endsAll_3 (call : Oracle) (x0 : List Int) (x1 : List Int) (x2 : Int) (x3 : Int) : Option (List TV) :=
  bif decide (x3 < x2) then
    bif (decide (0 ≤ x3) && decide (x3 < ((List.length x1 : Nat) : Int))) then
      (call ii_begins [tA8 x0, tI (List.getD x1 (Int.toNat x3) 0)]).bind fun o4 =>
      bif (!(gB o4 0)) then
        some [tI 1, tB false]
      else
        call ii_endsAll_3 [tA8 x0, tLI x1, tI x2, tI (wi64 (x3 + 1))]
    else none
  else
    some [tI 0]
theorem ei_endsAll_3 (call : Oracle) (x0 : List Int) (x1 : List Int) (x2 : Int) (x3 : Int) : run1 E call ii_endsAll_3 [tA8 x0, tLI x1, tI x2, tI x3] = bi_endsAll_3 call x0 x1 x2 x3 := by kernel_rfl
theorem vi_endsAll_3 (x0 : List Int) (x1 : List Int) (x2 : Int) (x3 : Int) {o : List TV} (h : bi_endsAll_3 R x0 x1 x2 x3 = some o) : R ii_endsAll_3 [tA8 x0, tLI x1, tI x2, tI x3] = some o := ev_step ((ei_endsAll_3 R x0 x1 x2 x3).trans h)
/-- impl.endsAll -/
noncomputable def bi_endsAll (call : Oracle) (a0 : List Int) (a1 : List Int) (a2 : Int) : Option (List TV) :=
  (call ii_backOf [tA8 a0, tI a2]).bind fun o1 =>
  (call ii_beginning [tA8 a1, tI a2]).bind fun o2 =>
  (call ii_endsAll_3 [tA8 (gA8 o1 0), tLI (gLI o2 0), tI ((List.length (gLI o2 0) : Nat) : Int), tI 0]).bind fun o5 =>
  bif ((gI o5 0) == 0) then
    some [tB true]
  else
    some [tB (gB o5 1)]
theorem ei_endsAll (call : Oracle) (a0 : List Int) (a1 : List Int) (a2 : Int) : run1 E call ii_endsAll [tA8 a0, tA8 a1, tI a2] = bi_endsAll call a0 a1 a2 := by kernel_rfl
theorem vi_endsAll (a0 : List Int) (a1 : List Int) (a2 : Int) {o : List TV} (h : bi_endsAll R a0 a1 a2 = some o) : R ii_endsAll [tA8 a0, tA8 a1, tI a2] = some o := ev_step ((ei_endsAll R a0 a1 a2).trans h)
/-- impl.IsNormal loop 5 -/
noncomputable def bi_IsNormal_5 (call : Oracle) (x0 : Int) (x1 : Int) (x2 : List (List Int)) (x3 : Int) (x4 : Int) (x5 : Int) : Option (List TV) :=
  bif decide (x5 < x4) then
    bif (decide (0 ≤ x5) && decide (x5 < ((List.length x2 : Nat) : Int))) then
      (call ii_IsSimple [tA8 (List.getD x2 (Int.toNat x5) (List.replicate 8 0)), tI x3]).bind fun o7 =>
      bif (!(gB o7 0)) then
        some [tI 1, tB false]
      else
        (call ii_nothing [tI x3]).bind fun o8 =>
        bif ((List.getD x2 (Int.toNat x5) (List.replicate 8 0)) == (gA8 o8 0)) then
          some [tI 1, tB false]
        else
          (call ii_halfTurn [tI x3]).bind fun o9 =>
          bif ((List.getD x2 (Int.toNat x5) (List.replicate 8 0)) == (gA8 o9 0)) then
            some [tI 1, tB false]
          else
            bif decide (0 < x5) then
              bif (decide (0 ≤ (wi64 (x5 - 1))) && decide ((wi64 (x5 - 1)) < ((List.length x2 : Nat) : Int))) then
                (call ii_endsAll [tA8 (List.getD x2 (Int.toNat (wi64 (x5 - 1))) (List.replicate 8 0)), tA8 (List.getD x2 (Int.toNat x5) (List.replicate 8 0)), tI x3]).bind fun o10 =>
                bif (!(gB o10 0)) then
                  some [tI 1, tB false]
                else
                  call ii_IsNormal_5 [tI x0, tI x1, tLA8 x2, tI x3, tI x4, tI (wi64 (x5 + 1))]
              else none
            else
              call ii_IsNormal_5 [tI x0, tI x1, tLA8 x2, tI x3, tI x4, tI (wi64 (x5 + 1))]
    else none
  else
    some [tI 0]
theorem ei_IsNormal_5 (call : Oracle) (x0 : Int) (x1 : Int) (x2 : List (List Int)) (x3 : Int) (x4 : Int) (x5 : Int) : run1 E call ii_IsNormal_5 [tI x0, tI x1, tLA8 x2, tI x3, tI x4, tI x5] = bi_IsNormal_5 call x0 x1 x2 x3 x4 x5 := by kernel_rfl
theorem vi_IsNormal_5 (x0 : Int) (x1 : Int) (x2 : List (List Int)) (x3 : Int) (x4 : Int) (x5 : Int) {o : List TV} (h : bi_IsNormal_5 R x0 x1 x2 x3 x4 x5 = some o) : R ii_IsNormal_5 [tI x0, tI x1, tLA8 x2, tI x3, tI x4, tI x5] = some o := ev_step ((ei_IsNormal_5 R x0 x1 x2 x3 x4 x5).trans h)
/-- impl.IsNormal -/
noncomputable def bi_IsNormal (call : Oracle) (a0 : Int × Int × List (List Int)) : Option (List TV) :=
  (call ii_isCount [tI a0.1]).bind fun o1 =>
  bif (!(gB o1 0)) then
    some [tB false]
  else
    (call ii_within [tI a0.2.1, tI (-200), tI 200]).bind fun o2 =>
    bif (!(gB o2 0)) then
      some [tB false]
    else
      bif decide (200 < ((List.length a0.2.2 : Nat) : Int)) then
        some [tB false]
      else
        bif decide (a0.1 < 2) then
          bif (a0.2.1 != 0) then
            some [tB false]
          else
            (call ii_IsNormal_5 [tI a0.1, tI a0.2.1, tLA8 a0.2.2, tI a0.1, tI ((List.length a0.2.2 : Nat) : Int), tI 0]).bind fun o11 =>
            bif ((gI o11 0) == 0) then
              some [tB true]
            else
              some [tB (gB o11 1)]
        else
          (call ii_IsNormal_5 [tI a0.1, tI a0.2.1, tLA8 a0.2.2, tI a0.1, tI ((List.length a0.2.2 : Nat) : Int), tI 0]).bind fun o12 =>
          bif ((gI o12 0) == 0) then
            some [tB true]
          else
            some [tB (gB o12 1)]
theorem ei_IsNormal (call : Oracle) (a0 : Int × Int × List (List Int)) : run1 E call ii_IsNormal [tPIPILA8 a0] = bi_IsNormal call a0 := by kernel_rfl
theorem vi_IsNormal (a0 : Int × Int × List (List Int)) {o : List TV} (h : bi_IsNormal R a0 = some o) : R ii_IsNormal [tPIPILA8 a0] = some o := ev_step ((ei_IsNormal R a0).trans h)
/-- impl.copyNormal -/
noncomputable def bi_copyNormal (call : Oracle) (a0 : Int × Int × List (List Int)) : Option (List TV) :=
  bif (apOk [] a0.2.2) then
    some [tPIPILA8 (a0.1, (a0.2.1, a0.2.2))]
  else none
theorem ei_copyNormal (call : Oracle) (a0 : Int × Int × List (List Int)) : run1 E call ii_copyNormal [tPIPILA8 a0] = bi_copyNormal call a0 := by kernel_rfl
theorem vi_copyNormal (a0 : Int × Int × List (List Int)) {o : List TV} (h : bi_copyNormal R a0 = some o) : R ii_copyNormal [tPIPILA8 a0] = some o := ev_step ((ei_copyNormal R a0).trans h)
/-- impl.product loop 4 -/
noncomputable def bi_product_4 (call : Oracle) (x0 : Int) (x1 : Int) (x2 : List (List Int)) (x3 : Int) (x4 : Int) (x5 : List (List Int)) (x6 : List (List Int)) (x7 : Int) (x8 : Int) : Option (List TV) :=
  bif decide (x8 < x7) then
    bif (decide (0 ≤ x8) && decide (x8 < ((List.length x6 : Nat) : Int))) then
      (call i__i_Normal__put [tPIPILA8 (x3, (x4, x5)), tA8 (List.getD x6 (Int.toNat x8) (List.replicate 8 0))]).bind fun o4 =>
      call ii_product_4 [tI x0, tI x1, tLA8 x2, tI ((gPIPILA8 o4 0).1), tI (((gPIPILA8 o4 0).2).1), tLA8 (((gPIPILA8 o4 0).2).2), tLA8 x6, tI x7, tI (wi64 (x8 + 1))]
    else none
  else
    some [tI 0, tI x0, tI x1, tLA8 x2, tI x3, tI x4, tLA8 x5]
theorem ei_product_4 (call : Oracle) (x0 : Int) (x1 : Int) (x2 : List (List Int)) (x3 : Int) (x4 : Int) (x5 : List (List Int)) (x6 : List (List Int)) (x7 : Int) (x8 : Int) : run1 E call ii_product_4 [tI x0, tI x1, tLA8 x2, tI x3, tI x4, tLA8 x5, tLA8 x6, tI x7, tI x8] = bi_product_4 call x0 x1 x2 x3 x4 x5 x6 x7 x8 := by kernel_rfl
theorem vi_product_4 (x0 : Int) (x1 : Int) (x2 : List (List Int)) (x3 : Int) (x4 : Int) (x5 : List (List Int)) (x6 : List (List Int)) (x7 : Int) (x8 : Int) {o : List TV} (h : bi_product_4 R x0 x1 x2 x3 x4 x5 x6 x7 x8 = some o) : R ii_product_4 [tI x0, tI x1, tLA8 x2, tI x3, tI x4, tLA8 x5, tLA8 x6, tI x7, tI x8] = some o := ev_step ((ei_product_4 R x0 x1 x2 x3 x4 x5 x6 x7 x8).trans h)
/-- impl.product -/
noncomputable def bi_product (call : Oracle) (a0 : Int × Int × List (List Int)) (a1 : Int × Int × List (List Int)) : Option (List TV) :=
  (call ii_copyNormal [tPIPILA8 (a0.1, (a0.2.1, a0.2.2))]).bind fun o1 =>
  (call i__i_Normal__turnBy [tPIPILA8 ((gPIPILA8 o1 0).1, (((gPIPILA8 o1 0).2).1, ((gPIPILA8 o1 0).2).2)), tI a1.2.1]).bind fun o2 =>
  (call ii_product_4 [tI 0, tI 0, tLA8 [], tI ((gPIPILA8 o2 0).1), tI (((gPIPILA8 o2 0).2).1), tLA8 (((gPIPILA8 o2 0).2).2), tLA8 a1.2.2, tI ((List.length a1.2.2 : Nat) : Int), tI 0]).bind fun o5 =>
  some [tPIPILA8 ((gI o5 4), ((gI o5 5), (gLA8 o5 6)))]
theorem ei_product (call : Oracle) (a0 : Int × Int × List (List Int)) (a1 : Int × Int × List (List Int)) : run1 E call ii_product [tPIPILA8 a0, tPIPILA8 a1] = bi_product call a0 a1 := by kernel_rfl
theorem vi_product (a0 : Int × Int × List (List Int)) (a1 : Int × Int × List (List Int)) {o : List TV} (h : bi_product R a0 a1 = some o) : R ii_product [tPIPILA8 a0, tPIPILA8 a1] = some o := ev_step ((ei_product R a0 a1).trans h)
/-- impl.IsPeriodic loop 5 -/
noncomputable def bi_IsPeriodic_5 (call : Oracle) (x0 : Int) (x1 : Int) (x2 : List (List Int)) (x3 : Int) (x4 : Int) (x5 : List (List Int)) (x6 : Int) (x7 : Int) : Option (List TV) :=
  bif decide (x7 < x6) then
    (call ii_product [tPIPILA8 (x3, (x4, x5)), tPIPILA8 (x0, (x1, x2))]).bind fun o3 =>
    call ii_IsPeriodic_5 [tI x0, tI x1, tLA8 x2, tI ((gPIPILA8 o3 0).1), tI (((gPIPILA8 o3 0).2).1), tLA8 (((gPIPILA8 o3 0).2).2), tI x6, tI (wi64 (x7 + 1))]
  else
    some [tI 0, tI x0, tI x1, tLA8 x2, tI x3, tI x4, tLA8 x5]
theorem ei_IsPeriodic_5 (call : Oracle) (x0 : Int) (x1 : Int) (x2 : List (List Int)) (x3 : Int) (x4 : Int) (x5 : List (List Int)) (x6 : Int) (x7 : Int) : run1 E call ii_IsPeriodic_5 [tI x0, tI x1, tLA8 x2, tI x3, tI x4, tLA8 x5, tI x6, tI x7] = bi_IsPeriodic_5 call x0 x1 x2 x3 x4 x5 x6 x7 := by kernel_rfl
theorem vi_IsPeriodic_5 (x0 : Int) (x1 : Int) (x2 : List (List Int)) (x3 : Int) (x4 : Int) (x5 : List (List Int)) (x6 : Int) (x7 : Int) {o : List TV} (h : bi_IsPeriodic_5 R x0 x1 x2 x3 x4 x5 x6 x7 = some o) : R ii_IsPeriodic_5 [tI x0, tI x1, tLA8 x2, tI x3, tI x4, tLA8 x5, tI x6, tI x7] = some o := ev_step ((ei_IsPeriodic_5 R x0 x1 x2 x3 x4 x5 x6 x7).trans h)
/-- impl.IsPeriodic -/
noncomputable def bi_IsPeriodic (call : Oracle) (a0 : Int × Int × List (List Int)) : Option (List TV) :=
  (call ii_IsNormal [tPIPILA8 (a0.1, (a0.2.1, a0.2.2))]).bind fun o1 =>
  bif (!(gB o1 0)) then
    some [tB false, tI 1]
  else
    (call ii_IsPeriodic_5 [tI a0.1, tI a0.2.1, tLA8 a0.2.2, tI a0.1, tI 0, tLA8 [], tI (wi64 (a0.1 - 1)), tI 0]).bind fun o4 =>
    bif (((List.length (gLA8 o4 6) : Nat) : Int) == 0) then
      some [tB true, tI 0]
    else
      (call ii_product [tPIPILA8 ((gI o4 4), ((gI o4 5), (gLA8 o4 6))), tPIPILA8 ((gI o4 1), ((gI o4 2), (gLA8 o4 3)))]).bind fun o5 =>
      some [tB (((List.length (((gPIPILA8 o5 0).2).2) : Nat) : Int) == 0), tI 0]
theorem ei_IsPeriodic (call : Oracle) (a0 : Int × Int × List (List Int)) : run1 E call ii_IsPeriodic [tPIPILA8 a0] = bi_IsPeriodic call a0 := by kernel_rfl
theorem vi_IsPeriodic (a0 : Int × Int × List (List Int)) {o : List TV} (h : bi_IsPeriodic R a0 = some o) : R ii_IsPeriodic [tPIPILA8 a0] = some o := ev_step ((ei_IsPeriodic R a0).trans h)
/-- laws.eqSimple loop 2 -/
noncomputable def bw_eqSimple_2 (call : Oracle) (x0 : List Int) (x1 : List Int) (x2 : Int) : Option (List TV) :=
  bif decide (x2 < 8) then
    bif (decide (0 ≤ x2) && decide (x2 < 8)) then
      bif (decide (0 ≤ x2) && decide (x2 < 8)) then
        bif ((List.getD x0 (Int.toNat x2) 0) != (List.getD x1 (Int.toNat x2) 0)) then
          some [tI 1, tB false]
        else
          call iw_eqSimple_2 [tA8 x0, tA8 x1, tI (wi64 (x2 + 1))]
      else none
    else none
  else
    some [tI 0]
theorem ew_eqSimple_2 (call : Oracle) (x0 : List Int) (x1 : List Int) (x2 : Int) : run1 E call iw_eqSimple_2 [tA8 x0, tA8 x1, tI x2] = bw_eqSimple_2 call x0 x1 x2 := by kernel_rfl
theorem vw_eqSimple_2 (x0 : List Int) (x1 : List Int) (x2 : Int) {o : List TV} (h : bw_eqSimple_2 R x0 x1 x2 = some o) : R iw_eqSimple_2 [tA8 x0, tA8 x1, tI x2] = some o := ev_step ((ew_eqSimple_2 R x0 x1 x2).trans h)
/-- laws.eqSimple -/
noncomputable def bw_eqSimple (call : Oracle) (a0 : List Int) (a1 : List Int) : Option (List TV) :=
  (call iw_eqSimple_2 [tA8 a0, tA8 a1, tI 0]).bind fun o1 =>
  bif ((gI o1 0) == 0) then
    some [tB true]
  else
    some [tB (gB o1 1)]
theorem ew_eqSimple (call : Oracle) (a0 : List Int) (a1 : List Int) : run1 E call iw_eqSimple [tA8 a0, tA8 a1] = bw_eqSimple call a0 a1 := by kernel_rfl
theorem vw_eqSimple (a0 : List Int) (a1 : List Int) {o : List TV} (h : bw_eqSimple R a0 a1 = some o) : R iw_eqSimple [tA8 a0, tA8 a1] = some o := ev_step ((ew_eqSimple R a0 a1).trans h)
/-- laws.eqSimpleS loop 4 -/
noncomputable def bw_eqSimpleS_4 (call : Oracle) (x0 : List (List Int)) (x1 : List (List Int)) (x2 : Int) : Option (List TV) :=
  bif decide (x2 < ((List.length x0 : Nat) : Int)) then
    bif (decide (0 ≤ x2) && decide (x2 < ((List.length x0 : Nat) : Int))) then
      bif (decide (0 ≤ x2) && decide (x2 < ((List.length x1 : Nat) : Int))) then
        (call iw_eqSimple [tA8 (List.getD x0 (Int.toNat x2) (List.replicate 8 0)), tA8 (List.getD x1 (Int.toNat x2) (List.replicate 8 0))]).bind fun o2 =>
        bif (!(gB o2 0)) then
          some [tI 1, tB false]
        else
          call iw_eqSimpleS_4 [tLA8 x0, tLA8 x1, tI (wi64 (x2 + 1))]
      else none
    else none
  else
    some [tI 0]
theorem ew_eqSimpleS_4 (call : Oracle) (x0 : List (List Int)) (x1 : List (List Int)) (x2 : Int) : run1 E call iw_eqSimpleS_4 [tLA8 x0, tLA8 x1, tI x2] = bw_eqSimpleS_4 call x0 x1 x2 := by kernel_rfl
theorem vw_eqSimpleS_4 (x0 : List (List Int)) (x1 : List (List Int)) (x2 : Int) {o : List TV} (h : bw_eqSimpleS_4 R x0 x1 x2 = some o) : R iw_eqSimpleS_4 [tLA8 x0, tLA8 x1, tI x2] = some o := ev_step ((ew_eqSimpleS_4 R x0 x1 x2).trans h)
/-- laws.eqSimpleS -/
noncomputable def bw_eqSimpleS (call : Oracle) (a0 : List (List Int)) (a1 : List (List Int)) : Option (List TV) :=
  bif (((List.length a0 : Nat) : Int) != ((List.length a1 : Nat) : Int)) then
    some [tB false]
  else
    (call iw_eqSimpleS_4 [tLA8 a0, tLA8 a1, tI 0]).bind fun o3 =>
    bif ((gI o3 0) == 0) then
      some [tB true]
    else
      some [tB (gB o3 1)]
theorem ew_eqSimpleS (call : Oracle) (a0 : List (List Int)) (a1 : List (List Int)) : run1 E call iw_eqSimpleS [tLA8 a0, tLA8 a1] = bw_eqSimpleS call a0 a1 := by kernel_rfl
theorem vw_eqSimpleS (a0 : List (List Int)) (a1 : List (List Int)) {o : List TV} (h : bw_eqSimpleS R a0 a1 = some o) : R iw_eqSimpleS [tLA8 a0, tLA8 a1] = some o := ev_step ((ew_eqSimpleS R a0 a1).trans h)
/-- laws.eqNormal -/
noncomputable def bw_eqNormal (call : Oracle) (a0 : Int × Int × List (List Int)) (a1 : Int × Int × List (List Int)) : Option (List TV) :=
  bif (a0.1 != a1.1) then
    some [tB false]
  else
    bif (a0.2.1 != a1.2.1) then
      some [tB false]
    else
      (call iw_eqSimpleS [tLA8 a0.2.2, tLA8 a1.2.2]).bind fun o1 =>
      bif (!(gB o1 0)) then
        some [tB false]
      else
        some [tB true]
theorem ew_eqNormal (call : Oracle) (a0 : Int × Int × List (List Int)) (a1 : Int × Int × List (List Int)) : run1 E call iw_eqNormal [tPIPILA8 a0, tPIPILA8 a1] = bw_eqNormal call a0 a1 := by kernel_rfl
theorem vw_eqNormal (a0 : Int × Int × List (List Int)) (a1 : Int × Int × List (List Int)) {o : List TV} (h : bw_eqNormal R a0 a1 = some o) : R iw_eqNormal [tPIPILA8 a0, tPIPILA8 a1] = some o := ev_step ((ew_eqNormal R a0 a1).trans h)
/-- laws.FnExactIsPeriodic -/
noncomputable def bw_FnExactIsPeriodic (call : Oracle) (a0 : Int × Int × List (List Int)) : Option (List TV) :=
  (call iw_szNormal [tPIPILA8 (a0.1, (a0.2.1, a0.2.2)), tI 1048576]).bind fun o1 =>
  bif decide ((gI o1 0) < 0) then
    some [tB true]
  else
    (call iw_toNormal [tPIPILA8 (a0.1, (a0.2.1, a0.2.2))]).bind fun o2 =>
    (call is_IsPeriodic [tPIPILA8 ((gPIPILA8 o2 0).1, (((gPIPILA8 o2 0).2).1, ((gPIPILA8 o2 0).2).2))]).bind fun o3 =>
    (call iw_toNormal [tPIPILA8 (a0.1, (a0.2.1, a0.2.2))]).bind fun o4 =>
    (call ii_IsPeriodic [tPIPILA8 ((gPIPILA8 o4 0).1, (((gPIPILA8 o4 0).2).1, ((gPIPILA8 o4 0).2).2))]).bind fun o5 =>
    bif ((gB o5 0) != (gB o3 0)) then
      some [tB false]
    else
      bif ((gI o5 1) != (gI o3 1)) then
        some [tB false]
      else
        (call iw_toNormal [tPIPILA8 (a0.1, (a0.2.1, a0.2.2))]).bind fun o6 =>
        (call iw_eqNormal [tPIPILA8 ((gPIPILA8 o4 0).1, (((gPIPILA8 o4 0).2).1, ((gPIPILA8 o4 0).2).2)), tPIPILA8 ((gPIPILA8 o6 0).1, (((gPIPILA8 o6 0).2).1, ((gPIPILA8 o6 0).2).2))]).bind fun o7 =>
        bif (!(gB o7 0)) then
          some [tB false]
        else
          some [tB true]
theorem ew_FnExactIsPeriodic (call : Oracle) (a0 : Int × Int × List (List Int)) : run1 E call iw_FnExactIsPeriodic [tPIPILA8 a0] = bw_FnExactIsPeriodic call a0 := by kernel_rfl
theorem vw_FnExactIsPeriodic (a0 : Int × Int × List (List Int)) {o : List TV} (h : bw_FnExactIsPeriodic R a0 = some o) : R iw_FnExactIsPeriodic [tPIPILA8 a0] = some o := ev_step ((ew_FnExactIsPeriodic R a0).trans h)
/-- spec.l03Fit -/
noncomputable def bs_l03Fit (call : Oracle) (a0 : Int × Int × List (List Int)) : Option (List TV) :=
  (call is_l01In [tI a0.2.1, tI (-200), tI 200]).bind fun o1 =>
  bif (!(gB o1 0)) then
    some [tPIPILA8 (0, (0, [])), tI 3]
  else
    bif decide (200 < ((List.length a0.2.2 : Nat) : Int)) then
      some [tPIPILA8 (0, (0, [])), tI 3]
    else
      some [tPIPILA8 (a0.1, (a0.2.1, a0.2.2)), tI 0]
theorem es_l03Fit (call : Oracle) (a0 : Int × Int × List (List Int)) : run1 E call is_l03Fit [tPIPILA8 a0] = bs_l03Fit call a0 := by kernel_rfl
theorem vs_l03Fit (a0 : Int × Int × List (List Int)) {o : List TV} (h : bs_l03Fit R a0 = some o) : R is_l03Fit [tPIPILA8 a0] = some o := ev_step ((es_l03Fit R a0).trans h)
/-- spec.NormalOf -/
noncomputable def bs_NormalOf (call : Oracle) (a0 : Int × List Int) : Option (List TV) :=
  (call is_l01Is [tPILI (a0.1, a0.2)]).bind fun o1 =>
  bif (!(gB o1 0)) then
    some [tPIPILA8 (0, (0, [])), tI 1]
  else
    (call is_l03Of [tI a0.1, tLI a0.2]).bind fun o2 =>
    (call is_l03Fit [tPIPILA8 ((gPIPILA8 o2 0).1, (((gPIPILA8 o2 0).2).1, ((gPIPILA8 o2 0).2).2))]).bind fun o3 =>
    some [tPIPILA8 ((gPIPILA8 o3 0).1, (((gPIPILA8 o3 0).2).1, ((gPIPILA8 o3 0).2).2)), tI (gI o3 1)]
theorem es_NormalOf (call : Oracle) (a0 : Int × List Int) : run1 E call is_NormalOf [tPILI a0] = bs_NormalOf call a0 := by kernel_rfl
theorem vs_NormalOf (a0 : Int × List Int) {o : List TV} (h : bs_NormalOf R a0 = some o) : R is_NormalOf [tPILI a0] = some o := ev_step ((es_NormalOf R a0).trans h)
/-- impl.limited -/
noncomputable def bi_limited (call : Oracle) (a0 : Int × Int × List (List Int)) : Option (List TV) :=
  (call ii_within [tI a0.2.1, tI (-200), tI 200]).bind fun o1 =>
  bif (!(gB o1 0)) then
    some [tPIPILA8 (0, (0, [])), tI 3]
  else
    bif decide (200 < ((List.length a0.2.2 : Nat) : Int)) then
      some [tPIPILA8 (0, (0, [])), tI 3]
    else
      some [tPIPILA8 (a0.1, (a0.2.1, a0.2.2)), tI 0]
theorem ei_limited (call : Oracle) (a0 : Int × Int × List (List Int)) : run1 E call ii_limited [tPIPILA8 a0] = bi_limited call a0 := by kernel_rfl
theorem vi_limited (a0 : Int × Int × List (List Int)) {o : List TV} (h : bi_limited R a0 = some o) : R ii_limited [tPIPILA8 a0] = some o := ev_step ((ei_limited R a0).trans h)
/-- impl.NormalOf -/
noncomputable def bi_NormalOf (call : Oracle) (a0 : Int × List Int) : Option (List TV) :=
  (call ii_IsBraid [tPILI (a0.1, a0.2)]).bind fun o1 =>
  bif (!(gB o1 0)) then
    some [tPIPILA8 (0, (0, [])), tI 1]
  else
    (call ii_normalOf [tPILI (a0.1, a0.2)]).bind fun o2 =>
    (call ii_limited [tPIPILA8 ((gPIPILA8 o2 0).1, (((gPIPILA8 o2 0).2).1, ((gPIPILA8 o2 0).2).2))]).bind fun o3 =>
    some [tPIPILA8 ((gPIPILA8 o3 0).1, (((gPIPILA8 o3 0).2).1, ((gPIPILA8 o3 0).2).2)), tI (gI o3 1)]
theorem ei_NormalOf (call : Oracle) (a0 : Int × List Int) : run1 E call ii_NormalOf [tPILI a0] = bi_NormalOf call a0 := by kernel_rfl
theorem vi_NormalOf (a0 : Int × List Int) {o : List TV} (h : bi_NormalOf R a0 = some o) : R ii_NormalOf [tPILI a0] = some o := ev_step ((ei_NormalOf R a0).trans h)
/-- laws.markInt64S loop 2 -/
noncomputable def bw_markInt64S_2 (call : Oracle) (x0 : List Int) (x1 : Int) (x2 : Int) : Option (List TV) :=
  bif decide (x2 < ((List.length x0 : Nat) : Int)) then
    bif (decide (0 ≤ x2) && decide (x2 < ((List.length x0 : Nat) : Int))) then
      call iw_markInt64S_2 [tLI (List.set x0 (Int.toNat x2) x1), tI (wi64 (x1 + 1)), tI (wi64 (x2 + 1))]
    else none
  else
    some [tI 0, tLI x0, tI x1]
theorem ew_markInt64S_2 (call : Oracle) (x0 : List Int) (x1 : Int) (x2 : Int) : run1 E call iw_markInt64S_2 [tLI x0, tI x1, tI x2] = bw_markInt64S_2 call x0 x1 x2 := by kernel_rfl
theorem vw_markInt64S_2 (x0 : List Int) (x1 : Int) (x2 : Int) {o : List TV} (h : bw_markInt64S_2 R x0 x1 x2 = some o) : R iw_markInt64S_2 [tLI x0, tI x1, tI x2] = some o := ev_step ((ew_markInt64S_2 R x0 x1 x2).trans h)
/-- laws.markInt64S -/
noncomputable def bw_markInt64S (call : Oracle) (a0 : List Int) (a1 : Int) : Option (List TV) :=
  (call iw_markInt64S_2 [tLI a0, tI a1, tI 0]).bind fun o1 =>
  some [tI (gI o1 2), tLI (gLI o1 1)]
theorem ew_markInt64S (call : Oracle) (a0 : List Int) (a1 : Int) : run1 E call iw_markInt64S [tLI a0, tI a1] = bw_markInt64S call a0 a1 := by kernel_rfl
theorem vw_markInt64S (a0 : List Int) (a1 : Int) {o : List TV} (h : bw_markInt64S R a0 a1 = some o) : R iw_markInt64S [tLI a0, tI a1] = some o := ev_step ((ew_markInt64S R a0 a1).trans h)
/-- laws.markBraid -/
noncomputable def bw_markBraid (call : Oracle) (a0 : Int × List Int) (a1 : Int) : Option (List TV) :=
  (call iw_markInt64S [tLI a0.2, tI a1]).bind fun o1 =>
  some [tI (gI o1 0), tPILI (a0.1, (gLI o1 1))]
theorem ew_markBraid (call : Oracle) (a0 : Int × List Int) (a1 : Int) : run1 E call iw_markBraid [tPILI a0, tI a1] = bw_markBraid call a0 a1 := by kernel_rfl
theorem vw_markBraid (a0 : Int × List Int) (a1 : Int) {o : List TV} (h : bw_markBraid R a0 a1 = some o) : R iw_markBraid [tPILI a0, tI a1] = some o := ev_step ((ew_markBraid R a0 a1).trans h)
/-- laws.markSimpleS loop 2 -/
noncomputable def bw_markSimpleS_2 (call : Oracle) (x0 : List (List Int)) (x1 : Int) (x2 : Int) : Option (List TV) :=
  bif decide (x2 < ((List.length x0 : Nat) : Int)) then
    (call iw_markSimpleS_5 [tLA8 x0, tI x1, tI x2, tI 0]).bind fun o2 =>
    call iw_markSimpleS_2 [tLA8 (gLA8 o2 1), tI (gI o2 2), tI (wi64 ((gI o2 3) + 1))]
  else
    some [tI 0, tLA8 x0, tI x1]
theorem ew_markSimpleS_2 (call : Oracle) (x0 : List (List Int)) (x1 : Int) (x2 : Int) : run1 E call iw_markSimpleS_2 [tLA8 x0, tI x1, tI x2] = bw_markSimpleS_2 call x0 x1 x2 := by kernel_rfl
theorem vw_markSimpleS_2 (x0 : List (List Int)) (x1 : Int) (x2 : Int) {o : List TV} (h : bw_markSimpleS_2 R x0 x1 x2 = some o) : R iw_markSimpleS_2 [tLA8 x0, tI x1, tI x2] = some o := ev_step ((ew_markSimpleS_2 R x0 x1 x2).trans h)
/-- laws.markSimpleS loop 5 -/
noncomputable def bw_markSimpleS_5 (call : Oracle) (x0 : List (List Int)) (x1 : Int) (x2 : Int) (x3 : Int) : Option (List TV) :=
  bif decide (x3 < 8) then
    bif (decide (0 ≤ x2) && decide (x2 < ((List.length x0 : Nat) : Int))) then
      bif (decide (0 ≤ x3) && decide (x3 < 8)) then
        call iw_markSimpleS_5 [tLA8 (List.set x0 (Int.toNat x2) (List.set (List.getD x0 (Int.toNat x2) []) (Int.toNat x3) (wu8 (x1)))), tI (wi64 (x1 + 1)), tI x2, tI (wi64 (x3 + 1))]
      else none
    else none
  else
    some [tI 0, tLA8 x0, tI x1, tI x2]
theorem ew_markSimpleS_5 (call : Oracle) (x0 : List (List Int)) (x1 : Int) (x2 : Int) (x3 : Int) : run1 E call iw_markSimpleS_5 [tLA8 x0, tI x1, tI x2, tI x3] = bw_markSimpleS_5 call x0 x1 x2 x3 := by kernel_rfl
theorem vw_markSimpleS_5 (x0 : List (List Int)) (x1 : Int) (x2 : Int) (x3 : Int) {o : List TV} (h : bw_markSimpleS_5 R x0 x1 x2 x3 = some o) : R iw_markSimpleS_5 [tLA8 x0, tI x1, tI x2, tI x3] = some o := ev_step ((ew_markSimpleS_5 R x0 x1 x2 x3).trans h)
/-- laws.markSimpleS -/
noncomputable def bw_markSimpleS (call : Oracle) (a0 : List (List Int)) (a1 : Int) : Option (List TV) :=
  (call iw_markSimpleS_2 [tLA8 a0, tI a1, tI 0]).bind fun o3 =>
  some [tI (gI o3 2), tLA8 (gLA8 o3 1)]
theorem ew_markSimpleS (call : Oracle) (a0 : List (List Int)) (a1 : Int) : run1 E call iw_markSimpleS [tLA8 a0, tI a1] = bw_markSimpleS call a0 a1 := by kernel_rfl
theorem vw_markSimpleS (a0 : List (List Int)) (a1 : Int) {o : List TV} (h : bw_markSimpleS R a0 a1 = some o) : R iw_markSimpleS [tLA8 a0, tI a1] = some o := ev_step ((ew_markSimpleS R a0 a1).trans h)
/-- laws.markNormal -/
noncomputable def bw_markNormal (call : Oracle) (a0 : Int × Int × List (List Int)) (a1 : Int) : Option (List TV) :=
  (call iw_markSimpleS [tLA8 a0.2.2, tI a1]).bind fun o1 =>
  some [tI (gI o1 0), tPIPILA8 (a0.1, (a0.2.1, (gLA8 o1 1)))]
theorem ew_markNormal (call : Oracle) (a0 : Int × Int × List (List Int)) (a1 : Int) : run1 E call iw_markNormal [tPIPILA8 a0, tI a1] = bw_markNormal call a0 a1 := by kernel_rfl
theorem vw_markNormal (a0 : Int × Int × List (List Int)) (a1 : Int) {o : List TV} (h : bw_markNormal R a0 a1 = some o) : R iw_markNormal [tPIPILA8 a0, tI a1] = some o := ev_step ((ew_markNormal R a0 a1).trans h)
end Go.Ev.Ytolpnaiincngjaa
