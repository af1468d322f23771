/- Bodies, part 3. -/
import Derived.KernelRfl
import Derived.Test.YtadjhggdddbicaaEnv
set_option linter.unusedVariables false
namespace Go.Ev.Ytadjhggdddbicaa
open Go.Ev
/-- (*impl.Dual).putInverse -/
noncomputable def b__i_Dual__putInverse (call : Oracle) (a0 : Int × Int × List (List Int)) (a1 : List Int) : Option (List TV) :=
  (call i__i_Dual__putInverse_4 [tI a0.1, tI (wi64 (a0.2.1 - 1)), tLA8 a0.2.2, tA8 a1, tI a0.1, tI ((List.length a0.2.2 : Nat) : Int), tI 0]).bind fun o3 =>
  (call ii_wholePart [tI (gI o3 5)]).bind fun o4 =>
  (call ii_backPart [tA8 (gA8 o3 4), tI (gI o3 5)]).bind fun o5 =>
  (call ii_thenPart [tA8 (gA8 o4 0), tA8 (gA8 o5 0), tI (gI o3 5)]).bind fun o6 =>
  (call i__i_Dual__put [tPIPILA8 ((gI o3 1), ((gI o3 2), (gLA8 o3 3))), tA8 (gA8 o6 0)]).bind fun o7 =>
  some [tPIPILA8 ((gPIPILA8 o7 0).1, (((gPIPILA8 o7 0).2).1, ((gPIPILA8 o7 0).2).2))]
theorem e__i_Dual__putInverse (call : Oracle) (a0 : Int × Int × List (List Int)) (a1 : List Int) : run1 E call i__i_Dual__putInverse [tPIPILA8 a0, tA8 a1] = b__i_Dual__putInverse call a0 a1 := by kernel_rfl
theorem v__i_Dual__putInverse (a0 : Int × Int × List (List Int)) (a1 : List Int) {o : List TV} (h : b__i_Dual__putInverse R a0 a1 = some o) : R i__i_Dual__putInverse [tPIPILA8 a0, tA8 a1] = some o := ev_step ((e__i_Dual__putInverse R a0 a1).trans h)
/-- impl.dualOf loop 3 -/
noncomputable def bi_dualOf_3 (call : Oracle) (x0 : Int) (x1 : List Int) (x2 : Int) (x3 : Int) (x4 : List (List Int)) (x5 : Int) (x6 : Int) (x7 : List (List Int)) (x8 : Int) (x9 : Int) : Option (List TV) :=
  bif decide (x9 < x8) then
    bif (decide (0 ≤ x9) && decide (x9 < ((List.length x1 : Nat) : Int))) then
      (call ii_size [tI (List.getD x1 (Int.toNat x9) 0)]).bind fun o5 =>
      (call ii_exchange [tI (gI o5 0), tI x0]).bind fun o6 =>
      bif decide (0 < (List.getD x1 (Int.toNat x9) 0)) then
        (call i__i_Dual__put [tPIPILA8 (x5, (x6, x7)), tA8 (gA8 o6 0)]).bind fun o7 =>
        call ii_dualOf_3 [tI x0, tLI x1, tI x2, tI x3, tLA8 x4, tI ((gPIPILA8 o7 0).1), tI (((gPIPILA8 o7 0).2).1), tLA8 (((gPIPILA8 o7 0).2).2), tI x8, tI (wi64 (x9 + 1))]
      else
        (call i__i_Dual__putInverse [tPIPILA8 (x5, (x6, x7)), tA8 (gA8 o6 0)]).bind fun o8 =>
        call ii_dualOf_3 [tI x0, tLI x1, tI x2, tI x3, tLA8 x4, tI ((gPIPILA8 o8 0).1), tI (((gPIPILA8 o8 0).2).1), tLA8 (((gPIPILA8 o8 0).2).2), tI x8, tI (wi64 (x9 + 1))]
    else none
  else
    some [tI 0, tI x2, tI x3, tLA8 x4, tI x5, tI x6, tLA8 x7]
theorem ei_dualOf_3 (call : Oracle) (x0 : Int) (x1 : List Int) (x2 : Int) (x3 : Int) (x4 : List (List Int)) (x5 : Int) (x6 : Int) (x7 : List (List Int)) (x8 : Int) (x9 : Int) : run1 E call ii_dualOf_3 [tI x0, tLI x1, tI x2, tI x3, tLA8 x4, tI x5, tI x6, tLA8 x7, tI x8, tI x9] = bi_dualOf_3 call x0 x1 x2 x3 x4 x5 x6 x7 x8 x9 := by kernel_rfl
theorem vi_dualOf_3 (x0 : Int) (x1 : List Int) (x2 : Int) (x3 : Int) (x4 : List (List Int)) (x5 : Int) (x6 : Int) (x7 : List (List Int)) (x8 : Int) (x9 : Int) {o : List TV} (h : bi_dualOf_3 R x0 x1 x2 x3 x4 x5 x6 x7 x8 x9 = some o) : R ii_dualOf_3 [tI x0, tLI x1, tI x2, tI x3, tLA8 x4, tI x5, tI x6, tLA8 x7, tI x8, tI x9] = some o := ev_step ((ei_dualOf_3 R x0 x1 x2 x3 x4 x5 x6 x7 x8 x9).trans h)
/-- impl.dualOf -/
noncomputable def bi_dualOf (call : Oracle) (a0 : Int × List Int) : Option (List TV) :=
  (call ii_dualOf_3 [tI a0.1, tLI a0.2, tI 0, tI 0, tLA8 [], tI a0.1, tI 0, tLA8 [], tI ((List.length a0.2 : Nat) : Int), tI 0]).bind fun o9 =>
  some [tPIPILA8 ((gI o9 4), ((gI o9 5), (gLA8 o9 6)))]
theorem ei_dualOf (call : Oracle) (a0 : Int × List Int) : run1 E call ii_dualOf [tPILI a0] = bi_dualOf call a0 := by kernel_rfl
theorem vi_dualOf (a0 : Int × List Int) {o : List TV} (h : bi_dualOf R a0 = some o) : R ii_dualOf [tPILI a0] = some o := ev_step ((ei_dualOf R a0).trans h)
/-- impl.DualForm -/
noncomputable def bi_DualForm (call : Oracle) (a0 : Int × List Int) : Option (List TV) :=
  (call ii_IsBraid [tPILI (a0.1, a0.2)]).bind fun o1 =>
  bif (!(gB o1 0)) then
    some [tPIPILA8 (0, (0, [])), tI 1]
  else
    (call ii_dualOf [tPILI (a0.1, a0.2)]).bind fun o2 =>
    some [tPIPILA8 ((gPIPILA8 o2 0).1, (((gPIPILA8 o2 0).2).1, ((gPIPILA8 o2 0).2).2)), tI 0]
theorem ei_DualForm (call : Oracle) (a0 : Int × List Int) : run1 E call ii_DualForm [tPILI a0] = bi_DualForm call a0 := by kernel_rfl
theorem vi_DualForm (a0 : Int × List Int) {o : List TV} (h : bi_DualForm R a0 = some o) : R ii_DualForm [tPILI a0] = some o := ev_step ((ei_DualForm R a0).trans h)
/-- laws.markPartS loop 2 -/
noncomputable def bw_markPartS_2 (call : Oracle) (x0 : List (List Int)) (x1 : Int) (x2 : Int) : Option (List TV) :=
  bif decide (x2 < ((List.length x0 : Nat) : Int)) then
    (call iw_markPartS_5 [tLA8 x0, tI x1, tI x2, tI 0]).bind fun o2 =>
    call iw_markPartS_2 [tLA8 (gLA8 o2 1), tI (gI o2 2), tI (wi64 ((gI o2 3) + 1))]
  else
    some [tI 0, tLA8 x0, tI x1]
theorem ew_markPartS_2 (call : Oracle) (x0 : List (List Int)) (x1 : Int) (x2 : Int) : run1 E call iw_markPartS_2 [tLA8 x0, tI x1, tI x2] = bw_markPartS_2 call x0 x1 x2 := by kernel_rfl
theorem vw_markPartS_2 (x0 : List (List Int)) (x1 : Int) (x2 : Int) {o : List TV} (h : bw_markPartS_2 R x0 x1 x2 = some o) : R iw_markPartS_2 [tLA8 x0, tI x1, tI x2] = some o := ev_step ((ew_markPartS_2 R x0 x1 x2).trans h)
/-- laws.markPartS loop 5 -/
noncomputable def bw_markPartS_5 (call : Oracle) (x0 : List (List Int)) (x1 : Int) (x2 : Int) (x3 : Int) : Option (List TV) :=
  bif decide (x3 < 8) then
    bif (decide (0 ≤ x2) && decide (x2 < ((List.length x0 : Nat) : Int))) then
      bif (decide (0 ≤ x3) && decide (x3 < 8)) then
        call iw_markPartS_5 [tLA8 (List.set x0 (Int.toNat x2) (List.set (List.getD x0 (Int.toNat x2) []) (Int.toNat x3) (wu8 (x1)))), tI (wi64 (x1 + 1)), tI x2, tI (wi64 (x3 + 1))]
      else none
    else none
  else
    some [tI 0, tLA8 x0, tI x1, tI x2]
theorem ew_markPartS_5 (call : Oracle) (x0 : List (List Int)) (x1 : Int) (x2 : Int) (x3 : Int) : run1 E call iw_markPartS_5 [tLA8 x0, tI x1, tI x2, tI x3] = bw_markPartS_5 call x0 x1 x2 x3 := by kernel_rfl
theorem vw_markPartS_5 (x0 : List (List Int)) (x1 : Int) (x2 : Int) (x3 : Int) {o : List TV} (h : bw_markPartS_5 R x0 x1 x2 x3 = some o) : R iw_markPartS_5 [tLA8 x0, tI x1, tI x2, tI x3] = some o := ev_step ((ew_markPartS_5 R x0 x1 x2 x3).trans h)
/-- laws.markPartS -/
noncomputable def bw_markPartS (call : Oracle) (a0 : List (List Int)) (a1 : Int) : Option (List TV) :=
  (call iw_markPartS_2 [tLA8 a0, tI a1, tI 0]).bind fun o3 =>
  some [tI (gI o3 2), tLA8 (gLA8 o3 1)]
theorem ew_markPartS (call : Oracle) (a0 : List (List Int)) (a1 : Int) : run1 E call iw_markPartS [tLA8 a0, tI a1] = bw_markPartS call a0 a1 := by kernel_rfl
theorem vw_markPartS (a0 : List (List Int)) (a1 : Int) {o : List TV} (h : bw_markPartS R a0 a1 = some o) : R iw_markPartS [tLA8 a0, tI a1] = some o := ev_step ((ew_markPartS R a0 a1).trans h)
/-- laws.markDual -/
noncomputable def bw_markDual (call : Oracle) (a0 : Int × Int × List (List Int)) (a1 : Int) : Option (List TV) :=
  (call iw_markPartS [tLA8 a0.2.2, tI a1]).bind fun o1 =>
  some [tI (gI o1 0), tPIPILA8 (a0.1, (a0.2.1, (gLA8 o1 1)))]
theorem ew_markDual (call : Oracle) (a0 : Int × Int × List (List Int)) (a1 : Int) : run1 E call iw_markDual [tPIPILA8 a0, tI a1] = bw_markDual call a0 a1 := by kernel_rfl
theorem vw_markDual (a0 : Int × Int × List (List Int)) (a1 : Int) {o : List TV} (h : bw_markDual R a0 a1 = some o) : R iw_markDual [tPIPILA8 a0, tI a1] = some o := ev_step ((ew_markDual R a0 a1).trans h)
/-- laws.heldPartS loop 2 -/
noncomputable def bw_heldPartS_2 (call : Oracle) (x0 : List (List Int)) (x1 : Int) (x2 : Int) : Option (List TV) :=
  bif decide (x2 < ((List.length x0 : Nat) : Int)) then
    (call iw_heldPartS_5 [tLA8 x0, tI x1, tI x2, tI 0]).bind fun o2 =>
    bif ((gI o2 0) == 0) then
      call iw_heldPartS_2 [tLA8 (gLA8 o2 1), tI (gI o2 2), tI (wi64 ((gI o2 3) + 1))]
    else
      some [tI 1, tI (gI o2 1)]
  else
    some [tI 0, tI x1]
theorem ew_heldPartS_2 (call : Oracle) (x0 : List (List Int)) (x1 : Int) (x2 : Int) : run1 E call iw_heldPartS_2 [tLA8 x0, tI x1, tI x2] = bw_heldPartS_2 call x0 x1 x2 := by kernel_rfl
theorem vw_heldPartS_2 (x0 : List (List Int)) (x1 : Int) (x2 : Int) {o : List TV} (h : bw_heldPartS_2 R x0 x1 x2 = some o) : R iw_heldPartS_2 [tLA8 x0, tI x1, tI x2] = some o := ev_step ((ew_heldPartS_2 R x0 x1 x2).trans h)
/-- laws.heldPartS loop 5 -/
noncomputable def bw_heldPartS_5 (call : Oracle) (x0 : List (List Int)) (x1 : Int) (x2 : Int) (x3 : Int) : Option (List TV) :=
  bif decide (x3 < 8) then
    bif (decide (0 ≤ x2) && decide (x2 < ((List.length x0 : Nat) : Int))) then
      bif (decide (0 ≤ x3) && decide (x3 < 8)) then
        bif ((List.getD (List.getD x0 (Int.toNat x2) []) (Int.toNat x3) 0) != (wu8 (x1))) then
          some [tI 1, tI (-1)]
        else
          call iw_heldPartS_5 [tLA8 x0, tI (wi64 (x1 + 1)), tI x2, tI (wi64 (x3 + 1))]
      else none
    else none
  else
    some [tI 0, tLA8 x0, tI x1, tI x2]
theorem ew_heldPartS_5 (call : Oracle) (x0 : List (List Int)) (x1 : Int) (x2 : Int) (x3 : Int) : run1 E call iw_heldPartS_5 [tLA8 x0, tI x1, tI x2, tI x3] = bw_heldPartS_5 call x0 x1 x2 x3 := by kernel_rfl
theorem vw_heldPartS_5 (x0 : List (List Int)) (x1 : Int) (x2 : Int) (x3 : Int) {o : List TV} (h : bw_heldPartS_5 R x0 x1 x2 x3 = some o) : R iw_heldPartS_5 [tLA8 x0, tI x1, tI x2, tI x3] = some o := ev_step ((ew_heldPartS_5 R x0 x1 x2 x3).trans h)
/-- laws.heldPartS -/
noncomputable def bw_heldPartS (call : Oracle) (a0 : List (List Int)) (a1 : Int) : Option (List TV) :=
  (call iw_heldPartS_2 [tLA8 a0, tI a1, tI 0]).bind fun o3 =>
  bif ((gI o3 0) == 0) then
    some [tI (gI o3 1)]
  else
    some [tI (gI o3 1)]
theorem ew_heldPartS (call : Oracle) (a0 : List (List Int)) (a1 : Int) : run1 E call iw_heldPartS [tLA8 a0, tI a1] = bw_heldPartS call a0 a1 := by kernel_rfl
theorem vw_heldPartS (a0 : List (List Int)) (a1 : Int) {o : List TV} (h : bw_heldPartS R a0 a1 = some o) : R iw_heldPartS [tLA8 a0, tI a1] = some o := ev_step ((ew_heldPartS R a0 a1).trans h)
/-- laws.heldDual -/
noncomputable def bw_heldDual (call : Oracle) (a0 : Int × Int × List (List Int)) (a1 : Int) : Option (List TV) :=
  (call iw_heldPartS [tLA8 a0.2.2, tI a1]).bind fun o1 =>
  bif decide ((gI o1 0) < 0) then
    some [tI (-1)]
  else
    some [tI (gI o1 0)]
theorem ew_heldDual (call : Oracle) (a0 : Int × Int × List (List Int)) (a1 : Int) : run1 E call iw_heldDual [tPIPILA8 a0, tI a1] = bw_heldDual call a0 a1 := by kernel_rfl
theorem vw_heldDual (a0 : Int × Int × List (List Int)) (a1 : Int) {o : List TV} (h : bw_heldDual R a0 a1 = some o) : R iw_heldDual [tPIPILA8 a0, tI a1] = some o := ev_step ((ew_heldDual R a0 a1).trans h)
/-- laws.FnExactDualForm -/
noncomputable def bw_FnExactDualForm (call : Oracle) (a0 : Int × List Int) : Option (List TV) :=
  (call iw_szBraid [tPILI (a0.1, a0.2), tI 1048576]).bind fun o1 =>
  bif decide ((gI o1 0) < 0) then
    some [tB true]
  else
    (call iw_toBraid [tPILI (a0.1, a0.2)]).bind fun o2 =>
    (call is_DualForm [tPILI ((gPILI o2 0).1, (gPILI o2 0).2)]).bind fun o3 =>
    (call iw_toBraid [tPILI (a0.1, a0.2)]).bind fun o4 =>
    (call ii_DualForm [tPILI ((gPILI o4 0).1, (gPILI o4 0).2)]).bind fun o5 =>
    (call iw_eqDual [tPIPILA8 ((gPIPILA8 o5 0).1, (((gPIPILA8 o5 0).2).1, ((gPIPILA8 o5 0).2).2)), tPIPILA8 ((gPIPILA8 o3 0).1, (((gPIPILA8 o3 0).2).1, ((gPIPILA8 o3 0).2).2))]).bind fun o6 =>
    bif (!(gB o6 0)) then
      some [tB false]
    else
      bif ((gI o5 1) != (gI o3 1)) then
        some [tB false]
      else
        (call iw_toBraid [tPILI (a0.1, a0.2)]).bind fun o7 =>
        (call iw_eqBraid [tPILI ((gPILI o4 0).1, (gPILI o4 0).2), tPILI ((gPILI o7 0).1, (gPILI o7 0).2)]).bind fun o8 =>
        bif (!(gB o8 0)) then
          some [tB false]
        else
          (call iw_markBraid [tPILI ((gPILI o4 0).1, (gPILI o4 0).2), tI 1]).bind fun o9 =>
          bif decide ((gI o9 0) < 0) then
            some [tB false]
          else
            (call iw_eqDual [tPIPILA8 ((gPIPILA8 o5 0).1, (((gPIPILA8 o5 0).2).1, ((gPIPILA8 o5 0).2).2)), tPIPILA8 ((gPIPILA8 o3 0).1, (((gPIPILA8 o3 0).2).1, ((gPIPILA8 o3 0).2).2))]).bind fun o10 =>
            bif (!(gB o10 0)) then
              some [tB false]
            else
              bif ((gI o5 1) != (gI o3 1)) then
                some [tB false]
              else
                (call iw_markDual [tPIPILA8 ((gPIPILA8 o5 0).1, (((gPIPILA8 o5 0).2).1, ((gPIPILA8 o5 0).2).2)), tI 1]).bind fun o11 =>
                (call iw_heldDual [tPIPILA8 ((gPIPILA8 o5 0).1, (((gPIPILA8 o5 0).2).1, ((gPIPILA8 o11 1).2).2)), tI 1]).bind fun o12 =>
                bif decide ((gI o12 0) < 0) then
                  some [tB false]
                else
                  bif ((gI o12 0) != (gI o11 0)) then
                    some [tB false]
                  else
                    (call iw_toBraid [tPILI (a0.1, a0.2)]).bind fun o13 =>
                    (call ii_DualForm [tPILI ((gPILI o13 0).1, (gPILI o13 0).2)]).bind fun o14 =>
                    (call iw_eqDual [tPIPILA8 ((gPIPILA8 o14 0).1, (((gPIPILA8 o14 0).2).1, ((gPIPILA8 o14 0).2).2)), tPIPILA8 ((gPIPILA8 o3 0).1, (((gPIPILA8 o3 0).2).1, ((gPIPILA8 o3 0).2).2))]).bind fun o15 =>
                    bif (!(gB o15 0)) then
                      some [tB false]
                    else
                      bif ((gI o14 1) != (gI o3 1)) then
                        some [tB false]
                      else
                        (call iw_heldDual [tPIPILA8 ((gPIPILA8 o5 0).1, (((gPIPILA8 o5 0).2).1, ((gPIPILA8 o11 1).2).2)), tI 1]).bind fun o16 =>
                        bif decide ((gI o16 0) < 0) then
                          some [tB false]
                        else
                          bif ((gI o16 0) != (gI o11 0)) then
                            some [tB false]
                          else
                            some [tB true]
theorem ew_FnExactDualForm (call : Oracle) (a0 : Int × List Int) : run1 E call iw_FnExactDualForm [tPILI a0] = bw_FnExactDualForm call a0 := by kernel_rfl
theorem vw_FnExactDualForm (a0 : Int × List Int) {o : List TV} (h : bw_FnExactDualForm R a0 = some o) : R iw_FnExactDualForm [tPILI a0] = some o := ev_step ((ew_FnExactDualForm R a0).trans h)
/-- spec.l01Inverse loop 3 -/
noncomputable def bs_l01Inverse_3 (call : Oracle) (x0 : List Int) (x1 : List Int) (x2 : Int) : Option (List TV) :=
  bif decide (0 ≤ x2) then
    bif (decide (0 ≤ x2) && decide (x2 < ((List.length x0 : Nat) : Int))) then
      bif (apOk x1 [(wi64 (0 - (List.getD x0 (Int.toNat x2) 0)))]) then
        call is_l01Inverse_3 [tLI x0, tLI (x1 ++ [(wi64 (0 - (List.getD x0 (Int.toNat x2) 0)))]), tI (wi64 (x2 - 1))]
      else none
    else none
  else
    some [tI 0, tLI x1]
theorem es_l01Inverse_3 (call : Oracle) (x0 : List Int) (x1 : List Int) (x2 : Int) : run1 E call is_l01Inverse_3 [tLI x0, tLI x1, tI x2] = bs_l01Inverse_3 call x0 x1 x2 := by kernel_rfl
theorem vs_l01Inverse_3 (x0 : List Int) (x1 : List Int) (x2 : Int) {o : List TV} (h : bs_l01Inverse_3 R x0 x1 x2 = some o) : R is_l01Inverse_3 [tLI x0, tLI x1, tI x2] = some o := ev_step ((es_l01Inverse_3 R x0 x1 x2).trans h)
/-- spec.l01Inverse -/
noncomputable def bs_l01Inverse (call : Oracle) (a0 : List Int) : Option (List TV) :=
  (call is_l01Inverse_3 [tLI a0, tLI [], tI (wi64 (((List.length a0 : Nat) : Int) - 1))]).bind fun o1 =>
  some [tLI (gLI o1 1)]
theorem es_l01Inverse (call : Oracle) (a0 : List Int) : run1 E call is_l01Inverse [tLI a0] = bs_l01Inverse call a0 := by kernel_rfl
theorem vs_l01Inverse (a0 : List Int) {o : List TV} (h : bs_l01Inverse R a0 = some o) : R is_l01Inverse [tLI a0] = some o := ev_step ((es_l01Inverse R a0).trans h)
/-- spec.WordOfDual loop 8 -/
noncomputable def bs_WordOfDual_8 (call : Oracle) (x0 : Int) (x1 : Int) (x2 : List (List Int)) (x3 : Int) (x4 : List Int) (x5 : List Int) (x6 : List Int) (x7 : Int) (x8 : Int) : Option (List TV) :=
  bif decide (0 < x8) then
    bif (apOk x5 x6) then
      call is_WordOfDual_8 [tI x0, tI x1, tLA8 x2, tI x3, tLI x4, tLI (x5 ++ x6), tLI x6, tI x7, tI (wi64 (x8 - 1))]
    else none
  else
    some [tI 0, tI x0, tI x1, tLA8 x2, tI x3, tLI x4, tLI x5, tI x7]
theorem es_WordOfDual_8 (call : Oracle) (x0 : Int) (x1 : Int) (x2 : List (List Int)) (x3 : Int) (x4 : List Int) (x5 : List Int) (x6 : List Int) (x7 : Int) (x8 : Int) : run1 E call is_WordOfDual_8 [tI x0, tI x1, tLA8 x2, tI x3, tLI x4, tLI x5, tLI x6, tI x7, tI x8] = bs_WordOfDual_8 call x0 x1 x2 x3 x4 x5 x6 x7 x8 := by kernel_rfl
theorem vs_WordOfDual_8 (x0 : Int) (x1 : Int) (x2 : List (List Int)) (x3 : Int) (x4 : List Int) (x5 : List Int) (x6 : List Int) (x7 : Int) (x8 : Int) {o : List TV} (h : bs_WordOfDual_8 R x0 x1 x2 x3 x4 x5 x6 x7 x8 = some o) : R is_WordOfDual_8 [tI x0, tI x1, tLA8 x2, tI x3, tLI x4, tLI x5, tLI x6, tI x7, tI x8] = some o := ev_step ((es_WordOfDual_8 R x0 x1 x2 x3 x4 x5 x6 x7 x8).trans h)
/-- spec.WordOfDual loop 12 -/
noncomputable def bs_WordOfDual_12 (call : Oracle) (x0 : Int) (x1 : Int) (x2 : List (List Int)) (x3 : Int) (x4 : List Int) (x5 : List Int) (x6 : Int) (x7 : Int) : Option (List TV) :=
  bif decide (x7 < ((List.length x2 : Nat) : Int)) then
    bif (decide (0 ≤ x7) && decide (x7 < ((List.length x2 : Nat) : Int))) then
      (call is_l07Word [tA8 (List.getD x2 (Int.toNat x7) (List.replicate 8 0)), tI x6]).bind fun o7 =>
      bif (apOk x5 (gLI o7 0)) then
        call is_WordOfDual_12 [tI x0, tI x1, tLA8 x2, tI x3, tLI x4, tLI (x5 ++ (gLI o7 0)), tI x6, tI (wi64 (x7 + 1))]
      else none
    else none
  else
    some [tI 0, tI x3, tLI x4, tLI x5, tI x6]
theorem es_WordOfDual_12 (call : Oracle) (x0 : Int) (x1 : Int) (x2 : List (List Int)) (x3 : Int) (x4 : List Int) (x5 : List Int) (x6 : Int) (x7 : Int) : run1 E call is_WordOfDual_12 [tI x0, tI x1, tLA8 x2, tI x3, tLI x4, tLI x5, tI x6, tI x7] = bs_WordOfDual_12 call x0 x1 x2 x3 x4 x5 x6 x7 := by kernel_rfl
theorem vs_WordOfDual_12 (x0 : Int) (x1 : Int) (x2 : List (List Int)) (x3 : Int) (x4 : List Int) (x5 : List Int) (x6 : Int) (x7 : Int) {o : List TV} (h : bs_WordOfDual_12 R x0 x1 x2 x3 x4 x5 x6 x7 = some o) : R is_WordOfDual_12 [tI x0, tI x1, tLA8 x2, tI x3, tLI x4, tLI x5, tI x6, tI x7] = some o := ev_step ((es_WordOfDual_12 R x0 x1 x2 x3 x4 x5 x6 x7).trans h)
/-- spec.WordOfDual -/
noncomputable def bs_WordOfDual (call : Oracle) (a0 : Int × Int × List (List Int)) : Option (List TV) :=
  (call is_l07Dual [tPIPILA8 (a0.1, (a0.2.1, a0.2.2))]).bind fun o1 =>
  bif (!(gB o1 0)) then
    some [tPILI (0, []), tI 1]
  else
    (call is_l07Whole [tI a0.1]).bind fun o2 =>
    (call is_l07Word [tA8 (gA8 o2 0), tI a0.1]).bind fun o3 =>
    bif decide (a0.2.1 < 0) then
      (call is_l01Inverse [tLI (gLI o3 0)]).bind fun o4 =>
      (call is_WordOfDual_8 [tI a0.1, tI a0.2.1, tLA8 a0.2.2, tI 0, tLI [], tLI [], tLI (gLI o4 0), tI a0.1, tI (mx a0.2.1 (wi64 (0 - a0.2.1)))]).bind fun o5 =>
      (call is_WordOfDual_12 [tI (gI o5 1), tI (gI o5 2), tLA8 (gLA8 o5 3), tI (gI o5 4), tLI (gLI o5 5), tLI (gLI o5 6), tI (gI o5 7), tI 0]).bind fun o8 =>
      bif decide (200 < ((List.length (gLI o8 3) : Nat) : Int)) then
        some [tPILI (0, []), tI 3]
      else
        some [tPILI ((gI o8 4), (gLI o8 3)), tI 0]
    else
      (call is_WordOfDual_8 [tI a0.1, tI a0.2.1, tLA8 a0.2.2, tI 0, tLI [], tLI [], tLI (gLI o3 0), tI a0.1, tI (mx a0.2.1 (wi64 (0 - a0.2.1)))]).bind fun o9 =>
      (call is_WordOfDual_12 [tI (gI o9 1), tI (gI o9 2), tLA8 (gLA8 o9 3), tI (gI o9 4), tLI (gLI o9 5), tLI (gLI o9 6), tI (gI o9 7), tI 0]).bind fun o10 =>
      bif decide (200 < ((List.length (gLI o10 3) : Nat) : Int)) then
        some [tPILI (0, []), tI 3]
      else
        some [tPILI ((gI o10 4), (gLI o10 3)), tI 0]
theorem es_WordOfDual (call : Oracle) (a0 : Int × Int × List (List Int)) : run1 E call is_WordOfDual [tPIPILA8 a0] = bs_WordOfDual call a0 := by kernel_rfl
theorem vs_WordOfDual (a0 : Int × Int × List (List Int)) {o : List TV} (h : bs_WordOfDual R a0 = some o) : R is_WordOfDual [tPIPILA8 a0] = some o := ev_step ((es_WordOfDual R a0).trans h)
/-- impl.reversed loop 3 -/
noncomputable def bi_reversed_3 (call : Oracle) (x0 : Int) (x1 : List Int) (x2 : Int) (x3 : List Int) (x4 : Int) (x5 : List Int) (x6 : Int) : Option (List TV) :=
  bif decide (0 ≤ x6) then
    bif (decide (0 ≤ x6) && decide (x6 < ((List.length x1 : Nat) : Int))) then
      bif (apOk x5 [(List.getD x1 (Int.toNat x6) 0)]) then
        call ii_reversed_3 [tI x0, tLI x1, tI x2, tLI x3, tI x4, tLI (x5 ++ [(List.getD x1 (Int.toNat x6) 0)]), tI (wi64 (x6 - 1))]
      else none
    else none
  else
    some [tI 0, tI x2, tLI x3, tI x4, tLI x5]
theorem ei_reversed_3 (call : Oracle) (x0 : Int) (x1 : List Int) (x2 : Int) (x3 : List Int) (x4 : Int) (x5 : List Int) (x6 : Int) : run1 E call ii_reversed_3 [tI x0, tLI x1, tI x2, tLI x3, tI x4, tLI x5, tI x6] = bi_reversed_3 call x0 x1 x2 x3 x4 x5 x6 := by kernel_rfl
theorem vi_reversed_3 (x0 : Int) (x1 : List Int) (x2 : Int) (x3 : List Int) (x4 : Int) (x5 : List Int) (x6 : Int) {o : List TV} (h : bi_reversed_3 R x0 x1 x2 x3 x4 x5 x6 = some o) : R ii_reversed_3 [tI x0, tLI x1, tI x2, tLI x3, tI x4, tLI x5, tI x6] = some o := ev_step ((ei_reversed_3 R x0 x1 x2 x3 x4 x5 x6).trans h)
/-- impl.reversed -/
noncomputable def bi_reversed (call : Oracle) (a0 : Int × List Int) : Option (List TV) :=
  (call ii_reversed_3 [tI a0.1, tLI a0.2, tI 0, tLI [], tI a0.1, tLI [], tI (wi64 (((List.length a0.2 : Nat) : Int) - 1))]).bind fun o1 =>
  some [tPILI ((gI o1 3), (gLI o1 4))]
theorem ei_reversed (call : Oracle) (a0 : Int × List Int) : run1 E call ii_reversed [tPILI a0] = bi_reversed call a0 := by kernel_rfl
theorem vi_reversed (a0 : Int × List Int) {o : List TV} (h : bi_reversed R a0 = some o) : R ii_reversed [tPILI a0] = some o := ev_step ((ei_reversed R a0).trans h)
/-- impl.opposite -/
noncomputable def bi_opposite (call : Oracle) (a0 : Int) : Option (List TV) :=
  some [tI (wi64 (0 - a0))]
theorem ei_opposite (call : Oracle) (a0 : Int) : run1 E call ii_opposite [tI a0] = bi_opposite call a0 := by kernel_rfl
theorem vi_opposite (a0 : Int) {o : List TV} (h : bi_opposite R a0 = some o) : R ii_opposite [tI a0] = some o := ev_step ((ei_opposite R a0).trans h)
/-- impl.letterBy loop 3 -/
noncomputable def bi_letterBy_3 (call : Oracle) (x0 : Int) (x1 : List Int) (x2 : Int) (x3 : List Int) (x4 : List Int) (x5 : Int) (x6 : Int) : Option (List TV) :=
  bif decide (x6 < x5) then
    bif (decide (0 ≤ x6) && decide (x6 < ((List.length x4 : Nat) : Int))) then
      (call ii_opposite [tI (List.getD x4 (Int.toNat x6) 0)]).bind fun o2 =>
      bif (apOk x3 [(gI o2 0)]) then
        call ii_letterBy_3 [tI x0, tLI x1, tI x2, tLI (x3 ++ [(gI o2 0)]), tLI x4, tI x5, tI (wi64 (x6 + 1))]
      else none
    else none
  else
    some [tI 0, tI x0, tLI x1, tI x2, tLI x3]
theorem ei_letterBy_3 (call : Oracle) (x0 : Int) (x1 : List Int) (x2 : Int) (x3 : List Int) (x4 : List Int) (x5 : Int) (x6 : Int) : run1 E call ii_letterBy_3 [tI x0, tLI x1, tI x2, tLI x3, tLI x4, tI x5, tI x6] = bi_letterBy_3 call x0 x1 x2 x3 x4 x5 x6 := by kernel_rfl
theorem vi_letterBy_3 (x0 : Int) (x1 : List Int) (x2 : Int) (x3 : List Int) (x4 : List Int) (x5 : Int) (x6 : Int) {o : List TV} (h : bi_letterBy_3 R x0 x1 x2 x3 x4 x5 x6 = some o) : R ii_letterBy_3 [tI x0, tLI x1, tI x2, tLI x3, tLI x4, tI x5, tI x6] = some o := ev_step ((ei_letterBy_3 R x0 x1 x2 x3 x4 x5 x6).trans h)
/-- impl.letterBy -/
noncomputable def bi_letterBy (call : Oracle) (a0 : Int × List Int) : Option (List TV) :=
  (call ii_letterBy_3 [tI 0, tLI [], tI a0.1, tLI [], tLI a0.2, tI ((List.length a0.2 : Nat) : Int), tI 0]).bind fun o3 =>
  some [tPILI ((gI o3 3), (gLI o3 4))]
theorem ei_letterBy (call : Oracle) (a0 : Int × List Int) : run1 E call ii_letterBy [tPILI a0] = bi_letterBy call a0 := by kernel_rfl
theorem vi_letterBy (a0 : Int × List Int) {o : List TV} (h : bi_letterBy R a0 = some o) : R ii_letterBy [tPILI a0] = some o := ev_step ((ei_letterBy R a0).trans h)
/-- impl.joined -/
noncomputable def bi_joined (call : Oracle) (a0 : Int × List Int) (a1 : Int × List Int) : Option (List TV) :=
  bif (apOk [] a0.2) then
    bif (apOk a0.2 a1.2) then
      some [tPILI (a0.1, (a0.2 ++ a1.2))]
    else none
  else none
theorem ei_joined (call : Oracle) (a0 : Int × List Int) (a1 : Int × List Int) : run1 E call ii_joined [tPILI a0, tPILI a1] = bi_joined call a0 a1 := by kernel_rfl
theorem vi_joined (a0 : Int × List Int) (a1 : Int × List Int) {o : List TV} (h : bi_joined R a0 a1 = some o) : R ii_joined [tPILI a0, tPILI a1] = some o := ev_step ((ei_joined R a0 a1).trans h)
/-- impl.WordOfDual loop 8 -/
noncomputable def bi_WordOfDual_8 (call : Oracle) (x0 : Int) (x1 : Int) (x2 : List (List Int)) (x3 : Int) (x4 : List Int) (x5 : Int) (x6 : List Int) (x7 : Int) (x8 : List Int) (x9 : Int) (x10 : Int) : Option (List TV) :=
  bif decide (x10 < x9) then
    (call ii_joined [tPILI (x5, x6), tPILI (x7, x8)]).bind fun o8 =>
    call ii_WordOfDual_8 [tI x0, tI x1, tLA8 x2, tI x3, tLI x4, tI ((gPILI o8 0).1), tLI ((gPILI o8 0).2), tI x7, tLI x8, tI x9, tI (wi64 (x10 + 1))]
  else
    some [tI 0, tI x0, tI x1, tLA8 x2, tI x3, tLI x4, tI x5, tLI x6]
theorem ei_WordOfDual_8 (call : Oracle) (x0 : Int) (x1 : Int) (x2 : List (List Int)) (x3 : Int) (x4 : List Int) (x5 : Int) (x6 : List Int) (x7 : Int) (x8 : List Int) (x9 : Int) (x10 : Int) : run1 E call ii_WordOfDual_8 [tI x0, tI x1, tLA8 x2, tI x3, tLI x4, tI x5, tLI x6, tI x7, tLI x8, tI x9, tI x10] = bi_WordOfDual_8 call x0 x1 x2 x3 x4 x5 x6 x7 x8 x9 x10 := by kernel_rfl
theorem vi_WordOfDual_8 (x0 : Int) (x1 : Int) (x2 : List (List Int)) (x3 : Int) (x4 : List Int) (x5 : Int) (x6 : List Int) (x7 : Int) (x8 : List Int) (x9 : Int) (x10 : Int) {o : List TV} (h : bi_WordOfDual_8 R x0 x1 x2 x3 x4 x5 x6 x7 x8 x9 x10 = some o) : R ii_WordOfDual_8 [tI x0, tI x1, tLA8 x2, tI x3, tLI x4, tI x5, tLI x6, tI x7, tLI x8, tI x9, tI x10] = some o := ev_step ((ei_WordOfDual_8 R x0 x1 x2 x3 x4 x5 x6 x7 x8 x9 x10).trans h)
/-- impl.WordOfDual loop 12 -/
noncomputable def bi_WordOfDual_12 (call : Oracle) (x0 : Int) (x1 : Int) (x2 : List (List Int)) (x3 : Int) (x4 : List Int) (x5 : Int) (x6 : List Int) (x7 : Int) (x8 : Int) : Option (List TV) :=
  bif decide (x8 < x7) then
    bif (decide (0 ≤ x8) && decide (x8 < ((List.length x2 : Nat) : Int))) then
      (call ii_wordOfPart [tA8 (List.getD x2 (Int.toNat x8) (List.replicate 8 0)), tI x0]).bind fun o12 =>
      (call ii_joined [tPILI (x5, x6), tPILI (x0, (gLI o12 0))]).bind fun o13 =>
      call ii_WordOfDual_12 [tI x0, tI x1, tLA8 x2, tI x3, tLI x4, tI ((gPILI o13 0).1), tLI ((gPILI o13 0).2), tI x7, tI (wi64 (x8 + 1))]
    else none
  else
    some [tI 0, tI x3, tLI x4, tI x5, tLI x6]
theorem ei_WordOfDual_12 (call : Oracle) (x0 : Int) (x1 : Int) (x2 : List (List Int)) (x3 : Int) (x4 : List Int) (x5 : Int) (x6 : List Int) (x7 : Int) (x8 : Int) : run1 E call ii_WordOfDual_12 [tI x0, tI x1, tLA8 x2, tI x3, tLI x4, tI x5, tLI x6, tI x7, tI x8] = bi_WordOfDual_12 call x0 x1 x2 x3 x4 x5 x6 x7 x8 := by kernel_rfl
theorem vi_WordOfDual_12 (x0 : Int) (x1 : Int) (x2 : List (List Int)) (x3 : Int) (x4 : List Int) (x5 : Int) (x6 : List Int) (x7 : Int) (x8 : Int) {o : List TV} (h : bi_WordOfDual_12 R x0 x1 x2 x3 x4 x5 x6 x7 x8 = some o) : R ii_WordOfDual_12 [tI x0, tI x1, tLA8 x2, tI x3, tLI x4, tI x5, tLI x6, tI x7, tI x8] = some o := ev_step ((ei_WordOfDual_12 R x0 x1 x2 x3 x4 x5 x6 x7 x8).trans h)
/-- impl.WordOfDual -/
noncomputable def bi_WordOfDual (call : Oracle) (a0 : Int × Int × List (List Int)) : Option (List TV) :=
  (call ii_IsDual [tPIPILA8 (a0.1, (a0.2.1, a0.2.2))]).bind fun o1 =>
  bif (!(gB o1 0)) then
    some [tPILI (0, []), tI 1]
  else
    (call ii_wholePart [tI a0.1]).bind fun o2 =>
    (call ii_wordOfPart [tA8 (gA8 o2 0), tI a0.1]).bind fun o3 =>
    bif decide (a0.2.1 < 0) then
      (call ii_reversed [tPILI (a0.1, (gLI o3 0))]).bind fun o4 =>
      (call ii_letterBy [tPILI ((gPILI o4 0).1, (gPILI o4 0).2)]).bind fun o5 =>
      (call ii_size [tI a0.2.1]).bind fun o6 =>
      (call ii_WordOfDual_8 [tI a0.1, tI a0.2.1, tLA8 a0.2.2, tI 0, tLI [], tI a0.1, tLI [], tI ((gPILI o5 0).1), tLI ((gPILI o5 0).2), tI (gI o6 0), tI 0]).bind fun o9 =>
      (call ii_WordOfDual_12 [tI (gI o9 1), tI (gI o9 2), tLA8 (gLA8 o9 3), tI (gI o9 4), tLI (gLI o9 5), tI (gI o9 6), tLI (gLI o9 7), tI ((List.length (gLA8 o9 3) : Nat) : Int), tI 0]).bind fun o14 =>
      bif decide (200 < ((List.length (gLI o14 4) : Nat) : Int)) then
        some [tPILI (0, []), tI 3]
      else
        some [tPILI ((gI o14 3), (gLI o14 4)), tI 0]
    else
      (call ii_size [tI a0.2.1]).bind fun o15 =>
      (call ii_WordOfDual_8 [tI a0.1, tI a0.2.1, tLA8 a0.2.2, tI 0, tLI [], tI a0.1, tLI [], tI a0.1, tLI (gLI o3 0), tI (gI o15 0), tI 0]).bind fun o16 =>
      (call ii_WordOfDual_12 [tI (gI o16 1), tI (gI o16 2), tLA8 (gLA8 o16 3), tI (gI o16 4), tLI (gLI o16 5), tI (gI o16 6), tLI (gLI o16 7), tI ((List.length (gLA8 o16 3) : Nat) : Int), tI 0]).bind fun o17 =>
      bif decide (200 < ((List.length (gLI o17 4) : Nat) : Int)) then
        some [tPILI (0, []), tI 3]
      else
        some [tPILI ((gI o17 3), (gLI o17 4)), tI 0]
theorem ei_WordOfDual (call : Oracle) (a0 : Int × Int × List (List Int)) : run1 E call ii_WordOfDual [tPIPILA8 a0] = bi_WordOfDual call a0 := by kernel_rfl
theorem vi_WordOfDual (a0 : Int × Int × List (List Int)) {o : List TV} (h : bi_WordOfDual R a0 = some o) : R ii_WordOfDual [tPIPILA8 a0] = some o := ev_step ((ei_WordOfDual R a0).trans h)
/-- laws.FnExactWordOfDual -/
noncomputable def bw_FnExactWordOfDual (call : Oracle) (a0 : Int × Int × List (List Int)) : Option (List TV) :=
  (call iw_szDual [tPIPILA8 (a0.1, (a0.2.1, a0.2.2)), tI 1048576]).bind fun o1 =>
  bif decide ((gI o1 0) < 0) then
    some [tB true]
  else
    (call iw_toDual [tPIPILA8 (a0.1, (a0.2.1, a0.2.2))]).bind fun o2 =>
    (call is_WordOfDual [tPIPILA8 ((gPIPILA8 o2 0).1, (((gPIPILA8 o2 0).2).1, ((gPIPILA8 o2 0).2).2))]).bind fun o3 =>
    (call iw_toDual [tPIPILA8 (a0.1, (a0.2.1, a0.2.2))]).bind fun o4 =>
    (call ii_WordOfDual [tPIPILA8 ((gPIPILA8 o4 0).1, (((gPIPILA8 o4 0).2).1, ((gPIPILA8 o4 0).2).2))]).bind fun o5 =>
    (call iw_eqBraid [tPILI ((gPILI o5 0).1, (gPILI o5 0).2), tPILI ((gPILI o3 0).1, (gPILI o3 0).2)]).bind fun o6 =>
    bif (!(gB o6 0)) then
      some [tB false]
    else
      bif ((gI o5 1) != (gI o3 1)) then
        some [tB false]
      else
        (call iw_toDual [tPIPILA8 (a0.1, (a0.2.1, a0.2.2))]).bind fun o7 =>
        (call iw_eqDual [tPIPILA8 ((gPIPILA8 o4 0).1, (((gPIPILA8 o4 0).2).1, ((gPIPILA8 o4 0).2).2)), tPIPILA8 ((gPIPILA8 o7 0).1, (((gPIPILA8 o7 0).2).1, ((gPIPILA8 o7 0).2).2))]).bind fun o8 =>
        bif (!(gB o8 0)) then
          some [tB false]
        else
          (call iw_markDual [tPIPILA8 ((gPIPILA8 o4 0).1, (((gPIPILA8 o4 0).2).1, ((gPIPILA8 o4 0).2).2)), tI 1]).bind fun o9 =>
          bif decide ((gI o9 0) < 0) then
            some [tB false]
          else
            (call iw_eqBraid [tPILI ((gPILI o5 0).1, (gPILI o5 0).2), tPILI ((gPILI o3 0).1, (gPILI o3 0).2)]).bind fun o10 =>
            bif (!(gB o10 0)) then
              some [tB false]
            else
              bif ((gI o5 1) != (gI o3 1)) then
                some [tB false]
              else
                (call iw_markBraid [tPILI ((gPILI o5 0).1, (gPILI o5 0).2), tI 1]).bind fun o11 =>
                (call iw_heldBraid [tPILI ((gPILI o5 0).1, (gPILI o11 1).2), tI 1]).bind fun o12 =>
                bif decide ((gI o12 0) < 0) then
                  some [tB false]
                else
                  bif ((gI o12 0) != (gI o11 0)) then
                    some [tB false]
                  else
                    (call iw_toDual [tPIPILA8 (a0.1, (a0.2.1, a0.2.2))]).bind fun o13 =>
                    (call ii_WordOfDual [tPIPILA8 ((gPIPILA8 o13 0).1, (((gPIPILA8 o13 0).2).1, ((gPIPILA8 o13 0).2).2))]).bind fun o14 =>
                    (call iw_eqBraid [tPILI ((gPILI o14 0).1, (gPILI o14 0).2), tPILI ((gPILI o3 0).1, (gPILI o3 0).2)]).bind fun o15 =>
                    bif (!(gB o15 0)) then
                      some [tB false]
                    else
                      bif ((gI o14 1) != (gI o3 1)) then
                        some [tB false]
                      else
                        (call iw_heldBraid [tPILI ((gPILI o5 0).1, (gPILI o11 1).2), tI 1]).bind fun o16 =>
                        bif decide ((gI o16 0) < 0) then
                          some [tB false]
                        else
                          bif ((gI o16 0) != (gI o11 0)) then
                            some [tB false]
                          else
                            some [tB true]
theorem ew_FnExactWordOfDual (call : Oracle) (a0 : Int × Int × List (List Int)) : run1 E call iw_FnExactWordOfDual [tPIPILA8 a0] = bw_FnExactWordOfDual call a0 := by kernel_rfl
theorem vw_FnExactWordOfDual (a0 : Int × Int × List (List Int)) {o : List TV} (h : bw_FnExactWordOfDual R a0 = some o) : R iw_FnExactWordOfDual [tPIPILA8 a0] = some o := ev_step ((ew_FnExactWordOfDual R a0).trans h)
/-- spec.l07Same loop 4 -/
noncomputable def bs_l07Same_4 (call : Oracle) (x0 : Int) (x1 : Int) (x2 : List (List Int)) (x3 : Int) (x4 : Int) (x5 : List (List Int)) (x6 : Int) : Option (List TV) :=
  bif decide (x6 < ((List.length x2 : Nat) : Int)) then
    bif (decide (0 ≤ x6) && decide (x6 < ((List.length x2 : Nat) : Int))) then
      bif (decide (0 ≤ x6) && decide (x6 < ((List.length x5 : Nat) : Int))) then
        bif ((List.getD x2 (Int.toNat x6) (List.replicate 8 0)) != (List.getD x5 (Int.toNat x6) (List.replicate 8 0))) then
          some [tI 1, tB false]
        else
          call is_l07Same_4 [tI x0, tI x1, tLA8 x2, tI x3, tI x4, tLA8 x5, tI (wi64 (x6 + 1))]
      else none
    else none
  else
    some [tI 0]
theorem es_l07Same_4 (call : Oracle) (x0 : Int) (x1 : Int) (x2 : List (List Int)) (x3 : Int) (x4 : Int) (x5 : List (List Int)) (x6 : Int) : run1 E call is_l07Same_4 [tI x0, tI x1, tLA8 x2, tI x3, tI x4, tLA8 x5, tI x6] = bs_l07Same_4 call x0 x1 x2 x3 x4 x5 x6 := by kernel_rfl
theorem vs_l07Same_4 (x0 : Int) (x1 : Int) (x2 : List (List Int)) (x3 : Int) (x4 : Int) (x5 : List (List Int)) (x6 : Int) {o : List TV} (h : bs_l07Same_4 R x0 x1 x2 x3 x4 x5 x6 = some o) : R is_l07Same_4 [tI x0, tI x1, tLA8 x2, tI x3, tI x4, tLA8 x5, tI x6] = some o := ev_step ((es_l07Same_4 R x0 x1 x2 x3 x4 x5 x6).trans h)
/-- spec.l07Same -/
noncomputable def bs_l07Same (call : Oracle) (a0 : Int × Int × List (List Int)) (a1 : Int × Int × List (List Int)) : Option (List TV) :=
  bif (a0.1 != a1.1) then
    some [tB false]
  else
    bif (a0.2.1 != a1.2.1) then
      some [tB false]
    else
      bif (((List.length a0.2.2 : Nat) : Int) != ((List.length a1.2.2 : Nat) : Int)) then
        some [tB false]
      else
        (call is_l07Same_4 [tI a0.1, tI a0.2.1, tLA8 a0.2.2, tI a1.1, tI a1.2.1, tLA8 a1.2.2, tI 0]).bind fun o1 =>
        bif ((gI o1 0) == 0) then
          some [tB true]
        else
          some [tB (gB o1 1)]
theorem es_l07Same (call : Oracle) (a0 : Int × Int × List (List Int)) (a1 : Int × Int × List (List Int)) : run1 E call is_l07Same [tPIPILA8 a0, tPIPILA8 a1] = bs_l07Same call a0 a1 := by kernel_rfl
theorem vs_l07Same (a0 : Int × Int × List (List Int)) (a1 : Int × Int × List (List Int)) {o : List TV} (h : bs_l07Same R a0 a1 = some o) : R is_l07Same [tPIPILA8 a0, tPIPILA8 a1] = some o := ev_step ((es_l07Same R a0 a1).trans h)
/-- spec.EqualByBands -/
noncomputable def bs_EqualByBands (call : Oracle) (a0 : Int × List Int) (a1 : Int × List Int) : Option (List TV) :=
  (call is_l01Is [tPILI (a0.1, a0.2)]).bind fun o1 =>
  bif (!(gB o1 0)) then
    some [tB false, tI 1]
  else
    (call is_l01Is [tPILI (a1.1, a1.2)]).bind fun o2 =>
    bif (!(gB o2 0)) then
      some [tB false, tI 1]
    else
      bif (a0.1 != a1.1) then
        some [tB false, tI 2]
      else
        (call is_l07Form [tI a0.1, tLI a0.2]).bind fun o3 =>
        (call is_l07Form [tI a1.1, tLI a1.2]).bind fun o4 =>
        (call is_l07Same [tPIPILA8 ((gPIPILA8 o3 0).1, (((gPIPILA8 o3 0).2).1, ((gPIPILA8 o3 0).2).2)), tPIPILA8 ((gPIPILA8 o4 0).1, (((gPIPILA8 o4 0).2).1, ((gPIPILA8 o4 0).2).2))]).bind fun o5 =>
        some [tB (gB o5 0), tI 0]
theorem es_EqualByBands (call : Oracle) (a0 : Int × List Int) (a1 : Int × List Int) : run1 E call is_EqualByBands [tPILI a0, tPILI a1] = bs_EqualByBands call a0 a1 := by kernel_rfl
theorem vs_EqualByBands (a0 : Int × List Int) (a1 : Int × List Int) {o : List TV} (h : bs_EqualByBands R a0 a1 = some o) : R is_EqualByBands [tPILI a0, tPILI a1] = some o := ev_step ((es_EqualByBands R a0 a1).trans h)
/-- slices.Equal[[]impl.Part,impl.Part] loop 4 -/
noncomputable def bg_Equal___i_Part_i_Part__4 (call : Oracle) (x0 : List (List Int)) (x1 : List (List Int)) (x2 : Int) (x3 : Int) : Option (List TV) :=
  bif decide (x3 < x2) then
    bif (decide (0 ≤ x3) && decide (x3 < ((List.length x0 : Nat) : Int))) then
      bif (decide (0 ≤ x3) && decide (x3 < ((List.length x1 : Nat) : Int))) then
        bif ((List.getD x0 (Int.toNat x3) (List.replicate 8 0)) != (List.getD x1 (Int.toNat x3) (List.replicate 8 0))) then
          some [tI 1, tB false]
        else
          call ig_Equal___i_Part_i_Part__4 [tLA8 x0, tLA8 x1, tI x2, tI (wi64 (x3 + 1))]
      else none
    else none
  else
    some [tI 0]
theorem eg_Equal___i_Part_i_Part__4 (call : Oracle) (x0 : List (List Int)) (x1 : List (List Int)) (x2 : Int) (x3 : Int) : run1 E call ig_Equal___i_Part_i_Part__4 [tLA8 x0, tLA8 x1, tI x2, tI x3] = bg_Equal___i_Part_i_Part__4 call x0 x1 x2 x3 := by kernel_rfl
theorem vg_Equal___i_Part_i_Part__4 (x0 : List (List Int)) (x1 : List (List Int)) (x2 : Int) (x3 : Int) {o : List TV} (h : bg_Equal___i_Part_i_Part__4 R x0 x1 x2 x3 = some o) : R ig_Equal___i_Part_i_Part__4 [tLA8 x0, tLA8 x1, tI x2, tI x3] = some o := ev_step ((eg_Equal___i_Part_i_Part__4 R x0 x1 x2 x3).trans h)
/-- slices.Equal[[]impl.Part,impl.Part] -/
noncomputable def bg_Equal___i_Part_i_Part_ (call : Oracle) (a0 : List (List Int)) (a1 : List (List Int)) : Option (List TV) :=
  bif (((List.length a0 : Nat) : Int) != ((List.length a1 : Nat) : Int)) then
    some [tB false]
  else
    (call ig_Equal___i_Part_i_Part__4 [tLA8 a0, tLA8 a1, tI ((List.length a0 : Nat) : Int), tI 0]).bind fun o1 =>
    bif ((gI o1 0) == 0) then
      some [tB true]
    else
      some [tB (gB o1 1)]
theorem eg_Equal___i_Part_i_Part_ (call : Oracle) (a0 : List (List Int)) (a1 : List (List Int)) : run1 E call ig_Equal___i_Part_i_Part_ [tLA8 a0, tLA8 a1] = bg_Equal___i_Part_i_Part_ call a0 a1 := by kernel_rfl
theorem vg_Equal___i_Part_i_Part_ (a0 : List (List Int)) (a1 : List (List Int)) {o : List TV} (h : bg_Equal___i_Part_i_Part_ R a0 a1 = some o) : R ig_Equal___i_Part_i_Part_ [tLA8 a0, tLA8 a1] = some o := ev_step ((eg_Equal___i_Part_i_Part_ R a0 a1).trans h)
/-- impl.EqualByBands -/
noncomputable def bi_EqualByBands (call : Oracle) (a0 : Int × List Int) (a1 : Int × List Int) : Option (List TV) :=
  (call ii_IsBraid [tPILI (a0.1, a0.2)]).bind fun o1 =>
  bif (!(gB o1 0)) then
    some [tB false, tI 1]
  else
    (call ii_IsBraid [tPILI (a1.1, a1.2)]).bind fun o2 =>
    bif (!(gB o2 0)) then
      some [tB false, tI 1]
    else
      bif (a0.1 != a1.1) then
        some [tB false, tI 2]
      else
        (call ii_dualOf [tPILI (a0.1, a0.2)]).bind fun o3 =>
        (call ii_dualOf [tPILI (a1.1, a1.2)]).bind fun o4 =>
        bif (((gPIPILA8 o3 0).2).1 == ((gPIPILA8 o4 0).2).1) then
          (call ig_Equal___i_Part_i_Part_ [tLA8 (((gPIPILA8 o3 0).2).2), tLA8 (((gPIPILA8 o4 0).2).2)]).bind fun o5 =>
          some [tB (gB o5 0), tI 0]
        else
          some [tB false, tI 0]
theorem ei_EqualByBands (call : Oracle) (a0 : Int × List Int) (a1 : Int × List Int) : run1 E call ii_EqualByBands [tPILI a0, tPILI a1] = bi_EqualByBands call a0 a1 := by kernel_rfl
theorem vi_EqualByBands (a0 : Int × List Int) (a1 : Int × List Int) {o : List TV} (h : bi_EqualByBands R a0 a1 = some o) : R ii_EqualByBands [tPILI a0, tPILI a1] = some o := ev_step ((ei_EqualByBands R a0 a1).trans h)
/-- laws.FnExactEqualByBands -/
noncomputable def bw_FnExactEqualByBands (call : Oracle) (a0 : Int × List Int) (a1 : Int × List Int) : Option (List TV) :=
  (call iw_szBraid [tPILI (a0.1, a0.2), tI 1048576]).bind fun o1 =>
  bif decide ((gI o1 0) < 0) then
    some [tB true]
  else
    (call iw_szBraid [tPILI (a1.1, a1.2), tI (gI o1 0)]).bind fun o2 =>
    bif decide ((gI o2 0) < 0) then
      some [tB true]
    else
      (call iw_toBraid [tPILI (a0.1, a0.2)]).bind fun o3 =>
      (call iw_toBraid [tPILI (a1.1, a1.2)]).bind fun o4 =>
      (call is_EqualByBands [tPILI ((gPILI o3 0).1, (gPILI o3 0).2), tPILI ((gPILI o4 0).1, (gPILI o4 0).2)]).bind fun o5 =>
      (call iw_toBraid [tPILI (a0.1, a0.2)]).bind fun o6 =>
      (call iw_toBraid [tPILI (a1.1, a1.2)]).bind fun o7 =>
      (call ii_EqualByBands [tPILI ((gPILI o6 0).1, (gPILI o6 0).2), tPILI ((gPILI o7 0).1, (gPILI o7 0).2)]).bind fun o8 =>
      bif ((gB o8 0) != (gB o5 0)) then
        some [tB false]
      else
        bif ((gI o8 1) != (gI o5 1)) then
          some [tB false]
        else
          (call iw_toBraid [tPILI (a0.1, a0.2)]).bind fun o9 =>
          (call iw_eqBraid [tPILI ((gPILI o6 0).1, (gPILI o6 0).2), tPILI ((gPILI o9 0).1, (gPILI o9 0).2)]).bind fun o10 =>
          bif (!(gB o10 0)) then
            some [tB false]
          else
            (call iw_toBraid [tPILI (a1.1, a1.2)]).bind fun o11 =>
            (call iw_eqBraid [tPILI ((gPILI o7 0).1, (gPILI o7 0).2), tPILI ((gPILI o11 0).1, (gPILI o11 0).2)]).bind fun o12 =>
            bif (!(gB o12 0)) then
              some [tB false]
            else
              some [tB true]
theorem ew_FnExactEqualByBands (call : Oracle) (a0 : Int × List Int) (a1 : Int × List Int) : run1 E call iw_FnExactEqualByBands [tPILI a0, tPILI a1] = bw_FnExactEqualByBands call a0 a1 := by kernel_rfl
theorem vw_FnExactEqualByBands (a0 : Int × List Int) (a1 : Int × List Int) {o : List TV} (h : bw_FnExactEqualByBands R a0 a1 = some o) : R iw_FnExactEqualByBands [tPILI a0, tPILI a1] = some o := ev_step ((ew_FnExactEqualByBands R a0 a1).trans h)
end Go.Ev.Ytadjhggdddbicaa
