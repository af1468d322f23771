/- Bodies, part 1. -/
import Derived.KernelRfl
import Derived.Test.YtffepojldjodcaaEnv
set_option linter.unusedVariables false
namespace Go.Ev.Ytffepojldjodcaa
open Go.Ev
/-- laws.FnExactHandleFree -/
noncomputable def bw_FnExactHandleFree (call : Oracle) (a0 : Int × List Int) : Option (List TV) :=
  (call iw_szBraid [tPILI (a0.1, a0.2), tI 1048576]).bind fun o1 =>
  bif decide ((gI o1 0) < 0) then
    some [tB true]
  else
    (call iw_toBraid [tPILI (a0.1, a0.2)]).bind fun o2 =>
    (call is_HandleFree [tPILI ((gPILI o2 0).1, (gPILI o2 0).2)]).bind fun o3 =>
    (call iw_toBraid [tPILI (a0.1, a0.2)]).bind fun o4 =>
    (call ii_HandleFree [tPILI ((gPILI o4 0).1, (gPILI o4 0).2)]).bind fun o5 =>
    (call iw_eqBraid [tPILI ((gPILI o5 0).1, (gPILI o5 0).2), tPILI ((gPILI o3 0).1, (gPILI o3 0).2)]).bind fun o6 =>
    bif (!(gB o6 0)) then
      some [tB false]
    else
      bif ((gI o5 1) != (gI o3 1)) then
        some [tB false]
      else
        (call iw_toBraid [tPILI (a0.1, a0.2)]).bind fun o7 =>
        (call iw_eqBraid [tPILI ((gPILI o4 0).1, (gPILI o4 0).2), tPILI ((gPILI o7 0).1, (gPILI o7 0).2)]).bind fun o8 =>
        bif (!(gB o8 0)) then
          some [tB false]
        else
          (call iw_markBraid [tPILI ((gPILI o4 0).1, (gPILI o4 0).2), tI 1]).bind fun o9 =>
          bif decide ((gI o9 0) < 0) then
            some [tB false]
          else
            (call iw_eqBraid [tPILI ((gPILI o5 0).1, (gPILI o5 0).2), tPILI ((gPILI o3 0).1, (gPILI o3 0).2)]).bind fun o10 =>
            bif (!(gB o10 0)) then
              some [tB false]
            else
              bif ((gI o5 1) != (gI o3 1)) then
                some [tB false]
              else
                (call iw_markBraid [tPILI ((gPILI o5 0).1, (gPILI o5 0).2), tI 1]).bind fun o11 =>
                (call iw_heldBraid [tPILI ((gPILI o5 0).1, (gPILI o11 1).2), tI 1]).bind fun o12 =>
                bif decide ((gI o12 0) < 0) then
                  some [tB false]
                else
                  bif ((gI o12 0) != (gI o11 0)) then
                    some [tB false]
                  else
                    (call iw_toBraid [tPILI (a0.1, a0.2)]).bind fun o13 =>
                    (call ii_HandleFree [tPILI ((gPILI o13 0).1, (gPILI o13 0).2)]).bind fun o14 =>
                    (call iw_eqBraid [tPILI ((gPILI o14 0).1, (gPILI o14 0).2), tPILI ((gPILI o3 0).1, (gPILI o3 0).2)]).bind fun o15 =>
                    bif (!(gB o15 0)) then
                      some [tB false]
                    else
                      bif ((gI o14 1) != (gI o3 1)) then
                        some [tB false]
                      else
                        (call iw_heldBraid [tPILI ((gPILI o5 0).1, (gPILI o11 1).2), tI 1]).bind fun o16 =>
                        bif decide ((gI o16 0) < 0) then
                          some [tB false]
                        else
                          bif ((gI o16 0) != (gI o11 0)) then
                            some [tB false]
                          else
                            some [tB true]
theorem ew_FnExactHandleFree (call : Oracle) (a0 : Int × List Int) : run1 E call iw_FnExactHandleFree [tPILI a0] = bw_FnExactHandleFree call a0 := by kernel_rfl
theorem vw_FnExactHandleFree (a0 : Int × List Int) {o : List TV} (h : bw_FnExactHandleFree R a0 = some o) : R iw_FnExactHandleFree [tPILI a0] = some o := ev_step ((ew_FnExactHandleFree R a0).trans h)
/-- spec.l06Letter -/
noncomputable def bs_l06Letter (call : Oracle) (a0 : List Int) : Option (List TV) :=
  (call is_l06Reduce [tLI a0]).bind fun o1 =>
  bif (!(gB o1 1)) then
    some [tI 0, tB false]
  else
    (call is_l06Main [tLI (gLI o1 0)]).bind fun o2 =>
    some [tI (wi64 ((gI o2 0) * (gI o2 1))), tB true]
theorem es_l06Letter (call : Oracle) (a0 : List Int) : run1 E call is_l06Letter [tLI a0] = bs_l06Letter call a0 := by kernel_rfl
theorem vs_l06Letter (a0 : List Int) {o : List TV} (h : bs_l06Letter R a0 = some o) : R is_l06Letter [tLI a0] = some o := ev_step ((es_l06Letter R a0).trans h)
/-- spec.MainLetter -/
noncomputable def bs_MainLetter (call : Oracle) (a0 : Int × List Int) : Option (List TV) :=
  (call is_l01Is [tPILI (a0.1, a0.2)]).bind fun o1 =>
  bif (!(gB o1 0)) then
    some [tI 0, tI 1]
  else
    (call is_l06Letter [tLI a0.2]).bind fun o2 =>
    bif (!(gB o2 1)) then
      some [tI 0, tI 3]
    else
      some [tI (gI o2 0), tI 0]
theorem es_MainLetter (call : Oracle) (a0 : Int × List Int) : run1 E call is_MainLetter [tPILI a0] = bs_MainLetter call a0 := by kernel_rfl
theorem vs_MainLetter (a0 : Int × List Int) {o : List TV} (h : bs_MainLetter R a0 = some o) : R is_MainLetter [tPILI a0] = some o := ev_step ((es_MainLetter R a0).trans h)
/-- impl.mainLetter -/
noncomputable def bi_mainLetter (call : Oracle) (a0 : List Int) : Option (List TV) :=
  (call ii_reduction [tLI a0]).bind fun o1 =>
  (call ii_mainOf [tLI (gLI o1 0)]).bind fun o2 =>
  some [tI (gI o2 0), tI (gI o1 1)]
theorem ei_mainLetter (call : Oracle) (a0 : List Int) : run1 E call ii_mainLetter [tLI a0] = bi_mainLetter call a0 := by kernel_rfl
theorem vi_mainLetter (a0 : List Int) {o : List TV} (h : bi_mainLetter R a0 = some o) : R ii_mainLetter [tLI a0] = some o := ev_step ((ei_mainLetter R a0).trans h)
/-- impl.MainLetter -/
noncomputable def bi_MainLetter (call : Oracle) (a0 : Int × List Int) : Option (List TV) :=
  (call ii_IsBraid [tPILI (a0.1, a0.2)]).bind fun o1 =>
  bif (!(gB o1 0)) then
    some [tI 0, tI 1]
  else
    (call ii_mainLetter [tLI a0.2]).bind fun o2 =>
    some [tI (gI o2 0), tI (gI o2 1)]
theorem ei_MainLetter (call : Oracle) (a0 : Int × List Int) : run1 E call ii_MainLetter [tPILI a0] = bi_MainLetter call a0 := by kernel_rfl
theorem vi_MainLetter (a0 : Int × List Int) {o : List TV} (h : bi_MainLetter R a0 = some o) : R ii_MainLetter [tPILI a0] = some o := ev_step ((ei_MainLetter R a0).trans h)
/-- laws.FnExactMainLetter -/
noncomputable def bw_FnExactMainLetter (call : Oracle) (a0 : Int × List Int) : Option (List TV) :=
  (call iw_szBraid [tPILI (a0.1, a0.2), tI 1048576]).bind fun o1 =>
  bif decide ((gI o1 0) < 0) then
    some [tB true]
  else
    (call iw_toBraid [tPILI (a0.1, a0.2)]).bind fun o2 =>
    (call is_MainLetter [tPILI ((gPILI o2 0).1, (gPILI o2 0).2)]).bind fun o3 =>
    (call iw_toBraid [tPILI (a0.1, a0.2)]).bind fun o4 =>
    (call ii_MainLetter [tPILI ((gPILI o4 0).1, (gPILI o4 0).2)]).bind fun o5 =>
    bif ((gI o5 0) != (gI o3 0)) then
      some [tB false]
    else
      bif ((gI o5 1) != (gI o3 1)) then
        some [tB false]
      else
        (call iw_toBraid [tPILI (a0.1, a0.2)]).bind fun o6 =>
        (call iw_eqBraid [tPILI ((gPILI o4 0).1, (gPILI o4 0).2), tPILI ((gPILI o6 0).1, (gPILI o6 0).2)]).bind fun o7 =>
        bif (!(gB o7 0)) then
          some [tB false]
        else
          some [tB true]
theorem ew_FnExactMainLetter (call : Oracle) (a0 : Int × List Int) : run1 E call iw_FnExactMainLetter [tPILI a0] = bw_FnExactMainLetter call a0 := by kernel_rfl
theorem vw_FnExactMainLetter (a0 : Int × List Int) {o : List TV} (h : bw_FnExactMainLetter R a0 = some o) : R iw_FnExactMainLetter [tPILI a0] = some o := ev_step ((ew_FnExactMainLetter R a0).trans h)
/-- spec.IsTrivial -/
noncomputable def bs_IsTrivial (call : Oracle) (a0 : Int × List Int) : Option (List TV) :=
  (call is_MainLetter [tPILI (a0.1, a0.2)]).bind fun o1 =>
  bif ((gI o1 1) == 0) then
    some [tB ((gI o1 0) == 0), tI (gI o1 1)]
  else
    some [tB false, tI (gI o1 1)]
theorem es_IsTrivial (call : Oracle) (a0 : Int × List Int) : run1 E call is_IsTrivial [tPILI a0] = bs_IsTrivial call a0 := by kernel_rfl
theorem vs_IsTrivial (a0 : Int × List Int) {o : List TV} (h : bs_IsTrivial R a0 = some o) : R is_IsTrivial [tPILI a0] = some o := ev_step ((es_IsTrivial R a0).trans h)
/-- impl.IsTrivial -/
noncomputable def bi_IsTrivial (call : Oracle) (a0 : Int × List Int) : Option (List TV) :=
  (call ii_MainLetter [tPILI (a0.1, a0.2)]).bind fun o1 =>
  bif ((gI o1 0) == 0) then
    some [tB ((gI o1 1) == 0), tI (gI o1 1)]
  else
    some [tB false, tI (gI o1 1)]
theorem ei_IsTrivial (call : Oracle) (a0 : Int × List Int) : run1 E call ii_IsTrivial [tPILI a0] = bi_IsTrivial call a0 := by kernel_rfl
theorem vi_IsTrivial (a0 : Int × List Int) {o : List TV} (h : bi_IsTrivial R a0 = some o) : R ii_IsTrivial [tPILI a0] = some o := ev_step ((ei_IsTrivial R a0).trans h)
/-- laws.FnExactIsTrivial -/
noncomputable def bw_FnExactIsTrivial (call : Oracle) (a0 : Int × List Int) : Option (List TV) :=
  (call iw_szBraid [tPILI (a0.1, a0.2), tI 1048576]).bind fun o1 =>
  bif decide ((gI o1 0) < 0) then
    some [tB true]
  else
    (call iw_toBraid [tPILI (a0.1, a0.2)]).bind fun o2 =>
    (call is_IsTrivial [tPILI ((gPILI o2 0).1, (gPILI o2 0).2)]).bind fun o3 =>
    (call iw_toBraid [tPILI (a0.1, a0.2)]).bind fun o4 =>
    (call ii_IsTrivial [tPILI ((gPILI o4 0).1, (gPILI o4 0).2)]).bind fun o5 =>
    bif ((gB o5 0) != (gB o3 0)) then
      some [tB false]
    else
      bif ((gI o5 1) != (gI o3 1)) then
        some [tB false]
      else
        (call iw_toBraid [tPILI (a0.1, a0.2)]).bind fun o6 =>
        (call iw_eqBraid [tPILI ((gPILI o4 0).1, (gPILI o4 0).2), tPILI ((gPILI o6 0).1, (gPILI o6 0).2)]).bind fun o7 =>
        bif (!(gB o7 0)) then
          some [tB false]
        else
          some [tB true]
theorem ew_FnExactIsTrivial (call : Oracle) (a0 : Int × List Int) : run1 E call iw_FnExactIsTrivial [tPILI a0] = bw_FnExactIsTrivial call a0 := by kernel_rfl
theorem vw_FnExactIsTrivial (a0 : Int × List Int) {o : List TV} (h : bw_FnExactIsTrivial R a0 = some o) : R iw_FnExactIsTrivial [tPILI a0] = some o := ev_step ((ew_FnExactIsTrivial R a0).trans h)
/-- spec.l01Inverse loop 3 -/
noncomputable def bs_l01Inverse_3 (call : Oracle) (x0 : List Int) (x1 : List Int) (x2 : Int) : Option (List TV) :=
  bif decide (0 ≤ x2) then
    bif (decide (0 ≤ x2) && decide (x2 < ((List.length x0 : Nat) : Int))) then
      bif (apOk x1 [(wi64 (0 - (List.getD x0 (Int.toNat x2) 0)))]) then
        call is_l01Inverse_3 [tLI x0, tLI (x1 ++ [(wi64 (0 - (List.getD x0 (Int.toNat x2) 0)))]), tI (wi64 (x2 - 1))]
      else none
    else none
  else
    some [tI 0, tLI x1]
theorem es_l01Inverse_3 (call : Oracle) (x0 : List Int) (x1 : List Int) (x2 : Int) : run1 E call is_l01Inverse_3 [tLI x0, tLI x1, tI x2] = bs_l01Inverse_3 call x0 x1 x2 := by kernel_rfl
theorem vs_l01Inverse_3 (x0 : List Int) (x1 : List Int) (x2 : Int) {o : List TV} (h : bs_l01Inverse_3 R x0 x1 x2 = some o) : R is_l01Inverse_3 [tLI x0, tLI x1, tI x2] = some o := ev_step ((es_l01Inverse_3 R x0 x1 x2).trans h)
/-- spec.l01Inverse -/
noncomputable def bs_l01Inverse (call : Oracle) (a0 : List Int) : Option (List TV) :=
  (call is_l01Inverse_3 [tLI a0, tLI [], tI (wi64 (((List.length a0 : Nat) : Int) - 1))]).bind fun o1 =>
  some [tLI (gLI o1 1)]
theorem es_l01Inverse (call : Oracle) (a0 : List Int) : run1 E call is_l01Inverse [tLI a0] = bs_l01Inverse call a0 := by kernel_rfl
theorem vs_l01Inverse (a0 : List Int) {o : List TV} (h : bs_l01Inverse R a0 = some o) : R is_l01Inverse [tLI a0] = some o := ev_step ((es_l01Inverse R a0).trans h)
/-- spec.l06Compare -/
noncomputable def bs_l06Compare (call : Oracle) (a0 : List Int) (a1 : List Int) : Option (List TV) :=
  (call is_l01Inverse [tLI a0]).bind fun o1 =>
  bif (apOk (gLI o1 0) a1) then
    (call is_l06Letter [tLI ((gLI o1 0) ++ a1)]).bind fun o2 =>
    bif decide (0 < (gI o2 0)) then
      some [tI (-1), tB (gB o2 1)]
    else
      bif decide ((gI o2 0) < 0) then
        some [tI 1, tB (gB o2 1)]
      else
        some [tI 0, tB (gB o2 1)]
  else none
theorem es_l06Compare (call : Oracle) (a0 : List Int) (a1 : List Int) : run1 E call is_l06Compare [tLI a0, tLI a1] = bs_l06Compare call a0 a1 := by kernel_rfl
theorem vs_l06Compare (a0 : List Int) (a1 : List Int) {o : List TV} (h : bs_l06Compare R a0 a1 = some o) : R is_l06Compare [tLI a0, tLI a1] = some o := ev_step ((es_l06Compare R a0 a1).trans h)
/-- spec.CompareBraids -/
noncomputable def bs_CompareBraids (call : Oracle) (a0 : Int × List Int) (a1 : Int × List Int) : Option (List TV) :=
  (call is_l01Is [tPILI (a0.1, a0.2)]).bind fun o1 =>
  bif (!(gB o1 0)) then
    some [tI 0, tI 1]
  else
    (call is_l01Is [tPILI (a1.1, a1.2)]).bind fun o2 =>
    bif (!(gB o2 0)) then
      some [tI 0, tI 1]
    else
      bif (a0.1 != a1.1) then
        some [tI 0, tI 2]
      else
        (call is_l06Compare [tLI a0.2, tLI a1.2]).bind fun o3 =>
        bif (!(gB o3 1)) then
          some [tI 0, tI 3]
        else
          some [tI (gI o3 0), tI 0]
theorem es_CompareBraids (call : Oracle) (a0 : Int × List Int) (a1 : Int × List Int) : run1 E call is_CompareBraids [tPILI a0, tPILI a1] = bs_CompareBraids call a0 a1 := by kernel_rfl
theorem vs_CompareBraids (a0 : Int × List Int) (a1 : Int × List Int) {o : List TV} (h : bs_CompareBraids R a0 a1 = some o) : R is_CompareBraids [tPILI a0, tPILI a1] = some o := ev_step ((es_CompareBraids R a0 a1).trans h)
/-- impl.reversed loop 3 -/
noncomputable def bi_reversed_3 (call : Oracle) (x0 : Int) (x1 : List Int) (x2 : Int) (x3 : List Int) (x4 : Int) (x5 : List Int) (x6 : Int) : Option (List TV) :=
  bif decide (0 ≤ x6) then
    bif (decide (0 ≤ x6) && decide (x6 < ((List.length x1 : Nat) : Int))) then
      bif (apOk x5 [(List.getD x1 (Int.toNat x6) 0)]) then
        call ii_reversed_3 [tI x0, tLI x1, tI x2, tLI x3, tI x4, tLI (x5 ++ [(List.getD x1 (Int.toNat x6) 0)]), tI (wi64 (x6 - 1))]
      else none
    else none
  else
    some [tI 0, tI x2, tLI x3, tI x4, tLI x5]
theorem ei_reversed_3 (call : Oracle) (x0 : Int) (x1 : List Int) (x2 : Int) (x3 : List Int) (x4 : Int) (x5 : List Int) (x6 : Int) : run1 E call ii_reversed_3 [tI x0, tLI x1, tI x2, tLI x3, tI x4, tLI x5, tI x6] = bi_reversed_3 call x0 x1 x2 x3 x4 x5 x6 := by kernel_rfl
theorem vi_reversed_3 (x0 : Int) (x1 : List Int) (x2 : Int) (x3 : List Int) (x4 : Int) (x5 : List Int) (x6 : Int) {o : List TV} (h : bi_reversed_3 R x0 x1 x2 x3 x4 x5 x6 = some o) : R ii_reversed_3 [tI x0, tLI x1, tI x2, tLI x3, tI x4, tLI x5, tI x6] = some o := ev_step ((ei_reversed_3 R x0 x1 x2 x3 x4 x5 x6).trans h)
/-- impl.reversed -/
noncomputable def bi_reversed (call : Oracle) (a0 : Int × List Int) : Option (List TV) :=
  (call ii_reversed_3 [tI a0.1, tLI a0.2, tI 0, tLI [], tI a0.1, tLI [], tI (wi64 (((List.length a0.2 : Nat) : Int) - 1))]).bind fun o1 =>
  some [tPILI ((gI o1 3), (gLI o1 4))]
theorem ei_reversed (call : Oracle) (a0 : Int × List Int) : run1 E call ii_reversed [tPILI a0] = bi_reversed call a0 := by kernel_rfl
theorem vi_reversed (a0 : Int × List Int) {o : List TV} (h : bi_reversed R a0 = some o) : R ii_reversed [tPILI a0] = some o := ev_step ((ei_reversed R a0).trans h)
/-- impl.opposite -/
noncomputable def bi_opposite (call : Oracle) (a0 : Int) : Option (List TV) :=
  some [tI (wi64 (0 - a0))]
theorem ei_opposite (call : Oracle) (a0 : Int) : run1 E call ii_opposite [tI a0] = bi_opposite call a0 := by kernel_rfl
theorem vi_opposite (a0 : Int) {o : List TV} (h : bi_opposite R a0 = some o) : R ii_opposite [tI a0] = some o := ev_step ((ei_opposite R a0).trans h)
/-- impl.letterBy loop 3 -/
noncomputable def bi_letterBy_3 (call : Oracle) (x0 : Int) (x1 : List Int) (x2 : Int) (x3 : List Int) (x4 : List Int) (x5 : Int) (x6 : Int) : Option (List TV) :=
  bif decide (x6 < x5) then
    bif (decide (0 ≤ x6) && decide (x6 < ((List.length x4 : Nat) : Int))) then
      (call ii_opposite [tI (List.getD x4 (Int.toNat x6) 0)]).bind fun o2 =>
      bif (apOk x3 [(gI o2 0)]) then
        call ii_letterBy_3 [tI x0, tLI x1, tI x2, tLI (x3 ++ [(gI o2 0)]), tLI x4, tI x5, tI (wi64 (x6 + 1))]
      else none
    else none
  else
    some [tI 0, tI x0, tLI x1, tI x2, tLI x3]
theorem ei_letterBy_3 (call : Oracle) (x0 : Int) (x1 : List Int) (x2 : Int) (x3 : List Int) (x4 : List Int) (x5 : Int) (x6 : Int) : run1 E call ii_letterBy_3 [tI x0, tLI x1, tI x2, tLI x3, tLI x4, tI x5, tI x6] = bi_letterBy_3 call x0 x1 x2 x3 x4 x5 x6 := by kernel_rfl
theorem vi_letterBy_3 (x0 : Int) (x1 : List Int) (x2 : Int) (x3 : List Int) (x4 : List Int) (x5 : Int) (x6 : Int) {o : List TV} (h : bi_letterBy_3 R x0 x1 x2 x3 x4 x5 x6 = some o) : R ii_letterBy_3 [tI x0, tLI x1, tI x2, tLI x3, tLI x4, tI x5, tI x6] = some o := ev_step ((ei_letterBy_3 R x0 x1 x2 x3 x4 x5 x6).trans h)
/-- impl.letterBy -/
noncomputable def bi_letterBy (call : Oracle) (a0 : Int × List Int) : Option (List TV) :=
  (call ii_letterBy_3 [tI 0, tLI [], tI a0.1, tLI [], tLI a0.2, tI ((List.length a0.2 : Nat) : Int), tI 0]).bind fun o3 =>
  some [tPILI ((gI o3 3), (gLI o3 4))]
theorem ei_letterBy (call : Oracle) (a0 : Int × List Int) : run1 E call ii_letterBy [tPILI a0] = bi_letterBy call a0 := by kernel_rfl
theorem vi_letterBy (a0 : Int × List Int) {o : List TV} (h : bi_letterBy R a0 = some o) : R ii_letterBy [tPILI a0] = some o := ev_step ((ei_letterBy R a0).trans h)
/-- impl.joined -/
noncomputable def bi_joined (call : Oracle) (a0 : Int × List Int) (a1 : Int × List Int) : Option (List TV) :=
  bif (apOk [] a0.2) then
    bif (apOk a0.2 a1.2) then
      some [tPILI (a0.1, (a0.2 ++ a1.2))]
    else none
  else none
theorem ei_joined (call : Oracle) (a0 : Int × List Int) (a1 : Int × List Int) : run1 E call ii_joined [tPILI a0, tPILI a1] = bi_joined call a0 a1 := by kernel_rfl
theorem vi_joined (a0 : Int × List Int) (a1 : Int × List Int) {o : List TV} (h : bi_joined R a0 a1 = some o) : R ii_joined [tPILI a0, tPILI a1] = some o := ev_step ((ei_joined R a0 a1).trans h)
/-- impl.compare -/
noncomputable def bi_compare (call : Oracle) (a0 : Int × List Int) (a1 : Int × List Int) : Option (List TV) :=
  (call ii_reversed [tPILI (a0.1, a0.2)]).bind fun o1 =>
  (call ii_letterBy [tPILI ((gPILI o1 0).1, (gPILI o1 0).2)]).bind fun o2 =>
  (call ii_joined [tPILI ((gPILI o2 0).1, (gPILI o2 0).2), tPILI (a1.1, a1.2)]).bind fun o3 =>
  (call ii_mainLetter [tLI ((gPILI o3 0).2)]).bind fun o4 =>
  bif ((gI o4 1) != 0) then
    some [tI 0, tI (gI o4 1)]
  else
    bif ((gI o4 0) == 0) then
      some [tI 0, tI (gI o4 1)]
    else
      bif decide (0 < (gI o4 0)) then
        some [tI (-1), tI 0]
      else
        some [tI 1, tI 0]
theorem ei_compare (call : Oracle) (a0 : Int × List Int) (a1 : Int × List Int) : run1 E call ii_compare [tPILI a0, tPILI a1] = bi_compare call a0 a1 := by kernel_rfl
theorem vi_compare (a0 : Int × List Int) (a1 : Int × List Int) {o : List TV} (h : bi_compare R a0 a1 = some o) : R ii_compare [tPILI a0, tPILI a1] = some o := ev_step ((ei_compare R a0 a1).trans h)
/-- impl.CompareBraids -/
noncomputable def bi_CompareBraids (call : Oracle) (a0 : Int × List Int) (a1 : Int × List Int) : Option (List TV) :=
  (call ii_IsBraid [tPILI (a0.1, a0.2)]).bind fun o1 =>
  bif (!(gB o1 0)) then
    some [tI 0, tI 1]
  else
    (call ii_IsBraid [tPILI (a1.1, a1.2)]).bind fun o2 =>
    bif (!(gB o2 0)) then
      some [tI 0, tI 1]
    else
      bif (a0.1 != a1.1) then
        some [tI 0, tI 2]
      else
        (call ii_compare [tPILI (a0.1, a0.2), tPILI (a1.1, a1.2)]).bind fun o3 =>
        some [tI (gI o3 0), tI (gI o3 1)]
theorem ei_CompareBraids (call : Oracle) (a0 : Int × List Int) (a1 : Int × List Int) : run1 E call ii_CompareBraids [tPILI a0, tPILI a1] = bi_CompareBraids call a0 a1 := by kernel_rfl
theorem vi_CompareBraids (a0 : Int × List Int) (a1 : Int × List Int) {o : List TV} (h : bi_CompareBraids R a0 a1 = some o) : R ii_CompareBraids [tPILI a0, tPILI a1] = some o := ev_step ((ei_CompareBraids R a0 a1).trans h)
/-- laws.FnExactCompareBraids -/
noncomputable def bw_FnExactCompareBraids (call : Oracle) (a0 : Int × List Int) (a1 : Int × List Int) : Option (List TV) :=
  (call iw_szBraid [tPILI (a0.1, a0.2), tI 1048576]).bind fun o1 =>
  bif decide ((gI o1 0) < 0) then
    some [tB true]
  else
    (call iw_szBraid [tPILI (a1.1, a1.2), tI (gI o1 0)]).bind fun o2 =>
    bif decide ((gI o2 0) < 0) then
      some [tB true]
    else
      (call iw_toBraid [tPILI (a0.1, a0.2)]).bind fun o3 =>
      (call iw_toBraid [tPILI (a1.1, a1.2)]).bind fun o4 =>
      (call is_CompareBraids [tPILI ((gPILI o3 0).1, (gPILI o3 0).2), tPILI ((gPILI o4 0).1, (gPILI o4 0).2)]).bind fun o5 =>
      (call iw_toBraid [tPILI (a0.1, a0.2)]).bind fun o6 =>
      (call iw_toBraid [tPILI (a1.1, a1.2)]).bind fun o7 =>
      (call ii_CompareBraids [tPILI ((gPILI o6 0).1, (gPILI o6 0).2), tPILI ((gPILI o7 0).1, (gPILI o7 0).2)]).bind fun o8 =>
      bif ((gI o8 0) != (gI o5 0)) then
        some [tB false]
      else
        bif ((gI o8 1) != (gI o5 1)) then
          some [tB false]
        else
          (call iw_toBraid [tPILI (a0.1, a0.2)]).bind fun o9 =>
          (call iw_eqBraid [tPILI ((gPILI o6 0).1, (gPILI o6 0).2), tPILI ((gPILI o9 0).1, (gPILI o9 0).2)]).bind fun o10 =>
          bif (!(gB o10 0)) then
            some [tB false]
          else
            (call iw_toBraid [tPILI (a1.1, a1.2)]).bind fun o11 =>
            (call iw_eqBraid [tPILI ((gPILI o7 0).1, (gPILI o7 0).2), tPILI ((gPILI o11 0).1, (gPILI o11 0).2)]).bind fun o12 =>
            bif (!(gB o12 0)) then
              some [tB false]
            else
              some [tB true]
theorem ew_FnExactCompareBraids (call : Oracle) (a0 : Int × List Int) (a1 : Int × List Int) : run1 E call iw_FnExactCompareBraids [tPILI a0, tPILI a1] = bw_FnExactCompareBraids call a0 a1 := by kernel_rfl
theorem vw_FnExactCompareBraids (a0 : Int × List Int) (a1 : Int × List Int) {o : List TV} (h : bw_FnExactCompareBraids R a0 a1 = some o) : R iw_FnExactCompareBraids [tPILI a0, tPILI a1] = some o := ev_step ((ew_FnExactCompareBraids R a0 a1).trans h)
/-- spec.l01Half loop 3 -/
noncomputable def bs_l01Half_3 (call : Oracle) (x0 : List Int) (x1 : Int) : Option (List TV) :=
  bif decide (0 < x1) then
    (call is_l01Half_6 [tLI x0, tI x1, tI 1]).bind fun o2 =>
    call is_l01Half_3 [tLI (gLI o2 1), tI (wi64 ((gI o2 2) - 1))]
  else
    some [tI 0, tLI x0]
theorem es_l01Half_3 (call : Oracle) (x0 : List Int) (x1 : Int) : run1 E call is_l01Half_3 [tLI x0, tI x1] = bs_l01Half_3 call x0 x1 := by kernel_rfl
theorem vs_l01Half_3 (x0 : List Int) (x1 : Int) {o : List TV} (h : bs_l01Half_3 R x0 x1 = some o) : R is_l01Half_3 [tLI x0, tI x1] = some o := ev_step ((es_l01Half_3 R x0 x1).trans h)
/-- spec.l01Half loop 6 -/
noncomputable def bs_l01Half_6 (call : Oracle) (x0 : List Int) (x1 : Int) (x2 : Int) : Option (List TV) :=
  bif decide (x2 ≤ x1) then
    bif (apOk x0 [x2]) then
      call is_l01Half_6 [tLI (x0 ++ [x2]), tI x1, tI (wi64 (x2 + 1))]
    else none
  else
    some [tI 0, tLI x0, tI x1]
theorem es_l01Half_6 (call : Oracle) (x0 : List Int) (x1 : Int) (x2 : Int) : run1 E call is_l01Half_6 [tLI x0, tI x1, tI x2] = bs_l01Half_6 call x0 x1 x2 := by kernel_rfl
theorem vs_l01Half_6 (x0 : List Int) (x1 : Int) (x2 : Int) {o : List TV} (h : bs_l01Half_6 R x0 x1 x2 = some o) : R is_l01Half_6 [tLI x0, tI x1, tI x2] = some o := ev_step ((es_l01Half_6 R x0 x1 x2).trans h)
/-- spec.l01Half -/
noncomputable def bs_l01Half (call : Oracle) (a0 : Int) : Option (List TV) :=
  (call is_l01Half_3 [tLI [], tI (wi64 (a0 - 1))]).bind fun o3 =>
  some [tLI (gLI o3 1)]
theorem es_l01Half (call : Oracle) (a0 : Int) : run1 E call is_l01Half [tI a0] = bs_l01Half call a0 := by kernel_rfl
theorem vs_l01Half (a0 : Int) {o : List TV} (h : bs_l01Half R a0 = some o) : R is_l01Half [tI a0] = some o := ev_step ((es_l01Half R a0).trans h)
/-- spec.l06Turns loop 5 -/
noncomputable def bs_l06Turns_5 (call : Oracle) (x0 : List Int) (x1 : List Int) (x2 : Int) : Option (List TV) :=
  bif decide (0 < x2) then
    bif (apOk x0 x1) then
      call is_l06Turns_5 [tLI (x0 ++ x1), tLI x1, tI (wi64 (x2 - 1))]
    else none
  else
    some [tI 0, tLI x0]
theorem es_l06Turns_5 (call : Oracle) (x0 : List Int) (x1 : List Int) (x2 : Int) : run1 E call is_l06Turns_5 [tLI x0, tLI x1, tI x2] = bs_l06Turns_5 call x0 x1 x2 := by kernel_rfl
theorem vs_l06Turns_5 (x0 : List Int) (x1 : List Int) (x2 : Int) {o : List TV} (h : bs_l06Turns_5 R x0 x1 x2 = some o) : R is_l06Turns_5 [tLI x0, tLI x1, tI x2] = some o := ev_step ((es_l06Turns_5 R x0 x1 x2).trans h)
/-- spec.l06Turns -/
noncomputable def bs_l06Turns (call : Oracle) (a0 : Int) (a1 : Int) : Option (List TV) :=
  (call is_l01Half [tI a0]).bind fun o1 =>
  (call is_l01Half [tI a0]).bind fun o2 =>
  bif (apOk (gLI o1 0) (gLI o2 0)) then
    bif decide (a1 < 0) then
      (call is_l01Inverse [tLI ((gLI o1 0) ++ (gLI o2 0))]).bind fun o3 =>
      (call is_l06Turns_5 [tLI [], tLI (gLI o3 0), tI (mx a1 (wi64 (0 - a1)))]).bind fun o4 =>
      some [tLI (gLI o4 1)]
    else
      (call is_l06Turns_5 [tLI [], tLI ((gLI o1 0) ++ (gLI o2 0)), tI (mx a1 (wi64 (0 - a1)))]).bind fun o5 =>
      some [tLI (gLI o5 1)]
  else none
theorem es_l06Turns (call : Oracle) (a0 : Int) (a1 : Int) : run1 E call is_l06Turns [tI a0, tI a1] = bs_l06Turns call a0 a1 := by kernel_rfl
theorem vs_l06Turns (a0 : Int) (a1 : Int) {o : List TV} (h : bs_l06Turns R a0 a1 = some o) : R is_l06Turns [tI a0, tI a1] = some o := ev_step ((es_l06Turns R a0 a1).trans h)
/-- spec.FloorOf loop 6 -/
noncomputable def bs_FloorOf_6 (call : Oracle) (x0 : Int) (x1 : List Int) (x2 : Int) : Option (List TV) :=
  bif decide (x2 ≤ 7) then
    (call is_l06Turns [tI x0, tI x2]).bind fun o4 =>
    (call is_l06Compare [tLI x1, tLI (gLI o4 0)]).bind fun o5 =>
    bif (!(gB o5 1)) then
      some [tI 1, tI 0, tI 3]
    else
      bif decide ((gI o5 0) < 0) then
        bif (x2 == (-6)) then
          some [tI 1, tI 0, tI 3]
        else
          some [tI 1, tI (wi64 (x2 - 1)), tI 0]
      else
        call is_FloorOf_6 [tI x0, tLI x1, tI (wi64 (x2 + 1))]
  else
    some [tI 0]
theorem es_FloorOf_6 (call : Oracle) (x0 : Int) (x1 : List Int) (x2 : Int) : run1 E call is_FloorOf_6 [tI x0, tLI x1, tI x2] = bs_FloorOf_6 call x0 x1 x2 := by kernel_rfl
theorem vs_FloorOf_6 (x0 : Int) (x1 : List Int) (x2 : Int) {o : List TV} (h : bs_FloorOf_6 R x0 x1 x2 = some o) : R is_FloorOf_6 [tI x0, tLI x1, tI x2] = some o := ev_step ((es_FloorOf_6 R x0 x1 x2).trans h)
/-- spec.FloorOf -/
noncomputable def bs_FloorOf (call : Oracle) (a0 : Int × List Int) : Option (List TV) :=
  (call is_l01Is [tPILI (a0.1, a0.2)]).bind fun o1 =>
  bif (!(gB o1 0)) then
    some [tI 0, tI 1]
  else
    bif decide (a0.1 < 2) then
      some [tI 0, tI 2]
    else
      (call is_FloorOf_6 [tI a0.1, tLI a0.2, tI (-6)]).bind fun o6 =>
      bif ((gI o6 0) == 0) then
        some [tI 0, tI 3]
      else
        some [tI (gI o6 1), tI (gI o6 2)]
theorem es_FloorOf (call : Oracle) (a0 : Int × List Int) : run1 E call is_FloorOf [tPILI a0] = bs_FloorOf call a0 := by kernel_rfl
theorem vs_FloorOf (a0 : Int × List Int) {o : List TV} (h : bs_FloorOf R a0 = some o) : R is_FloorOf [tPILI a0] = some o := ev_step ((es_FloorOf R a0).trans h)
/-- impl.HalfTurnBraid loop 5 -/
noncomputable def bi_HalfTurnBraid_5 (call : Oracle) (x0 : Int) (x1 : List Int) (x2 : Int) (x3 : List Int) (x4 : Int) : Option (List TV) :=
  bif decide (1 ≤ x4) then
    (call ii_HalfTurnBraid_8 [tI x0, tLI x1, tI x2, tLI x3, tI x4, tI 1]).bind fun o3 =>
    call ii_HalfTurnBraid_5 [tI (gI o3 1), tLI (gLI o3 2), tI (gI o3 3), tLI (gLI o3 4), tI (wi64 ((gI o3 5) - 1))]
  else
    some [tI 0, tI x0, tLI x1, tI x2, tLI x3]
theorem ei_HalfTurnBraid_5 (call : Oracle) (x0 : Int) (x1 : List Int) (x2 : Int) (x3 : List Int) (x4 : Int) : run1 E call ii_HalfTurnBraid_5 [tI x0, tLI x1, tI x2, tLI x3, tI x4] = bi_HalfTurnBraid_5 call x0 x1 x2 x3 x4 := by kernel_rfl
theorem vi_HalfTurnBraid_5 (x0 : Int) (x1 : List Int) (x2 : Int) (x3 : List Int) (x4 : Int) {o : List TV} (h : bi_HalfTurnBraid_5 R x0 x1 x2 x3 x4 = some o) : R ii_HalfTurnBraid_5 [tI x0, tLI x1, tI x2, tLI x3, tI x4] = some o := ev_step ((ei_HalfTurnBraid_5 R x0 x1 x2 x3 x4).trans h)
/-- impl.HalfTurnBraid loop 8 -/
noncomputable def bi_HalfTurnBraid_8 (call : Oracle) (x0 : Int) (x1 : List Int) (x2 : Int) (x3 : List Int) (x4 : Int) (x5 : Int) : Option (List TV) :=
  bif decide (x5 ≤ x4) then
    bif (apOk x3 [x5]) then
      call ii_HalfTurnBraid_8 [tI x0, tLI x1, tI x2, tLI (x3 ++ [x5]), tI x4, tI (wi64 (x5 + 1))]
    else none
  else
    some [tI 0, tI x0, tLI x1, tI x2, tLI x3, tI x4]
theorem ei_HalfTurnBraid_8 (call : Oracle) (x0 : Int) (x1 : List Int) (x2 : Int) (x3 : List Int) (x4 : Int) (x5 : Int) : run1 E call ii_HalfTurnBraid_8 [tI x0, tLI x1, tI x2, tLI x3, tI x4, tI x5] = bi_HalfTurnBraid_8 call x0 x1 x2 x3 x4 x5 := by kernel_rfl
theorem vi_HalfTurnBraid_8 (x0 : Int) (x1 : List Int) (x2 : Int) (x3 : List Int) (x4 : Int) (x5 : Int) {o : List TV} (h : bi_HalfTurnBraid_8 R x0 x1 x2 x3 x4 x5 = some o) : R ii_HalfTurnBraid_8 [tI x0, tLI x1, tI x2, tLI x3, tI x4, tI x5] = some o := ev_step ((ei_HalfTurnBraid_8 R x0 x1 x2 x3 x4 x5).trans h)
/-- impl.HalfTurnBraid -/
noncomputable def bi_HalfTurnBraid (call : Oracle) (a0 : Int) : Option (List TV) :=
  (call ii_isCount [tI a0]).bind fun o1 =>
  bif (!(gB o1 0)) then
    some [tPILI (0, []), tI 2]
  else
    (call ii_HalfTurnBraid_5 [tI 0, tLI [], tI a0, tLI [], tI (wi64 (a0 - 1))]).bind fun o4 =>
    some [tPILI ((gI o4 3), (gLI o4 4)), tI 0]
theorem ei_HalfTurnBraid (call : Oracle) (a0 : Int) : run1 E call ii_HalfTurnBraid [tI a0] = bi_HalfTurnBraid call a0 := by kernel_rfl
theorem vi_HalfTurnBraid (a0 : Int) {o : List TV} (h : bi_HalfTurnBraid R a0 = some o) : R ii_HalfTurnBraid [tI a0] = some o := ev_step ((ei_HalfTurnBraid R a0).trans h)
/-- impl.FullTurnBraid -/
noncomputable def bi_FullTurnBraid (call : Oracle) (a0 : Int) : Option (List TV) :=
  (call ii_HalfTurnBraid [tI a0]).bind fun o1 =>
  bif ((gI o1 1) != 0) then
    some [tPILI (0, []), tI (gI o1 1)]
  else
    (call ii_joined [tPILI ((gPILI o1 0).1, (gPILI o1 0).2), tPILI ((gPILI o1 0).1, (gPILI o1 0).2)]).bind fun o2 =>
    some [tPILI ((gPILI o2 0).1, (gPILI o2 0).2), tI 0]
theorem ei_FullTurnBraid (call : Oracle) (a0 : Int) : run1 E call ii_FullTurnBraid [tI a0] = bi_FullTurnBraid call a0 := by kernel_rfl
theorem vi_FullTurnBraid (a0 : Int) {o : List TV} (h : bi_FullTurnBraid R a0 = some o) : R ii_FullTurnBraid [tI a0] = some o := ev_step ((ei_FullTurnBraid R a0).trans h)
/-- impl.FloorOf loop 7 -/
noncomputable def bi_FloorOf_7 (call : Oracle) (x0 : Int) (x1 : List Int) (x2 : Int) (x3 : List Int) (x4 : Int) : Option (List TV) :=
  bif decide (x4 ≤ 7) then
    bif decide (x4 < 0) then
      (call ii_reversed [tPILI (x2, x3)]).bind fun o13 =>
      (call ii_letterBy [tPILI ((gPILI o13 0).1, (gPILI o13 0).2)]).bind fun o14 =>
      (call ii_size [tI x4]).bind fun o15 =>
      (call ii_FloorOf_13 [tI x0, tLI x1, tI x2, tLI x3, tI ((gPILI o14 0).1), tLI ((gPILI o14 0).2), tI x0, tLI [], tI x4, tI (gI o15 0), tI 0]).bind fun o16 =>
      (call ii_compare [tPILI ((gI o16 1), (gLI o16 2)), tPILI ((gI o16 5), (gLI o16 6))]).bind fun o17 =>
      bif ((gI o17 1) != 0) then
        some [tI 1, tI 0, tI (gI o17 1)]
      else
        bif decide ((gI o17 0) < 0) then
          bif ((gI o16 7) == (-6)) then
            some [tI 1, tI 0, tI 3]
          else
            some [tI 1, tI (wi64 ((gI o16 7) - 1)), tI 0]
        else
          call ii_FloorOf_7 [tI (gI o16 1), tLI (gLI o16 2), tI (gI o16 3), tLI (gLI o16 4), tI (wi64 ((gI o16 7) + 1))]
    else
      (call ii_size [tI x4]).bind fun o18 =>
      (call ii_FloorOf_13 [tI x0, tLI x1, tI x2, tLI x3, tI x2, tLI x3, tI x0, tLI [], tI x4, tI (gI o18 0), tI 0]).bind fun o19 =>
      (call ii_compare [tPILI ((gI o19 1), (gLI o19 2)), tPILI ((gI o19 5), (gLI o19 6))]).bind fun o20 =>
      bif ((gI o20 1) != 0) then
        some [tI 1, tI 0, tI (gI o20 1)]
      else
        bif decide ((gI o20 0) < 0) then
          bif ((gI o19 7) == (-6)) then
            some [tI 1, tI 0, tI 3]
          else
            some [tI 1, tI (wi64 ((gI o19 7) - 1)), tI 0]
        else
          call ii_FloorOf_7 [tI (gI o19 1), tLI (gLI o19 2), tI (gI o19 3), tLI (gLI o19 4), tI (wi64 ((gI o19 7) + 1))]
  else
    some [tI 0]
theorem ei_FloorOf_7 (call : Oracle) (x0 : Int) (x1 : List Int) (x2 : Int) (x3 : List Int) (x4 : Int) : run1 E call ii_FloorOf_7 [tI x0, tLI x1, tI x2, tLI x3, tI x4] = bi_FloorOf_7 call x0 x1 x2 x3 x4 := by kernel_rfl
theorem vi_FloorOf_7 (x0 : Int) (x1 : List Int) (x2 : Int) (x3 : List Int) (x4 : Int) {o : List TV} (h : bi_FloorOf_7 R x0 x1 x2 x3 x4 = some o) : R ii_FloorOf_7 [tI x0, tLI x1, tI x2, tLI x3, tI x4] = some o := ev_step ((ei_FloorOf_7 R x0 x1 x2 x3 x4).trans h)
/-- impl.FloorOf loop 13 -/
noncomputable def bi_FloorOf_13 (call : Oracle) (x0 : Int) (x1 : List Int) (x2 : Int) (x3 : List Int) (x4 : Int) (x5 : List Int) (x6 : Int) (x7 : List Int) (x8 : Int) (x9 : Int) (x10 : Int) : Option (List TV) :=
  bif decide (x10 < x9) then
    (call ii_joined [tPILI (x6, x7), tPILI (x4, x5)]).bind fun o7 =>
    call ii_FloorOf_13 [tI x0, tLI x1, tI x2, tLI x3, tI x4, tLI x5, tI ((gPILI o7 0).1), tLI ((gPILI o7 0).2), tI x8, tI x9, tI (wi64 (x10 + 1))]
  else
    some [tI 0, tI x0, tLI x1, tI x2, tLI x3, tI x6, tLI x7, tI x8]
theorem ei_FloorOf_13 (call : Oracle) (x0 : Int) (x1 : List Int) (x2 : Int) (x3 : List Int) (x4 : Int) (x5 : List Int) (x6 : Int) (x7 : List Int) (x8 : Int) (x9 : Int) (x10 : Int) : run1 E call ii_FloorOf_13 [tI x0, tLI x1, tI x2, tLI x3, tI x4, tLI x5, tI x6, tLI x7, tI x8, tI x9, tI x10] = bi_FloorOf_13 call x0 x1 x2 x3 x4 x5 x6 x7 x8 x9 x10 := by kernel_rfl
theorem vi_FloorOf_13 (x0 : Int) (x1 : List Int) (x2 : Int) (x3 : List Int) (x4 : Int) (x5 : List Int) (x6 : Int) (x7 : List Int) (x8 : Int) (x9 : Int) (x10 : Int) {o : List TV} (h : bi_FloorOf_13 R x0 x1 x2 x3 x4 x5 x6 x7 x8 x9 x10 = some o) : R ii_FloorOf_13 [tI x0, tLI x1, tI x2, tLI x3, tI x4, tLI x5, tI x6, tLI x7, tI x8, tI x9, tI x10] = some o := ev_step ((ei_FloorOf_13 R x0 x1 x2 x3 x4 x5 x6 x7 x8 x9 x10).trans h)
/-- impl.FloorOf -/
noncomputable def bi_FloorOf (call : Oracle) (a0 : Int × List Int) : Option (List TV) :=
  (call ii_IsBraid [tPILI (a0.1, a0.2)]).bind fun o1 =>
  bif (!(gB o1 0)) then
    some [tI 0, tI 1]
  else
    bif decide (a0.1 < 2) then
      some [tI 0, tI 2]
    else
      (call ii_FullTurnBraid [tI a0.1]).bind fun o2 =>
      (call ii_FloorOf_7 [tI a0.1, tLI a0.2, tI ((gPILI o2 0).1), tLI ((gPILI o2 0).2), tI (-6)]).bind fun o21 =>
      bif ((gI o21 0) == 0) then
        some [tI 0, tI 3]
      else
        some [tI (gI o21 1), tI (gI o21 2)]
theorem ei_FloorOf (call : Oracle) (a0 : Int × List Int) : run1 E call ii_FloorOf [tPILI a0] = bi_FloorOf call a0 := by kernel_rfl
theorem vi_FloorOf (a0 : Int × List Int) {o : List TV} (h : bi_FloorOf R a0 = some o) : R ii_FloorOf [tPILI a0] = some o := ev_step ((ei_FloorOf R a0).trans h)
/-- laws.FnExactFloorOf -/
noncomputable def bw_FnExactFloorOf (call : Oracle) (a0 : Int × List Int) : Option (List TV) :=
  (call iw_szBraid [tPILI (a0.1, a0.2), tI 1048576]).bind fun o1 =>
  bif decide ((gI o1 0) < 0) then
    some [tB true]
  else
    (call iw_toBraid [tPILI (a0.1, a0.2)]).bind fun o2 =>
    (call is_FloorOf [tPILI ((gPILI o2 0).1, (gPILI o2 0).2)]).bind fun o3 =>
    (call iw_toBraid [tPILI (a0.1, a0.2)]).bind fun o4 =>
    (call ii_FloorOf [tPILI ((gPILI o4 0).1, (gPILI o4 0).2)]).bind fun o5 =>
    bif ((gI o5 0) != (gI o3 0)) then
      some [tB false]
    else
      bif ((gI o5 1) != (gI o3 1)) then
        some [tB false]
      else
        (call iw_toBraid [tPILI (a0.1, a0.2)]).bind fun o6 =>
        (call iw_eqBraid [tPILI ((gPILI o4 0).1, (gPILI o4 0).2), tPILI ((gPILI o6 0).1, (gPILI o6 0).2)]).bind fun o7 =>
        bif (!(gB o7 0)) then
          some [tB false]
        else
          some [tB true]
theorem ew_FnExactFloorOf (call : Oracle) (a0 : Int × List Int) : run1 E call iw_FnExactFloorOf [tPILI a0] = bw_FnExactFloorOf call a0 := by kernel_rfl
theorem vw_FnExactFloorOf (a0 : Int × List Int) {o : List TV} (h : bw_FnExactFloorOf R a0 = some o) : R iw_FnExactFloorOf [tPILI a0] = some o := ev_step ((ew_FnExactFloorOf R a0).trans h)
end Go.Ev.Ytffepojldjodcaa
