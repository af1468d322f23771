/- Bodies, part 0. -/
import Derived.KernelRfl
import Derived.Test.YtffepojldjodcaaEnv
set_option linter.unusedVariables false
namespace Go.Ev.Ytffepojldjodcaa
open Go.Ev
/-- laws.szInt64S -/
noncomputable def bw_szInt64S (call : Oracle) (a0 : List Int) (a1 : Int) : Option (List TV) :=
  bif decide ((wi64 (a1 - ((List.length a0 : Nat) : Int))) < 0) then
    some [tI (-1)]
  else
    some [tI (wi64 (a1 - ((List.length a0 : Nat) : Int)))]
theorem ew_szInt64S (call : Oracle) (a0 : List Int) (a1 : Int) : run1 E call iw_szInt64S [tLI a0, tI a1] = bw_szInt64S call a0 a1 := by kernel_rfl
theorem vw_szInt64S (a0 : List Int) (a1 : Int) {o : List TV} (h : bw_szInt64S R a0 a1 = some o) : R iw_szInt64S [tLI a0, tI a1] = some o := ev_step ((ew_szInt64S R a0 a1).trans h)
/-- laws.szBraid -/
noncomputable def bw_szBraid (call : Oracle) (a0 : Int × List Int) (a1 : Int) : Option (List TV) :=
  (call iw_szInt64S [tLI a0.2, tI a1]).bind fun o1 =>
  bif decide ((gI o1 0) < 0) then
    some [tI (-1)]
  else
    some [tI (gI o1 0)]
theorem ew_szBraid (call : Oracle) (a0 : Int × List Int) (a1 : Int) : run1 E call iw_szBraid [tPILI a0, tI a1] = bw_szBraid call a0 a1 := by kernel_rfl
theorem vw_szBraid (a0 : Int × List Int) (a1 : Int) {o : List TV} (h : bw_szBraid R a0 a1 = some o) : R iw_szBraid [tPILI a0, tI a1] = some o := ev_step ((ew_szBraid R a0 a1).trans h)
/-- laws.szBraidS loop 5 -/
noncomputable def bw_szBraidS_5 (call : Oracle) (x0 : List (Int × List Int)) (x1 : Int) (x2 : Int) : Option (List TV) :=
  bif decide (x2 < ((List.length x0 : Nat) : Int)) then
    bif (decide (0 ≤ x2) && decide (x2 < ((List.length x0 : Nat) : Int))) then
      (call iw_szBraid [tPILI ((List.getD x0 (Int.toNat x2) (0, [])).1, (List.getD x0 (Int.toNat x2) (0, [])).2), tI x1]).bind fun o2 =>
      bif decide ((gI o2 0) < 0) then
        some [tI 1, tI (-1)]
      else
        call iw_szBraidS_5 [tLPILI x0, tI (gI o2 0), tI (wi64 (x2 + 1))]
    else none
  else
    some [tI 0, tI x1]
theorem ew_szBraidS_5 (call : Oracle) (x0 : List (Int × List Int)) (x1 : Int) (x2 : Int) : run1 E call iw_szBraidS_5 [tLPILI x0, tI x1, tI x2] = bw_szBraidS_5 call x0 x1 x2 := by kernel_rfl
theorem vw_szBraidS_5 (x0 : List (Int × List Int)) (x1 : Int) (x2 : Int) {o : List TV} (h : bw_szBraidS_5 R x0 x1 x2 = some o) : R iw_szBraidS_5 [tLPILI x0, tI x1, tI x2] = some o := ev_step ((ew_szBraidS_5 R x0 x1 x2).trans h)
/-- laws.szBraidS -/
noncomputable def bw_szBraidS (call : Oracle) (a0 : List (Int × List Int)) (a1 : Int) : Option (List TV) :=
  bif decide ((wi64 (a1 - ((List.length a0 : Nat) : Int))) < 0) then
    some [tI (-1)]
  else
    (call iw_szBraidS_5 [tLPILI a0, tI (wi64 (a1 - ((List.length a0 : Nat) : Int))), tI 0]).bind fun o3 =>
    bif ((gI o3 0) == 0) then
      some [tI (gI o3 1)]
    else
      some [tI (gI o3 1)]
theorem ew_szBraidS (call : Oracle) (a0 : List (Int × List Int)) (a1 : Int) : run1 E call iw_szBraidS [tLPILI a0, tI a1] = bw_szBraidS call a0 a1 := by kernel_rfl
theorem vw_szBraidS (a0 : List (Int × List Int)) (a1 : Int) {o : List TV} (h : bw_szBraidS R a0 a1 = some o) : R iw_szBraidS [tLPILI a0, tI a1] = some o := ev_step ((ew_szBraidS R a0 a1).trans h)
/-- laws.toInt64S loop 3 -/
noncomputable def bw_toInt64S_3 (call : Oracle) (x0 : List Int) (x1 : List Int) (x2 : Int) : Option (List TV) :=
  bif decide (x2 < ((List.length x0 : Nat) : Int)) then
    bif (decide (0 ≤ x2) && decide (x2 < ((List.length x0 : Nat) : Int))) then
      bif (decide (0 ≤ x2) && decide (x2 < ((List.length x1 : Nat) : Int))) then
        call iw_toInt64S_3 [tLI x0, tLI (List.set x1 (Int.toNat x2) (List.getD x0 (Int.toNat x2) 0)), tI (wi64 (x2 + 1))]
      else none
    else none
  else
    some [tI 0, tLI x1]
theorem ew_toInt64S_3 (call : Oracle) (x0 : List Int) (x1 : List Int) (x2 : Int) : run1 E call iw_toInt64S_3 [tLI x0, tLI x1, tI x2] = bw_toInt64S_3 call x0 x1 x2 := by kernel_rfl
theorem vw_toInt64S_3 (x0 : List Int) (x1 : List Int) (x2 : Int) {o : List TV} (h : bw_toInt64S_3 R x0 x1 x2 = some o) : R iw_toInt64S_3 [tLI x0, tLI x1, tI x2] = some o := ev_step ((ew_toInt64S_3 R x0 x1 x2).trans h)
/-- laws.toInt64S -/
noncomputable def bw_toInt64S (call : Oracle) (a0 : List Int) : Option (List TV) :=
  bif (mkOk ((List.length a0 : Nat) : Int)) then
    (call iw_toInt64S_3 [tLI a0, tLI (List.replicate (Int.toNat ((List.length a0 : Nat) : Int)) 0), tI 0]).bind fun o1 =>
    some [tLI (gLI o1 1)]
  else none
theorem ew_toInt64S (call : Oracle) (a0 : List Int) : run1 E call iw_toInt64S [tLI a0] = bw_toInt64S call a0 := by kernel_rfl
theorem vw_toInt64S (a0 : List Int) {o : List TV} (h : bw_toInt64S R a0 = some o) : R iw_toInt64S [tLI a0] = some o := ev_step ((ew_toInt64S R a0).trans h)
/-- laws.toBraid -/
noncomputable def bw_toBraid (call : Oracle) (a0 : Int × List Int) : Option (List TV) :=
  (call iw_toInt64S [tLI a0.2]).bind fun o1 =>
  some [tPILI (a0.1, (gLI o1 0))]
theorem ew_toBraid (call : Oracle) (a0 : Int × List Int) : run1 E call iw_toBraid [tPILI a0] = bw_toBraid call a0 := by kernel_rfl
theorem vw_toBraid (a0 : Int × List Int) {o : List TV} (h : bw_toBraid R a0 = some o) : R iw_toBraid [tPILI a0] = some o := ev_step ((ew_toBraid R a0).trans h)
/-- laws.toBraidS loop 3 -/
noncomputable def bw_toBraidS_3 (call : Oracle) (x0 : List (Int × List Int)) (x1 : List (Int × List Int)) (x2 : Int) : Option (List TV) :=
  bif decide (x2 < ((List.length x0 : Nat) : Int)) then
    bif (decide (0 ≤ x2) && decide (x2 < ((List.length x0 : Nat) : Int))) then
      (call iw_toBraid [tPILI ((List.getD x0 (Int.toNat x2) (0, [])).1, (List.getD x0 (Int.toNat x2) (0, [])).2)]).bind fun o2 =>
      bif (decide (0 ≤ x2) && decide (x2 < ((List.length x1 : Nat) : Int))) then
        call iw_toBraidS_3 [tLPILI x0, tLPILI (List.set x1 (Int.toNat x2) ((gPILI o2 0).1, (gPILI o2 0).2)), tI (wi64 (x2 + 1))]
      else none
    else none
  else
    some [tI 0, tLPILI x1]
theorem ew_toBraidS_3 (call : Oracle) (x0 : List (Int × List Int)) (x1 : List (Int × List Int)) (x2 : Int) : run1 E call iw_toBraidS_3 [tLPILI x0, tLPILI x1, tI x2] = bw_toBraidS_3 call x0 x1 x2 := by kernel_rfl
theorem vw_toBraidS_3 (x0 : List (Int × List Int)) (x1 : List (Int × List Int)) (x2 : Int) {o : List TV} (h : bw_toBraidS_3 R x0 x1 x2 = some o) : R iw_toBraidS_3 [tLPILI x0, tLPILI x1, tI x2] = some o := ev_step ((ew_toBraidS_3 R x0 x1 x2).trans h)
/-- laws.toBraidS -/
noncomputable def bw_toBraidS (call : Oracle) (a0 : List (Int × List Int)) : Option (List TV) :=
  bif (mkOk ((List.length a0 : Nat) : Int)) then
    (call iw_toBraidS_3 [tLPILI a0, tLPILI (List.replicate (Int.toNat ((List.length a0 : Nat) : Int)) (0, [])), tI 0]).bind fun o3 =>
    some [tLPILI (gLPILI o3 1)]
  else none
theorem ew_toBraidS (call : Oracle) (a0 : List (Int × List Int)) : run1 E call iw_toBraidS [tLPILI a0] = bw_toBraidS call a0 := by kernel_rfl
theorem vw_toBraidS (a0 : List (Int × List Int)) {o : List TV} (h : bw_toBraidS R a0 = some o) : R iw_toBraidS [tLPILI a0] = some o := ev_step ((ew_toBraidS R a0).trans h)
/-- spec.l01In -/
noncomputable def bs_l01In (call : Oracle) (a0 : Int) (a1 : Int) (a2 : Int) : Option (List TV) :=
  bif decide (a1 ≤ a0) then
    some [tB (decide (a0 ≤ a2))]
  else
    some [tB false]
theorem es_l01In (call : Oracle) (a0 : Int) (a1 : Int) (a2 : Int) : run1 E call is_l01In [tI a0, tI a1, tI a2] = bs_l01In call a0 a1 a2 := by kernel_rfl
theorem vs_l01In (a0 : Int) (a1 : Int) (a2 : Int) {o : List TV} (h : bs_l01In R a0 a1 a2 = some o) : R is_l01In [tI a0, tI a1, tI a2] = some o := ev_step ((es_l01In R a0 a1 a2).trans h)
/-- spec.l01Is loop 4 -/
noncomputable def bs_l01Is_4 (call : Oracle) (x0 : Int) (x1 : List Int) (x2 : Int) : Option (List TV) :=
  bif decide (x2 < ((List.length x1 : Nat) : Int)) then
    bif (decide (0 ≤ x2) && decide (x2 < ((List.length x1 : Nat) : Int))) then
      (call is_l01In [tI (List.getD x1 (Int.toNat x2) 0), tI 1, tI (wi64 (x0 - 1))]).bind fun o4 =>
      bif (!(gB o4 0)) then
        (call is_l01In [tI (wi64 (0 - (List.getD x1 (Int.toNat x2) 0))), tI 1, tI (wi64 (x0 - 1))]).bind fun o5 =>
        bif (!(gB o5 0)) then
          some [tI 1, tB false]
        else
          call is_l01Is_4 [tI x0, tLI x1, tI (wi64 (x2 + 1))]
      else
        call is_l01Is_4 [tI x0, tLI x1, tI (wi64 (x2 + 1))]
    else none
  else
    some [tI 0]
theorem es_l01Is_4 (call : Oracle) (x0 : Int) (x1 : List Int) (x2 : Int) : run1 E call is_l01Is_4 [tI x0, tLI x1, tI x2] = bs_l01Is_4 call x0 x1 x2 := by kernel_rfl
theorem vs_l01Is_4 (x0 : Int) (x1 : List Int) (x2 : Int) {o : List TV} (h : bs_l01Is_4 R x0 x1 x2 = some o) : R is_l01Is_4 [tI x0, tLI x1, tI x2] = some o := ev_step ((es_l01Is_4 R x0 x1 x2).trans h)
/-- spec.l01Is -/
noncomputable def bs_l01Is (call : Oracle) (a0 : Int × List Int) : Option (List TV) :=
  (call is_l01In [tI a0.1, tI 1, tI 8]).bind fun o1 =>
  bif (!(gB o1 0)) then
    some [tB false]
  else
    bif decide (200 < ((List.length a0.2 : Nat) : Int)) then
      some [tB false]
    else
      (call is_l01Is_4 [tI a0.1, tLI a0.2, tI 0]).bind fun o6 =>
      bif ((gI o6 0) == 0) then
        some [tB true]
      else
        some [tB (gB o6 1)]
theorem es_l01Is (call : Oracle) (a0 : Int × List Int) : run1 E call is_l01Is [tPILI a0] = bs_l01Is call a0 := by kernel_rfl
theorem vs_l01Is (a0 : Int × List Int) {o : List TV} (h : bs_l01Is R a0 = some o) : R is_l01Is [tPILI a0] = some o := ev_step ((es_l01Is R a0).trans h)
/-- spec.l01Inverse loop 3 -/
noncomputable def bs_l01Inverse_3 (call : Oracle) (x0 : List Int) (x1 : List Int) (x2 : Int) : Option (List TV) :=
  bif decide (0 ≤ x2) then
    bif (decide (0 ≤ x2) && decide (x2 < ((List.length x0 : Nat) : Int))) then
      bif (apOk x1 [(wi64 (0 - (List.getD x0 (Int.toNat x2) 0)))]) then
        call is_l01Inverse_3 [tLI x0, tLI (x1 ++ [(wi64 (0 - (List.getD x0 (Int.toNat x2) 0)))]), tI (wi64 (x2 - 1))]
      else none
    else none
  else
    some [tI 0, tLI x1]
theorem es_l01Inverse_3 (call : Oracle) (x0 : List Int) (x1 : List Int) (x2 : Int) : run1 E call is_l01Inverse_3 [tLI x0, tLI x1, tI x2] = bs_l01Inverse_3 call x0 x1 x2 := by kernel_rfl
theorem vs_l01Inverse_3 (x0 : List Int) (x1 : List Int) (x2 : Int) {o : List TV} (h : bs_l01Inverse_3 R x0 x1 x2 = some o) : R is_l01Inverse_3 [tLI x0, tLI x1, tI x2] = some o := ev_step ((es_l01Inverse_3 R x0 x1 x2).trans h)
/-- spec.l01Inverse -/
noncomputable def bs_l01Inverse (call : Oracle) (a0 : List Int) : Option (List TV) :=
  (call is_l01Inverse_3 [tLI a0, tLI [], tI (wi64 (((List.length a0 : Nat) : Int) - 1))]).bind fun o1 =>
  some [tLI (gLI o1 1)]
theorem es_l01Inverse (call : Oracle) (a0 : List Int) : run1 E call is_l01Inverse [tLI a0] = bs_l01Inverse call a0 := by kernel_rfl
theorem vs_l01Inverse (a0 : List Int) {o : List TV} (h : bs_l01Inverse R a0 = some o) : R is_l01Inverse [tLI a0] = some o := ev_step ((es_l01Inverse R a0).trans h)
/-- spec.l06Index -/
noncomputable def bs_l06Index (call : Oracle) (a0 : Int) : Option (List TV) :=
  some [tI (mx a0 (wi64 (0 - a0)))]
theorem es_l06Index (call : Oracle) (a0 : Int) : run1 E call is_l06Index [tI a0] = bs_l06Index call a0 := by kernel_rfl
theorem vs_l06Index (a0 : Int) {o : List TV} (h : bs_l06Index R a0 = some o) : R is_l06Index [tI a0] = some o := ev_step ((es_l06Index R a0).trans h)
/-- spec.l06Handle loop 2 -/
noncomputable def bs_l06Handle_2 (call : Oracle) (x0 : List Int) (x1 : Int) : Option (List TV) :=
  bif decide (x1 < ((List.length x0 : Nat) : Int)) then
    bif (decide (0 ≤ x1) && decide (x1 < ((List.length x0 : Nat) : Int))) then
      (call is_l06Index [tI (List.getD x0 (Int.toNat x1) 0)]).bind fun o5 =>
      (call is_l06Handle_6 [tLI x0, tI x1, tI (gI o5 0), tI (wi64 (x1 - 1))]).bind fun o6 =>
      bif ((gI o6 0) == 0) then
        call is_l06Handle_2 [tLI (gLI o6 1), tI (wi64 ((gI o6 2) + 1))]
      else
        some [tI 1, tI (gI o6 1), tI (gI o6 2), tB (gB o6 3)]
    else none
  else
    some [tI 0]
theorem es_l06Handle_2 (call : Oracle) (x0 : List Int) (x1 : Int) : run1 E call is_l06Handle_2 [tLI x0, tI x1] = bs_l06Handle_2 call x0 x1 := by kernel_rfl
theorem vs_l06Handle_2 (x0 : List Int) (x1 : Int) {o : List TV} (h : bs_l06Handle_2 R x0 x1 = some o) : R is_l06Handle_2 [tLI x0, tI x1] = some o := ev_step ((es_l06Handle_2 R x0 x1).trans h)
/-- spec.l06Handle loop 6 -/
noncomputable def bs_l06Handle_6 (call : Oracle) (x0 : List Int) (x1 : Int) (x2 : Int) (x3 : Int) : Option (List TV) :=
  bif decide (0 ≤ x3) then
    bif (decide (0 ≤ x3) && decide (x3 < ((List.length x0 : Nat) : Int))) then
      (call is_l06Index [tI (List.getD x0 (Int.toNat x3) 0)]).bind fun o3 =>
      bif (decide (0 ≤ x3) && decide (x3 < ((List.length x0 : Nat) : Int))) then
        bif (decide (0 ≤ x1) && decide (x1 < ((List.length x0 : Nat) : Int))) then
          bif ((List.getD x0 (Int.toNat x3) 0) == (wi64 (0 - (List.getD x0 (Int.toNat x1) 0)))) then
            some [tI 1, tI x3, tI x1, tB true]
          else
            bif ((gI o3 0) == x2) then
              some [tI 0, tLI x0, tI x1]
            else
              bif ((gI o3 0) == (wi64 (x2 - 1))) then
                some [tI 0, tLI x0, tI x1]
              else
                call is_l06Handle_6 [tLI x0, tI x1, tI x2, tI (wi64 (x3 - 1))]
        else none
      else none
    else none
  else
    some [tI 0, tLI x0, tI x1]
theorem es_l06Handle_6 (call : Oracle) (x0 : List Int) (x1 : Int) (x2 : Int) (x3 : Int) : run1 E call is_l06Handle_6 [tLI x0, tI x1, tI x2, tI x3] = bs_l06Handle_6 call x0 x1 x2 x3 := by kernel_rfl
theorem vs_l06Handle_6 (x0 : List Int) (x1 : Int) (x2 : Int) (x3 : Int) {o : List TV} (h : bs_l06Handle_6 R x0 x1 x2 x3 = some o) : R is_l06Handle_6 [tLI x0, tI x1, tI x2, tI x3] = some o := ev_step ((es_l06Handle_6 R x0 x1 x2 x3).trans h)
/-- spec.l06Handle -/
noncomputable def bs_l06Handle (call : Oracle) (a0 : List Int) : Option (List TV) :=
  (call is_l06Handle_2 [tLI a0, tI 0]).bind fun o7 =>
  bif ((gI o7 0) == 0) then
    some [tI 0, tI 0, tB false]
  else
    some [tI (gI o7 1), tI (gI o7 2), tB (gB o7 3)]
theorem es_l06Handle (call : Oracle) (a0 : List Int) : run1 E call is_l06Handle [tLI a0] = bs_l06Handle call a0 := by kernel_rfl
theorem vs_l06Handle (a0 : List Int) {o : List TV} (h : bs_l06Handle R a0 = some o) : R is_l06Handle [tLI a0] = some o := ev_step ((es_l06Handle R a0).trans h)
/-- spec.l01Own -/
noncomputable def bs_l01Own (call : Oracle) (a0 : List Int) : Option (List TV) :=
  bif (apOk [] a0) then
    some [tLI a0]
  else none
theorem es_l01Own (call : Oracle) (a0 : List Int) : run1 E call is_l01Own [tLI a0] = bs_l01Own call a0 := by kernel_rfl
theorem vs_l01Own (a0 : List Int) {o : List TV} (h : bs_l01Own R a0 = some o) : R is_l01Own [tLI a0] = some o := ev_step ((es_l01Own R a0).trans h)
/-- spec.l06Step loop 5 -/
noncomputable def bs_l06Step_5 (call : Oracle) (x0 : List Int) (x1 : List Int) (x2 : Int) (x3 : Int) (x4 : Int) (x5 : Int) : Option (List TV) :=
  bif decide (x5 < x2) then
    bif (decide (0 ≤ x5) && decide (x5 < ((List.length x0 : Nat) : Int))) then
      (call is_l06Index [tI (List.getD x0 (Int.toNat x5) 0)]).bind fun o4 =>
      bif ((gI o4 0) != (wi64 (x3 + 1))) then
        bif (apOk x1 [(List.getD x0 (Int.toNat x5) 0)]) then
          call is_l06Step_5 [tLI x0, tLI (x1 ++ [(List.getD x0 (Int.toNat x5) 0)]), tI x2, tI x3, tI x4, tI (wi64 (x5 + 1))]
        else none
      else
        bif decide ((List.getD x0 (Int.toNat x5) 0) < 0) then
          bif (apOk x1 [(wi64 (x4 * (wi64 (x3 + 1)))), (wi64 (0 - x3)), (wi64 ((wi64 (0 - x4)) * (wi64 (x3 + 1))))]) then
            call is_l06Step_5 [tLI x0, tLI (x1 ++ [(wi64 (x4 * (wi64 (x3 + 1)))), (wi64 (0 - x3)), (wi64 ((wi64 (0 - x4)) * (wi64 (x3 + 1))))]), tI x2, tI x3, tI x4, tI (wi64 (x5 + 1))]
          else none
        else
          bif (apOk x1 [(wi64 (x4 * (wi64 (x3 + 1)))), x3, (wi64 ((wi64 (0 - x4)) * (wi64 (x3 + 1))))]) then
            call is_l06Step_5 [tLI x0, tLI (x1 ++ [(wi64 (x4 * (wi64 (x3 + 1)))), x3, (wi64 ((wi64 (0 - x4)) * (wi64 (x3 + 1))))]), tI x2, tI x3, tI x4, tI (wi64 (x5 + 1))]
          else none
    else none
  else
    some [tI 0, tLI x0, tLI x1, tI x2]
theorem es_l06Step_5 (call : Oracle) (x0 : List Int) (x1 : List Int) (x2 : Int) (x3 : Int) (x4 : Int) (x5 : Int) : run1 E call is_l06Step_5 [tLI x0, tLI x1, tI x2, tI x3, tI x4, tI x5] = bs_l06Step_5 call x0 x1 x2 x3 x4 x5 := by kernel_rfl
theorem vs_l06Step_5 (x0 : List Int) (x1 : List Int) (x2 : Int) (x3 : Int) (x4 : Int) (x5 : Int) {o : List TV} (h : bs_l06Step_5 R x0 x1 x2 x3 x4 x5 = some o) : R is_l06Step_5 [tLI x0, tLI x1, tI x2, tI x3, tI x4, tI x5] = some o := ev_step ((es_l06Step_5 R x0 x1 x2 x3 x4 x5).trans h)
/-- spec.l06Step -/
noncomputable def bs_l06Step (call : Oracle) (a0 : List Int) (a1 : Int) (a2 : Int) : Option (List TV) :=
  bif (decide (0 ≤ a1) && decide (a1 ≤ ((List.length a0 : Nat) : Int))) then
    (call is_l01Own [tLI (List.take (Int.toNat a1) a0)]).bind fun o1 =>
    bif (decide (0 ≤ a1) && decide (a1 < ((List.length a0 : Nat) : Int))) then
      (call is_l06Index [tI (List.getD a0 (Int.toNat a1) 0)]).bind fun o2 =>
      bif (decide (0 ≤ a2) && decide (a2 < ((List.length a0 : Nat) : Int))) then
        bif decide ((List.getD a0 (Int.toNat a2) 0) < 0) then
          (call is_l06Step_5 [tLI a0, tLI (gLI o1 0), tI a2, tI (gI o2 0), tI (-1), tI (wi64 (a1 + 1))]).bind fun o5 =>
          bif (decide (0 ≤ (wi64 ((gI o5 3) + 1))) && decide ((wi64 ((gI o5 3) + 1)) ≤ ((List.length (gLI o5 1) : Nat) : Int))) then
            bif (apOk (gLI o5 2) (List.drop (Int.toNat (wi64 ((gI o5 3) + 1))) (gLI o5 1))) then
              some [tLI ((gLI o5 2) ++ (List.drop (Int.toNat (wi64 ((gI o5 3) + 1))) (gLI o5 1)))]
            else none
          else none
        else
          (call is_l06Step_5 [tLI a0, tLI (gLI o1 0), tI a2, tI (gI o2 0), tI 1, tI (wi64 (a1 + 1))]).bind fun o6 =>
          bif (decide (0 ≤ (wi64 ((gI o6 3) + 1))) && decide ((wi64 ((gI o6 3) + 1)) ≤ ((List.length (gLI o6 1) : Nat) : Int))) then
            bif (apOk (gLI o6 2) (List.drop (Int.toNat (wi64 ((gI o6 3) + 1))) (gLI o6 1))) then
              some [tLI ((gLI o6 2) ++ (List.drop (Int.toNat (wi64 ((gI o6 3) + 1))) (gLI o6 1)))]
            else none
          else none
      else none
    else none
  else none
theorem es_l06Step (call : Oracle) (a0 : List Int) (a1 : Int) (a2 : Int) : run1 E call is_l06Step [tLI a0, tI a1, tI a2] = bs_l06Step call a0 a1 a2 := by kernel_rfl
theorem vs_l06Step (a0 : List Int) (a1 : Int) (a2 : Int) {o : List TV} (h : bs_l06Step R a0 a1 a2 = some o) : R is_l06Step [tLI a0, tI a1, tI a2] = some o := ev_step ((es_l06Step R a0 a1 a2).trans h)
/-- spec.l06Reduce loop 3 -/
noncomputable def bs_l06Reduce_3 (call : Oracle) (x0 : List Int) (x1 : Int) : Option (List TV) :=
  bif decide (2000 < ((List.length x0 : Nat) : Int)) then
    some [tI 0, tLI [], tB false]
  else
    (call is_l06Handle [tLI x0]).bind fun o3 =>
    bif (!(gB o3 2)) then
      some [tI 0, tLI x0, tB true]
    else
      bif (x1 == 3000) then
        some [tI 0, tLI [], tB false]
      else
        (call is_l06Step [tLI x0, tI (gI o3 0), tI (gI o3 1)]).bind fun o4 =>
        call is_l06Reduce_3 [tLI (gLI o4 0), tI (wi64 (x1 + 1))]
theorem es_l06Reduce_3 (call : Oracle) (x0 : List Int) (x1 : Int) : run1 E call is_l06Reduce_3 [tLI x0, tI x1] = bs_l06Reduce_3 call x0 x1 := by kernel_rfl
theorem vs_l06Reduce_3 (x0 : List Int) (x1 : Int) {o : List TV} (h : bs_l06Reduce_3 R x0 x1 = some o) : R is_l06Reduce_3 [tLI x0, tI x1] = some o := ev_step ((es_l06Reduce_3 R x0 x1).trans h)
/-- spec.l06Reduce -/
noncomputable def bs_l06Reduce (call : Oracle) (a0 : List Int) : Option (List TV) :=
  (call is_l06Reduce_3 [tLI a0, tI 0]).bind fun o5 =>
  some [tLI (gLI o5 1), tB (gB o5 2)]
theorem es_l06Reduce (call : Oracle) (a0 : List Int) : run1 E call is_l06Reduce [tLI a0] = bs_l06Reduce call a0 := by kernel_rfl
theorem vs_l06Reduce (a0 : List Int) {o : List TV} (h : bs_l06Reduce R a0 = some o) : R is_l06Reduce [tLI a0] = some o := ev_step ((es_l06Reduce R a0).trans h)
/-- spec.l06Main loop 3 -/
noncomputable def bs_l06Main_3 (call : Oracle) (x0 : List Int) (x1 : Int) (x2 : Int) : Option (List TV) :=
  bif decide (x2 < ((List.length x0 : Nat) : Int)) then
    bif (decide (0 ≤ x2) && decide (x2 < ((List.length x0 : Nat) : Int))) then
      (call is_l06Index [tI (List.getD x0 (Int.toNat x2) 0)]).bind fun o2 =>
      call is_l06Main_3 [tLI x0, tI (mn x1 (gI o2 0)), tI (wi64 (x2 + 1))]
    else none
  else
    some [tI 0, tLI x0, tI x1]
theorem es_l06Main_3 (call : Oracle) (x0 : List Int) (x1 : Int) (x2 : Int) : run1 E call is_l06Main_3 [tLI x0, tI x1, tI x2] = bs_l06Main_3 call x0 x1 x2 := by kernel_rfl
theorem vs_l06Main_3 (x0 : List Int) (x1 : Int) (x2 : Int) {o : List TV} (h : bs_l06Main_3 R x0 x1 x2 = some o) : R is_l06Main_3 [tLI x0, tI x1, tI x2] = some o := ev_step ((es_l06Main_3 R x0 x1 x2).trans h)
/-- spec.l06Main loop 8 -/
noncomputable def bs_l06Main_8 (call : Oracle) (x0 : List Int) (x1 : Int) (x2 : Bool) (x3 : Bool) (x4 : Int) : Option (List TV) :=
  bif decide (x4 < ((List.length x0 : Nat) : Int)) then
    bif x2 then
      bif x3 then
        call is_l06Main_8 [tLI x0, tI x1, tB true, tB true, tI (wi64 (x4 + 1))]
      else
        bif (decide (0 ≤ x4) && decide (x4 < ((List.length x0 : Nat) : Int))) then
          call is_l06Main_8 [tLI x0, tI x1, tB true, tB ((List.getD x0 (Int.toNat x4) 0) == (wi64 (0 - x1))), tI (wi64 (x4 + 1))]
        else none
    else
      bif (decide (0 ≤ x4) && decide (x4 < ((List.length x0 : Nat) : Int))) then
        bif x3 then
          call is_l06Main_8 [tLI x0, tI x1, tB ((List.getD x0 (Int.toNat x4) 0) == x1), tB true, tI (wi64 (x4 + 1))]
        else
          bif (decide (0 ≤ x4) && decide (x4 < ((List.length x0 : Nat) : Int))) then
            call is_l06Main_8 [tLI x0, tI x1, tB ((List.getD x0 (Int.toNat x4) 0) == x1), tB ((List.getD x0 (Int.toNat x4) 0) == (wi64 (0 - x1))), tI (wi64 (x4 + 1))]
          else none
      else none
  else
    some [tI 0, tI x1, tB x2, tB x3]
theorem es_l06Main_8 (call : Oracle) (x0 : List Int) (x1 : Int) (x2 : Bool) (x3 : Bool) (x4 : Int) : run1 E call is_l06Main_8 [tLI x0, tI x1, tB x2, tB x3, tI x4] = bs_l06Main_8 call x0 x1 x2 x3 x4 := by kernel_rfl
theorem vs_l06Main_8 (x0 : List Int) (x1 : Int) (x2 : Bool) (x3 : Bool) (x4 : Int) {o : List TV} (h : bs_l06Main_8 R x0 x1 x2 x3 x4 = some o) : R is_l06Main_8 [tLI x0, tI x1, tB x2, tB x3, tI x4] = some o := ev_step ((es_l06Main_8 R x0 x1 x2 x3 x4).trans h)
/-- spec.l06Main -/
noncomputable def bs_l06Main (call : Oracle) (a0 : List Int) : Option (List TV) :=
  (call is_l06Main_3 [tLI a0, tI 8, tI 0]).bind fun o3 =>
  (call is_l06Main_8 [tLI (gLI o3 1), tI (gI o3 2), tB false, tB false, tI 0]).bind fun o4 =>
  bif (gB o4 2) then
    bif (!(gB o4 3)) then
      some [tI (gI o4 1), tI 1]
    else
      bif (gB o4 3) then
        bif (!(gB o4 2)) then
          some [tI (gI o4 1), tI (-1)]
        else
          some [tI (gI o4 1), tI 0]
      else
        some [tI (gI o4 1), tI 0]
  else
    bif (gB o4 3) then
      bif (!(gB o4 2)) then
        some [tI (gI o4 1), tI (-1)]
      else
        some [tI (gI o4 1), tI 0]
    else
      some [tI (gI o4 1), tI 0]
theorem es_l06Main (call : Oracle) (a0 : List Int) : run1 E call is_l06Main [tLI a0] = bs_l06Main call a0 := by kernel_rfl
theorem vs_l06Main (a0 : List Int) {o : List TV} (h : bs_l06Main R a0 = some o) : R is_l06Main [tLI a0] = some o := ev_step ((es_l06Main R a0).trans h)
/-- spec.l06Letter -/
noncomputable def bs_l06Letter (call : Oracle) (a0 : List Int) : Option (List TV) :=
  (call is_l06Reduce [tLI a0]).bind fun o1 =>
  bif (!(gB o1 1)) then
    some [tI 0, tB false]
  else
    (call is_l06Main [tLI (gLI o1 0)]).bind fun o2 =>
    some [tI (wi64 ((gI o2 0) * (gI o2 1))), tB true]
theorem es_l06Letter (call : Oracle) (a0 : List Int) : run1 E call is_l06Letter [tLI a0] = bs_l06Letter call a0 := by kernel_rfl
theorem vs_l06Letter (a0 : List Int) {o : List TV} (h : bs_l06Letter R a0 = some o) : R is_l06Letter [tLI a0] = some o := ev_step ((es_l06Letter R a0).trans h)
/-- spec.l06Compare -/
noncomputable def bs_l06Compare (call : Oracle) (a0 : List Int) (a1 : List Int) : Option (List TV) :=
  (call is_l01Inverse [tLI a0]).bind fun o1 =>
  bif (apOk (gLI o1 0) a1) then
    (call is_l06Letter [tLI ((gLI o1 0) ++ a1)]).bind fun o2 =>
    bif decide (0 < (gI o2 0)) then
      some [tI (-1), tB (gB o2 1)]
    else
      bif decide ((gI o2 0) < 0) then
        some [tI 1, tB (gB o2 1)]
      else
        some [tI 0, tB (gB o2 1)]
  else none
theorem es_l06Compare (call : Oracle) (a0 : List Int) (a1 : List Int) : run1 E call is_l06Compare [tLI a0, tLI a1] = bs_l06Compare call a0 a1 := by kernel_rfl
theorem vs_l06Compare (a0 : List Int) (a1 : List Int) {o : List TV} (h : bs_l06Compare R a0 a1 = some o) : R is_l06Compare [tLI a0, tLI a1] = some o := ev_step ((es_l06Compare R a0 a1).trans h)
/-- spec.SortBraids loop 2 -/
noncomputable def bs_SortBraids_2 (call : Oracle) (x0 : List (Int × List Int)) (x1 : Int) : Option (List TV) :=
  bif decide (x1 < ((List.length x0 : Nat) : Int)) then
    bif (decide (0 ≤ x1) && decide (x1 < ((List.length x0 : Nat) : Int))) then
      (call is_l01Is [tPILI ((List.getD x0 (Int.toNat x1) (0, [])).1, (List.getD x0 (Int.toNat x1) (0, [])).2)]).bind fun o2 =>
      bif (!(gB o2 0)) then
        some [tI 1, tLI [], tI 1]
      else
        call is_SortBraids_2 [tLPILI x0, tI (wi64 (x1 + 1))]
    else none
  else
    some [tI 0, tLPILI x0]
theorem es_SortBraids_2 (call : Oracle) (x0 : List (Int × List Int)) (x1 : Int) : run1 E call is_SortBraids_2 [tLPILI x0, tI x1] = bs_SortBraids_2 call x0 x1 := by kernel_rfl
theorem vs_SortBraids_2 (x0 : List (Int × List Int)) (x1 : Int) {o : List TV} (h : bs_SortBraids_2 R x0 x1 = some o) : R is_SortBraids_2 [tLPILI x0, tI x1] = some o := ev_step ((es_SortBraids_2 R x0 x1).trans h)
/-- spec.SortBraids loop 9 -/
noncomputable def bs_SortBraids_9 (call : Oracle) (x0 : List (Int × List Int)) (x1 : Int) : Option (List TV) :=
  bif decide (x1 < ((List.length x0 : Nat) : Int)) then
    bif (decide (0 ≤ x1) && decide (x1 < ((List.length x0 : Nat) : Int))) then
      bif decide (0 < ((List.length x0 : Nat) : Int)) then
        bif ((List.getD x0 (Int.toNat x1) (0, [])).1 != (List.getD x0 0 (0, [])).1) then
          some [tI 1, tLI [], tI 2]
        else
          call is_SortBraids_9 [tLPILI x0, tI (wi64 (x1 + 1))]
      else none
    else none
  else
    some [tI 0, tLPILI x0]
theorem es_SortBraids_9 (call : Oracle) (x0 : List (Int × List Int)) (x1 : Int) : run1 E call is_SortBraids_9 [tLPILI x0, tI x1] = bs_SortBraids_9 call x0 x1 := by kernel_rfl
theorem vs_SortBraids_9 (x0 : List (Int × List Int)) (x1 : Int) {o : List TV} (h : bs_SortBraids_9 R x0 x1 = some o) : R is_SortBraids_9 [tLPILI x0, tI x1] = some o := ev_step ((es_SortBraids_9 R x0 x1).trans h)
/-- spec.SortBraids loop 15 -/
noncomputable def bs_SortBraids_15 (call : Oracle) (x0 : List (Int × List Int)) (x1 : List Int) (x2 : Int) : Option (List TV) :=
  bif decide (x2 < ((List.length x0 : Nat) : Int)) then
    (call is_SortBraids_18 [tLPILI x0, tAi10 x1, tI x2, tI 0]).bind fun o8 =>
    bif ((gI o8 0) == 0) then
      call is_SortBraids_15 [tLPILI (gLPILI o8 1), tAi10 (gAi10 o8 2), tI (wi64 ((gI o8 3) + 1))]
    else
      some [tI 1, tLI (gLI o8 1), tI (gI o8 2)]
  else
    some [tI 0, tLPILI x0, tAi10 x1]
theorem es_SortBraids_15 (call : Oracle) (x0 : List (Int × List Int)) (x1 : List Int) (x2 : Int) : run1 E call is_SortBraids_15 [tLPILI x0, tAi10 x1, tI x2] = bs_SortBraids_15 call x0 x1 x2 := by kernel_rfl
theorem vs_SortBraids_15 (x0 : List (Int × List Int)) (x1 : List Int) (x2 : Int) {o : List TV} (h : bs_SortBraids_15 R x0 x1 x2 = some o) : R is_SortBraids_15 [tLPILI x0, tAi10 x1, tI x2] = some o := ev_step ((es_SortBraids_15 R x0 x1 x2).trans h)
/-- spec.SortBraids loop 18 -/
noncomputable def bs_SortBraids_18 (call : Oracle) (x0 : List (Int × List Int)) (x1 : List Int) (x2 : Int) (x3 : Int) : Option (List TV) :=
  bif decide (x3 < x2) then
    bif (decide (0 ≤ x3) && decide (x3 < ((List.length x0 : Nat) : Int))) then
      bif (decide (0 ≤ x2) && decide (x2 < ((List.length x0 : Nat) : Int))) then
        (call is_l06Compare [tLI ((List.getD x0 (Int.toNat x3) (0, [])).2), tLI ((List.getD x0 (Int.toNat x2) (0, [])).2)]).bind fun o6 =>
        bif (!(gB o6 1)) then
          some [tI 1, tLI [], tI 3]
        else
          bif decide ((gI o6 0) ≤ 0) then
            bif (decide (0 ≤ x2) && decide (x2 < 10)) then
              bif (decide (0 ≤ x2) && decide (x2 < 10)) then
                call is_SortBraids_18 [tLPILI x0, tAi10 (List.set x1 (Int.toNat x2) (wi64 ((List.getD x1 (Int.toNat x2) 0) + 1))), tI x2, tI (wi64 (x3 + 1))]
              else none
            else none
          else
            bif (decide (0 ≤ x3) && decide (x3 < 10)) then
              bif (decide (0 ≤ x3) && decide (x3 < 10)) then
                call is_SortBraids_18 [tLPILI x0, tAi10 (List.set x1 (Int.toNat x3) (wi64 ((List.getD x1 (Int.toNat x3) 0) + 1))), tI x2, tI (wi64 (x3 + 1))]
              else none
            else none
      else none
    else none
  else
    some [tI 0, tLPILI x0, tAi10 x1, tI x2]
theorem es_SortBraids_18 (call : Oracle) (x0 : List (Int × List Int)) (x1 : List Int) (x2 : Int) (x3 : Int) : run1 E call is_SortBraids_18 [tLPILI x0, tAi10 x1, tI x2, tI x3] = bs_SortBraids_18 call x0 x1 x2 x3 := by kernel_rfl
theorem vs_SortBraids_18 (x0 : List (Int × List Int)) (x1 : List Int) (x2 : Int) (x3 : Int) {o : List TV} (h : bs_SortBraids_18 R x0 x1 x2 x3 = some o) : R is_SortBraids_18 [tLPILI x0, tAi10 x1, tI x2, tI x3] = some o := ev_step ((es_SortBraids_18 R x0 x1 x2 x3).trans h)
/-- spec.SortBraids loop 28 -/
noncomputable def bs_SortBraids_28 (call : Oracle) (x0 : List (Int × List Int)) (x1 : List Int) (x2 : List Int) (x3 : Int) : Option (List TV) :=
  bif decide (x3 < ((List.length x0 : Nat) : Int)) then
    bif (decide (0 ≤ x3) && decide (x3 < 10)) then
      bif (decide (0 ≤ (List.getD x1 (Int.toNat x3) 0)) && decide ((List.getD x1 (Int.toNat x3) 0) < ((List.length x2 : Nat) : Int))) then
        call is_SortBraids_28 [tLPILI x0, tAi10 x1, tLI (List.set x2 (Int.toNat (List.getD x1 (Int.toNat x3) 0)) x3), tI (wi64 (x3 + 1))]
      else none
    else none
  else
    some [tI 0, tLI x2]
theorem es_SortBraids_28 (call : Oracle) (x0 : List (Int × List Int)) (x1 : List Int) (x2 : List Int) (x3 : Int) : run1 E call is_SortBraids_28 [tLPILI x0, tAi10 x1, tLI x2, tI x3] = bs_SortBraids_28 call x0 x1 x2 x3 := by kernel_rfl
theorem vs_SortBraids_28 (x0 : List (Int × List Int)) (x1 : List Int) (x2 : List Int) (x3 : Int) {o : List TV} (h : bs_SortBraids_28 R x0 x1 x2 x3 = some o) : R is_SortBraids_28 [tLPILI x0, tAi10 x1, tLI x2, tI x3] = some o := ev_step ((es_SortBraids_28 R x0 x1 x2 x3).trans h)
/-- spec.SortBraids -/
noncomputable def bs_SortBraids (call : Oracle) (a0 : List (Int × List Int)) : Option (List TV) :=
  (call is_SortBraids_2 [tLPILI a0, tI 0]).bind fun o3 =>
  bif ((gI o3 0) == 0) then
    bif decide (10 < ((List.length (gLPILI o3 1) : Nat) : Int)) then
      some [tLI [], tI 2]
    else
      (call is_SortBraids_9 [tLPILI (gLPILI o3 1), tI 0]).bind fun o4 =>
      bif ((gI o4 0) == 0) then
        (call is_SortBraids_15 [tLPILI (gLPILI o4 1), tAi10 (List.replicate 10 0), tI 0]).bind fun o9 =>
        bif ((gI o9 0) == 0) then
          bif (mkOk ((List.length (gLPILI o9 1) : Nat) : Int)) then
            (call is_SortBraids_28 [tLPILI (gLPILI o9 1), tAi10 (gAi10 o9 2), tLI (List.replicate (Int.toNat ((List.length (gLPILI o9 1) : Nat) : Int)) 0), tI 0]).bind fun o10 =>
            some [tLI (gLI o10 1), tI 0]
          else none
        else
          some [tLI (gLI o9 1), tI (gI o9 2)]
      else
        some [tLI (gLI o4 1), tI (gI o4 2)]
  else
    some [tLI (gLI o3 1), tI (gI o3 2)]
theorem es_SortBraids (call : Oracle) (a0 : List (Int × List Int)) : run1 E call is_SortBraids [tLPILI a0] = bs_SortBraids call a0 := by kernel_rfl
theorem vs_SortBraids (a0 : List (Int × List Int)) {o : List TV} (h : bs_SortBraids R a0 = some o) : R is_SortBraids [tLPILI a0] = some o := ev_step ((es_SortBraids R a0).trans h)
/-- impl.within -/
noncomputable def bi_within (call : Oracle) (a0 : Int) (a1 : Int) (a2 : Int) : Option (List TV) :=
  bif decide (a1 ≤ a0) then
    some [tB (decide (a0 ≤ a2))]
  else
    some [tB false]
theorem ei_within (call : Oracle) (a0 : Int) (a1 : Int) (a2 : Int) : run1 E call ii_within [tI a0, tI a1, tI a2] = bi_within call a0 a1 a2 := by kernel_rfl
theorem vi_within (a0 : Int) (a1 : Int) (a2 : Int) {o : List TV} (h : bi_within R a0 a1 a2 = some o) : R ii_within [tI a0, tI a1, tI a2] = some o := ev_step ((ei_within R a0 a1 a2).trans h)
/-- impl.isCount -/
noncomputable def bi_isCount (call : Oracle) (a0 : Int) : Option (List TV) :=
  (call ii_within [tI a0, tI 1, tI 8]).bind fun o1 =>
  some [tB (gB o1 0)]
theorem ei_isCount (call : Oracle) (a0 : Int) : run1 E call ii_isCount [tI a0] = bi_isCount call a0 := by kernel_rfl
theorem vi_isCount (a0 : Int) {o : List TV} (h : bi_isCount R a0 = some o) : R ii_isCount [tI a0] = some o := ev_step ((ei_isCount R a0).trans h)
/-- impl.isLetter -/
noncomputable def bi_isLetter (call : Oracle) (a0 : Int) (a1 : Int) : Option (List TV) :=
  bif (a0 != 0) then
    (call ii_within [tI a0, tI (wi64 (1 - a1)), tI (wi64 (a1 - 1))]).bind fun o1 =>
    some [tB (gB o1 0)]
  else
    some [tB false]
theorem ei_isLetter (call : Oracle) (a0 : Int) (a1 : Int) : run1 E call ii_isLetter [tI a0, tI a1] = bi_isLetter call a0 a1 := by kernel_rfl
theorem vi_isLetter (a0 : Int) (a1 : Int) {o : List TV} (h : bi_isLetter R a0 a1 = some o) : R ii_isLetter [tI a0, tI a1] = some o := ev_step ((ei_isLetter R a0 a1).trans h)
/-- impl.IsBraid loop 4 -/
noncomputable def bi_IsBraid_4 (call : Oracle) (x0 : Int) (x1 : List Int) (x2 : Int) (x3 : Int) : Option (List TV) :=
  bif decide (x3 < x2) then
    bif (decide (0 ≤ x3) && decide (x3 < ((List.length x1 : Nat) : Int))) then
      (call ii_isLetter [tI (List.getD x1 (Int.toNat x3) 0), tI x0]).bind fun o3 =>
      bif (!(gB o3 0)) then
        some [tI 1, tB false]
      else
        call ii_IsBraid_4 [tI x0, tLI x1, tI x2, tI (wi64 (x3 + 1))]
    else none
  else
    some [tI 0]
theorem ei_IsBraid_4 (call : Oracle) (x0 : Int) (x1 : List Int) (x2 : Int) (x3 : Int) : run1 E call ii_IsBraid_4 [tI x0, tLI x1, tI x2, tI x3] = bi_IsBraid_4 call x0 x1 x2 x3 := by kernel_rfl
theorem vi_IsBraid_4 (x0 : Int) (x1 : List Int) (x2 : Int) (x3 : Int) {o : List TV} (h : bi_IsBraid_4 R x0 x1 x2 x3 = some o) : R ii_IsBraid_4 [tI x0, tLI x1, tI x2, tI x3] = some o := ev_step ((ei_IsBraid_4 R x0 x1 x2 x3).trans h)
/-- impl.IsBraid -/
noncomputable def bi_IsBraid (call : Oracle) (a0 : Int × List Int) : Option (List TV) :=
  (call ii_isCount [tI a0.1]).bind fun o1 =>
  bif (!(gB o1 0)) then
    some [tB false]
  else
    bif decide (200 < ((List.length a0.2 : Nat) : Int)) then
      some [tB false]
    else
      (call ii_IsBraid_4 [tI a0.1, tLI a0.2, tI ((List.length a0.2 : Nat) : Int), tI 0]).bind fun o4 =>
      bif ((gI o4 0) == 0) then
        some [tB true]
      else
        some [tB (gB o4 1)]
theorem ei_IsBraid (call : Oracle) (a0 : Int × List Int) : run1 E call ii_IsBraid [tPILI a0] = bi_IsBraid call a0 := by kernel_rfl
theorem vi_IsBraid (a0 : Int × List Int) {o : List TV} (h : bi_IsBraid R a0 = some o) : R ii_IsBraid [tPILI a0] = some o := ev_step ((ei_IsBraid R a0).trans h)
/-- impl.SortBraids$1 -/
noncomputable def bi_SortBraidsK1 (call : Oracle) (a0 : Int × List Int) : Option (List TV) :=
  (call ii_IsBraid [tPILI (a0.1, a0.2)]).bind fun o1 =>
  some [tB (!(gB o1 0))]
theorem ei_SortBraidsK1 (call : Oracle) (a0 : Int × List Int) : run1 E call ii_SortBraidsK1 [tPILI a0] = bi_SortBraidsK1 call a0 := by kernel_rfl
theorem vi_SortBraidsK1 (a0 : Int × List Int) {o : List TV} (h : bi_SortBraidsK1 R a0 = some o) : R ii_SortBraidsK1 [tPILI a0] = some o := ev_step ((ei_SortBraidsK1 R a0).trans h)
/-- slices.IndexFunc[[]impl.Braid,impl.Braid] loop 2 -/
noncomputable def bg_IndexFunc___i_Braid_i_Braid__2 (call : Oracle) (x0 : List (Int × List Int)) (x1 : Int) (x2 : Int) : Option (List TV) :=
  bif decide (x2 < x1) then
    bif (decide (0 ≤ x2) && decide (x2 < ((List.length x0 : Nat) : Int))) then
      (call ii_SortBraidsK1 [tPILI ((List.getD x0 (Int.toNat x2) (0, [])).1, (List.getD x0 (Int.toNat x2) (0, [])).2)]).bind fun o2 =>
      bif (gB o2 0) then
        some [tI 1, tI x2]
      else
        call ig_IndexFunc___i_Braid_i_Braid__2 [tLPILI x0, tI x1, tI (wi64 (x2 + 1))]
    else none
  else
    some [tI 0]
theorem eg_IndexFunc___i_Braid_i_Braid__2 (call : Oracle) (x0 : List (Int × List Int)) (x1 : Int) (x2 : Int) : run1 E call ig_IndexFunc___i_Braid_i_Braid__2 [tLPILI x0, tI x1, tI x2] = bg_IndexFunc___i_Braid_i_Braid__2 call x0 x1 x2 := by kernel_rfl
theorem vg_IndexFunc___i_Braid_i_Braid__2 (x0 : List (Int × List Int)) (x1 : Int) (x2 : Int) {o : List TV} (h : bg_IndexFunc___i_Braid_i_Braid__2 R x0 x1 x2 = some o) : R ig_IndexFunc___i_Braid_i_Braid__2 [tLPILI x0, tI x1, tI x2] = some o := ev_step ((eg_IndexFunc___i_Braid_i_Braid__2 R x0 x1 x2).trans h)
/-- slices.IndexFunc[[]impl.Braid,impl.Braid] -/
noncomputable def bg_IndexFunc___i_Braid_i_Braid_ (call : Oracle) (a0 : List (Int × List Int)) : Option (List TV) :=
  (call ig_IndexFunc___i_Braid_i_Braid__2 [tLPILI a0, tI ((List.length a0 : Nat) : Int), tI 0]).bind fun o3 =>
  bif ((gI o3 0) == 0) then
    some [tI (-1)]
  else
    some [tI (gI o3 1)]
theorem eg_IndexFunc___i_Braid_i_Braid_ (call : Oracle) (a0 : List (Int × List Int)) : run1 E call ig_IndexFunc___i_Braid_i_Braid_ [tLPILI a0] = bg_IndexFunc___i_Braid_i_Braid_ call a0 := by kernel_rfl
theorem vg_IndexFunc___i_Braid_i_Braid_ (a0 : List (Int × List Int)) {o : List TV} (h : bg_IndexFunc___i_Braid_i_Braid_ R a0 = some o) : R ig_IndexFunc___i_Braid_i_Braid_ [tLPILI a0] = some o := ev_step ((eg_IndexFunc___i_Braid_i_Braid_ R a0).trans h)
/-- slices.ContainsFunc[[]impl.Braid,impl.Braid] -/
noncomputable def bg_ContainsFunc___i_Braid_i_Braid_ (call : Oracle) (a0 : List (Int × List Int)) : Option (List TV) :=
  (call ig_IndexFunc___i_Braid_i_Braid_ [tLPILI a0]).bind fun o1 =>
  some [tB (decide (0 ≤ (gI o1 0)))]
theorem eg_ContainsFunc___i_Braid_i_Braid_ (call : Oracle) (a0 : List (Int × List Int)) : run1 E call ig_ContainsFunc___i_Braid_i_Braid_ [tLPILI a0] = bg_ContainsFunc___i_Braid_i_Braid_ call a0 := by kernel_rfl
theorem vg_ContainsFunc___i_Braid_i_Braid_ (a0 : List (Int × List Int)) {o : List TV} (h : bg_ContainsFunc___i_Braid_i_Braid_ R a0 = some o) : R ig_ContainsFunc___i_Braid_i_Braid_ [tLPILI a0] = some o := ev_step ((eg_ContainsFunc___i_Braid_i_Braid_ R a0).trans h)
/-- impl.SortBraids$2 -/
noncomputable def bi_SortBraidsK2 (call : Oracle) (a0 : Int × List Int) (a1 : List (Int × List Int)) : Option (List TV) :=
  bif decide (0 < ((List.length a1 : Nat) : Int)) then
    some [tB (a0.1 != (List.getD a1 0 (0, [])).1)]
  else none
theorem ei_SortBraidsK2 (call : Oracle) (a0 : Int × List Int) (a1 : List (Int × List Int)) : run1 E call ii_SortBraidsK2 [tPILI a0, tLPILI a1] = bi_SortBraidsK2 call a0 a1 := by kernel_rfl
theorem vi_SortBraidsK2 (a0 : Int × List Int) (a1 : List (Int × List Int)) {o : List TV} (h : bi_SortBraidsK2 R a0 a1 = some o) : R ii_SortBraidsK2 [tPILI a0, tLPILI a1] = some o := ev_step ((ei_SortBraidsK2 R a0 a1).trans h)
/-- slices.IndexFunc[[]impl.Braid,impl.Braid] loop 2 -/
noncomputable def bg_IndexFunc___i_Braid_i_Braid__v2_2 (call : Oracle) (x0 : List (Int × List Int)) (x1 : List (Int × List Int)) (x2 : Int) (x3 : Int) : Option (List TV) :=
  bif decide (x3 < x2) then
    bif (decide (0 ≤ x3) && decide (x3 < ((List.length x0 : Nat) : Int))) then
      (call ii_SortBraidsK2 [tPILI ((List.getD x0 (Int.toNat x3) (0, [])).1, (List.getD x0 (Int.toNat x3) (0, [])).2), tLPILI x1]).bind fun o2 =>
      bif (gB o2 0) then
        some [tI 1, tI x3]
      else
        call ig_IndexFunc___i_Braid_i_Braid__v2_2 [tLPILI x0, tLPILI x1, tI x2, tI (wi64 (x3 + 1))]
    else none
  else
    some [tI 0]
theorem eg_IndexFunc___i_Braid_i_Braid__v2_2 (call : Oracle) (x0 : List (Int × List Int)) (x1 : List (Int × List Int)) (x2 : Int) (x3 : Int) : run1 E call ig_IndexFunc___i_Braid_i_Braid__v2_2 [tLPILI x0, tLPILI x1, tI x2, tI x3] = bg_IndexFunc___i_Braid_i_Braid__v2_2 call x0 x1 x2 x3 := by kernel_rfl
theorem vg_IndexFunc___i_Braid_i_Braid__v2_2 (x0 : List (Int × List Int)) (x1 : List (Int × List Int)) (x2 : Int) (x3 : Int) {o : List TV} (h : bg_IndexFunc___i_Braid_i_Braid__v2_2 R x0 x1 x2 x3 = some o) : R ig_IndexFunc___i_Braid_i_Braid__v2_2 [tLPILI x0, tLPILI x1, tI x2, tI x3] = some o := ev_step ((eg_IndexFunc___i_Braid_i_Braid__v2_2 R x0 x1 x2 x3).trans h)
/-- slices.IndexFunc[[]impl.Braid,impl.Braid] -/
noncomputable def bg_IndexFunc___i_Braid_i_Braid__v2 (call : Oracle) (a0 : List (Int × List Int)) (a1 : List (Int × List Int)) : Option (List TV) :=
  (call ig_IndexFunc___i_Braid_i_Braid__v2_2 [tLPILI a0, tLPILI a1, tI ((List.length a0 : Nat) : Int), tI 0]).bind fun o3 =>
  bif ((gI o3 0) == 0) then
    some [tI (-1)]
  else
    some [tI (gI o3 1)]
theorem eg_IndexFunc___i_Braid_i_Braid__v2 (call : Oracle) (a0 : List (Int × List Int)) (a1 : List (Int × List Int)) : run1 E call ig_IndexFunc___i_Braid_i_Braid__v2 [tLPILI a0, tLPILI a1] = bg_IndexFunc___i_Braid_i_Braid__v2 call a0 a1 := by kernel_rfl
theorem vg_IndexFunc___i_Braid_i_Braid__v2 (a0 : List (Int × List Int)) (a1 : List (Int × List Int)) {o : List TV} (h : bg_IndexFunc___i_Braid_i_Braid__v2 R a0 a1 = some o) : R ig_IndexFunc___i_Braid_i_Braid__v2 [tLPILI a0, tLPILI a1] = some o := ev_step ((eg_IndexFunc___i_Braid_i_Braid__v2 R a0 a1).trans h)
/-- slices.ContainsFunc[[]impl.Braid,impl.Braid] -/
noncomputable def bg_ContainsFunc___i_Braid_i_Braid__v2 (call : Oracle) (a0 : List (Int × List Int)) (a1 : List (Int × List Int)) : Option (List TV) :=
  (call ig_IndexFunc___i_Braid_i_Braid__v2 [tLPILI a0, tLPILI a1]).bind fun o1 =>
  some [tB (decide (0 ≤ (gI o1 0)))]
theorem eg_ContainsFunc___i_Braid_i_Braid__v2 (call : Oracle) (a0 : List (Int × List Int)) (a1 : List (Int × List Int)) : run1 E call ig_ContainsFunc___i_Braid_i_Braid__v2 [tLPILI a0, tLPILI a1] = bg_ContainsFunc___i_Braid_i_Braid__v2 call a0 a1 := by kernel_rfl
theorem vg_ContainsFunc___i_Braid_i_Braid__v2 (a0 : List (Int × List Int)) (a1 : List (Int × List Int)) {o : List TV} (h : bg_ContainsFunc___i_Braid_i_Braid__v2 R a0 a1 = some o) : R ig_ContainsFunc___i_Braid_i_Braid__v2 [tLPILI a0, tLPILI a1] = some o := ev_step ((eg_ContainsFunc___i_Braid_i_Braid__v2 R a0 a1).trans h)
/-- impl.reversed loop 3 -/
noncomputable def bi_reversed_3 (call : Oracle) (x0 : Int) (x1 : List Int) (x2 : Int) (x3 : List Int) (x4 : Int) (x5 : List Int) (x6 : Int) : Option (List TV) :=
  bif decide (0 ≤ x6) then
    bif (decide (0 ≤ x6) && decide (x6 < ((List.length x1 : Nat) : Int))) then
      bif (apOk x5 [(List.getD x1 (Int.toNat x6) 0)]) then
        call ii_reversed_3 [tI x0, tLI x1, tI x2, tLI x3, tI x4, tLI (x5 ++ [(List.getD x1 (Int.toNat x6) 0)]), tI (wi64 (x6 - 1))]
      else none
    else none
  else
    some [tI 0, tI x2, tLI x3, tI x4, tLI x5]
theorem ei_reversed_3 (call : Oracle) (x0 : Int) (x1 : List Int) (x2 : Int) (x3 : List Int) (x4 : Int) (x5 : List Int) (x6 : Int) : run1 E call ii_reversed_3 [tI x0, tLI x1, tI x2, tLI x3, tI x4, tLI x5, tI x6] = bi_reversed_3 call x0 x1 x2 x3 x4 x5 x6 := by kernel_rfl
theorem vi_reversed_3 (x0 : Int) (x1 : List Int) (x2 : Int) (x3 : List Int) (x4 : Int) (x5 : List Int) (x6 : Int) {o : List TV} (h : bi_reversed_3 R x0 x1 x2 x3 x4 x5 x6 = some o) : R ii_reversed_3 [tI x0, tLI x1, tI x2, tLI x3, tI x4, tLI x5, tI x6] = some o := ev_step ((ei_reversed_3 R x0 x1 x2 x3 x4 x5 x6).trans h)
/-- impl.reversed -/
noncomputable def bi_reversed (call : Oracle) (a0 : Int × List Int) : Option (List TV) :=
  (call ii_reversed_3 [tI a0.1, tLI a0.2, tI 0, tLI [], tI a0.1, tLI [], tI (wi64 (((List.length a0.2 : Nat) : Int) - 1))]).bind fun o1 =>
  some [tPILI ((gI o1 3), (gLI o1 4))]
theorem ei_reversed (call : Oracle) (a0 : Int × List Int) : run1 E call ii_reversed [tPILI a0] = bi_reversed call a0 := by kernel_rfl
theorem vi_reversed (a0 : Int × List Int) {o : List TV} (h : bi_reversed R a0 = some o) : R ii_reversed [tPILI a0] = some o := ev_step ((ei_reversed R a0).trans h)
/-- impl.opposite -/
noncomputable def bi_opposite (call : Oracle) (a0 : Int) : Option (List TV) :=
  some [tI (wi64 (0 - a0))]
theorem ei_opposite (call : Oracle) (a0 : Int) : run1 E call ii_opposite [tI a0] = bi_opposite call a0 := by kernel_rfl
theorem vi_opposite (a0 : Int) {o : List TV} (h : bi_opposite R a0 = some o) : R ii_opposite [tI a0] = some o := ev_step ((ei_opposite R a0).trans h)
/-- impl.letterBy loop 3 -/
noncomputable def bi_letterBy_3 (call : Oracle) (x0 : Int) (x1 : List Int) (x2 : Int) (x3 : List Int) (x4 : List Int) (x5 : Int) (x6 : Int) : Option (List TV) :=
  bif decide (x6 < x5) then
    bif (decide (0 ≤ x6) && decide (x6 < ((List.length x4 : Nat) : Int))) then
      (call ii_opposite [tI (List.getD x4 (Int.toNat x6) 0)]).bind fun o2 =>
      bif (apOk x3 [(gI o2 0)]) then
        call ii_letterBy_3 [tI x0, tLI x1, tI x2, tLI (x3 ++ [(gI o2 0)]), tLI x4, tI x5, tI (wi64 (x6 + 1))]
      else none
    else none
  else
    some [tI 0, tI x0, tLI x1, tI x2, tLI x3]
theorem ei_letterBy_3 (call : Oracle) (x0 : Int) (x1 : List Int) (x2 : Int) (x3 : List Int) (x4 : List Int) (x5 : Int) (x6 : Int) : run1 E call ii_letterBy_3 [tI x0, tLI x1, tI x2, tLI x3, tLI x4, tI x5, tI x6] = bi_letterBy_3 call x0 x1 x2 x3 x4 x5 x6 := by kernel_rfl
theorem vi_letterBy_3 (x0 : Int) (x1 : List Int) (x2 : Int) (x3 : List Int) (x4 : List Int) (x5 : Int) (x6 : Int) {o : List TV} (h : bi_letterBy_3 R x0 x1 x2 x3 x4 x5 x6 = some o) : R ii_letterBy_3 [tI x0, tLI x1, tI x2, tLI x3, tLI x4, tI x5, tI x6] = some o := ev_step ((ei_letterBy_3 R x0 x1 x2 x3 x4 x5 x6).trans h)
/-- impl.letterBy -/
noncomputable def bi_letterBy (call : Oracle) (a0 : Int × List Int) : Option (List TV) :=
  (call ii_letterBy_3 [tI 0, tLI [], tI a0.1, tLI [], tLI a0.2, tI ((List.length a0.2 : Nat) : Int), tI 0]).bind fun o3 =>
  some [tPILI ((gI o3 3), (gLI o3 4))]
theorem ei_letterBy (call : Oracle) (a0 : Int × List Int) : run1 E call ii_letterBy [tPILI a0] = bi_letterBy call a0 := by kernel_rfl
theorem vi_letterBy (a0 : Int × List Int) {o : List TV} (h : bi_letterBy R a0 = some o) : R ii_letterBy [tPILI a0] = some o := ev_step ((ei_letterBy R a0).trans h)
/-- impl.joined -/
noncomputable def bi_joined (call : Oracle) (a0 : Int × List Int) (a1 : Int × List Int) : Option (List TV) :=
  bif (apOk [] a0.2) then
    bif (apOk a0.2 a1.2) then
      some [tPILI (a0.1, (a0.2 ++ a1.2))]
    else none
  else none
theorem ei_joined (call : Oracle) (a0 : Int × List Int) (a1 : Int × List Int) : run1 E call ii_joined [tPILI a0, tPILI a1] = bi_joined call a0 a1 := by kernel_rfl
theorem vi_joined (a0 : Int × List Int) (a1 : Int × List Int) {o : List TV} (h : bi_joined R a0 a1 = some o) : R ii_joined [tPILI a0, tPILI a1] = some o := ev_step ((ei_joined R a0 a1).trans h)
/-- impl.size -/
noncomputable def bi_size (call : Oracle) (a0 : Int) : Option (List TV) :=
  some [tI (mx a0 (wi64 (0 - a0)))]
theorem ei_size (call : Oracle) (a0 : Int) : run1 E call ii_size [tI a0] = bi_size call a0 := by kernel_rfl
theorem vi_size (a0 : Int) {o : List TV} (h : bi_size R a0 = some o) : R ii_size [tI a0] = some o := ev_step ((ei_size R a0).trans h)
/-- impl.beginOf loop 3 -/
noncomputable def bi_beginOf_3 (call : Oracle) (x0 : List Int) (x1 : Int) (x2 : Int) (x3 : Int) : Option (List TV) :=
  bif decide (0 ≤ x3) then
    bif (decide (0 ≤ x3) && decide (x3 < ((List.length x0 : Nat) : Int))) then
      (call ii_size [tI (List.getD x0 (Int.toNat x3) 0)]).bind fun o3 =>
      bif ((gI o3 0) == x2) then
        bif (decide (0 ≤ x3) && decide (x3 < ((List.length x0 : Nat) : Int))) then
          bif (decide (0 ≤ x1) && decide (x1 < ((List.length x0 : Nat) : Int))) then
            some [tI 1, tI x3, tB ((List.getD x0 (Int.toNat x3) 0) == (wi64 (0 - (List.getD x0 (Int.toNat x1) 0))))]
          else none
        else none
      else
        bif ((gI o3 0) == (wi64 (x2 - 1))) then
          some [tI 1, tI 0, tB false]
        else
          call ii_beginOf_3 [tLI x0, tI x1, tI x2, tI (wi64 (x3 - 1))]
    else none
  else
    some [tI 0]
theorem ei_beginOf_3 (call : Oracle) (x0 : List Int) (x1 : Int) (x2 : Int) (x3 : Int) : run1 E call ii_beginOf_3 [tLI x0, tI x1, tI x2, tI x3] = bi_beginOf_3 call x0 x1 x2 x3 := by kernel_rfl
theorem vi_beginOf_3 (x0 : List Int) (x1 : Int) (x2 : Int) (x3 : Int) {o : List TV} (h : bi_beginOf_3 R x0 x1 x2 x3 = some o) : R ii_beginOf_3 [tLI x0, tI x1, tI x2, tI x3] = some o := ev_step ((ei_beginOf_3 R x0 x1 x2 x3).trans h)
/-- impl.beginOf -/
noncomputable def bi_beginOf (call : Oracle) (a0 : List Int) (a1 : Int) : Option (List TV) :=
  bif (decide (0 ≤ a1) && decide (a1 < ((List.length a0 : Nat) : Int))) then
    (call ii_size [tI (List.getD a0 (Int.toNat a1) 0)]).bind fun o1 =>
    (call ii_beginOf_3 [tLI a0, tI a1, tI (gI o1 0), tI (wi64 (a1 - 1))]).bind fun o4 =>
    bif ((gI o4 0) == 0) then
      some [tI 0, tB false]
    else
      some [tI (gI o4 1), tB (gB o4 2)]
  else none
theorem ei_beginOf (call : Oracle) (a0 : List Int) (a1 : Int) : run1 E call ii_beginOf [tLI a0, tI a1] = bi_beginOf call a0 a1 := by kernel_rfl
theorem vi_beginOf (a0 : List Int) (a1 : Int) {o : List TV} (h : bi_beginOf R a0 a1 = some o) : R ii_beginOf [tLI a0, tI a1] = some o := ev_step ((ei_beginOf R a0 a1).trans h)
/-- impl.firstHandle loop 2 -/
noncomputable def bi_firstHandle_2 (call : Oracle) (x0 : List Int) (x1 : Int) (x2 : Int) : Option (List TV) :=
  bif decide (x2 < x1) then
    (call ii_beginOf [tLI x0, tI x2]).bind fun o2 =>
    bif (gB o2 1) then
      some [tI 1, tI (gI o2 0), tI x2, tB true]
    else
      call ii_firstHandle_2 [tLI x0, tI x1, tI (wi64 (x2 + 1))]
  else
    some [tI 0]
theorem ei_firstHandle_2 (call : Oracle) (x0 : List Int) (x1 : Int) (x2 : Int) : run1 E call ii_firstHandle_2 [tLI x0, tI x1, tI x2] = bi_firstHandle_2 call x0 x1 x2 := by kernel_rfl
theorem vi_firstHandle_2 (x0 : List Int) (x1 : Int) (x2 : Int) {o : List TV} (h : bi_firstHandle_2 R x0 x1 x2 = some o) : R ii_firstHandle_2 [tLI x0, tI x1, tI x2] = some o := ev_step ((ei_firstHandle_2 R x0 x1 x2).trans h)
/-- impl.firstHandle -/
noncomputable def bi_firstHandle (call : Oracle) (a0 : List Int) : Option (List TV) :=
  (call ii_firstHandle_2 [tLI a0, tI ((List.length a0 : Nat) : Int), tI 0]).bind fun o3 =>
  bif ((gI o3 0) == 0) then
    some [tI 0, tI 0, tB false]
  else
    some [tI (gI o3 1), tI (gI o3 2), tB (gB o3 3)]
theorem ei_firstHandle (call : Oracle) (a0 : List Int) : run1 E call ii_firstHandle [tLI a0] = bi_firstHandle call a0 := by kernel_rfl
theorem vi_firstHandle (a0 : List Int) {o : List TV} (h : bi_firstHandle R a0 = some o) : R ii_firstHandle [tLI a0] = some o := ev_step ((ei_firstHandle R a0).trans h)
/-- impl.sign -/
noncomputable def bi_sign (call : Oracle) (a0 : Int) : Option (List TV) :=
  bif decide (0 < a0) then
    some [tI 1]
  else
    some [tI (-1)]
theorem ei_sign (call : Oracle) (a0 : Int) : run1 E call ii_sign [tI a0] = bi_sign call a0 := by kernel_rfl
theorem vi_sign (a0 : Int) {o : List TV} (h : bi_sign R a0 = some o) : R ii_sign [tI a0] = some o := ev_step ((ei_sign R a0).trans h)
/-- impl.reduced loop 5 -/
noncomputable def bi_reduced_5 (call : Oracle) (x0 : List Int) (x1 : List Int) (x2 : List Int) (x3 : Int) (x4 : Int) (x5 : Int) (x6 : Int) (x7 : Int) : Option (List TV) :=
  bif decide (x7 < x6) then
    bif (decide (0 ≤ x7) && decide (x7 < ((List.length x2 : Nat) : Int))) then
      (call ii_size [tI (List.getD x2 (Int.toNat x7) 0)]).bind fun o5 =>
      bif ((gI o5 0) == (wi64 (x4 + 1))) then
        (call ii_sign [tI (List.getD x2 (Int.toNat x7) 0)]).bind fun o6 =>
        bif (apOk x1 [x5, (wi64 (x4 * (gI o6 0))), (wi64 (0 - x5))]) then
          call ii_reduced_5 [tLI x0, tLI (x1 ++ [x5, (wi64 (x4 * (gI o6 0))), (wi64 (0 - x5))]), tLI x2, tI x3, tI x4, tI x5, tI x6, tI (wi64 (x7 + 1))]
        else none
      else
        bif (apOk x1 [(List.getD x2 (Int.toNat x7) 0)]) then
          call ii_reduced_5 [tLI x0, tLI (x1 ++ [(List.getD x2 (Int.toNat x7) 0)]), tLI x2, tI x3, tI x4, tI x5, tI x6, tI (wi64 (x7 + 1))]
        else none
    else none
  else
    some [tI 0, tLI x0, tLI x1, tI x3]
theorem ei_reduced_5 (call : Oracle) (x0 : List Int) (x1 : List Int) (x2 : List Int) (x3 : Int) (x4 : Int) (x5 : Int) (x6 : Int) (x7 : Int) : run1 E call ii_reduced_5 [tLI x0, tLI x1, tLI x2, tI x3, tI x4, tI x5, tI x6, tI x7] = bi_reduced_5 call x0 x1 x2 x3 x4 x5 x6 x7 := by kernel_rfl
theorem vi_reduced_5 (x0 : List Int) (x1 : List Int) (x2 : List Int) (x3 : Int) (x4 : Int) (x5 : Int) (x6 : Int) (x7 : Int) {o : List TV} (h : bi_reduced_5 R x0 x1 x2 x3 x4 x5 x6 x7 = some o) : R ii_reduced_5 [tLI x0, tLI x1, tLI x2, tI x3, tI x4, tI x5, tI x6, tI x7] = some o := ev_step ((ei_reduced_5 R x0 x1 x2 x3 x4 x5 x6 x7).trans h)
/-- impl.reduced -/
noncomputable def bi_reduced (call : Oracle) (a0 : List Int) (a1 : Int) (a2 : Int) : Option (List TV) :=
  bif (decide (0 ≤ a2) && decide (a2 < ((List.length a0 : Nat) : Int))) then
    (call ii_size [tI (List.getD a0 (Int.toNat a2) 0)]).bind fun o1 =>
    bif (decide (0 ≤ a2) && decide (a2 < ((List.length a0 : Nat) : Int))) then
      (call ii_sign [tI (List.getD a0 (Int.toNat a2) 0)]).bind fun o2 =>
      bif (decide (0 ≤ a1) && decide (a1 ≤ ((List.length a0 : Nat) : Int))) then
        bif (apOk [] (List.take (Int.toNat a1) a0)) then
          bif ((decide (0 ≤ (wi64 (a1 + 1))) && decide ((wi64 (a1 + 1)) ≤ a2)) && decide (a2 ≤ ((List.length a0 : Nat) : Int))) then
            (call ii_reduced_5 [tLI a0, tLI (List.take (Int.toNat a1) a0), tLI (List.drop (Int.toNat (wi64 (a1 + 1))) (List.take (Int.toNat a2) a0)), tI a2, tI (gI o1 0), tI (wi64 ((wi64 ((gI o1 0) + 1)) * (gI o2 0))), tI ((List.length (List.drop (Int.toNat (wi64 (a1 + 1))) (List.take (Int.toNat a2) a0)) : Nat) : Int), tI 0]).bind fun o7 =>
            bif (decide (0 ≤ (wi64 ((gI o7 3) + 1))) && decide ((wi64 ((gI o7 3) + 1)) ≤ ((List.length (gLI o7 1) : Nat) : Int))) then
              bif (apOk (gLI o7 2) (List.drop (Int.toNat (wi64 ((gI o7 3) + 1))) (gLI o7 1))) then
                some [tLI ((gLI o7 2) ++ (List.drop (Int.toNat (wi64 ((gI o7 3) + 1))) (gLI o7 1)))]
              else none
            else none
          else none
        else none
      else none
    else none
  else none
theorem ei_reduced (call : Oracle) (a0 : List Int) (a1 : Int) (a2 : Int) : run1 E call ii_reduced [tLI a0, tI a1, tI a2] = bi_reduced call a0 a1 a2 := by kernel_rfl
theorem vi_reduced (a0 : List Int) (a1 : Int) (a2 : Int) {o : List TV} (h : bi_reduced R a0 a1 a2 = some o) : R ii_reduced [tLI a0, tI a1, tI a2] = some o := ev_step ((ei_reduced R a0 a1 a2).trans h)
/-- impl.reduction loop 3 -/
noncomputable def bi_reduction_3 (call : Oracle) (x0 : List Int) (x1 : Int) : Option (List TV) :=
  bif decide (2000 < ((List.length x0 : Nat) : Int)) then
    some [tI 0, tLI [], tI 3]
  else
    (call ii_firstHandle [tLI x0]).bind fun o3 =>
    bif (!(gB o3 2)) then
      some [tI 0, tLI x0, tI 0]
    else
      bif (x1 == 3000) then
        some [tI 0, tLI [], tI 3]
      else
        (call ii_reduced [tLI x0, tI (gI o3 0), tI (gI o3 1)]).bind fun o4 =>
        call ii_reduction_3 [tLI (gLI o4 0), tI (wi64 (x1 + 1))]
theorem ei_reduction_3 (call : Oracle) (x0 : List Int) (x1 : Int) : run1 E call ii_reduction_3 [tLI x0, tI x1] = bi_reduction_3 call x0 x1 := by kernel_rfl
theorem vi_reduction_3 (x0 : List Int) (x1 : Int) {o : List TV} (h : bi_reduction_3 R x0 x1 = some o) : R ii_reduction_3 [tLI x0, tI x1] = some o := ev_step ((ei_reduction_3 R x0 x1).trans h)
/-- impl.reduction -/
noncomputable def bi_reduction (call : Oracle) (a0 : List Int) : Option (List TV) :=
  (call ii_reduction_3 [tLI a0, tI 0]).bind fun o5 =>
  some [tLI (gLI o5 1), tI (gI o5 2)]
theorem ei_reduction (call : Oracle) (a0 : List Int) : run1 E call ii_reduction [tLI a0] = bi_reduction call a0 := by kernel_rfl
theorem vi_reduction (a0 : List Int) {o : List TV} (h : bi_reduction R a0 = some o) : R ii_reduction [tLI a0] = some o := ev_step ((ei_reduction R a0).trans h)
/-- impl.mainOf loop 3 -/
noncomputable def bi_mainOf_3 (call : Oracle) (x0 : List Int) (x1 : Int) (x2 : Bool) (x3 : Int) (x4 : Int) : Option (List TV) :=
  bif decide (x4 < x3) then
    bif (decide (0 ≤ x4) && decide (x4 < ((List.length x0 : Nat) : Int))) then
      bif (x1 == 0) then
        call ii_mainOf_3 [tLI x0, tI (List.getD x0 (Int.toNat x4) 0), tB false, tI x3, tI (wi64 (x4 + 1))]
      else
        (call ii_size [tI (List.getD x0 (Int.toNat x4) 0)]).bind fun o3 =>
        (call ii_size [tI x1]).bind fun o4 =>
        bif decide ((gI o3 0) < (gI o4 0)) then
          call ii_mainOf_3 [tLI x0, tI (List.getD x0 (Int.toNat x4) 0), tB false, tI x3, tI (wi64 (x4 + 1))]
        else
          bif ((List.getD x0 (Int.toNat x4) 0) == (wi64 (0 - x1))) then
            call ii_mainOf_3 [tLI x0, tI x1, tB true, tI x3, tI (wi64 (x4 + 1))]
          else
            call ii_mainOf_3 [tLI x0, tI x1, tB x2, tI x3, tI (wi64 (x4 + 1))]
    else none
  else
    some [tI 0, tI x1, tB x2]
theorem ei_mainOf_3 (call : Oracle) (x0 : List Int) (x1 : Int) (x2 : Bool) (x3 : Int) (x4 : Int) : run1 E call ii_mainOf_3 [tLI x0, tI x1, tB x2, tI x3, tI x4] = bi_mainOf_3 call x0 x1 x2 x3 x4 := by kernel_rfl
theorem vi_mainOf_3 (x0 : List Int) (x1 : Int) (x2 : Bool) (x3 : Int) (x4 : Int) {o : List TV} (h : bi_mainOf_3 R x0 x1 x2 x3 x4 = some o) : R ii_mainOf_3 [tLI x0, tI x1, tB x2, tI x3, tI x4] = some o := ev_step ((ei_mainOf_3 R x0 x1 x2 x3 x4).trans h)
/-- impl.mainOf -/
noncomputable def bi_mainOf (call : Oracle) (a0 : List Int) : Option (List TV) :=
  (call ii_mainOf_3 [tLI a0, tI 0, tB false, tI ((List.length a0 : Nat) : Int), tI 0]).bind fun o5 =>
  bif (gB o5 2) then
    some [tI 0]
  else
    some [tI (gI o5 1)]
theorem ei_mainOf (call : Oracle) (a0 : List Int) : run1 E call ii_mainOf [tLI a0] = bi_mainOf call a0 := by kernel_rfl
theorem vi_mainOf (a0 : List Int) {o : List TV} (h : bi_mainOf R a0 = some o) : R ii_mainOf [tLI a0] = some o := ev_step ((ei_mainOf R a0).trans h)
/-- impl.mainLetter -/
noncomputable def bi_mainLetter (call : Oracle) (a0 : List Int) : Option (List TV) :=
  (call ii_reduction [tLI a0]).bind fun o1 =>
  (call ii_mainOf [tLI (gLI o1 0)]).bind fun o2 =>
  some [tI (gI o2 0), tI (gI o1 1)]
theorem ei_mainLetter (call : Oracle) (a0 : List Int) : run1 E call ii_mainLetter [tLI a0] = bi_mainLetter call a0 := by kernel_rfl
theorem vi_mainLetter (a0 : List Int) {o : List TV} (h : bi_mainLetter R a0 = some o) : R ii_mainLetter [tLI a0] = some o := ev_step ((ei_mainLetter R a0).trans h)
/-- impl.compare -/
noncomputable def bi_compare (call : Oracle) (a0 : Int × List Int) (a1 : Int × List Int) : Option (List TV) :=
  (call ii_reversed [tPILI (a0.1, a0.2)]).bind fun o1 =>
  (call ii_letterBy [tPILI ((gPILI o1 0).1, (gPILI o1 0).2)]).bind fun o2 =>
  (call ii_joined [tPILI ((gPILI o2 0).1, (gPILI o2 0).2), tPILI (a1.1, a1.2)]).bind fun o3 =>
  (call ii_mainLetter [tLI ((gPILI o3 0).2)]).bind fun o4 =>
  bif ((gI o4 1) != 0) then
    some [tI 0, tI (gI o4 1)]
  else
    bif ((gI o4 0) == 0) then
      some [tI 0, tI (gI o4 1)]
    else
      bif decide (0 < (gI o4 0)) then
        some [tI (-1), tI 0]
      else
        some [tI 1, tI 0]
theorem ei_compare (call : Oracle) (a0 : Int × List Int) (a1 : Int × List Int) : run1 E call ii_compare [tPILI a0, tPILI a1] = bi_compare call a0 a1 := by kernel_rfl
theorem vi_compare (a0 : Int × List Int) (a1 : Int × List Int) {o : List TV} (h : bi_compare R a0 a1 = some o) : R ii_compare [tPILI a0, tPILI a1] = some o := ev_step ((ei_compare R a0 a1).trans h)
/-- impl.SortBraids loop 8 -/
noncomputable def bi_SortBraids_8 (call : Oracle) (x0 : List (Int × List Int)) (x1 : List Int) (x2 : List Int) (x3 : Int) (x4 : Int) : Option (List TV) :=
  bif decide (x4 < x3) then
    (call ii_SortBraids_11 [tLPILI x0, tLI x1, tLI x2, tI x4, tI x3, tI x4, tI x4, tI 0]).bind fun o6 =>
    bif ((gI o6 0) == 0) then
      call ii_SortBraids_8 [tLPILI (gLPILI o6 1), tLI (gLI o6 2), tLI (gLI o6 3), tI (gI o6 4), tI (wi64 ((gI o6 5) + 1))]
    else
      some [tI 1, tLI (gLI o6 1), tI (gI o6 2)]
  else
    some [tI 0, tLI x1, tLI x2]
theorem ei_SortBraids_8 (call : Oracle) (x0 : List (Int × List Int)) (x1 : List Int) (x2 : List Int) (x3 : Int) (x4 : Int) : run1 E call ii_SortBraids_8 [tLPILI x0, tLI x1, tLI x2, tI x3, tI x4] = bi_SortBraids_8 call x0 x1 x2 x3 x4 := by kernel_rfl
theorem vi_SortBraids_8 (x0 : List (Int × List Int)) (x1 : List Int) (x2 : List Int) (x3 : Int) (x4 : Int) {o : List TV} (h : bi_SortBraids_8 R x0 x1 x2 x3 x4 = some o) : R ii_SortBraids_8 [tLPILI x0, tLI x1, tLI x2, tI x3, tI x4] = some o := ev_step ((ei_SortBraids_8 R x0 x1 x2 x3 x4).trans h)
end Go.Ev.Ytffepojldjodcaa
