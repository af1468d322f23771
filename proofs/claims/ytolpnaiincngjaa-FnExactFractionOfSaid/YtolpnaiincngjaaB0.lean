/- Bodies, part 0. -/
import Derived.KernelRfl
import Derived.Test.YtolpnaiincngjaaEnv
set_option linter.unusedVariables false
namespace Go.Ev.Ytolpnaiincngjaa
open Go.Ev
/-- laws.szInt64S -/
noncomputable def bw_szInt64S (call : Oracle) (a0 : List Int) (a1 : Int) : Option (List TV) :=
  bif decide ((wi64 (a1 - ((List.length a0 : Nat) : Int))) < 0) then
    some [tI (-1)]
  else
    some [tI (wi64 (a1 - ((List.length a0 : Nat) : Int)))]
theorem ew_szInt64S (call : Oracle) (a0 : List Int) (a1 : Int) : run1 E call iw_szInt64S [tLI a0, tI a1] = bw_szInt64S call a0 a1 := by kernel_rfl
theorem vw_szInt64S (a0 : List Int) (a1 : Int) {o : List TV} (h : bw_szInt64S R a0 a1 = some o) : R iw_szInt64S [tLI a0, tI a1] = some o := ev_step ((ew_szInt64S R a0 a1).trans h)
/-- laws.szBraid -/
noncomputable def bw_szBraid (call : Oracle) (a0 : Int × List Int) (a1 : Int) : Option (List TV) :=
  (call iw_szInt64S [tLI a0.2, tI a1]).bind fun o1 =>
  bif decide ((gI o1 0) < 0) then
    some [tI (-1)]
  else
    some [tI (gI o1 0)]
theorem ew_szBraid (call : Oracle) (a0 : Int × List Int) (a1 : Int) : run1 E call iw_szBraid [tPILI a0, tI a1] = bw_szBraid call a0 a1 := by kernel_rfl
theorem vw_szBraid (a0 : Int × List Int) (a1 : Int) {o : List TV} (h : bw_szBraid R a0 a1 = some o) : R iw_szBraid [tPILI a0, tI a1] = some o := ev_step ((ew_szBraid R a0 a1).trans h)
/-- laws.toInt64S loop 3 -/
noncomputable def bw_toInt64S_3 (call : Oracle) (x0 : List Int) (x1 : List Int) (x2 : Int) : Option (List TV) :=
  bif decide (x2 < ((List.length x0 : Nat) : Int)) then
    bif (decide (0 ≤ x2) && decide (x2 < ((List.length x0 : Nat) : Int))) then
      bif (decide (0 ≤ x2) && decide (x2 < ((List.length x1 : Nat) : Int))) then
        call iw_toInt64S_3 [tLI x0, tLI (List.set x1 (Int.toNat x2) (List.getD x0 (Int.toNat x2) 0)), tI (wi64 (x2 + 1))]
      else none
    else none
  else
    some [tI 0, tLI x1]
theorem ew_toInt64S_3 (call : Oracle) (x0 : List Int) (x1 : List Int) (x2 : Int) : run1 E call iw_toInt64S_3 [tLI x0, tLI x1, tI x2] = bw_toInt64S_3 call x0 x1 x2 := by kernel_rfl
theorem vw_toInt64S_3 (x0 : List Int) (x1 : List Int) (x2 : Int) {o : List TV} (h : bw_toInt64S_3 R x0 x1 x2 = some o) : R iw_toInt64S_3 [tLI x0, tLI x1, tI x2] = some o := ev_step ((ew_toInt64S_3 R x0 x1 x2).trans h)
/-- laws.toInt64S -/
noncomputable def bw_toInt64S (call : Oracle) (a0 : List Int) : Option (List TV) :=
  bif (mkOk ((List.length a0 : Nat) : Int)) then
    (call iw_toInt64S_3 [tLI a0, tLI (List.replicate (Int.toNat ((List.length a0 : Nat) : Int)) 0), tI 0]).bind fun o1 =>
    some [tLI (gLI o1 1)]
  else none
theorem ew_toInt64S (call : Oracle) (a0 : List Int) : run1 E call iw_toInt64S [tLI a0] = bw_toInt64S call a0 := by kernel_rfl
theorem vw_toInt64S (a0 : List Int) {o : List TV} (h : bw_toInt64S R a0 = some o) : R iw_toInt64S [tLI a0] = some o := ev_step ((ew_toInt64S R a0).trans h)
/-- laws.toBraid -/
noncomputable def bw_toBraid (call : Oracle) (a0 : Int × List Int) : Option (List TV) :=
  (call iw_toInt64S [tLI a0.2]).bind fun o1 =>
  some [tPILI (a0.1, (gLI o1 0))]
theorem ew_toBraid (call : Oracle) (a0 : Int × List Int) : run1 E call iw_toBraid [tPILI a0] = bw_toBraid call a0 := by kernel_rfl
theorem vw_toBraid (a0 : Int × List Int) {o : List TV} (h : bw_toBraid R a0 = some o) : R iw_toBraid [tPILI a0] = some o := ev_step ((ew_toBraid R a0).trans h)
/-- spec.l01In -/
noncomputable def bs_l01In (call : Oracle) (a0 : Int) (a1 : Int) (a2 : Int) : Option (List TV) :=
  bif decide (a1 ≤ a0) then
    some [tB (decide (a0 ≤ a2))]
  else
    some [tB false]
theorem es_l01In (call : Oracle) (a0 : Int) (a1 : Int) (a2 : Int) : run1 E call is_l01In [tI a0, tI a1, tI a2] = bs_l01In call a0 a1 a2 := by kernel_rfl
theorem vs_l01In (a0 : Int) (a1 : Int) (a2 : Int) {o : List TV} (h : bs_l01In R a0 a1 a2 = some o) : R is_l01In [tI a0, tI a1, tI a2] = some o := ev_step ((es_l01In R a0 a1 a2).trans h)
/-- spec.l01Is loop 4 -/
noncomputable def bs_l01Is_4 (call : Oracle) (x0 : Int) (x1 : List Int) (x2 : Int) : Option (List TV) :=
  bif decide (x2 < ((List.length x1 : Nat) : Int)) then
    bif (decide (0 ≤ x2) && decide (x2 < ((List.length x1 : Nat) : Int))) then
      (call is_l01In [tI (List.getD x1 (Int.toNat x2) 0), tI 1, tI (wi64 (x0 - 1))]).bind fun o4 =>
      bif (!(gB o4 0)) then
        (call is_l01In [tI (wi64 (0 - (List.getD x1 (Int.toNat x2) 0))), tI 1, tI (wi64 (x0 - 1))]).bind fun o5 =>
        bif (!(gB o5 0)) then
          some [tI 1, tB false]
        else
          call is_l01Is_4 [tI x0, tLI x1, tI (wi64 (x2 + 1))]
      else
        call is_l01Is_4 [tI x0, tLI x1, tI (wi64 (x2 + 1))]
    else none
  else
    some [tI 0]
theorem es_l01Is_4 (call : Oracle) (x0 : Int) (x1 : List Int) (x2 : Int) : run1 E call is_l01Is_4 [tI x0, tLI x1, tI x2] = bs_l01Is_4 call x0 x1 x2 := by kernel_rfl
theorem vs_l01Is_4 (x0 : Int) (x1 : List Int) (x2 : Int) {o : List TV} (h : bs_l01Is_4 R x0 x1 x2 = some o) : R is_l01Is_4 [tI x0, tLI x1, tI x2] = some o := ev_step ((es_l01Is_4 R x0 x1 x2).trans h)
/-- spec.l01Is -/
noncomputable def bs_l01Is (call : Oracle) (a0 : Int × List Int) : Option (List TV) :=
  (call is_l01In [tI a0.1, tI 1, tI 8]).bind fun o1 =>
  bif (!(gB o1 0)) then
    some [tB false]
  else
    bif decide (200 < ((List.length a0.2 : Nat) : Int)) then
      some [tB false]
    else
      (call is_l01Is_4 [tI a0.1, tLI a0.2, tI 0]).bind fun o6 =>
      bif ((gI o6 0) == 0) then
        some [tB true]
      else
        some [tB (gB o6 1)]
theorem es_l01Is (call : Oracle) (a0 : Int × List Int) : run1 E call is_l01Is [tPILI a0] = bs_l01Is call a0 := by kernel_rfl
theorem vs_l01Is (a0 : Int × List Int) {o : List TV} (h : bs_l01Is R a0 = some o) : R is_l01Is [tPILI a0] = some o := ev_step ((es_l01Is R a0).trans h)
/-- spec.l02Same loop 3 -/
noncomputable def bs_l02Same_3 (call : Oracle) (x0 : List Int) (x1 : List Int) (x2 : Int) (x3 : Int) : Option (List TV) :=
  bif decide (x3 < x2) then
    bif (decide (0 ≤ x3) && decide (x3 < 8)) then
      call is_l02Same_3 [tA8 x0, tA8 (List.set x1 (Int.toNat x3) (wu8 (x3))), tI x2, tI (wi64 (x3 + 1))]
    else none
  else
    some [tI 0, tA8 x0, tA8 x1]
theorem es_l02Same_3 (call : Oracle) (x0 : List Int) (x1 : List Int) (x2 : Int) (x3 : Int) : run1 E call is_l02Same_3 [tA8 x0, tA8 x1, tI x2, tI x3] = bs_l02Same_3 call x0 x1 x2 x3 := by kernel_rfl
theorem vs_l02Same_3 (x0 : List Int) (x1 : List Int) (x2 : Int) (x3 : Int) {o : List TV} (h : bs_l02Same_3 R x0 x1 x2 x3 = some o) : R is_l02Same_3 [tA8 x0, tA8 x1, tI x2, tI x3] = some o := ev_step ((es_l02Same_3 R x0 x1 x2 x3).trans h)
/-- spec.l02Same -/
noncomputable def bs_l02Same (call : Oracle) (a0 : Int) : Option (List TV) :=
  (call is_l02Same_3 [tA8 (List.replicate 8 0), tA8 (List.replicate 8 0), tI a0, tI 0]).bind fun o1 =>
  some [tA8 (gA8 o1 2)]
theorem es_l02Same (call : Oracle) (a0 : Int) : run1 E call is_l02Same [tI a0] = bs_l02Same call a0 := by kernel_rfl
theorem vs_l02Same (a0 : Int) {o : List TV} (h : bs_l02Same R a0 = some o) : R is_l02Same [tI a0] = some o := ev_step ((es_l02Same R a0).trans h)
/-- spec.l02Exchange -/
noncomputable def bs_l02Exchange (call : Oracle) (a0 : Int) (a1 : Int) : Option (List TV) :=
  (call is_l02Same [tI a0]).bind fun o1 =>
  bif (decide (0 ≤ (wi64 (a1 - 1))) && decide ((wi64 (a1 - 1)) < 8)) then
    bif (decide (0 ≤ a1) && decide (a1 < 8)) then
      some [tA8 (List.set (List.set (gA8 o1 0) (Int.toNat (wi64 (a1 - 1))) (wu8 (a1))) (Int.toNat a1) (wu8 ((wi64 (a1 - 1)))))]
    else none
  else none
theorem es_l02Exchange (call : Oracle) (a0 : Int) (a1 : Int) : run1 E call is_l02Exchange [tI a0, tI a1] = bs_l02Exchange call a0 a1 := by kernel_rfl
theorem vs_l02Exchange (a0 : Int) (a1 : Int) {o : List TV} (h : bs_l02Exchange R a0 a1 = some o) : R is_l02Exchange [tI a0, tI a1] = some o := ev_step ((es_l02Exchange R a0 a1).trans h)
/-- spec.l02Half loop 3 -/
noncomputable def bs_l02Half_3 (call : Oracle) (x0 : List Int) (x1 : List Int) (x2 : Int) (x3 : Int) : Option (List TV) :=
  bif decide (x3 < x2) then
    bif (decide (0 ≤ x3) && decide (x3 < 8)) then
      call is_l02Half_3 [tA8 x0, tA8 (List.set x1 (Int.toNat x3) (wu8 ((wi64 ((wi64 (x2 - 1)) - x3))))), tI x2, tI (wi64 (x3 + 1))]
    else none
  else
    some [tI 0, tA8 x0, tA8 x1]
theorem es_l02Half_3 (call : Oracle) (x0 : List Int) (x1 : List Int) (x2 : Int) (x3 : Int) : run1 E call is_l02Half_3 [tA8 x0, tA8 x1, tI x2, tI x3] = bs_l02Half_3 call x0 x1 x2 x3 := by kernel_rfl
theorem vs_l02Half_3 (x0 : List Int) (x1 : List Int) (x2 : Int) (x3 : Int) {o : List TV} (h : bs_l02Half_3 R x0 x1 x2 x3 = some o) : R is_l02Half_3 [tA8 x0, tA8 x1, tI x2, tI x3] = some o := ev_step ((es_l02Half_3 R x0 x1 x2 x3).trans h)
/-- spec.l02Half -/
noncomputable def bs_l02Half (call : Oracle) (a0 : Int) : Option (List TV) :=
  (call is_l02Half_3 [tA8 (List.replicate 8 0), tA8 (List.replicate 8 0), tI a0, tI 0]).bind fun o1 =>
  some [tA8 (gA8 o1 2)]
theorem es_l02Half (call : Oracle) (a0 : Int) : run1 E call is_l02Half [tI a0] = bs_l02Half call a0 := by kernel_rfl
theorem vs_l02Half (a0 : Int) {o : List TV} (h : bs_l02Half R a0 = some o) : R is_l02Half [tI a0] = some o := ev_step ((es_l02Half R a0).trans h)
/-- spec.l02Then loop 3 -/
noncomputable def bs_l02Then_3 (call : Oracle) (x0 : List Int) (x1 : List Int) (x2 : List Int) (x3 : List Int) (x4 : Int) (x5 : Int) : Option (List TV) :=
  bif decide (x5 < x4) then
    bif (decide (0 ≤ x5) && decide (x5 < 8)) then
      bif (decide (0 ≤ (List.getD x0 (Int.toNat x5) 0)) && decide ((List.getD x0 (Int.toNat x5) 0) < 8)) then
        bif (decide (0 ≤ x5) && decide (x5 < 8)) then
          call is_l02Then_3 [tA8 x0, tA8 x1, tA8 x2, tA8 (List.set x3 (Int.toNat x5) (List.getD x1 (Int.toNat (List.getD x0 (Int.toNat x5) 0)) 0)), tI x4, tI (wi64 (x5 + 1))]
        else none
      else none
    else none
  else
    some [tI 0, tA8 x2, tA8 x3]
theorem es_l02Then_3 (call : Oracle) (x0 : List Int) (x1 : List Int) (x2 : List Int) (x3 : List Int) (x4 : Int) (x5 : Int) : run1 E call is_l02Then_3 [tA8 x0, tA8 x1, tA8 x2, tA8 x3, tI x4, tI x5] = bs_l02Then_3 call x0 x1 x2 x3 x4 x5 := by kernel_rfl
theorem vs_l02Then_3 (x0 : List Int) (x1 : List Int) (x2 : List Int) (x3 : List Int) (x4 : Int) (x5 : Int) {o : List TV} (h : bs_l02Then_3 R x0 x1 x2 x3 x4 x5 = some o) : R is_l02Then_3 [tA8 x0, tA8 x1, tA8 x2, tA8 x3, tI x4, tI x5] = some o := ev_step ((es_l02Then_3 R x0 x1 x2 x3 x4 x5).trans h)
/-- spec.l02Then -/
noncomputable def bs_l02Then (call : Oracle) (a0 : List Int) (a1 : List Int) (a2 : Int) : Option (List TV) :=
  (call is_l02Then_3 [tA8 a0, tA8 a1, tA8 (List.replicate 8 0), tA8 (List.replicate 8 0), tI a2, tI 0]).bind fun o1 =>
  some [tA8 (gA8 o1 2)]
theorem es_l02Then (call : Oracle) (a0 : List Int) (a1 : List Int) (a2 : Int) : run1 E call is_l02Then [tA8 a0, tA8 a1, tI a2] = bs_l02Then call a0 a1 a2 := by kernel_rfl
theorem vs_l02Then (a0 : List Int) (a1 : List Int) (a2 : Int) {o : List TV} (h : bs_l02Then R a0 a1 a2 = some o) : R is_l02Then [tA8 a0, tA8 a1, tI a2] = some o := ev_step ((es_l02Then R a0 a1 a2).trans h)
/-- spec.l02Turn -/
noncomputable def bs_l02Turn (call : Oracle) (a0 : List Int) (a1 : Int) : Option (List TV) :=
  (call is_l02Half [tI a1]).bind fun o1 =>
  (call is_l02Then [tA8 (gA8 o1 0), tA8 a0, tI a1]).bind fun o2 =>
  (call is_l02Then [tA8 (gA8 o2 0), tA8 (gA8 o1 0), tI a1]).bind fun o3 =>
  some [tA8 (gA8 o3 0)]
theorem es_l02Turn (call : Oracle) (a0 : List Int) (a1 : Int) : run1 E call is_l02Turn [tA8 a0, tI a1] = bs_l02Turn call a0 a1 := by kernel_rfl
theorem vs_l02Turn (a0 : List Int) (a1 : Int) {o : List TV} (h : bs_l02Turn R a0 a1 = some o) : R is_l02Turn [tA8 a0, tI a1] = some o := ev_step ((es_l02Turn R a0 a1).trans h)
/-- spec.l03Turned loop 3 -/
noncomputable def bs_l03Turned_3 (call : Oracle) (x0 : List (List Int)) (x1 : List (List Int)) (x2 : Int) (x3 : Int) (x4 : Int) : Option (List TV) :=
  bif decide (x4 < ((List.length x0 : Nat) : Int)) then
    bif ((Int.tmod x3 2) != 0) then
      bif (decide (0 ≤ x4) && decide (x4 < ((List.length x0 : Nat) : Int))) then
        (call is_l02Turn [tA8 (List.getD x0 (Int.toNat x4) (List.replicate 8 0)), tI x2]).bind fun o2 =>
        bif (apOk x1 [(gA8 o2 0)]) then
          call is_l03Turned_3 [tLA8 x0, tLA8 (x1 ++ [(gA8 o2 0)]), tI x2, tI x3, tI (wi64 (x4 + 1))]
        else none
      else none
    else
      bif (decide (0 ≤ x4) && decide (x4 < ((List.length x0 : Nat) : Int))) then
        bif (apOk x1 [(List.getD x0 (Int.toNat x4) (List.replicate 8 0))]) then
          call is_l03Turned_3 [tLA8 x0, tLA8 (x1 ++ [(List.getD x0 (Int.toNat x4) (List.replicate 8 0))]), tI x2, tI x3, tI (wi64 (x4 + 1))]
        else none
      else none
  else
    some [tI 0, tLA8 x1]
theorem es_l03Turned_3 (call : Oracle) (x0 : List (List Int)) (x1 : List (List Int)) (x2 : Int) (x3 : Int) (x4 : Int) : run1 E call is_l03Turned_3 [tLA8 x0, tLA8 x1, tI x2, tI x3, tI x4] = bs_l03Turned_3 call x0 x1 x2 x3 x4 := by kernel_rfl
theorem vs_l03Turned_3 (x0 : List (List Int)) (x1 : List (List Int)) (x2 : Int) (x3 : Int) (x4 : Int) {o : List TV} (h : bs_l03Turned_3 R x0 x1 x2 x3 x4 = some o) : R is_l03Turned_3 [tLA8 x0, tLA8 x1, tI x2, tI x3, tI x4] = some o := ev_step ((es_l03Turned_3 R x0 x1 x2 x3 x4).trans h)
/-- spec.l03Turned -/
noncomputable def bs_l03Turned (call : Oracle) (a0 : List (List Int)) (a1 : Int) (a2 : Int) : Option (List TV) :=
  (call is_l03Turned_3 [tLA8 a0, tLA8 [], tI a1, tI a2, tI 0]).bind fun o3 =>
  some [tLA8 (gLA8 o3 1)]
theorem es_l03Turned (call : Oracle) (a0 : List (List Int)) (a1 : Int) (a2 : Int) : run1 E call is_l03Turned [tLA8 a0, tI a1, tI a2] = bs_l03Turned call a0 a1 a2 := by kernel_rfl
theorem vs_l03Turned (a0 : List (List Int)) (a1 : Int) (a2 : Int) {o : List TV} (h : bs_l03Turned R a0 a1 a2 = some o) : R is_l03Turned [tLA8 a0, tI a1, tI a2] = some o := ev_step ((es_l03Turned R a0 a1 a2).trans h)
/-- spec.l02Back loop 3 -/
noncomputable def bs_l02Back_3 (call : Oracle) (x0 : List Int) (x1 : List Int) (x2 : List Int) (x3 : Int) (x4 : Int) : Option (List TV) :=
  bif decide (x4 < x3) then
    bif (decide (0 ≤ x4) && decide (x4 < 8)) then
      bif (decide (0 ≤ (List.getD x0 (Int.toNat x4) 0)) && decide ((List.getD x0 (Int.toNat x4) 0) < 8)) then
        call is_l02Back_3 [tA8 x0, tA8 x1, tA8 (List.set x2 (Int.toNat (List.getD x0 (Int.toNat x4) 0)) (wu8 (x4))), tI x3, tI (wi64 (x4 + 1))]
      else none
    else none
  else
    some [tI 0, tA8 x1, tA8 x2]
theorem es_l02Back_3 (call : Oracle) (x0 : List Int) (x1 : List Int) (x2 : List Int) (x3 : Int) (x4 : Int) : run1 E call is_l02Back_3 [tA8 x0, tA8 x1, tA8 x2, tI x3, tI x4] = bs_l02Back_3 call x0 x1 x2 x3 x4 := by kernel_rfl
theorem vs_l02Back_3 (x0 : List Int) (x1 : List Int) (x2 : List Int) (x3 : Int) (x4 : Int) {o : List TV} (h : bs_l02Back_3 R x0 x1 x2 x3 x4 = some o) : R is_l02Back_3 [tA8 x0, tA8 x1, tA8 x2, tI x3, tI x4] = some o := ev_step ((es_l02Back_3 R x0 x1 x2 x3 x4).trans h)
/-- spec.l02Back -/
noncomputable def bs_l02Back (call : Oracle) (a0 : List Int) (a1 : Int) : Option (List TV) :=
  (call is_l02Back_3 [tA8 a0, tA8 (List.replicate 8 0), tA8 (List.replicate 8 0), tI a1, tI 0]).bind fun o1 =>
  some [tA8 (gA8 o1 2)]
theorem es_l02Back (call : Oracle) (a0 : List Int) (a1 : Int) : run1 E call is_l02Back [tA8 a0, tI a1] = bs_l02Back call a0 a1 := by kernel_rfl
theorem vs_l02Back (a0 : List Int) (a1 : Int) {o : List TV} (h : bs_l02Back R a0 a1 = some o) : R is_l02Back [tA8 a0, tI a1] = some o := ev_step ((es_l02Back R a0 a1).trans h)
/-- spec.l02Left -/
noncomputable def bs_l02Left (call : Oracle) (a0 : List Int) (a1 : Int) : Option (List TV) :=
  (call is_l02Half [tI a1]).bind fun o1 =>
  (call is_l02Back [tA8 a0, tI a1]).bind fun o2 =>
  (call is_l02Then [tA8 (gA8 o1 0), tA8 (gA8 o2 0), tI a1]).bind fun o3 =>
  some [tA8 (gA8 o3 0)]
theorem es_l02Left (call : Oracle) (a0 : List Int) (a1 : Int) : run1 E call is_l02Left [tA8 a0, tI a1] = bs_l02Left call a0 a1 := by kernel_rfl
theorem vs_l02Left (a0 : List Int) (a1 : Int) {o : List TV} (h : bs_l02Left R a0 a1 = some o) : R is_l02Left [tA8 a0, tI a1] = some o := ev_step ((es_l02Left R a0 a1).trans h)
/-- spec.l02Complement -/
noncomputable def bs_l02Complement (call : Oracle) (a0 : List Int) (a1 : Int) : Option (List TV) :=
  (call is_l02Back [tA8 a0, tI a1]).bind fun o1 =>
  (call is_l02Half [tI a1]).bind fun o2 =>
  (call is_l02Then [tA8 (gA8 o1 0), tA8 (gA8 o2 0), tI a1]).bind fun o3 =>
  some [tA8 (gA8 o3 0)]
theorem es_l02Complement (call : Oracle) (a0 : List Int) (a1 : Int) : run1 E call is_l02Complement [tA8 a0, tI a1] = bs_l02Complement call a0 a1 := by kernel_rfl
theorem vs_l02Complement (a0 : List Int) (a1 : Int) {o : List TV} (h : bs_l02Complement R a0 a1 = some o) : R is_l02Complement [tA8 a0, tI a1] = some o := ev_step ((es_l02Complement R a0 a1).trans h)
/-- spec.l02Meet loop 3 -/
noncomputable def bs_l02Meet_3 (call : Oracle) (x0 : List Int) (x1 : List Int) (x2 : List Int) (x3 : List Int) (x4 : Int) (x5 : Int) : Option (List TV) :=
  bif decide (x5 < x4) then
    bif (decide (0 ≤ (wi64 (x5 - 1))) && decide ((wi64 (x5 - 1)) < 8)) then
      bif (decide (0 ≤ x5) && decide (x5 < 8)) then
        bif decide ((List.getD x0 (Int.toNat x5) 0) < (List.getD x0 (Int.toNat (wi64 (x5 - 1))) 0)) then
          bif (decide (0 ≤ (wi64 (x5 - 1))) && decide ((wi64 (x5 - 1)) < 8)) then
            bif (decide (0 ≤ x5) && decide (x5 < 8)) then
              bif decide ((List.getD x1 (Int.toNat x5) 0) < (List.getD x1 (Int.toNat (wi64 (x5 - 1))) 0)) then
                (call is_l02Exchange [tI x4, tI x5]).bind fun o6 =>
                (call is_l02Then [tA8 x3, tA8 (gA8 o6 0), tI x4]).bind fun o7 =>
                (call is_l02Then [tA8 (gA8 o6 0), tA8 x0, tI x4]).bind fun o8 =>
                (call is_l02Then [tA8 (gA8 o6 0), tA8 x1, tI x4]).bind fun o9 =>
                call is_l02Meet_3 [tA8 (gA8 o8 0), tA8 (gA8 o9 0), tA8 x2, tA8 (gA8 o7 0), tI x4, tI 1]
              else
                call is_l02Meet_3 [tA8 x0, tA8 x1, tA8 x2, tA8 x3, tI x4, tI (wi64 (x5 + 1))]
            else none
          else none
        else
          call is_l02Meet_3 [tA8 x0, tA8 x1, tA8 x2, tA8 x3, tI x4, tI (wi64 (x5 + 1))]
      else none
    else none
  else
    some [tI 0, tA8 x2, tA8 x3]
theorem es_l02Meet_3 (call : Oracle) (x0 : List Int) (x1 : List Int) (x2 : List Int) (x3 : List Int) (x4 : Int) (x5 : Int) : run1 E call is_l02Meet_3 [tA8 x0, tA8 x1, tA8 x2, tA8 x3, tI x4, tI x5] = bs_l02Meet_3 call x0 x1 x2 x3 x4 x5 := by kernel_rfl
theorem vs_l02Meet_3 (x0 : List Int) (x1 : List Int) (x2 : List Int) (x3 : List Int) (x4 : Int) (x5 : Int) {o : List TV} (h : bs_l02Meet_3 R x0 x1 x2 x3 x4 x5 = some o) : R is_l02Meet_3 [tA8 x0, tA8 x1, tA8 x2, tA8 x3, tI x4, tI x5] = some o := ev_step ((es_l02Meet_3 R x0 x1 x2 x3 x4 x5).trans h)
/-- spec.l02Meet -/
noncomputable def bs_l02Meet (call : Oracle) (a0 : List Int) (a1 : List Int) (a2 : Int) : Option (List TV) :=
  (call is_l02Same [tI a2]).bind fun o1 =>
  (call is_l02Meet_3 [tA8 a0, tA8 a1, tA8 (List.replicate 8 0), tA8 (gA8 o1 0), tI a2, tI 1]).bind fun o10 =>
  some [tA8 (gA8 o10 2)]
theorem es_l02Meet (call : Oracle) (a0 : List Int) (a1 : List Int) (a2 : Int) : run1 E call is_l02Meet [tA8 a0, tA8 a1, tI a2] = bs_l02Meet call a0 a1 a2 := by kernel_rfl
theorem vs_l02Meet (a0 : List Int) (a1 : List Int) (a2 : Int) {o : List TV} (h : bs_l02Meet R a0 a1 a2 = some o) : R is_l02Meet [tA8 a0, tA8 a1, tI a2] = some o := ev_step ((es_l02Meet R a0 a1 a2).trans h)
/-- spec.l03Weigh loop 3 -/
noncomputable def bs_l03Weigh_3 (call : Oracle) (x0 : List (List Int)) (x1 : Int) (x2 : Bool) : Option (List TV) :=
  bif x2 then
    (call is_l03Weigh_6 [tLA8 x0, tI x1, tB false, tI (wi64 (((List.length x0 : Nat) : Int) - 2))]).bind fun o14 =>
    call is_l03Weigh_3 [tLA8 (gLA8 o14 1), tI (gI o14 2), tB (gB o14 3)]
  else
    some [tI 0, tLA8 x0]
theorem es_l03Weigh_3 (call : Oracle) (x0 : List (List Int)) (x1 : Int) (x2 : Bool) : run1 E call is_l03Weigh_3 [tLA8 x0, tI x1, tB x2] = bs_l03Weigh_3 call x0 x1 x2 := by kernel_rfl
theorem vs_l03Weigh_3 (x0 : List (List Int)) (x1 : Int) (x2 : Bool) {o : List TV} (h : bs_l03Weigh_3 R x0 x1 x2 = some o) : R is_l03Weigh_3 [tLA8 x0, tI x1, tB x2] = some o := ev_step ((es_l03Weigh_3 R x0 x1 x2).trans h)
/-- spec.l03Weigh loop 6 -/
noncomputable def bs_l03Weigh_6 (call : Oracle) (x0 : List (List Int)) (x1 : Int) (x2 : Bool) (x3 : Int) : Option (List TV) :=
  bif decide (0 ≤ x3) then
    bif (decide (0 ≤ x3) && decide (x3 < ((List.length x0 : Nat) : Int))) then
      (call is_l02Complement [tA8 (List.getD x0 (Int.toNat x3) (List.replicate 8 0)), tI x1]).bind fun o7 =>
      bif (decide (0 ≤ (wi64 (x3 + 1))) && decide ((wi64 (x3 + 1)) < ((List.length x0 : Nat) : Int))) then
        (call is_l02Meet [tA8 (gA8 o7 0), tA8 (List.getD x0 (Int.toNat (wi64 (x3 + 1))) (List.replicate 8 0)), tI x1]).bind fun o8 =>
        (call is_l02Same [tI x1]).bind fun o9 =>
        bif ((gA8 o8 0) == (gA8 o9 0)) then
          call is_l03Weigh_6 [tLA8 x0, tI x1, tB x2, tI (wi64 (x3 - 1))]
        else
          bif (decide (0 ≤ x3) && decide (x3 < ((List.length x0 : Nat) : Int))) then
            (call is_l02Then [tA8 (List.getD x0 (Int.toNat x3) (List.replicate 8 0)), tA8 (gA8 o8 0), tI x1]).bind fun o10 =>
            bif (decide (0 ≤ x3) && decide (x3 < ((List.length x0 : Nat) : Int))) then
              (call is_l02Back [tA8 (gA8 o8 0), tI x1]).bind fun o11 =>
              bif (decide (0 ≤ (wi64 (x3 + 1))) && decide ((wi64 (x3 + 1)) < ((List.length (List.set x0 (Int.toNat x3) (gA8 o10 0)) : Nat) : Int))) then
                (call is_l02Then [tA8 (gA8 o11 0), tA8 (List.getD (List.set x0 (Int.toNat x3) (gA8 o10 0)) (Int.toNat (wi64 (x3 + 1))) (List.replicate 8 0)), tI x1]).bind fun o12 =>
                bif (decide (0 ≤ (wi64 (x3 + 1))) && decide ((wi64 (x3 + 1)) < ((List.length (List.set x0 (Int.toNat x3) (gA8 o10 0)) : Nat) : Int))) then
                  call is_l03Weigh_6 [tLA8 (List.set (List.set x0 (Int.toNat x3) (gA8 o10 0)) (Int.toNat (wi64 (x3 + 1))) (gA8 o12 0)), tI x1, tB true, tI (wi64 (x3 - 1))]
                else none
              else none
            else none
          else none
      else none
    else none
  else
    some [tI 0, tLA8 x0, tI x1, tB x2]
theorem es_l03Weigh_6 (call : Oracle) (x0 : List (List Int)) (x1 : Int) (x2 : Bool) (x3 : Int) : run1 E call is_l03Weigh_6 [tLA8 x0, tI x1, tB x2, tI x3] = bs_l03Weigh_6 call x0 x1 x2 x3 := by kernel_rfl
theorem vs_l03Weigh_6 (x0 : List (List Int)) (x1 : Int) (x2 : Bool) (x3 : Int) {o : List TV} (h : bs_l03Weigh_6 R x0 x1 x2 x3 = some o) : R is_l03Weigh_6 [tLA8 x0, tI x1, tB x2, tI x3] = some o := ev_step ((es_l03Weigh_6 R x0 x1 x2 x3).trans h)
/-- spec.l03Weigh -/
noncomputable def bs_l03Weigh (call : Oracle) (a0 : List (List Int)) (a1 : Int) : Option (List TV) :=
  bif (apOk [] a0) then
    (call is_l03Weigh_3 [tLA8 a0, tI a1, tB true]).bind fun o15 =>
    some [tLA8 (gLA8 o15 1)]
  else none
theorem es_l03Weigh (call : Oracle) (a0 : List (List Int)) (a1 : Int) : run1 E call is_l03Weigh [tLA8 a0, tI a1] = bs_l03Weigh call a0 a1 := by kernel_rfl
theorem vs_l03Weigh (a0 : List (List Int)) (a1 : Int) {o : List TV} (h : bs_l03Weigh R a0 a1 = some o) : R is_l03Weigh [tLA8 a0, tI a1] = some o := ev_step ((es_l03Weigh R a0 a1).trans h)
/-- spec.l03Make loop 4 -/
noncomputable def bs_l03Make_4 (call : Oracle) (x0 : List (List Int)) (x1 : Int) (x2 : Int) (x3 : List (List Int)) (x4 : Int) (x5 : Int) (x6 : Int) (x7 : Int) : Option (List TV) :=
  bif decide (x6 < x7) then
    bif (decide (0 ≤ x6) && decide (x6 < ((List.length x0 : Nat) : Int))) then
      (call is_l02Half [tI x4]).bind fun o3 =>
      bif ((List.getD x0 (Int.toNat x6) (List.replicate 8 0)) == (gA8 o3 0)) then
        call is_l03Make_4 [tLA8 x0, tI x1, tI x2, tLA8 x3, tI x4, tI (wi64 (x5 + 1)), tI (wi64 (x6 + 1)), tI x7]
      else
        some [tI 0, tLA8 x0, tI x1, tI x2, tLA8 x3, tI x4, tI x5, tI x6, tI x7]
    else none
  else
    some [tI 0, tLA8 x0, tI x1, tI x2, tLA8 x3, tI x4, tI x5, tI x6, tI x7]
theorem es_l03Make_4 (call : Oracle) (x0 : List (List Int)) (x1 : Int) (x2 : Int) (x3 : List (List Int)) (x4 : Int) (x5 : Int) (x6 : Int) (x7 : Int) : run1 E call is_l03Make_4 [tLA8 x0, tI x1, tI x2, tLA8 x3, tI x4, tI x5, tI x6, tI x7] = bs_l03Make_4 call x0 x1 x2 x3 x4 x5 x6 x7 := by kernel_rfl
theorem vs_l03Make_4 (x0 : List (List Int)) (x1 : Int) (x2 : Int) (x3 : List (List Int)) (x4 : Int) (x5 : Int) (x6 : Int) (x7 : Int) {o : List TV} (h : bs_l03Make_4 R x0 x1 x2 x3 x4 x5 x6 x7 = some o) : R is_l03Make_4 [tLA8 x0, tI x1, tI x2, tLA8 x3, tI x4, tI x5, tI x6, tI x7] = some o := ev_step ((es_l03Make_4 R x0 x1 x2 x3 x4 x5 x6 x7).trans h)
/-- spec.l03Make loop 7 -/
noncomputable def bs_l03Make_7 (call : Oracle) (x0 : List (List Int)) (x1 : Int) (x2 : Int) (x3 : List (List Int)) (x4 : Int) (x5 : Int) (x6 : Int) (x7 : Int) : Option (List TV) :=
  bif decide (x6 < x7) then
    bif (decide (0 ≤ (wi64 (x7 - 1))) && decide ((wi64 (x7 - 1)) < ((List.length x0 : Nat) : Int))) then
      (call is_l02Same [tI x4]).bind fun o6 =>
      bif ((List.getD x0 (Int.toNat (wi64 (x7 - 1))) (List.replicate 8 0)) == (gA8 o6 0)) then
        call is_l03Make_7 [tLA8 x0, tI x1, tI x2, tLA8 x3, tI x4, tI x5, tI x6, tI (wi64 (x7 - 1))]
      else
        some [tI 0, tLA8 x0, tI x1, tI x2, tLA8 x3, tI x4, tI x5, tI x6, tI x7]
    else none
  else
    some [tI 0, tLA8 x0, tI x1, tI x2, tLA8 x3, tI x4, tI x5, tI x6, tI x7]
theorem es_l03Make_7 (call : Oracle) (x0 : List (List Int)) (x1 : Int) (x2 : Int) (x3 : List (List Int)) (x4 : Int) (x5 : Int) (x6 : Int) (x7 : Int) : run1 E call is_l03Make_7 [tLA8 x0, tI x1, tI x2, tLA8 x3, tI x4, tI x5, tI x6, tI x7] = bs_l03Make_7 call x0 x1 x2 x3 x4 x5 x6 x7 := by kernel_rfl
theorem vs_l03Make_7 (x0 : List (List Int)) (x1 : Int) (x2 : Int) (x3 : List (List Int)) (x4 : Int) (x5 : Int) (x6 : Int) (x7 : Int) {o : List TV} (h : bs_l03Make_7 R x0 x1 x2 x3 x4 x5 x6 x7 = some o) : R is_l03Make_7 [tLA8 x0, tI x1, tI x2, tLA8 x3, tI x4, tI x5, tI x6, tI x7] = some o := ev_step ((es_l03Make_7 R x0 x1 x2 x3 x4 x5 x6 x7).trans h)
/-- spec.l03Make -/
noncomputable def bs_l03Make (call : Oracle) (a0 : Int) (a1 : Int) (a2 : List (List Int)) : Option (List TV) :=
  (call is_l03Weigh [tLA8 a2, tI a0]).bind fun o1 =>
  bif decide (1 < a0) then
    (call is_l03Make_4 [tLA8 (gLA8 o1 0), tI 0, tI 0, tLA8 [], tI a0, tI a1, tI 0, tI ((List.length (gLA8 o1 0) : Nat) : Int)]).bind fun o4 =>
    (call is_l03Make_7 [tLA8 (gLA8 o4 1), tI (gI o4 2), tI (gI o4 3), tLA8 (gLA8 o4 4), tI (gI o4 5), tI (gI o4 6), tI (gI o4 7), tI (gI o4 8)]).bind fun o7 =>
    bif ((decide (0 ≤ (gI o7 7)) && decide ((gI o7 7) ≤ (gI o7 8))) && decide ((gI o7 8) ≤ ((List.length (gLA8 o7 1) : Nat) : Int))) then
      bif (apOk [] (List.drop (Int.toNat (gI o7 7)) (List.take (Int.toNat (gI o7 8)) (gLA8 o7 1)))) then
        some [tPIPILA8 ((gI o7 5), ((gI o7 6), (List.drop (Int.toNat (gI o7 7)) (List.take (Int.toNat (gI o7 8)) (gLA8 o7 1)))))]
      else none
    else none
  else
    (call is_l03Make_7 [tLA8 (gLA8 o1 0), tI 0, tI 0, tLA8 [], tI a0, tI a1, tI 0, tI ((List.length (gLA8 o1 0) : Nat) : Int)]).bind fun o8 =>
    bif ((decide (0 ≤ (gI o8 7)) && decide ((gI o8 7) ≤ (gI o8 8))) && decide ((gI o8 8) ≤ ((List.length (gLA8 o8 1) : Nat) : Int))) then
      bif (apOk [] (List.drop (Int.toNat (gI o8 7)) (List.take (Int.toNat (gI o8 8)) (gLA8 o8 1)))) then
        some [tPIPILA8 ((gI o8 5), ((gI o8 6), (List.drop (Int.toNat (gI o8 7)) (List.take (Int.toNat (gI o8 8)) (gLA8 o8 1)))))]
      else none
    else none
theorem es_l03Make (call : Oracle) (a0 : Int) (a1 : Int) (a2 : List (List Int)) : run1 E call is_l03Make [tI a0, tI a1, tLA8 a2] = bs_l03Make call a0 a1 a2 := by kernel_rfl
theorem vs_l03Make (a0 : Int) (a1 : Int) (a2 : List (List Int)) {o : List TV} (h : bs_l03Make R a0 a1 a2 = some o) : R is_l03Make [tI a0, tI a1, tLA8 a2] = some o := ev_step ((es_l03Make R a0 a1 a2).trans h)
/-- spec.l03Times -/
noncomputable def bs_l03Times (call : Oracle) (a0 : Int × Int × List (List Int)) (a1 : List Int) (a2 : Bool) : Option (List TV) :=
  bif a2 then
    (call is_l03Turned [tLA8 a0.2.2, tI a0.1, tI 1]).bind fun o1 =>
    (call is_l02Left [tA8 a1, tI a0.1]).bind fun o2 =>
    bif (apOk (gLA8 o1 0) [(gA8 o2 0)]) then
      (call is_l03Make [tI a0.1, tI (wi64 (a0.2.1 - 1)), tLA8 ((gLA8 o1 0) ++ [(gA8 o2 0)])]).bind fun o3 =>
      some [tPIPILA8 ((gPIPILA8 o3 0).1, (((gPIPILA8 o3 0).2).1, ((gPIPILA8 o3 0).2).2))]
    else none
  else
    bif (apOk [] a0.2.2) then
      bif (apOk a0.2.2 [a1]) then
        (call is_l03Make [tI a0.1, tI a0.2.1, tLA8 (a0.2.2 ++ [a1])]).bind fun o4 =>
        some [tPIPILA8 ((gPIPILA8 o4 0).1, (((gPIPILA8 o4 0).2).1, ((gPIPILA8 o4 0).2).2))]
      else none
    else none
theorem es_l03Times (call : Oracle) (a0 : Int × Int × List (List Int)) (a1 : List Int) (a2 : Bool) : run1 E call is_l03Times [tPIPILA8 a0, tA8 a1, tB a2] = bs_l03Times call a0 a1 a2 := by kernel_rfl
theorem vs_l03Times (a0 : Int × Int × List (List Int)) (a1 : List Int) (a2 : Bool) {o : List TV} (h : bs_l03Times R a0 a1 a2 = some o) : R is_l03Times [tPIPILA8 a0, tA8 a1, tB a2] = some o := ev_step ((es_l03Times R a0 a1 a2).trans h)
/-- spec.l03Of loop 3 -/
noncomputable def bs_l03Of_3 (call : Oracle) (x0 : List Int) (x1 : Int) (x2 : Int) (x3 : List (List Int)) (x4 : Int) (x5 : Int) (x6 : List (List Int)) (x7 : Int) (x8 : Int) : Option (List TV) :=
  bif decide (x8 < ((List.length x0 : Nat) : Int)) then
    bif (decide (0 ≤ x8) && decide (x8 < ((List.length x0 : Nat) : Int))) then
      bif decide (0 < (List.getD x0 (Int.toNat x8) 0)) then
        bif (decide (0 ≤ x8) && decide (x8 < ((List.length x0 : Nat) : Int))) then
          (call is_l02Exchange [tI x7, tI (List.getD x0 (Int.toNat x8) 0)]).bind fun o5 =>
          (call is_l03Times [tPIPILA8 (x4, (x5, x6)), tA8 (gA8 o5 0), tB false]).bind fun o6 =>
          call is_l03Of_3 [tLI x0, tI x1, tI x2, tLA8 x3, tI ((gPIPILA8 o6 0).1), tI (((gPIPILA8 o6 0).2).1), tLA8 (((gPIPILA8 o6 0).2).2), tI x7, tI (wi64 (x8 + 1))]
        else none
      else
        bif (decide (0 ≤ x8) && decide (x8 < ((List.length x0 : Nat) : Int))) then
          (call is_l02Exchange [tI x7, tI (wi64 (0 - (List.getD x0 (Int.toNat x8) 0)))]).bind fun o7 =>
          (call is_l03Times [tPIPILA8 (x4, (x5, x6)), tA8 (gA8 o7 0), tB true]).bind fun o8 =>
          call is_l03Of_3 [tLI x0, tI x1, tI x2, tLA8 x3, tI ((gPIPILA8 o8 0).1), tI (((gPIPILA8 o8 0).2).1), tLA8 (((gPIPILA8 o8 0).2).2), tI x7, tI (wi64 (x8 + 1))]
        else none
    else none
  else
    some [tI 0, tI x1, tI x2, tLA8 x3, tI x4, tI x5, tLA8 x6]
theorem es_l03Of_3 (call : Oracle) (x0 : List Int) (x1 : Int) (x2 : Int) (x3 : List (List Int)) (x4 : Int) (x5 : Int) (x6 : List (List Int)) (x7 : Int) (x8 : Int) : run1 E call is_l03Of_3 [tLI x0, tI x1, tI x2, tLA8 x3, tI x4, tI x5, tLA8 x6, tI x7, tI x8] = bs_l03Of_3 call x0 x1 x2 x3 x4 x5 x6 x7 x8 := by kernel_rfl
theorem vs_l03Of_3 (x0 : List Int) (x1 : Int) (x2 : Int) (x3 : List (List Int)) (x4 : Int) (x5 : Int) (x6 : List (List Int)) (x7 : Int) (x8 : Int) {o : List TV} (h : bs_l03Of_3 R x0 x1 x2 x3 x4 x5 x6 x7 x8 = some o) : R is_l03Of_3 [tLI x0, tI x1, tI x2, tLA8 x3, tI x4, tI x5, tLA8 x6, tI x7, tI x8] = some o := ev_step ((es_l03Of_3 R x0 x1 x2 x3 x4 x5 x6 x7 x8).trans h)
/-- spec.l03Of -/
noncomputable def bs_l03Of (call : Oracle) (a0 : Int) (a1 : List Int) : Option (List TV) :=
  (call is_l03Of_3 [tLI a1, tI 0, tI 0, tLA8 [], tI a0, tI 0, tLA8 [], tI a0, tI 0]).bind fun o9 =>
  some [tPIPILA8 ((gI o9 4), ((gI o9 5), (gLA8 o9 6)))]
theorem es_l03Of (call : Oracle) (a0 : Int) (a1 : List Int) : run1 E call is_l03Of [tI a0, tLI a1] = bs_l03Of call a0 a1 := by kernel_rfl
theorem vs_l03Of (a0 : Int) (a1 : List Int) {o : List TV} (h : bs_l03Of R a0 a1 = some o) : R is_l03Of [tI a0, tLI a1] = some o := ev_step ((es_l03Of R a0 a1).trans h)
/-- spec.l03Like loop 4 -/
noncomputable def bs_l03Like_4 (call : Oracle) (x0 : Int) (x1 : Int) (x2 : List (List Int)) (x3 : Int) (x4 : Int) (x5 : List (List Int)) (x6 : Int) : Option (List TV) :=
  bif decide (x6 < ((List.length x2 : Nat) : Int)) then
    bif (decide (0 ≤ x6) && decide (x6 < ((List.length x2 : Nat) : Int))) then
      bif (decide (0 ≤ x6) && decide (x6 < ((List.length x5 : Nat) : Int))) then
        bif ((List.getD x2 (Int.toNat x6) (List.replicate 8 0)) != (List.getD x5 (Int.toNat x6) (List.replicate 8 0))) then
          some [tI 1, tB false]
        else
          call is_l03Like_4 [tI x0, tI x1, tLA8 x2, tI x3, tI x4, tLA8 x5, tI (wi64 (x6 + 1))]
      else none
    else none
  else
    some [tI 0]
theorem es_l03Like_4 (call : Oracle) (x0 : Int) (x1 : Int) (x2 : List (List Int)) (x3 : Int) (x4 : Int) (x5 : List (List Int)) (x6 : Int) : run1 E call is_l03Like_4 [tI x0, tI x1, tLA8 x2, tI x3, tI x4, tLA8 x5, tI x6] = bs_l03Like_4 call x0 x1 x2 x3 x4 x5 x6 := by kernel_rfl
theorem vs_l03Like_4 (x0 : Int) (x1 : Int) (x2 : List (List Int)) (x3 : Int) (x4 : Int) (x5 : List (List Int)) (x6 : Int) {o : List TV} (h : bs_l03Like_4 R x0 x1 x2 x3 x4 x5 x6 = some o) : R is_l03Like_4 [tI x0, tI x1, tLA8 x2, tI x3, tI x4, tLA8 x5, tI x6] = some o := ev_step ((es_l03Like_4 R x0 x1 x2 x3 x4 x5 x6).trans h)
/-- spec.l03Like -/
noncomputable def bs_l03Like (call : Oracle) (a0 : Int × Int × List (List Int)) (a1 : Int × Int × List (List Int)) : Option (List TV) :=
  bif (a0.1 != a1.1) then
    some [tB false]
  else
    bif (a0.2.1 != a1.2.1) then
      some [tB false]
    else
      bif (((List.length a0.2.2 : Nat) : Int) != ((List.length a1.2.2 : Nat) : Int)) then
        some [tB false]
      else
        (call is_l03Like_4 [tI a0.1, tI a0.2.1, tLA8 a0.2.2, tI a1.1, tI a1.2.1, tLA8 a1.2.2, tI 0]).bind fun o1 =>
        bif ((gI o1 0) == 0) then
          some [tB true]
        else
          some [tB (gB o1 1)]
theorem es_l03Like (call : Oracle) (a0 : Int × Int × List (List Int)) (a1 : Int × Int × List (List Int)) : run1 E call is_l03Like [tPIPILA8 a0, tPIPILA8 a1] = bs_l03Like call a0 a1 := by kernel_rfl
theorem vs_l03Like (a0 : Int × Int × List (List Int)) (a1 : Int × Int × List (List Int)) {o : List TV} (h : bs_l03Like R a0 a1 = some o) : R is_l03Like [tPIPILA8 a0, tPIPILA8 a1] = some o := ev_step ((es_l03Like R a0 a1).trans h)
/-- spec.l03Equal -/
noncomputable def bs_l03Equal (call : Oracle) (a0 : Int) (a1 : List Int) (a2 : List Int) : Option (List TV) :=
  (call is_l03Of [tI a0, tLI a1]).bind fun o1 =>
  (call is_l03Of [tI a0, tLI a2]).bind fun o2 =>
  (call is_l03Like [tPIPILA8 ((gPIPILA8 o1 0).1, (((gPIPILA8 o1 0).2).1, ((gPIPILA8 o1 0).2).2)), tPIPILA8 ((gPIPILA8 o2 0).1, (((gPIPILA8 o2 0).2).1, ((gPIPILA8 o2 0).2).2))]).bind fun o3 =>
  some [tB (gB o3 0)]
theorem es_l03Equal (call : Oracle) (a0 : Int) (a1 : List Int) (a2 : List Int) : run1 E call is_l03Equal [tI a0, tLI a1, tLI a2] = bs_l03Equal call a0 a1 a2 := by kernel_rfl
theorem vs_l03Equal (a0 : Int) (a1 : List Int) (a2 : List Int) {o : List TV} (h : bs_l03Equal R a0 a1 a2 = some o) : R is_l03Equal [tI a0, tLI a1, tLI a2] = some o := ev_step ((es_l03Equal R a0 a1 a2).trans h)
/-- spec.SameBraid -/
noncomputable def bs_SameBraid (call : Oracle) (a0 : Int × List Int) (a1 : Int × List Int) : Option (List TV) :=
  (call is_l01Is [tPILI (a0.1, a0.2)]).bind fun o1 =>
  bif (!(gB o1 0)) then
    some [tB false, tI 1]
  else
    (call is_l01Is [tPILI (a1.1, a1.2)]).bind fun o2 =>
    bif (!(gB o2 0)) then
      some [tB false, tI 1]
    else
      bif (a0.1 != a1.1) then
        some [tB false, tI 2]
      else
        (call is_l03Equal [tI a0.1, tLI a0.2, tLI a1.2]).bind fun o3 =>
        some [tB (gB o3 0), tI 0]
theorem es_SameBraid (call : Oracle) (a0 : Int × List Int) (a1 : Int × List Int) : run1 E call is_SameBraid [tPILI a0, tPILI a1] = bs_SameBraid call a0 a1 := by kernel_rfl
theorem vs_SameBraid (a0 : Int × List Int) (a1 : Int × List Int) {o : List TV} (h : bs_SameBraid R a0 a1 = some o) : R is_SameBraid [tPILI a0, tPILI a1] = some o := ev_step ((es_SameBraid R a0 a1).trans h)
/-- impl.within -/
noncomputable def bi_within (call : Oracle) (a0 : Int) (a1 : Int) (a2 : Int) : Option (List TV) :=
  bif decide (a1 ≤ a0) then
    some [tB (decide (a0 ≤ a2))]
  else
    some [tB false]
theorem ei_within (call : Oracle) (a0 : Int) (a1 : Int) (a2 : Int) : run1 E call ii_within [tI a0, tI a1, tI a2] = bi_within call a0 a1 a2 := by kernel_rfl
theorem vi_within (a0 : Int) (a1 : Int) (a2 : Int) {o : List TV} (h : bi_within R a0 a1 a2 = some o) : R ii_within [tI a0, tI a1, tI a2] = some o := ev_step ((ei_within R a0 a1 a2).trans h)
/-- impl.isCount -/
noncomputable def bi_isCount (call : Oracle) (a0 : Int) : Option (List TV) :=
  (call ii_within [tI a0, tI 1, tI 8]).bind fun o1 =>
  some [tB (gB o1 0)]
theorem ei_isCount (call : Oracle) (a0 : Int) : run1 E call ii_isCount [tI a0] = bi_isCount call a0 := by kernel_rfl
theorem vi_isCount (a0 : Int) {o : List TV} (h : bi_isCount R a0 = some o) : R ii_isCount [tI a0] = some o := ev_step ((ei_isCount R a0).trans h)
/-- impl.isLetter -/
noncomputable def bi_isLetter (call : Oracle) (a0 : Int) (a1 : Int) : Option (List TV) :=
  bif (a0 != 0) then
    (call ii_within [tI a0, tI (wi64 (1 - a1)), tI (wi64 (a1 - 1))]).bind fun o1 =>
    some [tB (gB o1 0)]
  else
    some [tB false]
theorem ei_isLetter (call : Oracle) (a0 : Int) (a1 : Int) : run1 E call ii_isLetter [tI a0, tI a1] = bi_isLetter call a0 a1 := by kernel_rfl
theorem vi_isLetter (a0 : Int) (a1 : Int) {o : List TV} (h : bi_isLetter R a0 a1 = some o) : R ii_isLetter [tI a0, tI a1] = some o := ev_step ((ei_isLetter R a0 a1).trans h)
/-- impl.IsBraid loop 4 -/
noncomputable def bi_IsBraid_4 (call : Oracle) (x0 : Int) (x1 : List Int) (x2 : Int) (x3 : Int) : Option (List TV) :=
  bif decide (x3 < x2) then
    bif (decide (0 ≤ x3) && decide (x3 < ((List.length x1 : Nat) : Int))) then
      (call ii_isLetter [tI (List.getD x1 (Int.toNat x3) 0), tI x0]).bind fun o3 =>
      bif (!(gB o3 0)) then
        some [tI 1, tB false]
      else
        call ii_IsBraid_4 [tI x0, tLI x1, tI x2, tI (wi64 (x3 + 1))]
    else none
  else
    some [tI 0]
theorem ei_IsBraid_4 (call : Oracle) (x0 : Int) (x1 : List Int) (x2 : Int) (x3 : Int) : run1 E call ii_IsBraid_4 [tI x0, tLI x1, tI x2, tI x3] = bi_IsBraid_4 call x0 x1 x2 x3 := by kernel_rfl
theorem vi_IsBraid_4 (x0 : Int) (x1 : List Int) (x2 : Int) (x3 : Int) {o : List TV} (h : bi_IsBraid_4 R x0 x1 x2 x3 = some o) : R ii_IsBraid_4 [tI x0, tLI x1, tI x2, tI x3] = some o := ev_step ((ei_IsBraid_4 R x0 x1 x2 x3).trans h)
/-- impl.IsBraid -/
noncomputable def bi_IsBraid (call : Oracle) (a0 : Int × List Int) : Option (List TV) :=
  (call ii_isCount [tI a0.1]).bind fun o1 =>
  bif (!(gB o1 0)) then
    some [tB false]
  else
    bif decide (200 < ((List.length a0.2 : Nat) : Int)) then
      some [tB false]
    else
      (call ii_IsBraid_4 [tI a0.1, tLI a0.2, tI ((List.length a0.2 : Nat) : Int), tI 0]).bind fun o4 =>
      bif ((gI o4 0) == 0) then
        some [tB true]
      else
        some [tB (gB o4 1)]
theorem ei_IsBraid (call : Oracle) (a0 : Int × List Int) : run1 E call ii_IsBraid [tPILI a0] = bi_IsBraid call a0 := by kernel_rfl
theorem vi_IsBraid (a0 : Int × List Int) {o : List TV} (h : bi_IsBraid R a0 = some o) : R ii_IsBraid [tPILI a0] = some o := ev_step ((ei_IsBraid R a0).trans h)
/-- impl.nothing loop 3 -/
noncomputable def bi_nothing_3 (call : Oracle) (x0 : List Int) (x1 : List Int) (x2 : Int) (x3 : Int) : Option (List TV) :=
  bif decide (x3 < x2) then
    bif (decide (0 ≤ x3) && decide (x3 < 8)) then
      call ii_nothing_3 [tA8 x0, tA8 (List.set x1 (Int.toNat x3) (wu8 (x3))), tI x2, tI (wi64 (x3 + 1))]
    else none
  else
    some [tI 0, tA8 x0, tA8 x1]
theorem ei_nothing_3 (call : Oracle) (x0 : List Int) (x1 : List Int) (x2 : Int) (x3 : Int) : run1 E call ii_nothing_3 [tA8 x0, tA8 x1, tI x2, tI x3] = bi_nothing_3 call x0 x1 x2 x3 := by kernel_rfl
theorem vi_nothing_3 (x0 : List Int) (x1 : List Int) (x2 : Int) (x3 : Int) {o : List TV} (h : bi_nothing_3 R x0 x1 x2 x3 = some o) : R ii_nothing_3 [tA8 x0, tA8 x1, tI x2, tI x3] = some o := ev_step ((ei_nothing_3 R x0 x1 x2 x3).trans h)
/-- impl.nothing -/
noncomputable def bi_nothing (call : Oracle) (a0 : Int) : Option (List TV) :=
  (call ii_nothing_3 [tA8 (List.replicate 8 0), tA8 (List.replicate 8 0), tI a0, tI 0]).bind fun o1 =>
  some [tA8 (gA8 o1 2)]
theorem ei_nothing (call : Oracle) (a0 : Int) : run1 E call ii_nothing [tI a0] = bi_nothing call a0 := by kernel_rfl
theorem vi_nothing (a0 : Int) {o : List TV} (h : bi_nothing R a0 = some o) : R ii_nothing [tI a0] = some o := ev_step ((ei_nothing R a0).trans h)
/-- impl.exchange -/
noncomputable def bi_exchange (call : Oracle) (a0 : Int) (a1 : Int) : Option (List TV) :=
  (call ii_nothing [tI a1]).bind fun o1 =>
  bif (decide (0 ≤ a0) && decide (a0 < 8)) then
    bif (decide (0 ≤ (wi64 (a0 - 1))) && decide ((wi64 (a0 - 1)) < 8)) then
      bif (decide (0 ≤ (wi64 (a0 - 1))) && decide ((wi64 (a0 - 1)) < 8)) then
        bif (decide (0 ≤ a0) && decide (a0 < 8)) then
          some [tA8 (List.set (List.set (gA8 o1 0) (Int.toNat (wi64 (a0 - 1))) (List.getD (gA8 o1 0) (Int.toNat a0) 0)) (Int.toNat a0) (List.getD (gA8 o1 0) (Int.toNat (wi64 (a0 - 1))) 0))]
        else none
      else none
    else none
  else none
theorem ei_exchange (call : Oracle) (a0 : Int) (a1 : Int) : run1 E call ii_exchange [tI a0, tI a1] = bi_exchange call a0 a1 := by kernel_rfl
theorem vi_exchange (a0 : Int) (a1 : Int) {o : List TV} (h : bi_exchange R a0 a1 = some o) : R ii_exchange [tI a0, tI a1] = some o := ev_step ((ei_exchange R a0 a1).trans h)
/-- impl.backOf loop 3 -/
noncomputable def bi_backOf_3 (call : Oracle) (x0 : List Int) (x1 : List Int) (x2 : List Int) (x3 : Int) (x4 : Int) : Option (List TV) :=
  bif decide (x4 < x3) then
    bif (decide (0 ≤ x4) && decide (x4 < 8)) then
      bif (decide (0 ≤ (List.getD x0 (Int.toNat x4) 0)) && decide ((List.getD x0 (Int.toNat x4) 0) < 8)) then
        call ii_backOf_3 [tA8 x0, tA8 x1, tA8 (List.set x2 (Int.toNat (List.getD x0 (Int.toNat x4) 0)) (wu8 (x4))), tI x3, tI (wi64 (x4 + 1))]
      else none
    else none
  else
    some [tI 0, tA8 x1, tA8 x2]
theorem ei_backOf_3 (call : Oracle) (x0 : List Int) (x1 : List Int) (x2 : List Int) (x3 : Int) (x4 : Int) : run1 E call ii_backOf_3 [tA8 x0, tA8 x1, tA8 x2, tI x3, tI x4] = bi_backOf_3 call x0 x1 x2 x3 x4 := by kernel_rfl
theorem vi_backOf_3 (x0 : List Int) (x1 : List Int) (x2 : List Int) (x3 : Int) (x4 : Int) {o : List TV} (h : bi_backOf_3 R x0 x1 x2 x3 x4 = some o) : R ii_backOf_3 [tA8 x0, tA8 x1, tA8 x2, tI x3, tI x4] = some o := ev_step ((ei_backOf_3 R x0 x1 x2 x3 x4).trans h)
/-- impl.backOf -/
noncomputable def bi_backOf (call : Oracle) (a0 : List Int) (a1 : Int) : Option (List TV) :=
  (call ii_backOf_3 [tA8 a0, tA8 (List.replicate 8 0), tA8 (List.replicate 8 0), tI a1, tI 0]).bind fun o1 =>
  some [tA8 (gA8 o1 2)]
theorem ei_backOf (call : Oracle) (a0 : List Int) (a1 : Int) : run1 E call ii_backOf [tA8 a0, tI a1] = bi_backOf call a0 a1 := by kernel_rfl
theorem vi_backOf (a0 : List Int) (a1 : Int) {o : List TV} (h : bi_backOf R a0 a1 = some o) : R ii_backOf [tA8 a0, tI a1] = some o := ev_step ((ei_backOf R a0 a1).trans h)
/-- impl.halfTurn loop 3 -/
noncomputable def bi_halfTurn_3 (call : Oracle) (x0 : List Int) (x1 : List Int) (x2 : Int) (x3 : Int) (x4 : Int) : Option (List TV) :=
  bif decide (x4 < x3) then
    bif (decide (0 ≤ x4) && decide (x4 < 8)) then
      call ii_halfTurn_3 [tA8 x0, tA8 (List.set x1 (Int.toNat x4) (wu8 ((wi64 ((wi64 (x2 - 1)) - x4))))), tI x2, tI x3, tI (wi64 (x4 + 1))]
    else none
  else
    some [tI 0, tA8 x0, tA8 x1]
theorem ei_halfTurn_3 (call : Oracle) (x0 : List Int) (x1 : List Int) (x2 : Int) (x3 : Int) (x4 : Int) : run1 E call ii_halfTurn_3 [tA8 x0, tA8 x1, tI x2, tI x3, tI x4] = bi_halfTurn_3 call x0 x1 x2 x3 x4 := by kernel_rfl
theorem vi_halfTurn_3 (x0 : List Int) (x1 : List Int) (x2 : Int) (x3 : Int) (x4 : Int) {o : List TV} (h : bi_halfTurn_3 R x0 x1 x2 x3 x4 = some o) : R ii_halfTurn_3 [tA8 x0, tA8 x1, tI x2, tI x3, tI x4] = some o := ev_step ((ei_halfTurn_3 R x0 x1 x2 x3 x4).trans h)
/-- impl.halfTurn -/
noncomputable def bi_halfTurn (call : Oracle) (a0 : Int) : Option (List TV) :=
  (call ii_halfTurn_3 [tA8 (List.replicate 8 0), tA8 (List.replicate 8 0), tI a0, tI a0, tI 0]).bind fun o1 =>
  some [tA8 (gA8 o1 2)]
theorem ei_halfTurn (call : Oracle) (a0 : Int) : run1 E call ii_halfTurn [tI a0] = bi_halfTurn call a0 := by kernel_rfl
theorem vi_halfTurn (a0 : Int) {o : List TV} (h : bi_halfTurn R a0 = some o) : R ii_halfTurn [tI a0] = some o := ev_step ((ei_halfTurn R a0).trans h)
/-- impl.then loop 3 -/
noncomputable def bi_then_3 (call : Oracle) (x0 : List Int) (x1 : List Int) (x2 : List Int) (x3 : List Int) (x4 : Int) (x5 : Int) : Option (List TV) :=
  bif decide (x5 < x4) then
    bif (decide (0 ≤ x5) && decide (x5 < 8)) then
      bif (decide (0 ≤ (List.getD x0 (Int.toNat x5) 0)) && decide ((List.getD x0 (Int.toNat x5) 0) < 8)) then
        bif (decide (0 ≤ x5) && decide (x5 < 8)) then
          call ii_then_3 [tA8 x0, tA8 x1, tA8 x2, tA8 (List.set x3 (Int.toNat x5) (List.getD x1 (Int.toNat (List.getD x0 (Int.toNat x5) 0)) 0)), tI x4, tI (wi64 (x5 + 1))]
        else none
      else none
    else none
  else
    some [tI 0, tA8 x2, tA8 x3]
theorem ei_then_3 (call : Oracle) (x0 : List Int) (x1 : List Int) (x2 : List Int) (x3 : List Int) (x4 : Int) (x5 : Int) : run1 E call ii_then_3 [tA8 x0, tA8 x1, tA8 x2, tA8 x3, tI x4, tI x5] = bi_then_3 call x0 x1 x2 x3 x4 x5 := by kernel_rfl
theorem vi_then_3 (x0 : List Int) (x1 : List Int) (x2 : List Int) (x3 : List Int) (x4 : Int) (x5 : Int) {o : List TV} (h : bi_then_3 R x0 x1 x2 x3 x4 x5 = some o) : R ii_then_3 [tA8 x0, tA8 x1, tA8 x2, tA8 x3, tI x4, tI x5] = some o := ev_step ((ei_then_3 R x0 x1 x2 x3 x4 x5).trans h)
/-- impl.then -/
noncomputable def bi_then (call : Oracle) (a0 : List Int) (a1 : List Int) (a2 : Int) : Option (List TV) :=
  (call ii_then_3 [tA8 a0, tA8 a1, tA8 (List.replicate 8 0), tA8 (List.replicate 8 0), tI a2, tI 0]).bind fun o1 =>
  some [tA8 (gA8 o1 2)]
theorem ei_then (call : Oracle) (a0 : List Int) (a1 : List Int) (a2 : Int) : run1 E call ii_then [tA8 a0, tA8 a1, tI a2] = bi_then call a0 a1 a2 := by kernel_rfl
theorem vi_then (a0 : List Int) (a1 : List Int) (a2 : Int) {o : List TV} (h : bi_then R a0 a1 a2 = some o) : R ii_then [tA8 a0, tA8 a1, tI a2] = some o := ev_step ((ei_then R a0 a1 a2).trans h)
/-- impl.complement -/
noncomputable def bi_complement (call : Oracle) (a0 : List Int) (a1 : Int) : Option (List TV) :=
  (call ii_backOf [tA8 a0, tI a1]).bind fun o1 =>
  (call ii_halfTurn [tI a1]).bind fun o2 =>
  (call ii_then [tA8 (gA8 o1 0), tA8 (gA8 o2 0), tI a1]).bind fun o3 =>
  some [tA8 (gA8 o3 0)]
theorem ei_complement (call : Oracle) (a0 : List Int) (a1 : Int) : run1 E call ii_complement [tA8 a0, tI a1] = bi_complement call a0 a1 := by kernel_rfl
theorem vi_complement (a0 : List Int) (a1 : Int) {o : List TV} (h : bi_complement R a0 a1 = some o) : R ii_complement [tA8 a0, tI a1] = some o := ev_step ((ei_complement R a0 a1).trans h)
/-- impl.descents loop 3 -/
noncomputable def bi_descents_3 (call : Oracle) (x0 : List Int) (x1 : Int) (x2 : Int) (x3 : Int) : Option (List TV) :=
  bif decide (x3 < x2) then
    (call ii_descents_6 [tA8 x0, tU64 x1, tI x3, tI x2, tI x3, tI x3, tI 0]).bind fun o2 =>
    call ii_descents_3 [tA8 (gA8 o2 1), tU64 (gU64 o2 2), tI (gI o2 3), tI (wi64 ((gI o2 4) + 1))]
  else
    some [tI 0, tU64 x1]
theorem ei_descents_3 (call : Oracle) (x0 : List Int) (x1 : Int) (x2 : Int) (x3 : Int) : run1 E call ii_descents_3 [tA8 x0, tU64 x1, tI x2, tI x3] = bi_descents_3 call x0 x1 x2 x3 := by kernel_rfl
theorem vi_descents_3 (x0 : List Int) (x1 : Int) (x2 : Int) (x3 : Int) {o : List TV} (h : bi_descents_3 R x0 x1 x2 x3 = some o) : R ii_descents_3 [tA8 x0, tU64 x1, tI x2, tI x3] = some o := ev_step ((ei_descents_3 R x0 x1 x2 x3).trans h)
/-- impl.descents loop 6 -/
noncomputable def bi_descents_6 (call : Oracle) (x0 : List Int) (x1 : Int) (x2 : Int) (x3 : Int) (x4 : Int) (x5 : Int) (x6 : Int) : Option (List TV) :=
  bif decide (x6 < x5) then
    bif (decide (0 ≤ x6) && decide (x6 < 8)) then
      bif (decide (0 ≤ x2) && decide (x2 < 8)) then
        bif decide ((List.getD x0 (Int.toNat x2) 0) < (List.getD x0 (Int.toNat x6) 0)) then
          bif decide (0 ≤ (wi64 ((wi64 (8 * x6)) + x2))) then
            call ii_descents_6 [tA8 x0, tU64 (bitsOr .u64 x1 (shl .u64 1 (wi64 ((wi64 (8 * x6)) + x2)))), tI x2, tI x3, tI x4, tI x5, tI (wi64 (x6 + 1))]
          else none
        else
          call ii_descents_6 [tA8 x0, tU64 x1, tI x2, tI x3, tI x4, tI x5, tI (wi64 (x6 + 1))]
      else none
    else none
  else
    some [tI 0, tA8 x0, tU64 x1, tI x3, tI x4]
theorem ei_descents_6 (call : Oracle) (x0 : List Int) (x1 : Int) (x2 : Int) (x3 : Int) (x4 : Int) (x5 : Int) (x6 : Int) : run1 E call ii_descents_6 [tA8 x0, tU64 x1, tI x2, tI x3, tI x4, tI x5, tI x6] = bi_descents_6 call x0 x1 x2 x3 x4 x5 x6 := by kernel_rfl
theorem vi_descents_6 (x0 : List Int) (x1 : Int) (x2 : Int) (x3 : Int) (x4 : Int) (x5 : Int) (x6 : Int) {o : List TV} (h : bi_descents_6 R x0 x1 x2 x3 x4 x5 x6 = some o) : R ii_descents_6 [tA8 x0, tU64 x1, tI x2, tI x3, tI x4, tI x5, tI x6] = some o := ev_step ((ei_descents_6 R x0 x1 x2 x3 x4 x5 x6).trans h)
/-- impl.descents -/
noncomputable def bi_descents (call : Oracle) (a0 : List Int) (a1 : Int) : Option (List TV) :=
  (call ii_descents_3 [tA8 a0, tU64 0, tI a1, tI 0]).bind fun o3 =>
  some [tU64 (gU64 o3 1)]
theorem ei_descents (call : Oracle) (a0 : List Int) (a1 : Int) : run1 E call ii_descents [tA8 a0, tI a1] = bi_descents call a0 a1 := by kernel_rfl
theorem vi_descents (a0 : List Int) (a1 : Int) {o : List TV} (h : bi_descents R a0 a1 = some o) : R ii_descents [tA8 a0, tI a1] = some o := ev_step ((ei_descents R a0 a1).trans h)
/-- impl.meet loop 4 -/
noncomputable def bi_meet_4 (call : Oracle) (x0 : List Int) (x1 : List Int) (x2 : Int) (x3 : Int) (x4 : Bool) : Option (List TV) :=
  bif x4 then
    (call ii_meet_7 [tA8 x0, tA8 x1, tI x2, tU64 x3, tB false, tI 1]).bind fun o5 =>
    call ii_meet_4 [tA8 (gA8 o5 1), tA8 (gA8 o5 2), tI (gI o5 3), tU64 (gU64 o5 4), tB (gB o5 5)]
  else
    some [tI 0, tA8 x0, tA8 x1, tI x2]
theorem ei_meet_4 (call : Oracle) (x0 : List Int) (x1 : List Int) (x2 : Int) (x3 : Int) (x4 : Bool) : run1 E call ii_meet_4 [tA8 x0, tA8 x1, tI x2, tU64 x3, tB x4] = bi_meet_4 call x0 x1 x2 x3 x4 := by kernel_rfl
theorem vi_meet_4 (x0 : List Int) (x1 : List Int) (x2 : Int) (x3 : Int) (x4 : Bool) {o : List TV} (h : bi_meet_4 R x0 x1 x2 x3 x4 = some o) : R ii_meet_4 [tA8 x0, tA8 x1, tI x2, tU64 x3, tB x4] = some o := ev_step ((ei_meet_4 R x0 x1 x2 x3 x4).trans h)
/-- impl.meet loop 7 -/
noncomputable def bi_meet_7 (call : Oracle) (x0 : List Int) (x1 : List Int) (x2 : Int) (x3 : Int) (x4 : Bool) (x5 : Int) : Option (List TV) :=
  bif decide (x5 < x2) then
    bif (decide (0 ≤ (wi64 (x5 - 1))) && decide ((wi64 (x5 - 1)) < 8)) then
      bif (decide (0 ≤ x5) && decide (x5 < 8)) then
        bif decide ((List.getD x1 (Int.toNat (wi64 (x5 - 1))) 0) < (List.getD x1 (Int.toNat x5) 0)) then
          bif decide (0 ≤ (wu8 ((wu8 (8 * (List.getD x1 (Int.toNat (wi64 (x5 - 1))) 0))) + (List.getD x1 (Int.toNat x5) 0)))) then
            bif ((bitsAnd .u64 (shr .u64 x3 (wu8 ((wu8 (8 * (List.getD x1 (Int.toNat (wi64 (x5 - 1))) 0))) + (List.getD x1 (Int.toNat x5) 0)))) 1) == 1) then
              bif (decide (0 ≤ (wi64 (x5 - 1))) && decide ((wi64 (x5 - 1)) < 8)) then
                bif (decide (0 ≤ x5) && decide (x5 < 8)) then
                  call ii_meet_7 [tA8 x0, tA8 (List.set (List.set x1 (Int.toNat (wi64 (x5 - 1))) (List.getD x1 (Int.toNat x5) 0)) (Int.toNat x5) (List.getD x1 (Int.toNat (wi64 (x5 - 1))) 0)), tI x2, tU64 x3, tB true, tI (wi64 (x5 + 1))]
                else none
              else none
            else
              call ii_meet_7 [tA8 x0, tA8 x1, tI x2, tU64 x3, tB x4, tI (wi64 (x5 + 1))]
          else none
        else
          call ii_meet_7 [tA8 x0, tA8 x1, tI x2, tU64 x3, tB x4, tI (wi64 (x5 + 1))]
      else none
    else none
  else
    some [tI 0, tA8 x0, tA8 x1, tI x2, tU64 x3, tB x4]
theorem ei_meet_7 (call : Oracle) (x0 : List Int) (x1 : List Int) (x2 : Int) (x3 : Int) (x4 : Bool) (x5 : Int) : run1 E call ii_meet_7 [tA8 x0, tA8 x1, tI x2, tU64 x3, tB x4, tI x5] = bi_meet_7 call x0 x1 x2 x3 x4 x5 := by kernel_rfl
theorem vi_meet_7 (x0 : List Int) (x1 : List Int) (x2 : Int) (x3 : Int) (x4 : Bool) (x5 : Int) {o : List TV} (h : bi_meet_7 R x0 x1 x2 x3 x4 x5 = some o) : R ii_meet_7 [tA8 x0, tA8 x1, tI x2, tU64 x3, tB x4, tI x5] = some o := ev_step ((ei_meet_7 R x0 x1 x2 x3 x4 x5).trans h)
/-- impl.meet -/
noncomputable def bi_meet (call : Oracle) (a0 : List Int) (a1 : List Int) (a2 : Int) : Option (List TV) :=
  (call ii_descents [tA8 a0, tI a2]).bind fun o1 =>
  (call ii_descents [tA8 a1, tI a2]).bind fun o2 =>
  (call ii_nothing [tI a2]).bind fun o3 =>
  (call ii_meet_4 [tA8 (List.replicate 8 0), tA8 (gA8 o3 0), tI a2, tU64 (bitsAnd .u64 (gU64 o1 0) (gU64 o2 0)), tB true]).bind fun o6 =>
  (call ii_backOf [tA8 (gA8 o6 2), tI (gI o6 3)]).bind fun o7 =>
  some [tA8 (gA8 o7 0)]
theorem ei_meet (call : Oracle) (a0 : List Int) (a1 : List Int) (a2 : Int) : run1 E call ii_meet [tA8 a0, tA8 a1, tI a2] = bi_meet call a0 a1 a2 := by kernel_rfl
theorem vi_meet (a0 : List Int) (a1 : List Int) (a2 : Int) {o : List TV} (h : bi_meet R a0 a1 a2 = some o) : R ii_meet [tA8 a0, tA8 a1, tI a2] = some o := ev_step ((ei_meet R a0 a1 a2).trans h)
/-- (*impl.Normal).put loop 5 -/
noncomputable def b__i_Normal__put_5 (call : Oracle) (x0 : Int) (x1 : Int) (x2 : List (List Int)) (x3 : Int) (x4 : Int) : Option (List TV) :=
  bif decide (0 < x4) then
    bif (decide (0 ≤ (wi64 (x4 - 1))) && decide ((wi64 (x4 - 1)) < ((List.length x2 : Nat) : Int))) then
      (call ii_complement [tA8 (List.getD x2 (Int.toNat (wi64 (x4 - 1))) (List.replicate 8 0)), tI x3]).bind fun o8 =>
      bif (decide (0 ≤ x4) && decide (x4 < ((List.length x2 : Nat) : Int))) then
        (call ii_meet [tA8 (gA8 o8 0), tA8 (List.getD x2 (Int.toNat x4) (List.replicate 8 0)), tI x3]).bind fun o9 =>
        (call ii_nothing [tI x3]).bind fun o10 =>
        bif ((gA8 o9 0) == (gA8 o10 0)) then
          some [tI 0, tI x0, tI x1, tLA8 x2, tI x3]
        else
          bif (decide (0 ≤ (wi64 (x4 - 1))) && decide ((wi64 (x4 - 1)) < ((List.length x2 : Nat) : Int))) then
            (call ii_then [tA8 (List.getD x2 (Int.toNat (wi64 (x4 - 1))) (List.replicate 8 0)), tA8 (gA8 o9 0), tI x3]).bind fun o11 =>
            bif (decide (0 ≤ (wi64 (x4 - 1))) && decide ((wi64 (x4 - 1)) < ((List.length x2 : Nat) : Int))) then
              (call ii_backOf [tA8 (gA8 o9 0), tI x3]).bind fun o12 =>
              bif (decide (0 ≤ x4) && decide (x4 < ((List.length (List.set x2 (Int.toNat (wi64 (x4 - 1))) (gA8 o11 0)) : Nat) : Int))) then
                (call ii_then [tA8 (gA8 o12 0), tA8 (List.getD (List.set x2 (Int.toNat (wi64 (x4 - 1))) (gA8 o11 0)) (Int.toNat x4) (List.replicate 8 0)), tI x3]).bind fun o13 =>
                bif (decide (0 ≤ x4) && decide (x4 < ((List.length (List.set x2 (Int.toNat (wi64 (x4 - 1))) (gA8 o11 0)) : Nat) : Int))) then
                  call i__i_Normal__put_5 [tI x0, tI x1, tLA8 (List.set (List.set x2 (Int.toNat (wi64 (x4 - 1))) (gA8 o11 0)) (Int.toNat x4) (gA8 o13 0)), tI x3, tI (wi64 (x4 - 1))]
                else none
              else none
            else none
          else none
      else none
    else none
  else
    some [tI 0, tI x0, tI x1, tLA8 x2, tI x3]
theorem e__i_Normal__put_5 (call : Oracle) (x0 : Int) (x1 : Int) (x2 : List (List Int)) (x3 : Int) (x4 : Int) : run1 E call i__i_Normal__put_5 [tI x0, tI x1, tLA8 x2, tI x3, tI x4] = b__i_Normal__put_5 call x0 x1 x2 x3 x4 := by kernel_rfl
theorem v__i_Normal__put_5 (x0 : Int) (x1 : Int) (x2 : List (List Int)) (x3 : Int) (x4 : Int) {o : List TV} (h : b__i_Normal__put_5 R x0 x1 x2 x3 x4 = some o) : R i__i_Normal__put_5 [tI x0, tI x1, tLA8 x2, tI x3, tI x4] = some o := ev_step ((e__i_Normal__put_5 R x0 x1 x2 x3 x4).trans h)
/-- (*impl.Normal).put loop 11 -/
noncomputable def b__i_Normal__put_11 (call : Oracle) (x0 : Int) (x1 : Int) (x2 : List (List Int)) (x3 : Int) : Option (List TV) :=
  bif decide (0 < ((List.length x2 : Nat) : Int)) then
    bif decide (0 < ((List.length x2 : Nat) : Int)) then
      (call ii_halfTurn [tI x3]).bind fun o16 =>
      bif ((List.getD x2 0 (List.replicate 8 0)) == (gA8 o16 0)) then
        bif decide (1 ≤ ((List.length x2 : Nat) : Int)) then
          call i__i_Normal__put_11 [tI x0, tI (wi64 (x1 + 1)), tLA8 (List.drop 1 x2), tI x3]
        else none
      else
        some [tI 0, tI x0, tI x1, tLA8 x2, tI x3]
    else none
  else
    some [tI 0, tI x0, tI x1, tLA8 x2, tI x3]
theorem e__i_Normal__put_11 (call : Oracle) (x0 : Int) (x1 : Int) (x2 : List (List Int)) (x3 : Int) : run1 E call i__i_Normal__put_11 [tI x0, tI x1, tLA8 x2, tI x3] = b__i_Normal__put_11 call x0 x1 x2 x3 := by kernel_rfl
theorem v__i_Normal__put_11 (x0 : Int) (x1 : Int) (x2 : List (List Int)) (x3 : Int) {o : List TV} (h : b__i_Normal__put_11 R x0 x1 x2 x3 = some o) : R i__i_Normal__put_11 [tI x0, tI x1, tLA8 x2, tI x3] = some o := ev_step ((e__i_Normal__put_11 R x0 x1 x2 x3).trans h)
/-- (*impl.Normal).put loop 14 -/
noncomputable def b__i_Normal__put_14 (call : Oracle) (x0 : Int) (x1 : Int) (x2 : List (List Int)) (x3 : Int) : Option (List TV) :=
  bif decide (0 < ((List.length x2 : Nat) : Int)) then
    bif (decide (0 ≤ (wi64 (((List.length x2 : Nat) : Int) - 1))) && decide ((wi64 (((List.length x2 : Nat) : Int) - 1)) < ((List.length x2 : Nat) : Int))) then
      (call ii_nothing [tI x3]).bind fun o19 =>
      bif ((List.getD x2 (Int.toNat (wi64 (((List.length x2 : Nat) : Int) - 1))) (List.replicate 8 0)) == (gA8 o19 0)) then
        bif (decide (0 ≤ (wi64 (((List.length x2 : Nat) : Int) - 1))) && decide ((wi64 (((List.length x2 : Nat) : Int) - 1)) ≤ ((List.length x2 : Nat) : Int))) then
          call i__i_Normal__put_14 [tI x0, tI x1, tLA8 (List.take (Int.toNat (wi64 (((List.length x2 : Nat) : Int) - 1))) x2), tI x3]
        else none
      else
        some [tI 0, tI x0, tI x1, tLA8 x2]
    else none
  else
    some [tI 0, tI x0, tI x1, tLA8 x2]
theorem e__i_Normal__put_14 (call : Oracle) (x0 : Int) (x1 : Int) (x2 : List (List Int)) (x3 : Int) : run1 E call i__i_Normal__put_14 [tI x0, tI x1, tLA8 x2, tI x3] = b__i_Normal__put_14 call x0 x1 x2 x3 := by kernel_rfl
theorem v__i_Normal__put_14 (x0 : Int) (x1 : Int) (x2 : List (List Int)) (x3 : Int) {o : List TV} (h : b__i_Normal__put_14 R x0 x1 x2 x3 = some o) : R i__i_Normal__put_14 [tI x0, tI x1, tLA8 x2, tI x3] = some o := ev_step ((e__i_Normal__put_14 R x0 x1 x2 x3).trans h)
/-- (*impl.Normal).put -/
noncomputable def b__i_Normal__put (call : Oracle) (a0 : Int × Int × List (List Int)) (a1 : List Int) : Option (List TV) :=
  (call ii_nothing [tI a0.1]).bind fun o1 =>
  bif (a1 == (gA8 o1 0)) then
    some [tPIPILA8 (a0.1, (a0.2.1, a0.2.2))]
  else
    bif (apOk a0.2.2 [a1]) then
      (call i__i_Normal__put_5 [tI a0.1, tI a0.2.1, tLA8 (a0.2.2 ++ [a1]), tI a0.1, tI (wi64 (((List.length (a0.2.2 ++ [a1]) : Nat) : Int) - 1))]).bind fun o14 =>
      (call i__i_Normal__put_11 [tI (gI o14 1), tI (gI o14 2), tLA8 (gLA8 o14 3), tI (gI o14 4)]).bind fun o17 =>
      (call i__i_Normal__put_14 [tI (gI o17 1), tI (gI o17 2), tLA8 (gLA8 o17 3), tI (gI o17 4)]).bind fun o20 =>
      some [tPIPILA8 ((gI o20 1), ((gI o20 2), (gLA8 o20 3)))]
    else none
theorem e__i_Normal__put (call : Oracle) (a0 : Int × Int × List (List Int)) (a1 : List Int) : run1 E call i__i_Normal__put [tPIPILA8 a0, tA8 a1] = b__i_Normal__put call a0 a1 := by kernel_rfl
theorem v__i_Normal__put (a0 : Int × Int × List (List Int)) (a1 : List Int) {o : List TV} (h : b__i_Normal__put R a0 a1 = some o) : R i__i_Normal__put [tPIPILA8 a0, tA8 a1] = some o := ev_step ((e__i_Normal__put R a0 a1).trans h)
/-- impl.turn -/
noncomputable def bi_turn (call : Oracle) (a0 : List Int) (a1 : Int) : Option (List TV) :=
  (call ii_halfTurn [tI a1]).bind fun o1 =>
  (call ii_then [tA8 (gA8 o1 0), tA8 a0, tI a1]).bind fun o2 =>
  (call ii_halfTurn [tI a1]).bind fun o3 =>
  (call ii_then [tA8 (gA8 o2 0), tA8 (gA8 o3 0), tI a1]).bind fun o4 =>
  some [tA8 (gA8 o4 0)]
theorem ei_turn (call : Oracle) (a0 : List Int) (a1 : Int) : run1 E call ii_turn [tA8 a0, tI a1] = bi_turn call a0 a1 := by kernel_rfl
theorem vi_turn (a0 : List Int) (a1 : Int) {o : List TV} (h : bi_turn R a0 a1 = some o) : R ii_turn [tA8 a0, tI a1] = some o := ev_step ((ei_turn R a0 a1).trans h)
end Go.Ev.Ytolpnaiincngjaa
