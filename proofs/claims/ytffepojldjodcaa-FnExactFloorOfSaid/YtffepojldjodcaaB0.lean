/- Bodies, part 0. -/
import Derived.KernelRfl
import Derived.Test.YtffepojldjodcaaEnv
set_option linter.unusedVariables false
namespace Go.Ev.Ytffepojldjodcaa
open Go.Ev
/-- laws.toInt64S loop 3 -/
noncomputable def bw_toInt64S_3 (call : Oracle) (x0 : List Int) (x1 : List Int) (x2 : Int) : Option (List TV) :=
  bif decide (x2 < ((List.length x0 : Nat) : Int)) then
    bif (decide (0 ≤ x2) && decide (x2 < ((List.length x0 : Nat) : Int))) then
      bif (decide (0 ≤ x2) && decide (x2 < ((List.length x1 : Nat) : Int))) then
        call iw_toInt64S_3 [tLI x0, tLI (List.set x1 (Int.toNat x2) (List.getD x0 (Int.toNat x2) 0)), tI (wi64 (x2 + 1))]
      else none
    else none
  else
    some [tI 0, tLI x1]
theorem ew_toInt64S_3 (call : Oracle) (x0 : List Int) (x1 : List Int) (x2 : Int) : run1 E call iw_toInt64S_3 [tLI x0, tLI x1, tI x2] = bw_toInt64S_3 call x0 x1 x2 := by kernel_rfl
theorem vw_toInt64S_3 (x0 : List Int) (x1 : List Int) (x2 : Int) {o : List TV} (h : bw_toInt64S_3 R x0 x1 x2 = some o) : R iw_toInt64S_3 [tLI x0, tLI x1, tI x2] = some o := ev_step ((ew_toInt64S_3 R x0 x1 x2).trans h)
/-- laws.toInt64S -/
noncomputable def bw_toInt64S (call : Oracle) (a0 : List Int) : Option (List TV) :=
  bif (mkOk ((List.length a0 : Nat) : Int)) then
    (call iw_toInt64S_3 [tLI a0, tLI (List.replicate (Int.toNat ((List.length a0 : Nat) : Int)) 0), tI 0]).bind fun o1 =>
    some [tLI (gLI o1 1)]
  else none
theorem ew_toInt64S (call : Oracle) (a0 : List Int) : run1 E call iw_toInt64S [tLI a0] = bw_toInt64S call a0 := by kernel_rfl
theorem vw_toInt64S (a0 : List Int) {o : List TV} (h : bw_toInt64S R a0 = some o) : R iw_toInt64S [tLI a0] = some o := ev_step ((ew_toInt64S R a0).trans h)
/-- spec.l01In -/
noncomputable def bs_l01In (call : Oracle) (a0 : Int) (a1 : Int) (a2 : Int) : Option (List TV) :=
  bif decide (a1 ≤ a0) then
    some [tB (decide (a0 ≤ a2))]
  else
    some [tB false]
theorem es_l01In (call : Oracle) (a0 : Int) (a1 : Int) (a2 : Int) : run1 E call is_l01In [tI a0, tI a1, tI a2] = bs_l01In call a0 a1 a2 := by kernel_rfl
theorem vs_l01In (a0 : Int) (a1 : Int) (a2 : Int) {o : List TV} (h : bs_l01In R a0 a1 a2 = some o) : R is_l01In [tI a0, tI a1, tI a2] = some o := ev_step ((es_l01In R a0 a1 a2).trans h)
/-- spec.l08Is loop 4 -/
noncomputable def bs_l08Is_4 (call : Oracle) (x0 : List Int) (x1 : Int) (x2 : Int) : Option (List TV) :=
  bif decide (x2 < ((List.length x0 : Nat) : Int)) then
    bif (decide (0 ≤ x2) && decide (x2 < ((List.length x0 : Nat) : Int))) then
      bif ((List.getD x0 (Int.toNat x2) 0) == 0) then
        some [tI 1, tB false]
      else
        bif (decide (0 ≤ x2) && decide (x2 < ((List.length x0 : Nat) : Int))) then
          (call is_l01In [tI (List.getD x0 (Int.toNat x2) 0), tI (wi64 (0 - x1)), tI x1]).bind fun o3 =>
          bif (!(gB o3 0)) then
            some [tI 1, tB false]
          else
            bif decide (0 < x2) then
              bif (decide (0 ≤ x2) && decide (x2 < ((List.length x0 : Nat) : Int))) then
                bif (decide (0 ≤ (wi64 (x2 - 1))) && decide ((wi64 (x2 - 1)) < ((List.length x0 : Nat) : Int))) then
                  bif ((List.getD x0 (Int.toNat x2) 0) == (wi64 (0 - (List.getD x0 (Int.toNat (wi64 (x2 - 1))) 0)))) then
                    some [tI 1, tB false]
                  else
                    call is_l08Is_4 [tLI x0, tI x1, tI (wi64 (x2 + 1))]
                else none
              else none
            else
              call is_l08Is_4 [tLI x0, tI x1, tI (wi64 (x2 + 1))]
        else none
    else none
  else
    some [tI 0]
theorem es_l08Is_4 (call : Oracle) (x0 : List Int) (x1 : Int) (x2 : Int) : run1 E call is_l08Is_4 [tLI x0, tI x1, tI x2] = bs_l08Is_4 call x0 x1 x2 := by kernel_rfl
theorem vs_l08Is_4 (x0 : List Int) (x1 : Int) (x2 : Int) {o : List TV} (h : bs_l08Is_4 R x0 x1 x2 = some o) : R is_l08Is_4 [tLI x0, tI x1, tI x2] = some o := ev_step ((es_l08Is_4 R x0 x1 x2).trans h)
/-- spec.l08Is -/
noncomputable def bs_l08Is (call : Oracle) (a0 : List Int) (a1 : Int) : Option (List TV) :=
  (call is_l01In [tI a1, tI 1, tI 8]).bind fun o1 =>
  bif (!(gB o1 0)) then
    some [tB false]
  else
    bif decide (4000 < ((List.length a0 : Nat) : Int)) then
      some [tB false]
    else
      (call is_l08Is_4 [tLI a0, tI a1, tI 0]).bind fun o4 =>
      bif ((gI o4 0) == 0) then
        some [tB true]
      else
        some [tB (gB o4 1)]
theorem es_l08Is (call : Oracle) (a0 : List Int) (a1 : Int) : run1 E call is_l08Is [tLI a0, tI a1] = bs_l08Is call a0 a1 := by kernel_rfl
theorem vs_l08Is (a0 : List Int) (a1 : Int) {o : List TV} (h : bs_l08Is R a0 a1 = some o) : R is_l08Is [tLI a0, tI a1] = some o := ev_step ((es_l08Is R a0 a1).trans h)
/-- spec.IsFreeWord -/
noncomputable def bs_IsFreeWord (call : Oracle) (a0 : List Int) (a1 : Int) : Option (List TV) :=
  (call is_l08Is [tLI a0, tI a1]).bind fun o1 =>
  some [tB (gB o1 0)]
theorem es_IsFreeWord (call : Oracle) (a0 : List Int) (a1 : Int) : run1 E call is_IsFreeWord [tLI a0, tI a1] = bs_IsFreeWord call a0 a1 := by kernel_rfl
theorem vs_IsFreeWord (a0 : List Int) (a1 : Int) {o : List TV} (h : bs_IsFreeWord R a0 a1 = some o) : R is_IsFreeWord [tLI a0, tI a1] = some o := ev_step ((es_IsFreeWord R a0 a1).trans h)
/-- impl.within -/
noncomputable def bi_within (call : Oracle) (a0 : Int) (a1 : Int) (a2 : Int) : Option (List TV) :=
  bif decide (a1 ≤ a0) then
    some [tB (decide (a0 ≤ a2))]
  else
    some [tB false]
theorem ei_within (call : Oracle) (a0 : Int) (a1 : Int) (a2 : Int) : run1 E call ii_within [tI a0, tI a1, tI a2] = bi_within call a0 a1 a2 := by kernel_rfl
theorem vi_within (a0 : Int) (a1 : Int) (a2 : Int) {o : List TV} (h : bi_within R a0 a1 a2 = some o) : R ii_within [tI a0, tI a1, tI a2] = some o := ev_step ((ei_within R a0 a1 a2).trans h)
/-- impl.isCount -/
noncomputable def bi_isCount (call : Oracle) (a0 : Int) : Option (List TV) :=
  (call ii_within [tI a0, tI 1, tI 8]).bind fun o1 =>
  some [tB (gB o1 0)]
theorem ei_isCount (call : Oracle) (a0 : Int) : run1 E call ii_isCount [tI a0] = bi_isCount call a0 := by kernel_rfl
theorem vi_isCount (a0 : Int) {o : List TV} (h : bi_isCount R a0 = some o) : R ii_isCount [tI a0] = some o := ev_step ((ei_isCount R a0).trans h)
/-- impl.isGenerator -/
noncomputable def bi_isGenerator (call : Oracle) (a0 : Int) (a1 : Int) : Option (List TV) :=
  bif (a0 != 0) then
    (call ii_within [tI a0, tI (wi64 (0 - a1)), tI a1]).bind fun o1 =>
    some [tB (gB o1 0)]
  else
    some [tB false]
theorem ei_isGenerator (call : Oracle) (a0 : Int) (a1 : Int) : run1 E call ii_isGenerator [tI a0, tI a1] = bi_isGenerator call a0 a1 := by kernel_rfl
theorem vi_isGenerator (a0 : Int) (a1 : Int) {o : List TV} (h : bi_isGenerator R a0 a1 = some o) : R ii_isGenerator [tI a0, tI a1] = some o := ev_step ((ei_isGenerator R a0 a1).trans h)
/-- impl.IsFreeWord loop 4 -/
noncomputable def bi_IsFreeWord_4 (call : Oracle) (x0 : List Int) (x1 : Int) (x2 : Int) (x3 : Int) : Option (List TV) :=
  bif decide (x3 < x2) then
    bif (decide (0 ≤ x3) && decide (x3 < ((List.length x0 : Nat) : Int))) then
      (call ii_isGenerator [tI (List.getD x0 (Int.toNat x3) 0), tI x1]).bind fun o3 =>
      bif (!(gB o3 0)) then
        some [tI 1, tB false]
      else
        bif decide (0 < x3) then
          bif (decide (0 ≤ (wi64 (x3 - 1))) && decide ((wi64 (x3 - 1)) < ((List.length x0 : Nat) : Int))) then
            bif ((List.getD x0 (Int.toNat (wi64 (x3 - 1))) 0) == (wi64 (0 - (List.getD x0 (Int.toNat x3) 0)))) then
              some [tI 1, tB false]
            else
              call ii_IsFreeWord_4 [tLI x0, tI x1, tI x2, tI (wi64 (x3 + 1))]
          else none
        else
          call ii_IsFreeWord_4 [tLI x0, tI x1, tI x2, tI (wi64 (x3 + 1))]
    else none
  else
    some [tI 0]
theorem ei_IsFreeWord_4 (call : Oracle) (x0 : List Int) (x1 : Int) (x2 : Int) (x3 : Int) : run1 E call ii_IsFreeWord_4 [tLI x0, tI x1, tI x2, tI x3] = bi_IsFreeWord_4 call x0 x1 x2 x3 := by kernel_rfl
theorem vi_IsFreeWord_4 (x0 : List Int) (x1 : Int) (x2 : Int) (x3 : Int) {o : List TV} (h : bi_IsFreeWord_4 R x0 x1 x2 x3 = some o) : R ii_IsFreeWord_4 [tLI x0, tI x1, tI x2, tI x3] = some o := ev_step ((ei_IsFreeWord_4 R x0 x1 x2 x3).trans h)
/-- impl.IsFreeWord -/
noncomputable def bi_IsFreeWord (call : Oracle) (a0 : List Int) (a1 : Int) : Option (List TV) :=
  (call ii_isCount [tI a1]).bind fun o1 =>
  bif (!(gB o1 0)) then
    some [tB false]
  else
    bif decide (4000 < ((List.length a0 : Nat) : Int)) then
      some [tB false]
    else
      (call ii_IsFreeWord_4 [tLI a0, tI a1, tI ((List.length a0 : Nat) : Int), tI 0]).bind fun o4 =>
      bif ((gI o4 0) == 0) then
        some [tB true]
      else
        some [tB (gB o4 1)]
theorem ei_IsFreeWord (call : Oracle) (a0 : List Int) (a1 : Int) : run1 E call ii_IsFreeWord [tLI a0, tI a1] = bi_IsFreeWord call a0 a1 := by kernel_rfl
theorem vi_IsFreeWord (a0 : List Int) (a1 : Int) {o : List TV} (h : bi_IsFreeWord R a0 a1 = some o) : R ii_IsFreeWord [tLI a0, tI a1] = some o := ev_step ((ei_IsFreeWord R a0 a1).trans h)
/-- laws.eqInt64S loop 4 -/
noncomputable def bw_eqInt64S_4 (call : Oracle) (x0 : List Int) (x1 : List Int) (x2 : Int) : Option (List TV) :=
  bif decide (x2 < ((List.length x0 : Nat) : Int)) then
    bif (decide (0 ≤ x2) && decide (x2 < ((List.length x0 : Nat) : Int))) then
      bif (decide (0 ≤ x2) && decide (x2 < ((List.length x1 : Nat) : Int))) then
        bif ((List.getD x0 (Int.toNat x2) 0) != (List.getD x1 (Int.toNat x2) 0)) then
          some [tI 1, tB false]
        else
          call iw_eqInt64S_4 [tLI x0, tLI x1, tI (wi64 (x2 + 1))]
      else none
    else none
  else
    some [tI 0]
theorem ew_eqInt64S_4 (call : Oracle) (x0 : List Int) (x1 : List Int) (x2 : Int) : run1 E call iw_eqInt64S_4 [tLI x0, tLI x1, tI x2] = bw_eqInt64S_4 call x0 x1 x2 := by kernel_rfl
theorem vw_eqInt64S_4 (x0 : List Int) (x1 : List Int) (x2 : Int) {o : List TV} (h : bw_eqInt64S_4 R x0 x1 x2 = some o) : R iw_eqInt64S_4 [tLI x0, tLI x1, tI x2] = some o := ev_step ((ew_eqInt64S_4 R x0 x1 x2).trans h)
/-- laws.eqInt64S -/
noncomputable def bw_eqInt64S (call : Oracle) (a0 : List Int) (a1 : List Int) : Option (List TV) :=
  bif (((List.length a0 : Nat) : Int) != ((List.length a1 : Nat) : Int)) then
    some [tB false]
  else
    (call iw_eqInt64S_4 [tLI a0, tLI a1, tI 0]).bind fun o1 =>
    bif ((gI o1 0) == 0) then
      some [tB true]
    else
      some [tB (gB o1 1)]
theorem ew_eqInt64S (call : Oracle) (a0 : List Int) (a1 : List Int) : run1 E call iw_eqInt64S [tLI a0, tLI a1] = bw_eqInt64S call a0 a1 := by kernel_rfl
theorem vw_eqInt64S (a0 : List Int) (a1 : List Int) {o : List TV} (h : bw_eqInt64S R a0 a1 = some o) : R iw_eqInt64S [tLI a0, tLI a1] = some o := ev_step ((ew_eqInt64S R a0 a1).trans h)
/-- laws.FnExactIsFreeWord -/
noncomputable def bw_FnExactIsFreeWord (call : Oracle) (a0 : List Int) (a1 : Int) : Option (List TV) :=
  bif decide (1048576 < ((List.length a0 : Nat) : Int)) then
    some [tB true]
  else
    (call iw_toInt64S [tLI a0]).bind fun o1 =>
    (call is_IsFreeWord [tLI (gLI o1 0), tI a1]).bind fun o2 =>
    (call iw_toInt64S [tLI a0]).bind fun o3 =>
    (call ii_IsFreeWord [tLI (gLI o3 0), tI a1]).bind fun o4 =>
    bif ((gB o4 0) != (gB o2 0)) then
      some [tB false]
    else
      (call iw_toInt64S [tLI a0]).bind fun o5 =>
      (call iw_eqInt64S [tLI (gLI o3 0), tLI (gLI o5 0)]).bind fun o6 =>
      bif (!(gB o6 0)) then
        some [tB false]
      else
        some [tB true]
theorem ew_FnExactIsFreeWord (call : Oracle) (a0 : List Int) (a1 : Int) : run1 E call iw_FnExactIsFreeWord [tLI a0, tI a1] = bw_FnExactIsFreeWord call a0 a1 := by kernel_rfl
theorem vw_FnExactIsFreeWord (a0 : List Int) (a1 : Int) {o : List TV} (h : bw_FnExactIsFreeWord R a0 a1 = some o) : R iw_FnExactIsFreeWord [tLI a0, tI a1] = some o := ev_step ((ew_FnExactIsFreeWord R a0 a1).trans h)
/-- laws.szInt64S -/
noncomputable def bw_szInt64S (call : Oracle) (a0 : List Int) (a1 : Int) : Option (List TV) :=
  bif decide ((wi64 (a1 - ((List.length a0 : Nat) : Int))) < 0) then
    some [tI (-1)]
  else
    some [tI (wi64 (a1 - ((List.length a0 : Nat) : Int)))]
theorem ew_szInt64S (call : Oracle) (a0 : List Int) (a1 : Int) : run1 E call iw_szInt64S [tLI a0, tI a1] = bw_szInt64S call a0 a1 := by kernel_rfl
theorem vw_szInt64S (a0 : List Int) (a1 : Int) {o : List TV} (h : bw_szInt64S R a0 a1 = some o) : R iw_szInt64S [tLI a0, tI a1] = some o := ev_step ((ew_szInt64S R a0 a1).trans h)
/-- laws.szBraid -/
noncomputable def bw_szBraid (call : Oracle) (a0 : Int × List Int) (a1 : Int) : Option (List TV) :=
  (call iw_szInt64S [tLI a0.2, tI a1]).bind fun o1 =>
  bif decide ((gI o1 0) < 0) then
    some [tI (-1)]
  else
    some [tI (gI o1 0)]
theorem ew_szBraid (call : Oracle) (a0 : Int × List Int) (a1 : Int) : run1 E call iw_szBraid [tPILI a0, tI a1] = bw_szBraid call a0 a1 := by kernel_rfl
theorem vw_szBraid (a0 : Int × List Int) (a1 : Int) {o : List TV} (h : bw_szBraid R a0 a1 = some o) : R iw_szBraid [tPILI a0, tI a1] = some o := ev_step ((ew_szBraid R a0 a1).trans h)
/-- laws.toBraid -/
noncomputable def bw_toBraid (call : Oracle) (a0 : Int × List Int) : Option (List TV) :=
  (call iw_toInt64S [tLI a0.2]).bind fun o1 =>
  some [tPILI (a0.1, (gLI o1 0))]
theorem ew_toBraid (call : Oracle) (a0 : Int × List Int) : run1 E call iw_toBraid [tPILI a0] = bw_toBraid call a0 := by kernel_rfl
theorem vw_toBraid (a0 : Int × List Int) {o : List TV} (h : bw_toBraid R a0 = some o) : R iw_toBraid [tPILI a0] = some o := ev_step ((ew_toBraid R a0).trans h)
/-- spec.l01Is loop 4 -/
noncomputable def bs_l01Is_4 (call : Oracle) (x0 : Int) (x1 : List Int) (x2 : Int) : Option (List TV) :=
  bif decide (x2 < ((List.length x1 : Nat) : Int)) then
    bif (decide (0 ≤ x2) && decide (x2 < ((List.length x1 : Nat) : Int))) then
      (call is_l01In [tI (List.getD x1 (Int.toNat x2) 0), tI 1, tI (wi64 (x0 - 1))]).bind fun o4 =>
      bif (!(gB o4 0)) then
        (call is_l01In [tI (wi64 (0 - (List.getD x1 (Int.toNat x2) 0))), tI 1, tI (wi64 (x0 - 1))]).bind fun o5 =>
        bif (!(gB o5 0)) then
          some [tI 1, tB false]
        else
          call is_l01Is_4 [tI x0, tLI x1, tI (wi64 (x2 + 1))]
      else
        call is_l01Is_4 [tI x0, tLI x1, tI (wi64 (x2 + 1))]
    else none
  else
    some [tI 0]
theorem es_l01Is_4 (call : Oracle) (x0 : Int) (x1 : List Int) (x2 : Int) : run1 E call is_l01Is_4 [tI x0, tLI x1, tI x2] = bs_l01Is_4 call x0 x1 x2 := by kernel_rfl
theorem vs_l01Is_4 (x0 : Int) (x1 : List Int) (x2 : Int) {o : List TV} (h : bs_l01Is_4 R x0 x1 x2 = some o) : R is_l01Is_4 [tI x0, tLI x1, tI x2] = some o := ev_step ((es_l01Is_4 R x0 x1 x2).trans h)
/-- spec.l01Is -/
noncomputable def bs_l01Is (call : Oracle) (a0 : Int × List Int) : Option (List TV) :=
  (call is_l01In [tI a0.1, tI 1, tI 8]).bind fun o1 =>
  bif (!(gB o1 0)) then
    some [tB false]
  else
    bif decide (200 < ((List.length a0.2 : Nat) : Int)) then
      some [tB false]
    else
      (call is_l01Is_4 [tI a0.1, tLI a0.2, tI 0]).bind fun o6 =>
      bif ((gI o6 0) == 0) then
        some [tB true]
      else
        some [tB (gB o6 1)]
theorem es_l01Is (call : Oracle) (a0 : Int × List Int) : run1 E call is_l01Is [tPILI a0] = bs_l01Is call a0 := by kernel_rfl
theorem vs_l01Is (a0 : Int × List Int) {o : List TV} (h : bs_l01Is R a0 = some o) : R is_l01Is [tPILI a0] = some o := ev_step ((es_l01Is R a0).trans h)
/-- spec.l06Index -/
noncomputable def bs_l06Index (call : Oracle) (a0 : Int) : Option (List TV) :=
  some [tI (mx a0 (wi64 (0 - a0)))]
theorem es_l06Index (call : Oracle) (a0 : Int) : run1 E call is_l06Index [tI a0] = bs_l06Index call a0 := by kernel_rfl
theorem vs_l06Index (a0 : Int) {o : List TV} (h : bs_l06Index R a0 = some o) : R is_l06Index [tI a0] = some o := ev_step ((es_l06Index R a0).trans h)
/-- spec.l06Main loop 3 -/
noncomputable def bs_l06Main_3 (call : Oracle) (x0 : List Int) (x1 : Int) (x2 : Int) : Option (List TV) :=
  bif decide (x2 < ((List.length x0 : Nat) : Int)) then
    bif (decide (0 ≤ x2) && decide (x2 < ((List.length x0 : Nat) : Int))) then
      (call is_l06Index [tI (List.getD x0 (Int.toNat x2) 0)]).bind fun o2 =>
      call is_l06Main_3 [tLI x0, tI (mn x1 (gI o2 0)), tI (wi64 (x2 + 1))]
    else none
  else
    some [tI 0, tLI x0, tI x1]
theorem es_l06Main_3 (call : Oracle) (x0 : List Int) (x1 : Int) (x2 : Int) : run1 E call is_l06Main_3 [tLI x0, tI x1, tI x2] = bs_l06Main_3 call x0 x1 x2 := by kernel_rfl
theorem vs_l06Main_3 (x0 : List Int) (x1 : Int) (x2 : Int) {o : List TV} (h : bs_l06Main_3 R x0 x1 x2 = some o) : R is_l06Main_3 [tLI x0, tI x1, tI x2] = some o := ev_step ((es_l06Main_3 R x0 x1 x2).trans h)
/-- spec.l06Main loop 8 -/
noncomputable def bs_l06Main_8 (call : Oracle) (x0 : List Int) (x1 : Int) (x2 : Bool) (x3 : Bool) (x4 : Int) : Option (List TV) :=
  bif decide (x4 < ((List.length x0 : Nat) : Int)) then
    bif x2 then
      bif x3 then
        call is_l06Main_8 [tLI x0, tI x1, tB true, tB true, tI (wi64 (x4 + 1))]
      else
        bif (decide (0 ≤ x4) && decide (x4 < ((List.length x0 : Nat) : Int))) then
          call is_l06Main_8 [tLI x0, tI x1, tB true, tB ((List.getD x0 (Int.toNat x4) 0) == (wi64 (0 - x1))), tI (wi64 (x4 + 1))]
        else none
    else
      bif (decide (0 ≤ x4) && decide (x4 < ((List.length x0 : Nat) : Int))) then
        bif x3 then
          call is_l06Main_8 [tLI x0, tI x1, tB ((List.getD x0 (Int.toNat x4) 0) == x1), tB true, tI (wi64 (x4 + 1))]
        else
          bif (decide (0 ≤ x4) && decide (x4 < ((List.length x0 : Nat) : Int))) then
            call is_l06Main_8 [tLI x0, tI x1, tB ((List.getD x0 (Int.toNat x4) 0) == x1), tB ((List.getD x0 (Int.toNat x4) 0) == (wi64 (0 - x1))), tI (wi64 (x4 + 1))]
          else none
      else none
  else
    some [tI 0, tI x1, tB x2, tB x3]
theorem es_l06Main_8 (call : Oracle) (x0 : List Int) (x1 : Int) (x2 : Bool) (x3 : Bool) (x4 : Int) : run1 E call is_l06Main_8 [tLI x0, tI x1, tB x2, tB x3, tI x4] = bs_l06Main_8 call x0 x1 x2 x3 x4 := by kernel_rfl
theorem vs_l06Main_8 (x0 : List Int) (x1 : Int) (x2 : Bool) (x3 : Bool) (x4 : Int) {o : List TV} (h : bs_l06Main_8 R x0 x1 x2 x3 x4 = some o) : R is_l06Main_8 [tLI x0, tI x1, tB x2, tB x3, tI x4] = some o := ev_step ((es_l06Main_8 R x0 x1 x2 x3 x4).trans h)
/-- spec.l06Main -/
noncomputable def bs_l06Main (call : Oracle) (a0 : List Int) : Option (List TV) :=
  (call is_l06Main_3 [tLI a0, tI 8, tI 0]).bind fun o3 =>
  (call is_l06Main_8 [tLI (gLI o3 1), tI (gI o3 2), tB false, tB false, tI 0]).bind fun o4 =>
  bif (gB o4 2) then
    bif (!(gB o4 3)) then
      some [tI (gI o4 1), tI 1]
    else
      bif (gB o4 3) then
        bif (!(gB o4 2)) then
          some [tI (gI o4 1), tI (-1)]
        else
          some [tI (gI o4 1), tI 0]
      else
        some [tI (gI o4 1), tI 0]
  else
    bif (gB o4 3) then
      bif (!(gB o4 2)) then
        some [tI (gI o4 1), tI (-1)]
      else
        some [tI (gI o4 1), tI 0]
    else
      some [tI (gI o4 1), tI 0]
theorem es_l06Main (call : Oracle) (a0 : List Int) : run1 E call is_l06Main [tLI a0] = bs_l06Main call a0 := by kernel_rfl
theorem vs_l06Main (a0 : List Int) {o : List TV} (h : bs_l06Main R a0 = some o) : R is_l06Main [tLI a0] = some o := ev_step ((es_l06Main R a0).trans h)
/-- spec.WordSign -/
noncomputable def bs_WordSign (call : Oracle) (a0 : Int × List Int) : Option (List TV) :=
  (call is_l01Is [tPILI (a0.1, a0.2)]).bind fun o1 =>
  bif (!(gB o1 0)) then
    some [tI 0, tI 1]
  else
    (call is_l06Main [tLI a0.2]).bind fun o2 =>
    some [tI (gI o2 1), tI 0]
theorem es_WordSign (call : Oracle) (a0 : Int × List Int) : run1 E call is_WordSign [tPILI a0] = bs_WordSign call a0 := by kernel_rfl
theorem vs_WordSign (a0 : Int × List Int) {o : List TV} (h : bs_WordSign R a0 = some o) : R is_WordSign [tPILI a0] = some o := ev_step ((es_WordSign R a0).trans h)
/-- impl.isLetter -/
noncomputable def bi_isLetter (call : Oracle) (a0 : Int) (a1 : Int) : Option (List TV) :=
  bif (a0 != 0) then
    (call ii_within [tI a0, tI (wi64 (1 - a1)), tI (wi64 (a1 - 1))]).bind fun o1 =>
    some [tB (gB o1 0)]
  else
    some [tB false]
theorem ei_isLetter (call : Oracle) (a0 : Int) (a1 : Int) : run1 E call ii_isLetter [tI a0, tI a1] = bi_isLetter call a0 a1 := by kernel_rfl
theorem vi_isLetter (a0 : Int) (a1 : Int) {o : List TV} (h : bi_isLetter R a0 a1 = some o) : R ii_isLetter [tI a0, tI a1] = some o := ev_step ((ei_isLetter R a0 a1).trans h)
/-- impl.IsBraid loop 4 -/
noncomputable def bi_IsBraid_4 (call : Oracle) (x0 : Int) (x1 : List Int) (x2 : Int) (x3 : Int) : Option (List TV) :=
  bif decide (x3 < x2) then
    bif (decide (0 ≤ x3) && decide (x3 < ((List.length x1 : Nat) : Int))) then
      (call ii_isLetter [tI (List.getD x1 (Int.toNat x3) 0), tI x0]).bind fun o3 =>
      bif (!(gB o3 0)) then
        some [tI 1, tB false]
      else
        call ii_IsBraid_4 [tI x0, tLI x1, tI x2, tI (wi64 (x3 + 1))]
    else none
  else
    some [tI 0]
theorem ei_IsBraid_4 (call : Oracle) (x0 : Int) (x1 : List Int) (x2 : Int) (x3 : Int) : run1 E call ii_IsBraid_4 [tI x0, tLI x1, tI x2, tI x3] = bi_IsBraid_4 call x0 x1 x2 x3 := by kernel_rfl
theorem vi_IsBraid_4 (x0 : Int) (x1 : List Int) (x2 : Int) (x3 : Int) {o : List TV} (h : bi_IsBraid_4 R x0 x1 x2 x3 = some o) : R ii_IsBraid_4 [tI x0, tLI x1, tI x2, tI x3] = some o := ev_step ((ei_IsBraid_4 R x0 x1 x2 x3).trans h)
/-- impl.IsBraid -/
noncomputable def bi_IsBraid (call : Oracle) (a0 : Int × List Int) : Option (List TV) :=
  (call ii_isCount [tI a0.1]).bind fun o1 =>
  bif (!(gB o1 0)) then
    some [tB false]
  else
    bif decide (200 < ((List.length a0.2 : Nat) : Int)) then
      some [tB false]
    else
      (call ii_IsBraid_4 [tI a0.1, tLI a0.2, tI ((List.length a0.2 : Nat) : Int), tI 0]).bind fun o4 =>
      bif ((gI o4 0) == 0) then
        some [tB true]
      else
        some [tB (gB o4 1)]
theorem ei_IsBraid (call : Oracle) (a0 : Int × List Int) : run1 E call ii_IsBraid [tPILI a0] = bi_IsBraid call a0 := by kernel_rfl
theorem vi_IsBraid (a0 : Int × List Int) {o : List TV} (h : bi_IsBraid R a0 = some o) : R ii_IsBraid [tPILI a0] = some o := ev_step ((ei_IsBraid R a0).trans h)
/-- impl.size -/
noncomputable def bi_size (call : Oracle) (a0 : Int) : Option (List TV) :=
  some [tI (mx a0 (wi64 (0 - a0)))]
theorem ei_size (call : Oracle) (a0 : Int) : run1 E call ii_size [tI a0] = bi_size call a0 := by kernel_rfl
theorem vi_size (a0 : Int) {o : List TV} (h : bi_size R a0 = some o) : R ii_size [tI a0] = some o := ev_step ((ei_size R a0).trans h)
/-- impl.mainOf loop 3 -/
noncomputable def bi_mainOf_3 (call : Oracle) (x0 : List Int) (x1 : Int) (x2 : Bool) (x3 : Int) (x4 : Int) : Option (List TV) :=
  bif decide (x4 < x3) then
    bif (decide (0 ≤ x4) && decide (x4 < ((List.length x0 : Nat) : Int))) then
      bif (x1 == 0) then
        call ii_mainOf_3 [tLI x0, tI (List.getD x0 (Int.toNat x4) 0), tB false, tI x3, tI (wi64 (x4 + 1))]
      else
        (call ii_size [tI (List.getD x0 (Int.toNat x4) 0)]).bind fun o3 =>
        (call ii_size [tI x1]).bind fun o4 =>
        bif decide ((gI o3 0) < (gI o4 0)) then
          call ii_mainOf_3 [tLI x0, tI (List.getD x0 (Int.toNat x4) 0), tB false, tI x3, tI (wi64 (x4 + 1))]
        else
          bif ((List.getD x0 (Int.toNat x4) 0) == (wi64 (0 - x1))) then
            call ii_mainOf_3 [tLI x0, tI x1, tB true, tI x3, tI (wi64 (x4 + 1))]
          else
            call ii_mainOf_3 [tLI x0, tI x1, tB x2, tI x3, tI (wi64 (x4 + 1))]
    else none
  else
    some [tI 0, tI x1, tB x2]
theorem ei_mainOf_3 (call : Oracle) (x0 : List Int) (x1 : Int) (x2 : Bool) (x3 : Int) (x4 : Int) : run1 E call ii_mainOf_3 [tLI x0, tI x1, tB x2, tI x3, tI x4] = bi_mainOf_3 call x0 x1 x2 x3 x4 := by kernel_rfl
theorem vi_mainOf_3 (x0 : List Int) (x1 : Int) (x2 : Bool) (x3 : Int) (x4 : Int) {o : List TV} (h : bi_mainOf_3 R x0 x1 x2 x3 x4 = some o) : R ii_mainOf_3 [tLI x0, tI x1, tB x2, tI x3, tI x4] = some o := ev_step ((ei_mainOf_3 R x0 x1 x2 x3 x4).trans h)
/-- impl.mainOf -/
noncomputable def bi_mainOf (call : Oracle) (a0 : List Int) : Option (List TV) :=
  (call ii_mainOf_3 [tLI a0, tI 0, tB false, tI ((List.length a0 : Nat) : Int), tI 0]).bind fun o5 =>
  bif (gB o5 2) then
    some [tI 0]
  else
    some [tI (gI o5 1)]
theorem ei_mainOf (call : Oracle) (a0 : List Int) : run1 E call ii_mainOf [tLI a0] = bi_mainOf call a0 := by kernel_rfl
theorem vi_mainOf (a0 : List Int) {o : List TV} (h : bi_mainOf R a0 = some o) : R ii_mainOf [tLI a0] = some o := ev_step ((ei_mainOf R a0).trans h)
/-- impl.sign -/
noncomputable def bi_sign (call : Oracle) (a0 : Int) : Option (List TV) :=
  bif decide (0 < a0) then
    some [tI 1]
  else
    some [tI (-1)]
theorem ei_sign (call : Oracle) (a0 : Int) : run1 E call ii_sign [tI a0] = bi_sign call a0 := by kernel_rfl
theorem vi_sign (a0 : Int) {o : List TV} (h : bi_sign R a0 = some o) : R ii_sign [tI a0] = some o := ev_step ((ei_sign R a0).trans h)
/-- impl.WordSign -/
noncomputable def bi_WordSign (call : Oracle) (a0 : Int × List Int) : Option (List TV) :=
  (call ii_IsBraid [tPILI (a0.1, a0.2)]).bind fun o1 =>
  bif (!(gB o1 0)) then
    some [tI 0, tI 1]
  else
    (call ii_mainOf [tLI a0.2]).bind fun o2 =>
    bif ((gI o2 0) == 0) then
      some [tI 0, tI 0]
    else
      (call ii_sign [tI (gI o2 0)]).bind fun o3 =>
      some [tI (gI o3 0), tI 0]
theorem ei_WordSign (call : Oracle) (a0 : Int × List Int) : run1 E call ii_WordSign [tPILI a0] = bi_WordSign call a0 := by kernel_rfl
theorem vi_WordSign (a0 : Int × List Int) {o : List TV} (h : bi_WordSign R a0 = some o) : R ii_WordSign [tPILI a0] = some o := ev_step ((ei_WordSign R a0).trans h)
/-- laws.eqBraid -/
noncomputable def bw_eqBraid (call : Oracle) (a0 : Int × List Int) (a1 : Int × List Int) : Option (List TV) :=
  bif (a0.1 != a1.1) then
    some [tB false]
  else
    (call iw_eqInt64S [tLI a0.2, tLI a1.2]).bind fun o1 =>
    bif (!(gB o1 0)) then
      some [tB false]
    else
      some [tB true]
theorem ew_eqBraid (call : Oracle) (a0 : Int × List Int) (a1 : Int × List Int) : run1 E call iw_eqBraid [tPILI a0, tPILI a1] = bw_eqBraid call a0 a1 := by kernel_rfl
theorem vw_eqBraid (a0 : Int × List Int) (a1 : Int × List Int) {o : List TV} (h : bw_eqBraid R a0 a1 = some o) : R iw_eqBraid [tPILI a0, tPILI a1] = some o := ev_step ((ew_eqBraid R a0 a1).trans h)
/-- laws.FnExactWordSign -/
noncomputable def bw_FnExactWordSign (call : Oracle) (a0 : Int × List Int) : Option (List TV) :=
  (call iw_szBraid [tPILI (a0.1, a0.2), tI 1048576]).bind fun o1 =>
  bif decide ((gI o1 0) < 0) then
    some [tB true]
  else
    (call iw_toBraid [tPILI (a0.1, a0.2)]).bind fun o2 =>
    (call is_WordSign [tPILI ((gPILI o2 0).1, (gPILI o2 0).2)]).bind fun o3 =>
    (call iw_toBraid [tPILI (a0.1, a0.2)]).bind fun o4 =>
    (call ii_WordSign [tPILI ((gPILI o4 0).1, (gPILI o4 0).2)]).bind fun o5 =>
    bif ((gI o5 0) != (gI o3 0)) then
      some [tB false]
    else
      bif ((gI o5 1) != (gI o3 1)) then
        some [tB false]
      else
        (call iw_toBraid [tPILI (a0.1, a0.2)]).bind fun o6 =>
        (call iw_eqBraid [tPILI ((gPILI o4 0).1, (gPILI o4 0).2), tPILI ((gPILI o6 0).1, (gPILI o6 0).2)]).bind fun o7 =>
        bif (!(gB o7 0)) then
          some [tB false]
        else
          some [tB true]
theorem ew_FnExactWordSign (call : Oracle) (a0 : Int × List Int) : run1 E call iw_FnExactWordSign [tPILI a0] = bw_FnExactWordSign call a0 := by kernel_rfl
theorem vw_FnExactWordSign (a0 : Int × List Int) {o : List TV} (h : bw_FnExactWordSign R a0 = some o) : R iw_FnExactWordSign [tPILI a0] = some o := ev_step ((ew_FnExactWordSign R a0).trans h)
/-- spec.l06Handle loop 2 -/
noncomputable def bs_l06Handle_2 (call : Oracle) (x0 : List Int) (x1 : Int) : Option (List TV) :=
  bif decide (x1 < ((List.length x0 : Nat) : Int)) then
    bif (decide (0 ≤ x1) && decide (x1 < ((List.length x0 : Nat) : Int))) then
      (call is_l06Index [tI (List.getD x0 (Int.toNat x1) 0)]).bind fun o5 =>
      (call is_l06Handle_6 [tLI x0, tI x1, tI (gI o5 0), tI (wi64 (x1 - 1))]).bind fun o6 =>
      bif ((gI o6 0) == 0) then
        call is_l06Handle_2 [tLI (gLI o6 1), tI (wi64 ((gI o6 2) + 1))]
      else
        some [tI 1, tI (gI o6 1), tI (gI o6 2), tB (gB o6 3)]
    else none
  else
    some [tI 0]
theorem es_l06Handle_2 (call : Oracle) (x0 : List Int) (x1 : Int) : run1 E call is_l06Handle_2 [tLI x0, tI x1] = bs_l06Handle_2 call x0 x1 := by kernel_rfl
theorem vs_l06Handle_2 (x0 : List Int) (x1 : Int) {o : List TV} (h : bs_l06Handle_2 R x0 x1 = some o) : R is_l06Handle_2 [tLI x0, tI x1] = some o := ev_step ((es_l06Handle_2 R x0 x1).trans h)
/-- spec.l06Handle loop 6 -/
noncomputable def bs_l06Handle_6 (call : Oracle) (x0 : List Int) (x1 : Int) (x2 : Int) (x3 : Int) : Option (List TV) :=
  bif decide (0 ≤ x3) then
    bif (decide (0 ≤ x3) && decide (x3 < ((List.length x0 : Nat) : Int))) then
      (call is_l06Index [tI (List.getD x0 (Int.toNat x3) 0)]).bind fun o3 =>
      bif (decide (0 ≤ x3) && decide (x3 < ((List.length x0 : Nat) : Int))) then
        bif (decide (0 ≤ x1) && decide (x1 < ((List.length x0 : Nat) : Int))) then
          bif ((List.getD x0 (Int.toNat x3) 0) == (wi64 (0 - (List.getD x0 (Int.toNat x1) 0)))) then
            some [tI 1, tI x3, tI x1, tB true]
          else
            bif ((gI o3 0) == x2) then
              some [tI 0, tLI x0, tI x1]
            else
              bif ((gI o3 0) == (wi64 (x2 - 1))) then
                some [tI 0, tLI x0, tI x1]
              else
                call is_l06Handle_6 [tLI x0, tI x1, tI x2, tI (wi64 (x3 - 1))]
        else none
      else none
    else none
  else
    some [tI 0, tLI x0, tI x1]
theorem es_l06Handle_6 (call : Oracle) (x0 : List Int) (x1 : Int) (x2 : Int) (x3 : Int) : run1 E call is_l06Handle_6 [tLI x0, tI x1, tI x2, tI x3] = bs_l06Handle_6 call x0 x1 x2 x3 := by kernel_rfl
theorem vs_l06Handle_6 (x0 : List Int) (x1 : Int) (x2 : Int) (x3 : Int) {o : List TV} (h : bs_l06Handle_6 R x0 x1 x2 x3 = some o) : R is_l06Handle_6 [tLI x0, tI x1, tI x2, tI x3] = some o := ev_step ((es_l06Handle_6 R x0 x1 x2 x3).trans h)
/-- spec.l06Handle -/
noncomputable def bs_l06Handle (call : Oracle) (a0 : List Int) : Option (List TV) :=
  (call is_l06Handle_2 [tLI a0, tI 0]).bind fun o7 =>
  bif ((gI o7 0) == 0) then
    some [tI 0, tI 0, tB false]
  else
    some [tI (gI o7 1), tI (gI o7 2), tB (gB o7 3)]
theorem es_l06Handle (call : Oracle) (a0 : List Int) : run1 E call is_l06Handle [tLI a0] = bs_l06Handle call a0 := by kernel_rfl
theorem vs_l06Handle (a0 : List Int) {o : List TV} (h : bs_l06Handle R a0 = some o) : R is_l06Handle [tLI a0] = some o := ev_step ((es_l06Handle R a0).trans h)
/-- spec.FirstHandle -/
noncomputable def bs_FirstHandle (call : Oracle) (a0 : Int × List Int) : Option (List TV) :=
  (call is_l01Is [tPILI (a0.1, a0.2)]).bind fun o1 =>
  bif (!(gB o1 0)) then
    some [tLI [], tI 1]
  else
    (call is_l06Handle [tLI a0.2]).bind fun o2 =>
    bif (!(gB o2 2)) then
      some [tLI [], tI 4]
    else
      some [tLI [(gI o2 0), (gI o2 1)], tI 0]
theorem es_FirstHandle (call : Oracle) (a0 : Int × List Int) : run1 E call is_FirstHandle [tPILI a0] = bs_FirstHandle call a0 := by kernel_rfl
theorem vs_FirstHandle (a0 : Int × List Int) {o : List TV} (h : bs_FirstHandle R a0 = some o) : R is_FirstHandle [tPILI a0] = some o := ev_step ((es_FirstHandle R a0).trans h)
/-- impl.beginOf loop 3 -/
noncomputable def bi_beginOf_3 (call : Oracle) (x0 : List Int) (x1 : Int) (x2 : Int) (x3 : Int) : Option (List TV) :=
  bif decide (0 ≤ x3) then
    bif (decide (0 ≤ x3) && decide (x3 < ((List.length x0 : Nat) : Int))) then
      (call ii_size [tI (List.getD x0 (Int.toNat x3) 0)]).bind fun o3 =>
      bif ((gI o3 0) == x2) then
        bif (decide (0 ≤ x3) && decide (x3 < ((List.length x0 : Nat) : Int))) then
          bif (decide (0 ≤ x1) && decide (x1 < ((List.length x0 : Nat) : Int))) then
            some [tI 1, tI x3, tB ((List.getD x0 (Int.toNat x3) 0) == (wi64 (0 - (List.getD x0 (Int.toNat x1) 0))))]
          else none
        else none
      else
        bif ((gI o3 0) == (wi64 (x2 - 1))) then
          some [tI 1, tI 0, tB false]
        else
          call ii_beginOf_3 [tLI x0, tI x1, tI x2, tI (wi64 (x3 - 1))]
    else none
  else
    some [tI 0]
theorem ei_beginOf_3 (call : Oracle) (x0 : List Int) (x1 : Int) (x2 : Int) (x3 : Int) : run1 E call ii_beginOf_3 [tLI x0, tI x1, tI x2, tI x3] = bi_beginOf_3 call x0 x1 x2 x3 := by kernel_rfl
theorem vi_beginOf_3 (x0 : List Int) (x1 : Int) (x2 : Int) (x3 : Int) {o : List TV} (h : bi_beginOf_3 R x0 x1 x2 x3 = some o) : R ii_beginOf_3 [tLI x0, tI x1, tI x2, tI x3] = some o := ev_step ((ei_beginOf_3 R x0 x1 x2 x3).trans h)
/-- impl.beginOf -/
noncomputable def bi_beginOf (call : Oracle) (a0 : List Int) (a1 : Int) : Option (List TV) :=
  bif (decide (0 ≤ a1) && decide (a1 < ((List.length a0 : Nat) : Int))) then
    (call ii_size [tI (List.getD a0 (Int.toNat a1) 0)]).bind fun o1 =>
    (call ii_beginOf_3 [tLI a0, tI a1, tI (gI o1 0), tI (wi64 (a1 - 1))]).bind fun o4 =>
    bif ((gI o4 0) == 0) then
      some [tI 0, tB false]
    else
      some [tI (gI o4 1), tB (gB o4 2)]
  else none
theorem ei_beginOf (call : Oracle) (a0 : List Int) (a1 : Int) : run1 E call ii_beginOf [tLI a0, tI a1] = bi_beginOf call a0 a1 := by kernel_rfl
theorem vi_beginOf (a0 : List Int) (a1 : Int) {o : List TV} (h : bi_beginOf R a0 a1 = some o) : R ii_beginOf [tLI a0, tI a1] = some o := ev_step ((ei_beginOf R a0 a1).trans h)
/-- impl.firstHandle loop 2 -/
noncomputable def bi_firstHandle_2 (call : Oracle) (x0 : List Int) (x1 : Int) (x2 : Int) : Option (List TV) :=
  bif decide (x2 < x1) then
    (call ii_beginOf [tLI x0, tI x2]).bind fun o2 =>
    bif (gB o2 1) then
      some [tI 1, tI (gI o2 0), tI x2, tB true]
    else
      call ii_firstHandle_2 [tLI x0, tI x1, tI (wi64 (x2 + 1))]
  else
    some [tI 0]
theorem ei_firstHandle_2 (call : Oracle) (x0 : List Int) (x1 : Int) (x2 : Int) : run1 E call ii_firstHandle_2 [tLI x0, tI x1, tI x2] = bi_firstHandle_2 call x0 x1 x2 := by kernel_rfl
theorem vi_firstHandle_2 (x0 : List Int) (x1 : Int) (x2 : Int) {o : List TV} (h : bi_firstHandle_2 R x0 x1 x2 = some o) : R ii_firstHandle_2 [tLI x0, tI x1, tI x2] = some o := ev_step ((ei_firstHandle_2 R x0 x1 x2).trans h)
/-- impl.firstHandle -/
noncomputable def bi_firstHandle (call : Oracle) (a0 : List Int) : Option (List TV) :=
  (call ii_firstHandle_2 [tLI a0, tI ((List.length a0 : Nat) : Int), tI 0]).bind fun o3 =>
  bif ((gI o3 0) == 0) then
    some [tI 0, tI 0, tB false]
  else
    some [tI (gI o3 1), tI (gI o3 2), tB (gB o3 3)]
theorem ei_firstHandle (call : Oracle) (a0 : List Int) : run1 E call ii_firstHandle [tLI a0] = bi_firstHandle call a0 := by kernel_rfl
theorem vi_firstHandle (a0 : List Int) {o : List TV} (h : bi_firstHandle R a0 = some o) : R ii_firstHandle [tLI a0] = some o := ev_step ((ei_firstHandle R a0).trans h)
/-- impl.FirstHandle -/
noncomputable def bi_FirstHandle (call : Oracle) (a0 : Int × List Int) : Option (List TV) :=
  (call ii_IsBraid [tPILI (a0.1, a0.2)]).bind fun o1 =>
  bif (!(gB o1 0)) then
    some [tLI [], tI 1]
  else
    (call ii_firstHandle [tLI a0.2]).bind fun o2 =>
    bif (!(gB o2 2)) then
      some [tLI [], tI 4]
    else
      some [tLI [(gI o2 0), (gI o2 1)], tI 0]
theorem ei_FirstHandle (call : Oracle) (a0 : Int × List Int) : run1 E call ii_FirstHandle [tPILI a0] = bi_FirstHandle call a0 := by kernel_rfl
theorem vi_FirstHandle (a0 : Int × List Int) {o : List TV} (h : bi_FirstHandle R a0 = some o) : R ii_FirstHandle [tPILI a0] = some o := ev_step ((ei_FirstHandle R a0).trans h)
/-- laws.markInt64S loop 2 -/
noncomputable def bw_markInt64S_2 (call : Oracle) (x0 : List Int) (x1 : Int) (x2 : Int) : Option (List TV) :=
  bif decide (x2 < ((List.length x0 : Nat) : Int)) then
    bif (decide (0 ≤ x2) && decide (x2 < ((List.length x0 : Nat) : Int))) then
      call iw_markInt64S_2 [tLI (List.set x0 (Int.toNat x2) x1), tI (wi64 (x1 + 1)), tI (wi64 (x2 + 1))]
    else none
  else
    some [tI 0, tLI x0, tI x1]
theorem ew_markInt64S_2 (call : Oracle) (x0 : List Int) (x1 : Int) (x2 : Int) : run1 E call iw_markInt64S_2 [tLI x0, tI x1, tI x2] = bw_markInt64S_2 call x0 x1 x2 := by kernel_rfl
theorem vw_markInt64S_2 (x0 : List Int) (x1 : Int) (x2 : Int) {o : List TV} (h : bw_markInt64S_2 R x0 x1 x2 = some o) : R iw_markInt64S_2 [tLI x0, tI x1, tI x2] = some o := ev_step ((ew_markInt64S_2 R x0 x1 x2).trans h)
/-- laws.markInt64S -/
noncomputable def bw_markInt64S (call : Oracle) (a0 : List Int) (a1 : Int) : Option (List TV) :=
  (call iw_markInt64S_2 [tLI a0, tI a1, tI 0]).bind fun o1 =>
  some [tI (gI o1 2), tLI (gLI o1 1)]
theorem ew_markInt64S (call : Oracle) (a0 : List Int) (a1 : Int) : run1 E call iw_markInt64S [tLI a0, tI a1] = bw_markInt64S call a0 a1 := by kernel_rfl
theorem vw_markInt64S (a0 : List Int) (a1 : Int) {o : List TV} (h : bw_markInt64S R a0 a1 = some o) : R iw_markInt64S [tLI a0, tI a1] = some o := ev_step ((ew_markInt64S R a0 a1).trans h)
/-- laws.markBraid -/
noncomputable def bw_markBraid (call : Oracle) (a0 : Int × List Int) (a1 : Int) : Option (List TV) :=
  (call iw_markInt64S [tLI a0.2, tI a1]).bind fun o1 =>
  some [tI (gI o1 0), tPILI (a0.1, (gLI o1 1))]
theorem ew_markBraid (call : Oracle) (a0 : Int × List Int) (a1 : Int) : run1 E call iw_markBraid [tPILI a0, tI a1] = bw_markBraid call a0 a1 := by kernel_rfl
theorem vw_markBraid (a0 : Int × List Int) (a1 : Int) {o : List TV} (h : bw_markBraid R a0 a1 = some o) : R iw_markBraid [tPILI a0, tI a1] = some o := ev_step ((ew_markBraid R a0 a1).trans h)
/-- laws.heldInt64S loop 2 -/
noncomputable def bw_heldInt64S_2 (call : Oracle) (x0 : List Int) (x1 : Int) (x2 : Int) : Option (List TV) :=
  bif decide (x2 < ((List.length x0 : Nat) : Int)) then
    bif (decide (0 ≤ x2) && decide (x2 < ((List.length x0 : Nat) : Int))) then
      bif ((List.getD x0 (Int.toNat x2) 0) != x1) then
        some [tI 1, tI (-1)]
      else
        call iw_heldInt64S_2 [tLI x0, tI (wi64 (x1 + 1)), tI (wi64 (x2 + 1))]
    else none
  else
    some [tI 0, tI x1]
theorem ew_heldInt64S_2 (call : Oracle) (x0 : List Int) (x1 : Int) (x2 : Int) : run1 E call iw_heldInt64S_2 [tLI x0, tI x1, tI x2] = bw_heldInt64S_2 call x0 x1 x2 := by kernel_rfl
theorem vw_heldInt64S_2 (x0 : List Int) (x1 : Int) (x2 : Int) {o : List TV} (h : bw_heldInt64S_2 R x0 x1 x2 = some o) : R iw_heldInt64S_2 [tLI x0, tI x1, tI x2] = some o := ev_step ((ew_heldInt64S_2 R x0 x1 x2).trans h)
/-- laws.heldInt64S -/
noncomputable def bw_heldInt64S (call : Oracle) (a0 : List Int) (a1 : Int) : Option (List TV) :=
  (call iw_heldInt64S_2 [tLI a0, tI a1, tI 0]).bind fun o1 =>
  bif ((gI o1 0) == 0) then
    some [tI (gI o1 1)]
  else
    some [tI (gI o1 1)]
theorem ew_heldInt64S (call : Oracle) (a0 : List Int) (a1 : Int) : run1 E call iw_heldInt64S [tLI a0, tI a1] = bw_heldInt64S call a0 a1 := by kernel_rfl
theorem vw_heldInt64S (a0 : List Int) (a1 : Int) {o : List TV} (h : bw_heldInt64S R a0 a1 = some o) : R iw_heldInt64S [tLI a0, tI a1] = some o := ev_step ((ew_heldInt64S R a0 a1).trans h)
/-- laws.FnExactFirstHandle -/
noncomputable def bw_FnExactFirstHandle (call : Oracle) (a0 : Int × List Int) : Option (List TV) :=
  (call iw_szBraid [tPILI (a0.1, a0.2), tI 1048576]).bind fun o1 =>
  bif decide ((gI o1 0) < 0) then
    some [tB true]
  else
    (call iw_toBraid [tPILI (a0.1, a0.2)]).bind fun o2 =>
    (call is_FirstHandle [tPILI ((gPILI o2 0).1, (gPILI o2 0).2)]).bind fun o3 =>
    (call iw_toBraid [tPILI (a0.1, a0.2)]).bind fun o4 =>
    (call ii_FirstHandle [tPILI ((gPILI o4 0).1, (gPILI o4 0).2)]).bind fun o5 =>
    (call iw_eqInt64S [tLI (gLI o5 0), tLI (gLI o3 0)]).bind fun o6 =>
    bif (!(gB o6 0)) then
      some [tB false]
    else
      bif ((gI o5 1) != (gI o3 1)) then
        some [tB false]
      else
        (call iw_toBraid [tPILI (a0.1, a0.2)]).bind fun o7 =>
        (call iw_eqBraid [tPILI ((gPILI o4 0).1, (gPILI o4 0).2), tPILI ((gPILI o7 0).1, (gPILI o7 0).2)]).bind fun o8 =>
        bif (!(gB o8 0)) then
          some [tB false]
        else
          (call iw_markBraid [tPILI ((gPILI o4 0).1, (gPILI o4 0).2), tI 1]).bind fun o9 =>
          bif decide ((gI o9 0) < 0) then
            some [tB false]
          else
            (call iw_eqInt64S [tLI (gLI o5 0), tLI (gLI o3 0)]).bind fun o10 =>
            bif (!(gB o10 0)) then
              some [tB false]
            else
              bif ((gI o5 1) != (gI o3 1)) then
                some [tB false]
              else
                (call iw_markInt64S [tLI (gLI o5 0), tI 1]).bind fun o11 =>
                (call iw_heldInt64S [tLI (gLI o11 1), tI 1]).bind fun o12 =>
                bif decide ((gI o12 0) < 0) then
                  some [tB false]
                else
                  bif ((gI o12 0) != (gI o11 0)) then
                    some [tB false]
                  else
                    (call iw_toBraid [tPILI (a0.1, a0.2)]).bind fun o13 =>
                    (call ii_FirstHandle [tPILI ((gPILI o13 0).1, (gPILI o13 0).2)]).bind fun o14 =>
                    (call iw_eqInt64S [tLI (gLI o14 0), tLI (gLI o3 0)]).bind fun o15 =>
                    bif (!(gB o15 0)) then
                      some [tB false]
                    else
                      bif ((gI o14 1) != (gI o3 1)) then
                        some [tB false]
                      else
                        (call iw_heldInt64S [tLI (gLI o11 1), tI 1]).bind fun o16 =>
                        bif decide ((gI o16 0) < 0) then
                          some [tB false]
                        else
                          bif ((gI o16 0) != (gI o11 0)) then
                            some [tB false]
                          else
                            some [tB true]
theorem ew_FnExactFirstHandle (call : Oracle) (a0 : Int × List Int) : run1 E call iw_FnExactFirstHandle [tPILI a0] = bw_FnExactFirstHandle call a0 := by kernel_rfl
theorem vw_FnExactFirstHandle (a0 : Int × List Int) {o : List TV} (h : bw_FnExactFirstHandle R a0 = some o) : R iw_FnExactFirstHandle [tPILI a0] = some o := ev_step ((ew_FnExactFirstHandle R a0).trans h)
/-- spec.l01Own -/
noncomputable def bs_l01Own (call : Oracle) (a0 : List Int) : Option (List TV) :=
  bif (apOk [] a0) then
    some [tLI a0]
  else none
theorem es_l01Own (call : Oracle) (a0 : List Int) : run1 E call is_l01Own [tLI a0] = bs_l01Own call a0 := by kernel_rfl
theorem vs_l01Own (a0 : List Int) {o : List TV} (h : bs_l01Own R a0 = some o) : R is_l01Own [tLI a0] = some o := ev_step ((es_l01Own R a0).trans h)
/-- spec.l06Step loop 5 -/
noncomputable def bs_l06Step_5 (call : Oracle) (x0 : List Int) (x1 : List Int) (x2 : Int) (x3 : Int) (x4 : Int) (x5 : Int) : Option (List TV) :=
  bif decide (x5 < x2) then
    bif (decide (0 ≤ x5) && decide (x5 < ((List.length x0 : Nat) : Int))) then
      (call is_l06Index [tI (List.getD x0 (Int.toNat x5) 0)]).bind fun o4 =>
      bif ((gI o4 0) != (wi64 (x3 + 1))) then
        bif (apOk x1 [(List.getD x0 (Int.toNat x5) 0)]) then
          call is_l06Step_5 [tLI x0, tLI (x1 ++ [(List.getD x0 (Int.toNat x5) 0)]), tI x2, tI x3, tI x4, tI (wi64 (x5 + 1))]
        else none
      else
        bif decide ((List.getD x0 (Int.toNat x5) 0) < 0) then
          bif (apOk x1 [(wi64 (x4 * (wi64 (x3 + 1)))), (wi64 (0 - x3)), (wi64 ((wi64 (0 - x4)) * (wi64 (x3 + 1))))]) then
            call is_l06Step_5 [tLI x0, tLI (x1 ++ [(wi64 (x4 * (wi64 (x3 + 1)))), (wi64 (0 - x3)), (wi64 ((wi64 (0 - x4)) * (wi64 (x3 + 1))))]), tI x2, tI x3, tI x4, tI (wi64 (x5 + 1))]
          else none
        else
          bif (apOk x1 [(wi64 (x4 * (wi64 (x3 + 1)))), x3, (wi64 ((wi64 (0 - x4)) * (wi64 (x3 + 1))))]) then
            call is_l06Step_5 [tLI x0, tLI (x1 ++ [(wi64 (x4 * (wi64 (x3 + 1)))), x3, (wi64 ((wi64 (0 - x4)) * (wi64 (x3 + 1))))]), tI x2, tI x3, tI x4, tI (wi64 (x5 + 1))]
          else none
    else none
  else
    some [tI 0, tLI x0, tLI x1, tI x2]
theorem es_l06Step_5 (call : Oracle) (x0 : List Int) (x1 : List Int) (x2 : Int) (x3 : Int) (x4 : Int) (x5 : Int) : run1 E call is_l06Step_5 [tLI x0, tLI x1, tI x2, tI x3, tI x4, tI x5] = bs_l06Step_5 call x0 x1 x2 x3 x4 x5 := by kernel_rfl
theorem vs_l06Step_5 (x0 : List Int) (x1 : List Int) (x2 : Int) (x3 : Int) (x4 : Int) (x5 : Int) {o : List TV} (h : bs_l06Step_5 R x0 x1 x2 x3 x4 x5 = some o) : R is_l06Step_5 [tLI x0, tLI x1, tI x2, tI x3, tI x4, tI x5] = some o := ev_step ((es_l06Step_5 R x0 x1 x2 x3 x4 x5).trans h)
/-- spec.l06Step -/
noncomputable def bs_l06Step (call : Oracle) (a0 : List Int) (a1 : Int) (a2 : Int) : Option (List TV) :=
  bif (decide (0 ≤ a1) && decide (a1 ≤ ((List.length a0 : Nat) : Int))) then
    (call is_l01Own [tLI (List.take (Int.toNat a1) a0)]).bind fun o1 =>
    bif (decide (0 ≤ a1) && decide (a1 < ((List.length a0 : Nat) : Int))) then
      (call is_l06Index [tI (List.getD a0 (Int.toNat a1) 0)]).bind fun o2 =>
      bif (decide (0 ≤ a2) && decide (a2 < ((List.length a0 : Nat) : Int))) then
        bif decide ((List.getD a0 (Int.toNat a2) 0) < 0) then
          (call is_l06Step_5 [tLI a0, tLI (gLI o1 0), tI a2, tI (gI o2 0), tI (-1), tI (wi64 (a1 + 1))]).bind fun o5 =>
          bif (decide (0 ≤ (wi64 ((gI o5 3) + 1))) && decide ((wi64 ((gI o5 3) + 1)) ≤ ((List.length (gLI o5 1) : Nat) : Int))) then
            bif (apOk (gLI o5 2) (List.drop (Int.toNat (wi64 ((gI o5 3) + 1))) (gLI o5 1))) then
              some [tLI ((gLI o5 2) ++ (List.drop (Int.toNat (wi64 ((gI o5 3) + 1))) (gLI o5 1)))]
            else none
          else none
        else
          (call is_l06Step_5 [tLI a0, tLI (gLI o1 0), tI a2, tI (gI o2 0), tI 1, tI (wi64 (a1 + 1))]).bind fun o6 =>
          bif (decide (0 ≤ (wi64 ((gI o6 3) + 1))) && decide ((wi64 ((gI o6 3) + 1)) ≤ ((List.length (gLI o6 1) : Nat) : Int))) then
            bif (apOk (gLI o6 2) (List.drop (Int.toNat (wi64 ((gI o6 3) + 1))) (gLI o6 1))) then
              some [tLI ((gLI o6 2) ++ (List.drop (Int.toNat (wi64 ((gI o6 3) + 1))) (gLI o6 1)))]
            else none
          else none
      else none
    else none
  else none
theorem es_l06Step (call : Oracle) (a0 : List Int) (a1 : Int) (a2 : Int) : run1 E call is_l06Step [tLI a0, tI a1, tI a2] = bs_l06Step call a0 a1 a2 := by kernel_rfl
theorem vs_l06Step (a0 : List Int) (a1 : Int) (a2 : Int) {o : List TV} (h : bs_l06Step R a0 a1 a2 = some o) : R is_l06Step [tLI a0, tI a1, tI a2] = some o := ev_step ((es_l06Step R a0 a1 a2).trans h)
/-- spec.ReduceHandle -/
noncomputable def bs_ReduceHandle (call : Oracle) (a0 : Int × List Int) : Option (List TV) :=
  (call is_l01Is [tPILI (a0.1, a0.2)]).bind fun o1 =>
  bif (!(gB o1 0)) then
    some [tPILI (0, []), tI 1]
  else
    (call is_l06Handle [tLI a0.2]).bind fun o2 =>
    bif (!(gB o2 2)) then
      some [tPILI (0, []), tI 4]
    else
      (call is_l06Step [tLI a0.2, tI (gI o2 0), tI (gI o2 1)]).bind fun o3 =>
      bif decide (200 < ((List.length (gLI o3 0) : Nat) : Int)) then
        some [tPILI (0, []), tI 3]
      else
        some [tPILI (a0.1, (gLI o3 0)), tI 0]
theorem es_ReduceHandle (call : Oracle) (a0 : Int × List Int) : run1 E call is_ReduceHandle [tPILI a0] = bs_ReduceHandle call a0 := by kernel_rfl
theorem vs_ReduceHandle (a0 : Int × List Int) {o : List TV} (h : bs_ReduceHandle R a0 = some o) : R is_ReduceHandle [tPILI a0] = some o := ev_step ((es_ReduceHandle R a0).trans h)
/-- impl.reduced loop 5 -/
noncomputable def bi_reduced_5 (call : Oracle) (x0 : List Int) (x1 : List Int) (x2 : List Int) (x3 : Int) (x4 : Int) (x5 : Int) (x6 : Int) (x7 : Int) : Option (List TV) :=
  bif decide (x7 < x6) then
    bif (decide (0 ≤ x7) && decide (x7 < ((List.length x2 : Nat) : Int))) then
      (call ii_size [tI (List.getD x2 (Int.toNat x7) 0)]).bind fun o5 =>
      bif ((gI o5 0) == (wi64 (x4 + 1))) then
        (call ii_sign [tI (List.getD x2 (Int.toNat x7) 0)]).bind fun o6 =>
        bif (apOk x1 [x5, (wi64 (x4 * (gI o6 0))), (wi64 (0 - x5))]) then
          call ii_reduced_5 [tLI x0, tLI (x1 ++ [x5, (wi64 (x4 * (gI o6 0))), (wi64 (0 - x5))]), tLI x2, tI x3, tI x4, tI x5, tI x6, tI (wi64 (x7 + 1))]
        else none
      else
        bif (apOk x1 [(List.getD x2 (Int.toNat x7) 0)]) then
          call ii_reduced_5 [tLI x0, tLI (x1 ++ [(List.getD x2 (Int.toNat x7) 0)]), tLI x2, tI x3, tI x4, tI x5, tI x6, tI (wi64 (x7 + 1))]
        else none
    else none
  else
    some [tI 0, tLI x0, tLI x1, tI x3]
theorem ei_reduced_5 (call : Oracle) (x0 : List Int) (x1 : List Int) (x2 : List Int) (x3 : Int) (x4 : Int) (x5 : Int) (x6 : Int) (x7 : Int) : run1 E call ii_reduced_5 [tLI x0, tLI x1, tLI x2, tI x3, tI x4, tI x5, tI x6, tI x7] = bi_reduced_5 call x0 x1 x2 x3 x4 x5 x6 x7 := by kernel_rfl
theorem vi_reduced_5 (x0 : List Int) (x1 : List Int) (x2 : List Int) (x3 : Int) (x4 : Int) (x5 : Int) (x6 : Int) (x7 : Int) {o : List TV} (h : bi_reduced_5 R x0 x1 x2 x3 x4 x5 x6 x7 = some o) : R ii_reduced_5 [tLI x0, tLI x1, tLI x2, tI x3, tI x4, tI x5, tI x6, tI x7] = some o := ev_step ((ei_reduced_5 R x0 x1 x2 x3 x4 x5 x6 x7).trans h)
/-- impl.reduced -/
noncomputable def bi_reduced (call : Oracle) (a0 : List Int) (a1 : Int) (a2 : Int) : Option (List TV) :=
  bif (decide (0 ≤ a2) && decide (a2 < ((List.length a0 : Nat) : Int))) then
    (call ii_size [tI (List.getD a0 (Int.toNat a2) 0)]).bind fun o1 =>
    bif (decide (0 ≤ a2) && decide (a2 < ((List.length a0 : Nat) : Int))) then
      (call ii_sign [tI (List.getD a0 (Int.toNat a2) 0)]).bind fun o2 =>
      bif (decide (0 ≤ a1) && decide (a1 ≤ ((List.length a0 : Nat) : Int))) then
        bif (apOk [] (List.take (Int.toNat a1) a0)) then
          bif ((decide (0 ≤ (wi64 (a1 + 1))) && decide ((wi64 (a1 + 1)) ≤ a2)) && decide (a2 ≤ ((List.length a0 : Nat) : Int))) then
            (call ii_reduced_5 [tLI a0, tLI (List.take (Int.toNat a1) a0), tLI (List.drop (Int.toNat (wi64 (a1 + 1))) (List.take (Int.toNat a2) a0)), tI a2, tI (gI o1 0), tI (wi64 ((wi64 ((gI o1 0) + 1)) * (gI o2 0))), tI ((List.length (List.drop (Int.toNat (wi64 (a1 + 1))) (List.take (Int.toNat a2) a0)) : Nat) : Int), tI 0]).bind fun o7 =>
            bif (decide (0 ≤ (wi64 ((gI o7 3) + 1))) && decide ((wi64 ((gI o7 3) + 1)) ≤ ((List.length (gLI o7 1) : Nat) : Int))) then
              bif (apOk (gLI o7 2) (List.drop (Int.toNat (wi64 ((gI o7 3) + 1))) (gLI o7 1))) then
                some [tLI ((gLI o7 2) ++ (List.drop (Int.toNat (wi64 ((gI o7 3) + 1))) (gLI o7 1)))]
              else none
            else none
          else none
        else none
      else none
    else none
  else none
theorem ei_reduced (call : Oracle) (a0 : List Int) (a1 : Int) (a2 : Int) : run1 E call ii_reduced [tLI a0, tI a1, tI a2] = bi_reduced call a0 a1 a2 := by kernel_rfl
theorem vi_reduced (a0 : List Int) (a1 : Int) (a2 : Int) {o : List TV} (h : bi_reduced R a0 a1 a2 = some o) : R ii_reduced [tLI a0, tI a1, tI a2] = some o := ev_step ((ei_reduced R a0 a1 a2).trans h)
/-- impl.ReduceHandle -/
noncomputable def bi_ReduceHandle (call : Oracle) (a0 : Int × List Int) : Option (List TV) :=
  (call ii_IsBraid [tPILI (a0.1, a0.2)]).bind fun o1 =>
  bif (!(gB o1 0)) then
    some [tPILI (0, []), tI 1]
  else
    (call ii_firstHandle [tLI a0.2]).bind fun o2 =>
    bif (!(gB o2 2)) then
      some [tPILI (0, []), tI 4]
    else
      (call ii_reduced [tLI a0.2, tI (gI o2 0), tI (gI o2 1)]).bind fun o3 =>
      bif decide (200 < ((List.length (gLI o3 0) : Nat) : Int)) then
        some [tPILI (0, []), tI 3]
      else
        some [tPILI (a0.1, (gLI o3 0)), tI 0]
theorem ei_ReduceHandle (call : Oracle) (a0 : Int × List Int) : run1 E call ii_ReduceHandle [tPILI a0] = bi_ReduceHandle call a0 := by kernel_rfl
theorem vi_ReduceHandle (a0 : Int × List Int) {o : List TV} (h : bi_ReduceHandle R a0 = some o) : R ii_ReduceHandle [tPILI a0] = some o := ev_step ((ei_ReduceHandle R a0).trans h)
/-- laws.heldBraid -/
noncomputable def bw_heldBraid (call : Oracle) (a0 : Int × List Int) (a1 : Int) : Option (List TV) :=
  (call iw_heldInt64S [tLI a0.2, tI a1]).bind fun o1 =>
  bif decide ((gI o1 0) < 0) then
    some [tI (-1)]
  else
    some [tI (gI o1 0)]
theorem ew_heldBraid (call : Oracle) (a0 : Int × List Int) (a1 : Int) : run1 E call iw_heldBraid [tPILI a0, tI a1] = bw_heldBraid call a0 a1 := by kernel_rfl
theorem vw_heldBraid (a0 : Int × List Int) (a1 : Int) {o : List TV} (h : bw_heldBraid R a0 a1 = some o) : R iw_heldBraid [tPILI a0, tI a1] = some o := ev_step ((ew_heldBraid R a0 a1).trans h)
/-- laws.FnExactReduceHandle -/
noncomputable def bw_FnExactReduceHandle (call : Oracle) (a0 : Int × List Int) : Option (List TV) :=
  (call iw_szBraid [tPILI (a0.1, a0.2), tI 1048576]).bind fun o1 =>
  bif decide ((gI o1 0) < 0) then
    some [tB true]
  else
    (call iw_toBraid [tPILI (a0.1, a0.2)]).bind fun o2 =>
    (call is_ReduceHandle [tPILI ((gPILI o2 0).1, (gPILI o2 0).2)]).bind fun o3 =>
    (call iw_toBraid [tPILI (a0.1, a0.2)]).bind fun o4 =>
    (call ii_ReduceHandle [tPILI ((gPILI o4 0).1, (gPILI o4 0).2)]).bind fun o5 =>
    (call iw_eqBraid [tPILI ((gPILI o5 0).1, (gPILI o5 0).2), tPILI ((gPILI o3 0).1, (gPILI o3 0).2)]).bind fun o6 =>
    bif (!(gB o6 0)) then
      some [tB false]
    else
      bif ((gI o5 1) != (gI o3 1)) then
        some [tB false]
      else
        (call iw_toBraid [tPILI (a0.1, a0.2)]).bind fun o7 =>
        (call iw_eqBraid [tPILI ((gPILI o4 0).1, (gPILI o4 0).2), tPILI ((gPILI o7 0).1, (gPILI o7 0).2)]).bind fun o8 =>
        bif (!(gB o8 0)) then
          some [tB false]
        else
          (call iw_markBraid [tPILI ((gPILI o4 0).1, (gPILI o4 0).2), tI 1]).bind fun o9 =>
          bif decide ((gI o9 0) < 0) then
            some [tB false]
          else
            (call iw_eqBraid [tPILI ((gPILI o5 0).1, (gPILI o5 0).2), tPILI ((gPILI o3 0).1, (gPILI o3 0).2)]).bind fun o10 =>
            bif (!(gB o10 0)) then
              some [tB false]
            else
              bif ((gI o5 1) != (gI o3 1)) then
                some [tB false]
              else
                (call iw_markBraid [tPILI ((gPILI o5 0).1, (gPILI o5 0).2), tI 1]).bind fun o11 =>
                (call iw_heldBraid [tPILI ((gPILI o5 0).1, (gPILI o11 1).2), tI 1]).bind fun o12 =>
                bif decide ((gI o12 0) < 0) then
                  some [tB false]
                else
                  bif ((gI o12 0) != (gI o11 0)) then
                    some [tB false]
                  else
                    (call iw_toBraid [tPILI (a0.1, a0.2)]).bind fun o13 =>
                    (call ii_ReduceHandle [tPILI ((gPILI o13 0).1, (gPILI o13 0).2)]).bind fun o14 =>
                    (call iw_eqBraid [tPILI ((gPILI o14 0).1, (gPILI o14 0).2), tPILI ((gPILI o3 0).1, (gPILI o3 0).2)]).bind fun o15 =>
                    bif (!(gB o15 0)) then
                      some [tB false]
                    else
                      bif ((gI o14 1) != (gI o3 1)) then
                        some [tB false]
                      else
                        (call iw_heldBraid [tPILI ((gPILI o5 0).1, (gPILI o11 1).2), tI 1]).bind fun o16 =>
                        bif decide ((gI o16 0) < 0) then
                          some [tB false]
                        else
                          bif ((gI o16 0) != (gI o11 0)) then
                            some [tB false]
                          else
                            some [tB true]
theorem ew_FnExactReduceHandle (call : Oracle) (a0 : Int × List Int) : run1 E call iw_FnExactReduceHandle [tPILI a0] = bw_FnExactReduceHandle call a0 := by kernel_rfl
theorem vw_FnExactReduceHandle (a0 : Int × List Int) {o : List TV} (h : bw_FnExactReduceHandle R a0 = some o) : R iw_FnExactReduceHandle [tPILI a0] = some o := ev_step ((ew_FnExactReduceHandle R a0).trans h)
/-- spec.l06Reduce loop 3 -/
noncomputable def bs_l06Reduce_3 (call : Oracle) (x0 : List Int) (x1 : Int) : Option (List TV) :=
  bif decide (2000 < ((List.length x0 : Nat) : Int)) then
    some [tI 0, tLI [], tB false]
  else
    (call is_l06Handle [tLI x0]).bind fun o3 =>
    bif (!(gB o3 2)) then
      some [tI 0, tLI x0, tB true]
    else
      bif (x1 == 3000) then
        some [tI 0, tLI [], tB false]
      else
        (call is_l06Step [tLI x0, tI (gI o3 0), tI (gI o3 1)]).bind fun o4 =>
        call is_l06Reduce_3 [tLI (gLI o4 0), tI (wi64 (x1 + 1))]
theorem es_l06Reduce_3 (call : Oracle) (x0 : List Int) (x1 : Int) : run1 E call is_l06Reduce_3 [tLI x0, tI x1] = bs_l06Reduce_3 call x0 x1 := by kernel_rfl
theorem vs_l06Reduce_3 (x0 : List Int) (x1 : Int) {o : List TV} (h : bs_l06Reduce_3 R x0 x1 = some o) : R is_l06Reduce_3 [tLI x0, tI x1] = some o := ev_step ((es_l06Reduce_3 R x0 x1).trans h)
/-- spec.l06Reduce -/
noncomputable def bs_l06Reduce (call : Oracle) (a0 : List Int) : Option (List TV) :=
  (call is_l06Reduce_3 [tLI a0, tI 0]).bind fun o5 =>
  some [tLI (gLI o5 1), tB (gB o5 2)]
theorem es_l06Reduce (call : Oracle) (a0 : List Int) : run1 E call is_l06Reduce [tLI a0] = bs_l06Reduce call a0 := by kernel_rfl
theorem vs_l06Reduce (a0 : List Int) {o : List TV} (h : bs_l06Reduce R a0 = some o) : R is_l06Reduce [tLI a0] = some o := ev_step ((es_l06Reduce R a0).trans h)
/-- spec.HandleFree -/
noncomputable def bs_HandleFree (call : Oracle) (a0 : Int × List Int) : Option (List TV) :=
  (call is_l01Is [tPILI (a0.1, a0.2)]).bind fun o1 =>
  bif (!(gB o1 0)) then
    some [tPILI (0, []), tI 1]
  else
    (call is_l06Reduce [tLI a0.2]).bind fun o2 =>
    bif (!(gB o2 1)) then
      some [tPILI (0, []), tI 3]
    else
      bif decide (200 < ((List.length (gLI o2 0) : Nat) : Int)) then
        some [tPILI (0, []), tI 3]
      else
        (call is_l01Own [tLI (gLI o2 0)]).bind fun o3 =>
        some [tPILI (a0.1, (gLI o3 0)), tI 0]
theorem es_HandleFree (call : Oracle) (a0 : Int × List Int) : run1 E call is_HandleFree [tPILI a0] = bs_HandleFree call a0 := by kernel_rfl
theorem vs_HandleFree (a0 : Int × List Int) {o : List TV} (h : bs_HandleFree R a0 = some o) : R is_HandleFree [tPILI a0] = some o := ev_step ((es_HandleFree R a0).trans h)
/-- impl.reduction loop 3 -/
noncomputable def bi_reduction_3 (call : Oracle) (x0 : List Int) (x1 : Int) : Option (List TV) :=
  bif decide (2000 < ((List.length x0 : Nat) : Int)) then
    some [tI 0, tLI [], tI 3]
  else
    (call ii_firstHandle [tLI x0]).bind fun o3 =>
    bif (!(gB o3 2)) then
      some [tI 0, tLI x0, tI 0]
    else
      bif (x1 == 3000) then
        some [tI 0, tLI [], tI 3]
      else
        (call ii_reduced [tLI x0, tI (gI o3 0), tI (gI o3 1)]).bind fun o4 =>
        call ii_reduction_3 [tLI (gLI o4 0), tI (wi64 (x1 + 1))]
theorem ei_reduction_3 (call : Oracle) (x0 : List Int) (x1 : Int) : run1 E call ii_reduction_3 [tLI x0, tI x1] = bi_reduction_3 call x0 x1 := by kernel_rfl
theorem vi_reduction_3 (x0 : List Int) (x1 : Int) {o : List TV} (h : bi_reduction_3 R x0 x1 = some o) : R ii_reduction_3 [tLI x0, tI x1] = some o := ev_step ((ei_reduction_3 R x0 x1).trans h)
/-- impl.reduction -/
noncomputable def bi_reduction (call : Oracle) (a0 : List Int) : Option (List TV) :=
  (call ii_reduction_3 [tLI a0, tI 0]).bind fun o5 =>
  some [tLI (gLI o5 1), tI (gI o5 2)]
theorem ei_reduction (call : Oracle) (a0 : List Int) : run1 E call ii_reduction [tLI a0] = bi_reduction call a0 := by kernel_rfl
theorem vi_reduction (a0 : List Int) {o : List TV} (h : bi_reduction R a0 = some o) : R ii_reduction [tLI a0] = some o := ev_step ((ei_reduction R a0).trans h)
/-- impl.HandleFree -/
noncomputable def bi_HandleFree (call : Oracle) (a0 : Int × List Int) : Option (List TV) :=
  (call ii_IsBraid [tPILI (a0.1, a0.2)]).bind fun o1 =>
  bif (!(gB o1 0)) then
    some [tPILI (0, []), tI 1]
  else
    (call ii_reduction [tLI a0.2]).bind fun o2 =>
    bif ((gI o2 1) != 0) then
      some [tPILI (0, []), tI (gI o2 1)]
    else
      bif decide (200 < ((List.length (gLI o2 0) : Nat) : Int)) then
        some [tPILI (0, []), tI 3]
      else
        bif (apOk [] (gLI o2 0)) then
          some [tPILI (a0.1, (gLI o2 0)), tI 0]
        else none
theorem ei_HandleFree (call : Oracle) (a0 : Int × List Int) : run1 E call ii_HandleFree [tPILI a0] = bi_HandleFree call a0 := by kernel_rfl
theorem vi_HandleFree (a0 : Int × List Int) {o : List TV} (h : bi_HandleFree R a0 = some o) : R ii_HandleFree [tPILI a0] = some o := ev_step ((ei_HandleFree R a0).trans h)
end Go.Ev.Ytffepojldjodcaa
