/- Bodies, part 0. -/
import Derived.KernelRfl
import Derived.Test.YtolpnaiincngjaaGreatEnv
set_option linter.unusedVariables false
namespace Go.Ev.YtolpnaiincngjaaGreat
open Go.Ev
/-- laws.szSimpleS -/
noncomputable def bw_szSimpleS (call : Oracle) (a0 : List (List Int)) (a1 : Int) : Option (List TV) :=
  bif decide ((wi64 (a1 - ((List.length a0 : Nat) : Int))) < 0) then
    some [tI (-1)]
  else
    some [tI (wi64 (a1 - ((List.length a0 : Nat) : Int)))]
theorem ew_szSimpleS (call : Oracle) (a0 : List (List Int)) (a1 : Int) : run1 E call iw_szSimpleS [tLA8 a0, tI a1] = bw_szSimpleS call a0 a1 := by kernel_rfl
theorem vw_szSimpleS (a0 : List (List Int)) (a1 : Int) {o : List TV} (h : bw_szSimpleS R a0 a1 = some o) : R iw_szSimpleS [tLA8 a0, tI a1] = some o := ev_step ((ew_szSimpleS R a0 a1).trans h)
/-- laws.szNormal -/
noncomputable def bw_szNormal (call : Oracle) (a0 : Int × Int × List (List Int)) (a1 : Int) : Option (List TV) :=
  (call iw_szSimpleS [tLA8 a0.2.2, tI a1]).bind fun o1 =>
  bif decide ((gI o1 0) < 0) then
    some [tI (-1)]
  else
    some [tI (gI o1 0)]
theorem ew_szNormal (call : Oracle) (a0 : Int × Int × List (List Int)) (a1 : Int) : run1 E call iw_szNormal [tPIPILA8 a0, tI a1] = bw_szNormal call a0 a1 := by kernel_rfl
theorem vw_szNormal (a0 : Int × Int × List (List Int)) (a1 : Int) {o : List TV} (h : bw_szNormal R a0 a1 = some o) : R iw_szNormal [tPIPILA8 a0, tI a1] = some o := ev_step ((ew_szNormal R a0 a1).trans h)
/-- laws.toSimple loop 3 -/
noncomputable def bw_toSimple_3 (call : Oracle) (x0 : List Int) (x1 : List Int) (x2 : List Int) (x3 : Int) : Option (List TV) :=
  bif decide (x3 < 8) then
    bif (decide (0 ≤ x3) && decide (x3 < 8)) then
      bif (decide (0 ≤ x3) && decide (x3 < 8)) then
        call iw_toSimple_3 [tA8 x0, tA8 x1, tA8 (List.set x2 (Int.toNat x3) (List.getD x0 (Int.toNat x3) 0)), tI (wi64 (x3 + 1))]
      else none
    else none
  else
    some [tI 0, tA8 x1, tA8 x2]
theorem ew_toSimple_3 (call : Oracle) (x0 : List Int) (x1 : List Int) (x2 : List Int) (x3 : Int) : run1 E call iw_toSimple_3 [tA8 x0, tA8 x1, tA8 x2, tI x3] = bw_toSimple_3 call x0 x1 x2 x3 := by kernel_rfl
theorem vw_toSimple_3 (x0 : List Int) (x1 : List Int) (x2 : List Int) (x3 : Int) {o : List TV} (h : bw_toSimple_3 R x0 x1 x2 x3 = some o) : R iw_toSimple_3 [tA8 x0, tA8 x1, tA8 x2, tI x3] = some o := ev_step ((ew_toSimple_3 R x0 x1 x2 x3).trans h)
/-- laws.toSimple -/
noncomputable def bw_toSimple (call : Oracle) (a0 : List Int) : Option (List TV) :=
  (call iw_toSimple_3 [tA8 a0, tA8 (List.replicate 8 0), tA8 (List.replicate 8 0), tI 0]).bind fun o1 =>
  some [tA8 (gA8 o1 2)]
theorem ew_toSimple (call : Oracle) (a0 : List Int) : run1 E call iw_toSimple [tA8 a0] = bw_toSimple call a0 := by kernel_rfl
theorem vw_toSimple (a0 : List Int) {o : List TV} (h : bw_toSimple R a0 = some o) : R iw_toSimple [tA8 a0] = some o := ev_step ((ew_toSimple R a0).trans h)
/-- laws.toSimpleS loop 3 -/
noncomputable def bw_toSimpleS_3 (call : Oracle) (x0 : List (List Int)) (x1 : List (List Int)) (x2 : Int) : Option (List TV) :=
  bif decide (x2 < ((List.length x0 : Nat) : Int)) then
    bif (decide (0 ≤ x2) && decide (x2 < ((List.length x0 : Nat) : Int))) then
      (call iw_toSimple [tA8 (List.getD x0 (Int.toNat x2) (List.replicate 8 0))]).bind fun o2 =>
      bif (decide (0 ≤ x2) && decide (x2 < ((List.length x1 : Nat) : Int))) then
        call iw_toSimpleS_3 [tLA8 x0, tLA8 (List.set x1 (Int.toNat x2) (gA8 o2 0)), tI (wi64 (x2 + 1))]
      else none
    else none
  else
    some [tI 0, tLA8 x1]
theorem ew_toSimpleS_3 (call : Oracle) (x0 : List (List Int)) (x1 : List (List Int)) (x2 : Int) : run1 E call iw_toSimpleS_3 [tLA8 x0, tLA8 x1, tI x2] = bw_toSimpleS_3 call x0 x1 x2 := by kernel_rfl
theorem vw_toSimpleS_3 (x0 : List (List Int)) (x1 : List (List Int)) (x2 : Int) {o : List TV} (h : bw_toSimpleS_3 R x0 x1 x2 = some o) : R iw_toSimpleS_3 [tLA8 x0, tLA8 x1, tI x2] = some o := ev_step ((ew_toSimpleS_3 R x0 x1 x2).trans h)
/-- laws.toSimpleS -/
noncomputable def bw_toSimpleS (call : Oracle) (a0 : List (List Int)) : Option (List TV) :=
  bif (mkOk ((List.length a0 : Nat) : Int)) then
    (call iw_toSimpleS_3 [tLA8 a0, tLA8 (List.replicate (Int.toNat ((List.length a0 : Nat) : Int)) (List.replicate 8 0)), tI 0]).bind fun o3 =>
    some [tLA8 (gLA8 o3 1)]
  else none
theorem ew_toSimpleS (call : Oracle) (a0 : List (List Int)) : run1 E call iw_toSimpleS [tLA8 a0] = bw_toSimpleS call a0 := by kernel_rfl
theorem vw_toSimpleS (a0 : List (List Int)) {o : List TV} (h : bw_toSimpleS R a0 = some o) : R iw_toSimpleS [tLA8 a0] = some o := ev_step ((ew_toSimpleS R a0).trans h)
/-- laws.toNormal -/
noncomputable def bw_toNormal (call : Oracle) (a0 : Int × Int × List (List Int)) : Option (List TV) :=
  (call iw_toSimpleS [tLA8 a0.2.2]).bind fun o1 =>
  some [tPIPILA8 (a0.1, (a0.2.1, (gLA8 o1 0)))]
theorem ew_toNormal (call : Oracle) (a0 : Int × Int × List (List Int)) : run1 E call iw_toNormal [tPIPILA8 a0] = bw_toNormal call a0 := by kernel_rfl
theorem vw_toNormal (a0 : Int × Int × List (List Int)) {o : List TV} (h : bw_toNormal R a0 = some o) : R iw_toNormal [tPIPILA8 a0] = some o := ev_step ((ew_toNormal R a0).trans h)
/-- spec.l01In -/
noncomputable def bs_l01In (call : Oracle) (a0 : Int) (a1 : Int) (a2 : Int) : Option (List TV) :=
  bif decide (a1 ≤ a0) then
    some [tB (decide (a0 ≤ a2))]
  else
    some [tB false]
theorem es_l01In (call : Oracle) (a0 : Int) (a1 : Int) (a2 : Int) : run1 E call is_l01In [tI a0, tI a1, tI a2] = bs_l01In call a0 a1 a2 := by kernel_rfl
theorem vs_l01In (a0 : Int) (a1 : Int) (a2 : Int) {o : List TV} (h : bs_l01In R a0 a1 a2 = some o) : R is_l01In [tI a0, tI a1, tI a2] = some o := ev_step ((es_l01In R a0 a1 a2).trans h)
/-- spec.l02Is loop 5 -/
noncomputable def bs_l02Is_5 (call : Oracle) (x0 : List Int) (x1 : List Bool) (x2 : Int) (x3 : Int) : Option (List TV) :=
  bif decide (x3 < 8) then
    bif decide (x2 ≤ x3) then
      bif (decide (0 ≤ x3) && decide (x3 < 8)) then
        bif ((List.getD x0 (Int.toNat x3) 0) != 0) then
          some [tI 1, tB false]
        else
          call is_l02Is_5 [tA8 x0, tAB8 x1, tI x2, tI (wi64 (x3 + 1))]
      else none
    else
      bif (decide (0 ≤ x3) && decide (x3 < 8)) then
        bif decide (x2 ≤ (wi64 ((List.getD x0 (Int.toNat x3) 0)))) then
          some [tI 1, tB false]
        else
          bif (decide (0 ≤ x3) && decide (x3 < 8)) then
            bif (decide (0 ≤ (List.getD x0 (Int.toNat x3) 0)) && decide ((List.getD x0 (Int.toNat x3) 0) < 8)) then
              bif (List.getD x1 (Int.toNat (List.getD x0 (Int.toNat x3) 0)) false) then
                some [tI 1, tB false]
              else
                bif (decide (0 ≤ x3) && decide (x3 < 8)) then
                  bif (decide (0 ≤ (List.getD x0 (Int.toNat x3) 0)) && decide ((List.getD x0 (Int.toNat x3) 0) < 8)) then
                    call is_l02Is_5 [tA8 x0, tAB8 (List.set x1 (Int.toNat (List.getD x0 (Int.toNat x3) 0)) true), tI x2, tI (wi64 (x3 + 1))]
                  else none
                else none
            else none
          else none
      else none
  else
    some [tI 0]
theorem es_l02Is_5 (call : Oracle) (x0 : List Int) (x1 : List Bool) (x2 : Int) (x3 : Int) : run1 E call is_l02Is_5 [tA8 x0, tAB8 x1, tI x2, tI x3] = bs_l02Is_5 call x0 x1 x2 x3 := by kernel_rfl
theorem vs_l02Is_5 (x0 : List Int) (x1 : List Bool) (x2 : Int) (x3 : Int) {o : List TV} (h : bs_l02Is_5 R x0 x1 x2 x3 = some o) : R is_l02Is_5 [tA8 x0, tAB8 x1, tI x2, tI x3] = some o := ev_step ((es_l02Is_5 R x0 x1 x2 x3).trans h)
/-- spec.l02Is -/
noncomputable def bs_l02Is (call : Oracle) (a0 : List Int) (a1 : Int) : Option (List TV) :=
  (call is_l01In [tI a1, tI 1, tI 8]).bind fun o1 =>
  bif (!(gB o1 0)) then
    some [tB false]
  else
    (call is_l02Is_5 [tA8 a0, tAB8 (List.replicate 8 false), tI a1, tI 0]).bind fun o2 =>
    bif ((gI o2 0) == 0) then
      some [tB true]
    else
      some [tB (gB o2 1)]
theorem es_l02Is (call : Oracle) (a0 : List Int) (a1 : Int) : run1 E call is_l02Is [tA8 a0, tI a1] = bs_l02Is call a0 a1 := by kernel_rfl
theorem vs_l02Is (a0 : List Int) (a1 : Int) {o : List TV} (h : bs_l02Is R a0 a1 = some o) : R is_l02Is [tA8 a0, tI a1] = some o := ev_step ((es_l02Is R a0 a1).trans h)
/-- spec.l02Same loop 3 -/
noncomputable def bs_l02Same_3 (call : Oracle) (x0 : List Int) (x1 : List Int) (x2 : Int) (x3 : Int) : Option (List TV) :=
  bif decide (x3 < x2) then
    bif (decide (0 ≤ x3) && decide (x3 < 8)) then
      call is_l02Same_3 [tA8 x0, tA8 (List.set x1 (Int.toNat x3) (wu8 (x3))), tI x2, tI (wi64 (x3 + 1))]
    else none
  else
    some [tI 0, tA8 x0, tA8 x1]
theorem es_l02Same_3 (call : Oracle) (x0 : List Int) (x1 : List Int) (x2 : Int) (x3 : Int) : run1 E call is_l02Same_3 [tA8 x0, tA8 x1, tI x2, tI x3] = bs_l02Same_3 call x0 x1 x2 x3 := by kernel_rfl
theorem vs_l02Same_3 (x0 : List Int) (x1 : List Int) (x2 : Int) (x3 : Int) {o : List TV} (h : bs_l02Same_3 R x0 x1 x2 x3 = some o) : R is_l02Same_3 [tA8 x0, tA8 x1, tI x2, tI x3] = some o := ev_step ((es_l02Same_3 R x0 x1 x2 x3).trans h)
/-- spec.l02Same -/
noncomputable def bs_l02Same (call : Oracle) (a0 : Int) : Option (List TV) :=
  (call is_l02Same_3 [tA8 (List.replicate 8 0), tA8 (List.replicate 8 0), tI a0, tI 0]).bind fun o1 =>
  some [tA8 (gA8 o1 2)]
theorem es_l02Same (call : Oracle) (a0 : Int) : run1 E call is_l02Same [tI a0] = bs_l02Same call a0 := by kernel_rfl
theorem vs_l02Same (a0 : Int) {o : List TV} (h : bs_l02Same R a0 = some o) : R is_l02Same [tI a0] = some o := ev_step ((es_l02Same R a0).trans h)
/-- spec.l02Half loop 3 -/
noncomputable def bs_l02Half_3 (call : Oracle) (x0 : List Int) (x1 : List Int) (x2 : Int) (x3 : Int) : Option (List TV) :=
  bif decide (x3 < x2) then
    bif (decide (0 ≤ x3) && decide (x3 < 8)) then
      call is_l02Half_3 [tA8 x0, tA8 (List.set x1 (Int.toNat x3) (wu8 ((wi64 ((wi64 (x2 - 1)) - x3))))), tI x2, tI (wi64 (x3 + 1))]
    else none
  else
    some [tI 0, tA8 x0, tA8 x1]
theorem es_l02Half_3 (call : Oracle) (x0 : List Int) (x1 : List Int) (x2 : Int) (x3 : Int) : run1 E call is_l02Half_3 [tA8 x0, tA8 x1, tI x2, tI x3] = bs_l02Half_3 call x0 x1 x2 x3 := by kernel_rfl
theorem vs_l02Half_3 (x0 : List Int) (x1 : List Int) (x2 : Int) (x3 : Int) {o : List TV} (h : bs_l02Half_3 R x0 x1 x2 x3 = some o) : R is_l02Half_3 [tA8 x0, tA8 x1, tI x2, tI x3] = some o := ev_step ((es_l02Half_3 R x0 x1 x2 x3).trans h)
/-- spec.l02Half -/
noncomputable def bs_l02Half (call : Oracle) (a0 : Int) : Option (List TV) :=
  (call is_l02Half_3 [tA8 (List.replicate 8 0), tA8 (List.replicate 8 0), tI a0, tI 0]).bind fun o1 =>
  some [tA8 (gA8 o1 2)]
theorem es_l02Half (call : Oracle) (a0 : Int) : run1 E call is_l02Half [tI a0] = bs_l02Half call a0 := by kernel_rfl
theorem vs_l02Half (a0 : Int) {o : List TV} (h : bs_l02Half R a0 = some o) : R is_l02Half [tI a0] = some o := ev_step ((es_l02Half R a0).trans h)
/-- spec.l02Back loop 3 -/
noncomputable def bs_l02Back_3 (call : Oracle) (x0 : List Int) (x1 : List Int) (x2 : List Int) (x3 : Int) (x4 : Int) : Option (List TV) :=
  bif decide (x4 < x3) then
    bif (decide (0 ≤ x4) && decide (x4 < 8)) then
      bif (decide (0 ≤ (List.getD x0 (Int.toNat x4) 0)) && decide ((List.getD x0 (Int.toNat x4) 0) < 8)) then
        call is_l02Back_3 [tA8 x0, tA8 x1, tA8 (List.set x2 (Int.toNat (List.getD x0 (Int.toNat x4) 0)) (wu8 (x4))), tI x3, tI (wi64 (x4 + 1))]
      else none
    else none
  else
    some [tI 0, tA8 x1, tA8 x2]
theorem es_l02Back_3 (call : Oracle) (x0 : List Int) (x1 : List Int) (x2 : List Int) (x3 : Int) (x4 : Int) : run1 E call is_l02Back_3 [tA8 x0, tA8 x1, tA8 x2, tI x3, tI x4] = bs_l02Back_3 call x0 x1 x2 x3 x4 := by kernel_rfl
theorem vs_l02Back_3 (x0 : List Int) (x1 : List Int) (x2 : List Int) (x3 : Int) (x4 : Int) {o : List TV} (h : bs_l02Back_3 R x0 x1 x2 x3 x4 = some o) : R is_l02Back_3 [tA8 x0, tA8 x1, tA8 x2, tI x3, tI x4] = some o := ev_step ((es_l02Back_3 R x0 x1 x2 x3 x4).trans h)
/-- spec.l02Back -/
noncomputable def bs_l02Back (call : Oracle) (a0 : List Int) (a1 : Int) : Option (List TV) :=
  (call is_l02Back_3 [tA8 a0, tA8 (List.replicate 8 0), tA8 (List.replicate 8 0), tI a1, tI 0]).bind fun o1 =>
  some [tA8 (gA8 o1 2)]
theorem es_l02Back (call : Oracle) (a0 : List Int) (a1 : Int) : run1 E call is_l02Back [tA8 a0, tI a1] = bs_l02Back call a0 a1 := by kernel_rfl
theorem vs_l02Back (a0 : List Int) (a1 : Int) {o : List TV} (h : bs_l02Back R a0 a1 = some o) : R is_l02Back [tA8 a0, tI a1] = some o := ev_step ((es_l02Back R a0 a1).trans h)
/-- spec.l03Weighted loop 3 -/
noncomputable def bs_l03Weighted_3 (call : Oracle) (x0 : List Int) (x1 : List Int) (x2 : Int) (x3 : Int) : Option (List TV) :=
  bif decide (x3 < x2) then
    bif (decide (0 ≤ (wi64 (x3 - 1))) && decide ((wi64 (x3 - 1)) < 8)) then
      bif (decide (0 ≤ x3) && decide (x3 < 8)) then
        bif decide ((List.getD x0 (Int.toNat x3) 0) < (List.getD x0 (Int.toNat (wi64 (x3 - 1))) 0)) then
          bif (decide (0 ≤ (wi64 (x3 - 1))) && decide ((wi64 (x3 - 1)) < 8)) then
            bif (decide (0 ≤ x3) && decide (x3 < 8)) then
              bif decide ((List.getD x1 (Int.toNat (wi64 (x3 - 1))) 0) < (List.getD x1 (Int.toNat x3) 0)) then
                some [tI 1, tB false]
              else
                call is_l03Weighted_3 [tA8 x0, tA8 x1, tI x2, tI (wi64 (x3 + 1))]
            else none
          else none
        else
          call is_l03Weighted_3 [tA8 x0, tA8 x1, tI x2, tI (wi64 (x3 + 1))]
      else none
    else none
  else
    some [tI 0]
theorem es_l03Weighted_3 (call : Oracle) (x0 : List Int) (x1 : List Int) (x2 : Int) (x3 : Int) : run1 E call is_l03Weighted_3 [tA8 x0, tA8 x1, tI x2, tI x3] = bs_l03Weighted_3 call x0 x1 x2 x3 := by kernel_rfl
theorem vs_l03Weighted_3 (x0 : List Int) (x1 : List Int) (x2 : Int) (x3 : Int) {o : List TV} (h : bs_l03Weighted_3 R x0 x1 x2 x3 = some o) : R is_l03Weighted_3 [tA8 x0, tA8 x1, tI x2, tI x3] = some o := ev_step ((es_l03Weighted_3 R x0 x1 x2 x3).trans h)
/-- spec.l03Weighted -/
noncomputable def bs_l03Weighted (call : Oracle) (a0 : List Int) (a1 : List Int) (a2 : Int) : Option (List TV) :=
  (call is_l02Back [tA8 a0, tI a2]).bind fun o1 =>
  (call is_l03Weighted_3 [tA8 a1, tA8 (gA8 o1 0), tI a2, tI 1]).bind fun o2 =>
  bif ((gI o2 0) == 0) then
    some [tB true]
  else
    some [tB (gB o2 1)]
theorem es_l03Weighted (call : Oracle) (a0 : List Int) (a1 : List Int) (a2 : Int) : run1 E call is_l03Weighted [tA8 a0, tA8 a1, tI a2] = bs_l03Weighted call a0 a1 a2 := by kernel_rfl
theorem vs_l03Weighted (a0 : List Int) (a1 : List Int) (a2 : Int) {o : List TV} (h : bs_l03Weighted R a0 a1 a2 = some o) : R is_l03Weighted [tA8 a0, tA8 a1, tI a2] = some o := ev_step ((es_l03Weighted R a0 a1 a2).trans h)
/-- spec.l03Is loop 5 -/
noncomputable def bs_l03Is_5 (call : Oracle) (x0 : Int) (x1 : Int) (x2 : List (List Int)) (x3 : Int) (x4 : Int) : Option (List TV) :=
  bif decide (x4 < ((List.length x2 : Nat) : Int)) then
    bif (decide (0 ≤ x4) && decide (x4 < ((List.length x2 : Nat) : Int))) then
      (call is_l02Is [tA8 (List.getD x2 (Int.toNat x4) (List.replicate 8 0)), tI x3]).bind fun o7 =>
      bif (!(gB o7 0)) then
        some [tI 1, tB false]
      else
        (call is_l02Same [tI x3]).bind fun o8 =>
        bif ((List.getD x2 (Int.toNat x4) (List.replicate 8 0)) == (gA8 o8 0)) then
          some [tI 1, tB false]
        else
          (call is_l02Half [tI x3]).bind fun o9 =>
          bif ((List.getD x2 (Int.toNat x4) (List.replicate 8 0)) == (gA8 o9 0)) then
            some [tI 1, tB false]
          else
            bif decide (0 < x4) then
              bif (decide (0 ≤ (wi64 (x4 - 1))) && decide ((wi64 (x4 - 1)) < ((List.length x2 : Nat) : Int))) then
                (call is_l03Weighted [tA8 (List.getD x2 (Int.toNat (wi64 (x4 - 1))) (List.replicate 8 0)), tA8 (List.getD x2 (Int.toNat x4) (List.replicate 8 0)), tI x3]).bind fun o10 =>
                bif (!(gB o10 0)) then
                  some [tI 1, tB false]
                else
                  call is_l03Is_5 [tI x0, tI x1, tLA8 x2, tI x3, tI (wi64 (x4 + 1))]
              else none
            else
              call is_l03Is_5 [tI x0, tI x1, tLA8 x2, tI x3, tI (wi64 (x4 + 1))]
    else none
  else
    some [tI 0]
theorem es_l03Is_5 (call : Oracle) (x0 : Int) (x1 : Int) (x2 : List (List Int)) (x3 : Int) (x4 : Int) : run1 E call is_l03Is_5 [tI x0, tI x1, tLA8 x2, tI x3, tI x4] = bs_l03Is_5 call x0 x1 x2 x3 x4 := by kernel_rfl
theorem vs_l03Is_5 (x0 : Int) (x1 : Int) (x2 : List (List Int)) (x3 : Int) (x4 : Int) {o : List TV} (h : bs_l03Is_5 R x0 x1 x2 x3 x4 = some o) : R is_l03Is_5 [tI x0, tI x1, tLA8 x2, tI x3, tI x4] = some o := ev_step ((es_l03Is_5 R x0 x1 x2 x3 x4).trans h)
/-- spec.l03Is -/
noncomputable def bs_l03Is (call : Oracle) (a0 : Int × Int × List (List Int)) : Option (List TV) :=
  (call is_l01In [tI a0.1, tI 1, tI 8]).bind fun o1 =>
  bif (!(gB o1 0)) then
    some [tB false]
  else
    (call is_l01In [tI a0.2.1, tI (-200), tI 200]).bind fun o2 =>
    bif (!(gB o2 0)) then
      some [tB false]
    else
      bif decide (200 < ((List.length a0.2.2 : Nat) : Int)) then
        some [tB false]
      else
        bif decide (a0.1 < 2) then
          bif (a0.2.1 != 0) then
            some [tB false]
          else
            (call is_l03Is_5 [tI a0.1, tI a0.2.1, tLA8 a0.2.2, tI a0.1, tI 0]).bind fun o11 =>
            bif ((gI o11 0) == 0) then
              some [tB true]
            else
              some [tB (gB o11 1)]
        else
          (call is_l03Is_5 [tI a0.1, tI a0.2.1, tLA8 a0.2.2, tI a0.1, tI 0]).bind fun o12 =>
          bif ((gI o12 0) == 0) then
            some [tB true]
          else
            some [tB (gB o12 1)]
theorem es_l03Is (call : Oracle) (a0 : Int × Int × List (List Int)) : run1 E call is_l03Is [tPIPILA8 a0] = bs_l03Is call a0 := by kernel_rfl
theorem vs_l03Is (a0 : Int × Int × List (List Int)) {o : List TV} (h : bs_l03Is R a0 = some o) : R is_l03Is [tPIPILA8 a0] = some o := ev_step ((es_l03Is R a0).trans h)
/-- spec.l04Code -/
noncomputable def bs_l04Code (call : Oracle) (a0 : Int × Int × List (List Int)) : Option (List TV) :=
  (call is_l03Is [tPIPILA8 (a0.1, (a0.2.1, a0.2.2))]).bind fun o1 =>
  bif (!(gB o1 0)) then
    some [tI 1]
  else
    bif decide (4 < a0.1) then
      some [tI 2]
    else
      some [tI 0]
theorem es_l04Code (call : Oracle) (a0 : Int × Int × List (List Int)) : run1 E call is_l04Code [tPIPILA8 a0] = bs_l04Code call a0 := by kernel_rfl
theorem vs_l04Code (a0 : Int × Int × List (List Int)) {o : List TV} (h : bs_l04Code R a0 = some o) : R is_l04Code [tPIPILA8 a0] = some o := ev_step ((es_l04Code R a0).trans h)
/-- spec.l02Then loop 3 -/
noncomputable def bs_l02Then_3 (call : Oracle) (x0 : List Int) (x1 : List Int) (x2 : List Int) (x3 : List Int) (x4 : Int) (x5 : Int) : Option (List TV) :=
  bif decide (x5 < x4) then
    bif (decide (0 ≤ x5) && decide (x5 < 8)) then
      bif (decide (0 ≤ (List.getD x0 (Int.toNat x5) 0)) && decide ((List.getD x0 (Int.toNat x5) 0) < 8)) then
        bif (decide (0 ≤ x5) && decide (x5 < 8)) then
          call is_l02Then_3 [tA8 x0, tA8 x1, tA8 x2, tA8 (List.set x3 (Int.toNat x5) (List.getD x1 (Int.toNat (List.getD x0 (Int.toNat x5) 0)) 0)), tI x4, tI (wi64 (x5 + 1))]
        else none
      else none
    else none
  else
    some [tI 0, tA8 x2, tA8 x3]
theorem es_l02Then_3 (call : Oracle) (x0 : List Int) (x1 : List Int) (x2 : List Int) (x3 : List Int) (x4 : Int) (x5 : Int) : run1 E call is_l02Then_3 [tA8 x0, tA8 x1, tA8 x2, tA8 x3, tI x4, tI x5] = bs_l02Then_3 call x0 x1 x2 x3 x4 x5 := by kernel_rfl
theorem vs_l02Then_3 (x0 : List Int) (x1 : List Int) (x2 : List Int) (x3 : List Int) (x4 : Int) (x5 : Int) {o : List TV} (h : bs_l02Then_3 R x0 x1 x2 x3 x4 x5 = some o) : R is_l02Then_3 [tA8 x0, tA8 x1, tA8 x2, tA8 x3, tI x4, tI x5] = some o := ev_step ((es_l02Then_3 R x0 x1 x2 x3 x4 x5).trans h)
/-- spec.l02Then -/
noncomputable def bs_l02Then (call : Oracle) (a0 : List Int) (a1 : List Int) (a2 : Int) : Option (List TV) :=
  (call is_l02Then_3 [tA8 a0, tA8 a1, tA8 (List.replicate 8 0), tA8 (List.replicate 8 0), tI a2, tI 0]).bind fun o1 =>
  some [tA8 (gA8 o1 2)]
theorem es_l02Then (call : Oracle) (a0 : List Int) (a1 : List Int) (a2 : Int) : run1 E call is_l02Then [tA8 a0, tA8 a1, tI a2] = bs_l02Then call a0 a1 a2 := by kernel_rfl
theorem vs_l02Then (a0 : List Int) (a1 : List Int) (a2 : Int) {o : List TV} (h : bs_l02Then R a0 a1 a2 = some o) : R is_l02Then [tA8 a0, tA8 a1, tI a2] = some o := ev_step ((es_l02Then R a0 a1 a2).trans h)
/-- spec.l02Turn -/
noncomputable def bs_l02Turn (call : Oracle) (a0 : List Int) (a1 : Int) : Option (List TV) :=
  (call is_l02Half [tI a1]).bind fun o1 =>
  (call is_l02Then [tA8 (gA8 o1 0), tA8 a0, tI a1]).bind fun o2 =>
  (call is_l02Then [tA8 (gA8 o2 0), tA8 (gA8 o1 0), tI a1]).bind fun o3 =>
  some [tA8 (gA8 o3 0)]
theorem es_l02Turn (call : Oracle) (a0 : List Int) (a1 : Int) : run1 E call is_l02Turn [tA8 a0, tI a1] = bs_l02Turn call a0 a1 := by kernel_rfl
theorem vs_l02Turn (a0 : List Int) (a1 : Int) {o : List TV} (h : bs_l02Turn R a0 a1 = some o) : R is_l02Turn [tA8 a0, tI a1] = some o := ev_step ((es_l02Turn R a0 a1).trans h)
/-- spec.l04First -/
noncomputable def bs_l04First (call : Oracle) (a0 : Int × Int × List (List Int)) : Option (List TV) :=
  bif ((Int.tmod a0.2.1 2) != 0) then
    bif decide (0 < ((List.length a0.2.2 : Nat) : Int)) then
      (call is_l02Turn [tA8 (List.getD a0.2.2 0 (List.replicate 8 0)), tI a0.1]).bind fun o1 =>
      some [tA8 (gA8 o1 0)]
    else none
  else
    bif decide (0 < ((List.length a0.2.2 : Nat) : Int)) then
      some [tA8 (List.getD a0.2.2 0 (List.replicate 8 0))]
    else none
theorem es_l04First (call : Oracle) (a0 : Int × Int × List (List Int)) : run1 E call is_l04First [tPIPILA8 a0] = bs_l04First call a0 := by kernel_rfl
theorem vs_l04First (a0 : Int × Int × List (List Int)) {o : List TV} (h : bs_l04First R a0 = some o) : R is_l04First [tPIPILA8 a0] = some o := ev_step ((es_l04First R a0).trans h)
/-- spec.l02Complement -/
noncomputable def bs_l02Complement (call : Oracle) (a0 : List Int) (a1 : Int) : Option (List TV) :=
  (call is_l02Back [tA8 a0, tI a1]).bind fun o1 =>
  (call is_l02Half [tI a1]).bind fun o2 =>
  (call is_l02Then [tA8 (gA8 o1 0), tA8 (gA8 o2 0), tI a1]).bind fun o3 =>
  some [tA8 (gA8 o3 0)]
theorem es_l02Complement (call : Oracle) (a0 : List Int) (a1 : Int) : run1 E call is_l02Complement [tA8 a0, tI a1] = bs_l02Complement call a0 a1 := by kernel_rfl
theorem vs_l02Complement (a0 : List Int) (a1 : Int) {o : List TV} (h : bs_l02Complement R a0 a1 = some o) : R is_l02Complement [tA8 a0, tI a1] = some o := ev_step ((es_l02Complement R a0 a1).trans h)
/-- spec.l02Exchange -/
noncomputable def bs_l02Exchange (call : Oracle) (a0 : Int) (a1 : Int) : Option (List TV) :=
  (call is_l02Same [tI a0]).bind fun o1 =>
  bif (decide (0 ≤ (wi64 (a1 - 1))) && decide ((wi64 (a1 - 1)) < 8)) then
    bif (decide (0 ≤ a1) && decide (a1 < 8)) then
      some [tA8 (List.set (List.set (gA8 o1 0) (Int.toNat (wi64 (a1 - 1))) (wu8 (a1))) (Int.toNat a1) (wu8 ((wi64 (a1 - 1)))))]
    else none
  else none
theorem es_l02Exchange (call : Oracle) (a0 : Int) (a1 : Int) : run1 E call is_l02Exchange [tI a0, tI a1] = bs_l02Exchange call a0 a1 := by kernel_rfl
theorem vs_l02Exchange (a0 : Int) (a1 : Int) {o : List TV} (h : bs_l02Exchange R a0 a1 = some o) : R is_l02Exchange [tI a0, tI a1] = some o := ev_step ((es_l02Exchange R a0 a1).trans h)
/-- spec.l02Meet loop 3 -/
noncomputable def bs_l02Meet_3 (call : Oracle) (x0 : List Int) (x1 : List Int) (x2 : List Int) (x3 : List Int) (x4 : Int) (x5 : Int) : Option (List TV) :=
  bif decide (x5 < x4) then
    bif (decide (0 ≤ (wi64 (x5 - 1))) && decide ((wi64 (x5 - 1)) < 8)) then
      bif (decide (0 ≤ x5) && decide (x5 < 8)) then
        bif decide ((List.getD x0 (Int.toNat x5) 0) < (List.getD x0 (Int.toNat (wi64 (x5 - 1))) 0)) then
          bif (decide (0 ≤ (wi64 (x5 - 1))) && decide ((wi64 (x5 - 1)) < 8)) then
            bif (decide (0 ≤ x5) && decide (x5 < 8)) then
              bif decide ((List.getD x1 (Int.toNat x5) 0) < (List.getD x1 (Int.toNat (wi64 (x5 - 1))) 0)) then
                (call is_l02Exchange [tI x4, tI x5]).bind fun o6 =>
                (call is_l02Then [tA8 x3, tA8 (gA8 o6 0), tI x4]).bind fun o7 =>
                (call is_l02Then [tA8 (gA8 o6 0), tA8 x0, tI x4]).bind fun o8 =>
                (call is_l02Then [tA8 (gA8 o6 0), tA8 x1, tI x4]).bind fun o9 =>
                call is_l02Meet_3 [tA8 (gA8 o8 0), tA8 (gA8 o9 0), tA8 x2, tA8 (gA8 o7 0), tI x4, tI 1]
              else
                call is_l02Meet_3 [tA8 x0, tA8 x1, tA8 x2, tA8 x3, tI x4, tI (wi64 (x5 + 1))]
            else none
          else none
        else
          call is_l02Meet_3 [tA8 x0, tA8 x1, tA8 x2, tA8 x3, tI x4, tI (wi64 (x5 + 1))]
      else none
    else none
  else
    some [tI 0, tA8 x2, tA8 x3]
theorem es_l02Meet_3 (call : Oracle) (x0 : List Int) (x1 : List Int) (x2 : List Int) (x3 : List Int) (x4 : Int) (x5 : Int) : run1 E call is_l02Meet_3 [tA8 x0, tA8 x1, tA8 x2, tA8 x3, tI x4, tI x5] = bs_l02Meet_3 call x0 x1 x2 x3 x4 x5 := by kernel_rfl
theorem vs_l02Meet_3 (x0 : List Int) (x1 : List Int) (x2 : List Int) (x3 : List Int) (x4 : Int) (x5 : Int) {o : List TV} (h : bs_l02Meet_3 R x0 x1 x2 x3 x4 x5 = some o) : R is_l02Meet_3 [tA8 x0, tA8 x1, tA8 x2, tA8 x3, tI x4, tI x5] = some o := ev_step ((es_l02Meet_3 R x0 x1 x2 x3 x4 x5).trans h)
/-- spec.l02Meet -/
noncomputable def bs_l02Meet (call : Oracle) (a0 : List Int) (a1 : List Int) (a2 : Int) : Option (List TV) :=
  (call is_l02Same [tI a2]).bind fun o1 =>
  (call is_l02Meet_3 [tA8 a0, tA8 a1, tA8 (List.replicate 8 0), tA8 (gA8 o1 0), tI a2, tI 1]).bind fun o10 =>
  some [tA8 (gA8 o10 2)]
theorem es_l02Meet (call : Oracle) (a0 : List Int) (a1 : List Int) (a2 : Int) : run1 E call is_l02Meet [tA8 a0, tA8 a1, tI a2] = bs_l02Meet call a0 a1 a2 := by kernel_rfl
theorem vs_l02Meet (a0 : List Int) (a1 : List Int) (a2 : Int) {o : List TV} (h : bs_l02Meet R a0 a1 a2 = some o) : R is_l02Meet [tA8 a0, tA8 a1, tI a2] = some o := ev_step ((es_l02Meet R a0 a1 a2).trans h)
/-- spec.l03Weigh loop 3 -/
noncomputable def bs_l03Weigh_3 (call : Oracle) (x0 : List (List Int)) (x1 : Int) (x2 : Bool) : Option (List TV) :=
  bif x2 then
    (call is_l03Weigh_6 [tLA8 x0, tI x1, tB false, tI (wi64 (((List.length x0 : Nat) : Int) - 2))]).bind fun o14 =>
    call is_l03Weigh_3 [tLA8 (gLA8 o14 1), tI (gI o14 2), tB (gB o14 3)]
  else
    some [tI 0, tLA8 x0]
theorem es_l03Weigh_3 (call : Oracle) (x0 : List (List Int)) (x1 : Int) (x2 : Bool) : run1 E call is_l03Weigh_3 [tLA8 x0, tI x1, tB x2] = bs_l03Weigh_3 call x0 x1 x2 := by kernel_rfl
theorem vs_l03Weigh_3 (x0 : List (List Int)) (x1 : Int) (x2 : Bool) {o : List TV} (h : bs_l03Weigh_3 R x0 x1 x2 = some o) : R is_l03Weigh_3 [tLA8 x0, tI x1, tB x2] = some o := ev_step ((es_l03Weigh_3 R x0 x1 x2).trans h)
/-- spec.l03Weigh loop 6 -/
noncomputable def bs_l03Weigh_6 (call : Oracle) (x0 : List (List Int)) (x1 : Int) (x2 : Bool) (x3 : Int) : Option (List TV) :=
  bif decide (0 ≤ x3) then
    bif (decide (0 ≤ x3) && decide (x3 < ((List.length x0 : Nat) : Int))) then
      (call is_l02Complement [tA8 (List.getD x0 (Int.toNat x3) (List.replicate 8 0)), tI x1]).bind fun o7 =>
      bif (decide (0 ≤ (wi64 (x3 + 1))) && decide ((wi64 (x3 + 1)) < ((List.length x0 : Nat) : Int))) then
        (call is_l02Meet [tA8 (gA8 o7 0), tA8 (List.getD x0 (Int.toNat (wi64 (x3 + 1))) (List.replicate 8 0)), tI x1]).bind fun o8 =>
        (call is_l02Same [tI x1]).bind fun o9 =>
        bif ((gA8 o8 0) == (gA8 o9 0)) then
          call is_l03Weigh_6 [tLA8 x0, tI x1, tB x2, tI (wi64 (x3 - 1))]
        else
          bif (decide (0 ≤ x3) && decide (x3 < ((List.length x0 : Nat) : Int))) then
            (call is_l02Then [tA8 (List.getD x0 (Int.toNat x3) (List.replicate 8 0)), tA8 (gA8 o8 0), tI x1]).bind fun o10 =>
            bif (decide (0 ≤ x3) && decide (x3 < ((List.length x0 : Nat) : Int))) then
              (call is_l02Back [tA8 (gA8 o8 0), tI x1]).bind fun o11 =>
              bif (decide (0 ≤ (wi64 (x3 + 1))) && decide ((wi64 (x3 + 1)) < ((List.length (List.set x0 (Int.toNat x3) (gA8 o10 0)) : Nat) : Int))) then
                (call is_l02Then [tA8 (gA8 o11 0), tA8 (List.getD (List.set x0 (Int.toNat x3) (gA8 o10 0)) (Int.toNat (wi64 (x3 + 1))) (List.replicate 8 0)), tI x1]).bind fun o12 =>
                bif (decide (0 ≤ (wi64 (x3 + 1))) && decide ((wi64 (x3 + 1)) < ((List.length (List.set x0 (Int.toNat x3) (gA8 o10 0)) : Nat) : Int))) then
                  call is_l03Weigh_6 [tLA8 (List.set (List.set x0 (Int.toNat x3) (gA8 o10 0)) (Int.toNat (wi64 (x3 + 1))) (gA8 o12 0)), tI x1, tB true, tI (wi64 (x3 - 1))]
                else none
              else none
            else none
          else none
      else none
    else none
  else
    some [tI 0, tLA8 x0, tI x1, tB x2]
theorem es_l03Weigh_6 (call : Oracle) (x0 : List (List Int)) (x1 : Int) (x2 : Bool) (x3 : Int) : run1 E call is_l03Weigh_6 [tLA8 x0, tI x1, tB x2, tI x3] = bs_l03Weigh_6 call x0 x1 x2 x3 := by kernel_rfl
theorem vs_l03Weigh_6 (x0 : List (List Int)) (x1 : Int) (x2 : Bool) (x3 : Int) {o : List TV} (h : bs_l03Weigh_6 R x0 x1 x2 x3 = some o) : R is_l03Weigh_6 [tLA8 x0, tI x1, tB x2, tI x3] = some o := ev_step ((es_l03Weigh_6 R x0 x1 x2 x3).trans h)
/-- spec.l03Weigh -/
noncomputable def bs_l03Weigh (call : Oracle) (a0 : List (List Int)) (a1 : Int) : Option (List TV) :=
  bif (apOk [] a0) then
    (call is_l03Weigh_3 [tLA8 a0, tI a1, tB true]).bind fun o15 =>
    some [tLA8 (gLA8 o15 1)]
  else none
theorem es_l03Weigh (call : Oracle) (a0 : List (List Int)) (a1 : Int) : run1 E call is_l03Weigh [tLA8 a0, tI a1] = bs_l03Weigh call a0 a1 := by kernel_rfl
theorem vs_l03Weigh (a0 : List (List Int)) (a1 : Int) {o : List TV} (h : bs_l03Weigh R a0 a1 = some o) : R is_l03Weigh [tLA8 a0, tI a1] = some o := ev_step ((es_l03Weigh R a0 a1).trans h)
/-- spec.l03Make loop 4 -/
noncomputable def bs_l03Make_4 (call : Oracle) (x0 : List (List Int)) (x1 : Int) (x2 : Int) (x3 : List (List Int)) (x4 : Int) (x5 : Int) (x6 : Int) (x7 : Int) : Option (List TV) :=
  bif decide (x6 < x7) then
    bif (decide (0 ≤ x6) && decide (x6 < ((List.length x0 : Nat) : Int))) then
      (call is_l02Half [tI x4]).bind fun o3 =>
      bif ((List.getD x0 (Int.toNat x6) (List.replicate 8 0)) == (gA8 o3 0)) then
        call is_l03Make_4 [tLA8 x0, tI x1, tI x2, tLA8 x3, tI x4, tI (wi64 (x5 + 1)), tI (wi64 (x6 + 1)), tI x7]
      else
        some [tI 0, tLA8 x0, tI x1, tI x2, tLA8 x3, tI x4, tI x5, tI x6, tI x7]
    else none
  else
    some [tI 0, tLA8 x0, tI x1, tI x2, tLA8 x3, tI x4, tI x5, tI x6, tI x7]
theorem es_l03Make_4 (call : Oracle) (x0 : List (List Int)) (x1 : Int) (x2 : Int) (x3 : List (List Int)) (x4 : Int) (x5 : Int) (x6 : Int) (x7 : Int) : run1 E call is_l03Make_4 [tLA8 x0, tI x1, tI x2, tLA8 x3, tI x4, tI x5, tI x6, tI x7] = bs_l03Make_4 call x0 x1 x2 x3 x4 x5 x6 x7 := by kernel_rfl
theorem vs_l03Make_4 (x0 : List (List Int)) (x1 : Int) (x2 : Int) (x3 : List (List Int)) (x4 : Int) (x5 : Int) (x6 : Int) (x7 : Int) {o : List TV} (h : bs_l03Make_4 R x0 x1 x2 x3 x4 x5 x6 x7 = some o) : R is_l03Make_4 [tLA8 x0, tI x1, tI x2, tLA8 x3, tI x4, tI x5, tI x6, tI x7] = some o := ev_step ((es_l03Make_4 R x0 x1 x2 x3 x4 x5 x6 x7).trans h)
/-- spec.l03Make loop 7 -/
noncomputable def bs_l03Make_7 (call : Oracle) (x0 : List (List Int)) (x1 : Int) (x2 : Int) (x3 : List (List Int)) (x4 : Int) (x5 : Int) (x6 : Int) (x7 : Int) : Option (List TV) :=
  bif decide (x6 < x7) then
    bif (decide (0 ≤ (wi64 (x7 - 1))) && decide ((wi64 (x7 - 1)) < ((List.length x0 : Nat) : Int))) then
      (call is_l02Same [tI x4]).bind fun o6 =>
      bif ((List.getD x0 (Int.toNat (wi64 (x7 - 1))) (List.replicate 8 0)) == (gA8 o6 0)) then
        call is_l03Make_7 [tLA8 x0, tI x1, tI x2, tLA8 x3, tI x4, tI x5, tI x6, tI (wi64 (x7 - 1))]
      else
        some [tI 0, tLA8 x0, tI x1, tI x2, tLA8 x3, tI x4, tI x5, tI x6, tI x7]
    else none
  else
    some [tI 0, tLA8 x0, tI x1, tI x2, tLA8 x3, tI x4, tI x5, tI x6, tI x7]
theorem es_l03Make_7 (call : Oracle) (x0 : List (List Int)) (x1 : Int) (x2 : Int) (x3 : List (List Int)) (x4 : Int) (x5 : Int) (x6 : Int) (x7 : Int) : run1 E call is_l03Make_7 [tLA8 x0, tI x1, tI x2, tLA8 x3, tI x4, tI x5, tI x6, tI x7] = bs_l03Make_7 call x0 x1 x2 x3 x4 x5 x6 x7 := by kernel_rfl
theorem vs_l03Make_7 (x0 : List (List Int)) (x1 : Int) (x2 : Int) (x3 : List (List Int)) (x4 : Int) (x5 : Int) (x6 : Int) (x7 : Int) {o : List TV} (h : bs_l03Make_7 R x0 x1 x2 x3 x4 x5 x6 x7 = some o) : R is_l03Make_7 [tLA8 x0, tI x1, tI x2, tLA8 x3, tI x4, tI x5, tI x6, tI x7] = some o := ev_step ((es_l03Make_7 R x0 x1 x2 x3 x4 x5 x6 x7).trans h)
/-- spec.l03Make -/
noncomputable def bs_l03Make (call : Oracle) (a0 : Int) (a1 : Int) (a2 : List (List Int)) : Option (List TV) :=
  (call is_l03Weigh [tLA8 a2, tI a0]).bind fun o1 =>
  bif decide (1 < a0) then
    (call is_l03Make_4 [tLA8 (gLA8 o1 0), tI 0, tI 0, tLA8 [], tI a0, tI a1, tI 0, tI ((List.length (gLA8 o1 0) : Nat) : Int)]).bind fun o4 =>
    (call is_l03Make_7 [tLA8 (gLA8 o4 1), tI (gI o4 2), tI (gI o4 3), tLA8 (gLA8 o4 4), tI (gI o4 5), tI (gI o4 6), tI (gI o4 7), tI (gI o4 8)]).bind fun o7 =>
    bif ((decide (0 ≤ (gI o7 7)) && decide ((gI o7 7) ≤ (gI o7 8))) && decide ((gI o7 8) ≤ ((List.length (gLA8 o7 1) : Nat) : Int))) then
      bif (apOk [] (List.drop (Int.toNat (gI o7 7)) (List.take (Int.toNat (gI o7 8)) (gLA8 o7 1)))) then
        some [tPIPILA8 ((gI o7 5), ((gI o7 6), (List.drop (Int.toNat (gI o7 7)) (List.take (Int.toNat (gI o7 8)) (gLA8 o7 1)))))]
      else none
    else none
  else
    (call is_l03Make_7 [tLA8 (gLA8 o1 0), tI 0, tI 0, tLA8 [], tI a0, tI a1, tI 0, tI ((List.length (gLA8 o1 0) : Nat) : Int)]).bind fun o8 =>
    bif ((decide (0 ≤ (gI o8 7)) && decide ((gI o8 7) ≤ (gI o8 8))) && decide ((gI o8 8) ≤ ((List.length (gLA8 o8 1) : Nat) : Int))) then
      bif (apOk [] (List.drop (Int.toNat (gI o8 7)) (List.take (Int.toNat (gI o8 8)) (gLA8 o8 1)))) then
        some [tPIPILA8 ((gI o8 5), ((gI o8 6), (List.drop (Int.toNat (gI o8 7)) (List.take (Int.toNat (gI o8 8)) (gLA8 o8 1)))))]
      else none
    else none
theorem es_l03Make (call : Oracle) (a0 : Int) (a1 : Int) (a2 : List (List Int)) : run1 E call is_l03Make [tI a0, tI a1, tLA8 a2] = bs_l03Make call a0 a1 a2 := by kernel_rfl
theorem vs_l03Make (a0 : Int) (a1 : Int) (a2 : List (List Int)) {o : List TV} (h : bs_l03Make R a0 a1 a2 = some o) : R is_l03Make [tI a0, tI a1, tLA8 a2] = some o := ev_step ((es_l03Make R a0 a1 a2).trans h)
/-- spec.l04Cycle -/
noncomputable def bs_l04Cycle (call : Oracle) (a0 : Int × Int × List (List Int)) : Option (List TV) :=
  bif (((List.length a0.2.2 : Nat) : Int) == 0) then
    some [tPIPILA8 (a0.1, (a0.2.1, a0.2.2))]
  else
    bif decide (1 ≤ ((List.length a0.2.2 : Nat) : Int)) then
      bif (apOk [] (List.drop 1 a0.2.2)) then
        (call is_l04First [tPIPILA8 (a0.1, (a0.2.1, a0.2.2))]).bind fun o1 =>
        bif (apOk (List.drop 1 a0.2.2) [(gA8 o1 0)]) then
          (call is_l03Make [tI a0.1, tI a0.2.1, tLA8 ((List.drop 1 a0.2.2) ++ [(gA8 o1 0)])]).bind fun o2 =>
          some [tPIPILA8 ((gPIPILA8 o2 0).1, (((gPIPILA8 o2 0).2).1, ((gPIPILA8 o2 0).2).2))]
        else none
      else none
    else none
theorem es_l04Cycle (call : Oracle) (a0 : Int × Int × List (List Int)) : run1 E call is_l04Cycle [tPIPILA8 a0] = bs_l04Cycle call a0 := by kernel_rfl
theorem vs_l04Cycle (a0 : Int × Int × List (List Int)) {o : List TV} (h : bs_l04Cycle R a0 = some o) : R is_l04Cycle [tPIPILA8 a0] = some o := ev_step ((es_l04Cycle R a0).trans h)
/-- spec.l04Decycle -/
noncomputable def bs_l04Decycle (call : Oracle) (a0 : Int × Int × List (List Int)) : Option (List TV) :=
  bif (((List.length a0.2.2 : Nat) : Int) == 0) then
    some [tPIPILA8 (a0.1, (a0.2.1, a0.2.2))]
  else
    bif (decide (0 ≤ (wi64 (((List.length a0.2.2 : Nat) : Int) - 1))) && decide ((wi64 (((List.length a0.2.2 : Nat) : Int) - 1)) < ((List.length a0.2.2 : Nat) : Int))) then
      bif ((Int.tmod a0.2.1 2) != 0) then
        (call is_l02Turn [tA8 (List.getD a0.2.2 (Int.toNat (wi64 (((List.length a0.2.2 : Nat) : Int) - 1))) (List.replicate 8 0)), tI a0.1]).bind fun o1 =>
        bif (decide (0 ≤ (wi64 (((List.length a0.2.2 : Nat) : Int) - 1))) && decide ((wi64 (((List.length a0.2.2 : Nat) : Int) - 1)) ≤ ((List.length a0.2.2 : Nat) : Int))) then
          bif (apOk [(gA8 o1 0)] (List.take (Int.toNat (wi64 (((List.length a0.2.2 : Nat) : Int) - 1))) a0.2.2)) then
            (call is_l03Make [tI a0.1, tI a0.2.1, tLA8 ([(gA8 o1 0)] ++ (List.take (Int.toNat (wi64 (((List.length a0.2.2 : Nat) : Int) - 1))) a0.2.2))]).bind fun o2 =>
            some [tPIPILA8 ((gPIPILA8 o2 0).1, (((gPIPILA8 o2 0).2).1, ((gPIPILA8 o2 0).2).2))]
          else none
        else none
      else
        bif (decide (0 ≤ (wi64 (((List.length a0.2.2 : Nat) : Int) - 1))) && decide ((wi64 (((List.length a0.2.2 : Nat) : Int) - 1)) ≤ ((List.length a0.2.2 : Nat) : Int))) then
          bif (apOk [(List.getD a0.2.2 (Int.toNat (wi64 (((List.length a0.2.2 : Nat) : Int) - 1))) (List.replicate 8 0))] (List.take (Int.toNat (wi64 (((List.length a0.2.2 : Nat) : Int) - 1))) a0.2.2)) then
            (call is_l03Make [tI a0.1, tI a0.2.1, tLA8 ([(List.getD a0.2.2 (Int.toNat (wi64 (((List.length a0.2.2 : Nat) : Int) - 1))) (List.replicate 8 0))] ++ (List.take (Int.toNat (wi64 (((List.length a0.2.2 : Nat) : Int) - 1))) a0.2.2))]).bind fun o3 =>
            some [tPIPILA8 ((gPIPILA8 o3 0).1, (((gPIPILA8 o3 0).2).1, ((gPIPILA8 o3 0).2).2))]
          else none
        else none
    else none
theorem es_l04Decycle (call : Oracle) (a0 : Int × Int × List (List Int)) : run1 E call is_l04Decycle [tPIPILA8 a0] = bs_l04Decycle call a0 := by kernel_rfl
theorem vs_l04Decycle (a0 : Int × Int × List (List Int)) {o : List TV} (h : bs_l04Decycle R a0 = some o) : R is_l04Decycle [tPIPILA8 a0] = some o := ev_step ((es_l04Decycle R a0).trans h)
/-- spec.l04Summit loop 2 -/
noncomputable def bs_l04Summit_2 (call : Oracle) (x0 : Int) (x1 : Int) (x2 : List (List Int)) (x3 : Int) (x4 : Int) (x5 : List (List Int)) (x6 : Int) : Option (List TV) :=
  (call is_l04Summit_4 [tI x0, tI x1, tLA8 x2, tI x3, tI x4, tLA8 x5, tI x0, tI x1, tLA8 x2, tI x6, tB false, tI (wi64 (Int.tdiv (wi64 (x6 * (wi64 (x6 - 1)))) 2))]).bind fun o8 =>
  bif (!(gB o8 11)) then
    (call is_l04Summit_11 [tI (gI o8 1), tI (gI o8 2), tLA8 (gLA8 o8 3), tI (gI o8 4), tI (gI o8 5), tLA8 (gLA8 o8 6), tI (gI o8 1), tI (gI o8 2), tLA8 (gLA8 o8 3), tI (gI o8 10), tB (gB o8 11), tI (wi64 (Int.tdiv (wi64 ((gI o8 10) * (wi64 ((gI o8 10) - 1)))) 2))]).bind fun o9 =>
    bif (!(gB o9 11)) then
      some [tI 0, tI (gI o9 1), tI (gI o9 2), tLA8 (gLA8 o9 3)]
    else
      call is_l04Summit_2 [tI (gI o9 7), tI (gI o9 8), tLA8 (gLA8 o9 9), tI (gI o9 4), tI (gI o9 5), tLA8 (gLA8 o9 6), tI (gI o9 10)]
  else
    (call is_l04Summit_11 [tI (gI o8 1), tI (gI o8 2), tLA8 (gLA8 o8 3), tI (gI o8 4), tI (gI o8 5), tLA8 (gLA8 o8 6), tI (gI o8 7), tI (gI o8 8), tLA8 (gLA8 o8 9), tI (gI o8 10), tB (gB o8 11), tI (wi64 (Int.tdiv (wi64 ((gI o8 10) * (wi64 ((gI o8 10) - 1)))) 2))]).bind fun o10 =>
    bif (!(gB o10 11)) then
      some [tI 0, tI (gI o10 1), tI (gI o10 2), tLA8 (gLA8 o10 3)]
    else
      call is_l04Summit_2 [tI (gI o10 7), tI (gI o10 8), tLA8 (gLA8 o10 9), tI (gI o10 4), tI (gI o10 5), tLA8 (gLA8 o10 6), tI (gI o10 10)]
theorem es_l04Summit_2 (call : Oracle) (x0 : Int) (x1 : Int) (x2 : List (List Int)) (x3 : Int) (x4 : Int) (x5 : List (List Int)) (x6 : Int) : run1 E call is_l04Summit_2 [tI x0, tI x1, tLA8 x2, tI x3, tI x4, tLA8 x5, tI x6] = bs_l04Summit_2 call x0 x1 x2 x3 x4 x5 x6 := by kernel_rfl
theorem vs_l04Summit_2 (x0 : Int) (x1 : Int) (x2 : List (List Int)) (x3 : Int) (x4 : Int) (x5 : List (List Int)) (x6 : Int) {o : List TV} (h : bs_l04Summit_2 R x0 x1 x2 x3 x4 x5 x6 = some o) : R is_l04Summit_2 [tI x0, tI x1, tLA8 x2, tI x3, tI x4, tLA8 x5, tI x6] = some o := ev_step ((es_l04Summit_2 R x0 x1 x2 x3 x4 x5 x6).trans h)
/-- spec.l04Summit loop 4 -/
noncomputable def bs_l04Summit_4 (call : Oracle) (x0 : Int) (x1 : Int) (x2 : List (List Int)) (x3 : Int) (x4 : Int) (x5 : List (List Int)) (x6 : Int) (x7 : Int) (x8 : List (List Int)) (x9 : Int) (x10 : Bool) (x11 : Int) : Option (List TV) :=
  bif decide (0 < x11) then
    bif (!x10) then
      (call is_l04Cycle [tPIPILA8 (x6, (x7, x8))]).bind fun o2 =>
      call is_l04Summit_4 [tI x0, tI x1, tLA8 x2, tI x3, tI x4, tLA8 x5, tI ((gPIPILA8 o2 0).1), tI (((gPIPILA8 o2 0).2).1), tLA8 (((gPIPILA8 o2 0).2).2), tI x9, tB (decide (x1 < ((gPIPILA8 o2 0).2).1)), tI (wi64 (x11 - 1))]
    else
      some [tI 0, tI x0, tI x1, tLA8 x2, tI x3, tI x4, tLA8 x5, tI x6, tI x7, tLA8 x8, tI x9, tB x10]
  else
    some [tI 0, tI x0, tI x1, tLA8 x2, tI x3, tI x4, tLA8 x5, tI x6, tI x7, tLA8 x8, tI x9, tB x10]
theorem es_l04Summit_4 (call : Oracle) (x0 : Int) (x1 : Int) (x2 : List (List Int)) (x3 : Int) (x4 : Int) (x5 : List (List Int)) (x6 : Int) (x7 : Int) (x8 : List (List Int)) (x9 : Int) (x10 : Bool) (x11 : Int) : run1 E call is_l04Summit_4 [tI x0, tI x1, tLA8 x2, tI x3, tI x4, tLA8 x5, tI x6, tI x7, tLA8 x8, tI x9, tB x10, tI x11] = bs_l04Summit_4 call x0 x1 x2 x3 x4 x5 x6 x7 x8 x9 x10 x11 := by kernel_rfl
theorem vs_l04Summit_4 (x0 : Int) (x1 : Int) (x2 : List (List Int)) (x3 : Int) (x4 : Int) (x5 : List (List Int)) (x6 : Int) (x7 : Int) (x8 : List (List Int)) (x9 : Int) (x10 : Bool) (x11 : Int) {o : List TV} (h : bs_l04Summit_4 R x0 x1 x2 x3 x4 x5 x6 x7 x8 x9 x10 x11 = some o) : R is_l04Summit_4 [tI x0, tI x1, tLA8 x2, tI x3, tI x4, tLA8 x5, tI x6, tI x7, tLA8 x8, tI x9, tB x10, tI x11] = some o := ev_step ((es_l04Summit_4 R x0 x1 x2 x3 x4 x5 x6 x7 x8 x9 x10 x11).trans h)
/-- spec.l04Summit loop 11 -/
noncomputable def bs_l04Summit_11 (call : Oracle) (x0 : Int) (x1 : Int) (x2 : List (List Int)) (x3 : Int) (x4 : Int) (x5 : List (List Int)) (x6 : Int) (x7 : Int) (x8 : List (List Int)) (x9 : Int) (x10 : Bool) (x11 : Int) : Option (List TV) :=
  bif decide (0 < x11) then
    bif (!x10) then
      (call is_l04Decycle [tPIPILA8 (x6, (x7, x8))]).bind fun o5 =>
      call is_l04Summit_11 [tI x0, tI x1, tLA8 x2, tI x3, tI x4, tLA8 x5, tI ((gPIPILA8 o5 0).1), tI (((gPIPILA8 o5 0).2).1), tLA8 (((gPIPILA8 o5 0).2).2), tI x9, tB (decide ((wi64 ((((gPIPILA8 o5 0).2).1) + ((List.length (((gPIPILA8 o5 0).2).2) : Nat) : Int))) < (wi64 (x1 + ((List.length x2 : Nat) : Int))))), tI (wi64 (x11 - 1))]
    else
      some [tI 0, tI x0, tI x1, tLA8 x2, tI x3, tI x4, tLA8 x5, tI x6, tI x7, tLA8 x8, tI x9, tB x10]
  else
    some [tI 0, tI x0, tI x1, tLA8 x2, tI x3, tI x4, tLA8 x5, tI x6, tI x7, tLA8 x8, tI x9, tB x10]
theorem es_l04Summit_11 (call : Oracle) (x0 : Int) (x1 : Int) (x2 : List (List Int)) (x3 : Int) (x4 : Int) (x5 : List (List Int)) (x6 : Int) (x7 : Int) (x8 : List (List Int)) (x9 : Int) (x10 : Bool) (x11 : Int) : run1 E call is_l04Summit_11 [tI x0, tI x1, tLA8 x2, tI x3, tI x4, tLA8 x5, tI x6, tI x7, tLA8 x8, tI x9, tB x10, tI x11] = bs_l04Summit_11 call x0 x1 x2 x3 x4 x5 x6 x7 x8 x9 x10 x11 := by kernel_rfl
theorem vs_l04Summit_11 (x0 : Int) (x1 : Int) (x2 : List (List Int)) (x3 : Int) (x4 : Int) (x5 : List (List Int)) (x6 : Int) (x7 : Int) (x8 : List (List Int)) (x9 : Int) (x10 : Bool) (x11 : Int) {o : List TV} (h : bs_l04Summit_11 R x0 x1 x2 x3 x4 x5 x6 x7 x8 x9 x10 x11 = some o) : R is_l04Summit_11 [tI x0, tI x1, tLA8 x2, tI x3, tI x4, tLA8 x5, tI x6, tI x7, tLA8 x8, tI x9, tB x10, tI x11] = some o := ev_step ((es_l04Summit_11 R x0 x1 x2 x3 x4 x5 x6 x7 x8 x9 x10 x11).trans h)
/-- spec.l04Summit -/
noncomputable def bs_l04Summit (call : Oracle) (a0 : Int × Int × List (List Int)) : Option (List TV) :=
  (call is_l04Summit_2 [tI a0.1, tI a0.2.1, tLA8 a0.2.2, tI 0, tI 0, tLA8 [], tI a0.1]).bind fun o11 =>
  some [tPIPILA8 ((gI o11 1), ((gI o11 2), (gLA8 o11 3)))]
theorem es_l04Summit (call : Oracle) (a0 : Int × Int × List (List Int)) : run1 E call is_l04Summit [tPIPILA8 a0] = bs_l04Summit call a0 := by kernel_rfl
theorem vs_l04Summit (a0 : Int × Int × List (List Int)) {o : List TV} (h : bs_l04Summit R a0 = some o) : R is_l04Summit [tPIPILA8 a0] = some o := ev_step ((es_l04Summit R a0).trans h)
/-- spec.l04Simples loop 6 -/
noncomputable def bs_l04Simples_6 (call : Oracle) (x0 : List (List Int)) (x1 : List Int) (x2 : Int) (x3 : Int) (x4 : Int) : Option (List TV) :=
  bif decide (x4 < x3) then
    bif (decide (0 ≤ x4) && decide (x4 < 8)) then
      bif (decide (0 ≤ x2) && decide (x2 < 8)) then
        bif (decide (0 ≤ x2) && decide (x2 < 8)) then
          bif (decide (0 ≤ x4) && decide (x4 < 8)) then
            (call is_l04Simples [tLA8 x0, tA8 (List.set (List.set x1 (Int.toNat x2) (List.getD x1 (Int.toNat x4) 0)) (Int.toNat x4) (List.getD x1 (Int.toNat x2) 0)), tI (wi64 (x2 + 1)), tI x3]).bind fun o3 =>
            call is_l04Simples_6 [tLA8 (gLA8 o3 0), tA8 x1, tI x2, tI x3, tI (wi64 (x4 + 1))]
          else none
        else none
      else none
    else none
  else
    some [tI 0, tLA8 x0]
theorem es_l04Simples_6 (call : Oracle) (x0 : List (List Int)) (x1 : List Int) (x2 : Int) (x3 : Int) (x4 : Int) : run1 E call is_l04Simples_6 [tLA8 x0, tA8 x1, tI x2, tI x3, tI x4] = bs_l04Simples_6 call x0 x1 x2 x3 x4 := by kernel_rfl
theorem vs_l04Simples_6 (x0 : List (List Int)) (x1 : List Int) (x2 : Int) (x3 : Int) (x4 : Int) {o : List TV} (h : bs_l04Simples_6 R x0 x1 x2 x3 x4 = some o) : R is_l04Simples_6 [tLA8 x0, tA8 x1, tI x2, tI x3, tI x4] = some o := ev_step ((es_l04Simples_6 R x0 x1 x2 x3 x4).trans h)
/-- spec.l04Simples -/
noncomputable def bs_l04Simples (call : Oracle) (a0 : List (List Int)) (a1 : List Int) (a2 : Int) (a3 : Int) : Option (List TV) :=
  bif (a2 == a3) then
    (call is_l02Same [tI a3]).bind fun o1 =>
    bif (a1 == (gA8 o1 0)) then
      some [tLA8 a0]
    else
      bif (apOk a0 [a1]) then
        some [tLA8 (a0 ++ [a1])]
      else none
  else
    (call is_l04Simples_6 [tLA8 a0, tA8 a1, tI a2, tI a3, tI a2]).bind fun o4 =>
    some [tLA8 (gLA8 o4 1)]
theorem es_l04Simples (call : Oracle) (a0 : List (List Int)) (a1 : List Int) (a2 : Int) (a3 : Int) : run1 E call is_l04Simples [tLA8 a0, tA8 a1, tI a2, tI a3] = bs_l04Simples call a0 a1 a2 a3 := by kernel_rfl
theorem vs_l04Simples (a0 : List (List Int)) (a1 : List Int) (a2 : Int) (a3 : Int) {o : List TV} (h : bs_l04Simples R a0 a1 a2 a3 = some o) : R is_l04Simples [tLA8 a0, tA8 a1, tI a2, tI a3] = some o := ev_step ((es_l04Simples R a0 a1 a2 a3).trans h)
/-- spec.l02Left -/
noncomputable def bs_l02Left (call : Oracle) (a0 : List Int) (a1 : Int) : Option (List TV) :=
  (call is_l02Half [tI a1]).bind fun o1 =>
  (call is_l02Back [tA8 a0, tI a1]).bind fun o2 =>
  (call is_l02Then [tA8 (gA8 o1 0), tA8 (gA8 o2 0), tI a1]).bind fun o3 =>
  some [tA8 (gA8 o3 0)]
theorem es_l02Left (call : Oracle) (a0 : List Int) (a1 : Int) : run1 E call is_l02Left [tA8 a0, tI a1] = bs_l02Left call a0 a1 := by kernel_rfl
theorem vs_l02Left (a0 : List Int) (a1 : Int) {o : List TV} (h : bs_l02Left R a0 a1 = some o) : R is_l02Left [tA8 a0, tI a1] = some o := ev_step ((es_l02Left R a0 a1).trans h)
/-- spec.l03Less -/
noncomputable def bs_l03Less (call : Oracle) (a0 : Int × Int × List (List Int)) (a1 : List Int) : Option (List TV) :=
  (call is_l02Left [tA8 a1, tI a0.1]).bind fun o1 =>
  bif (apOk [(gA8 o1 0)] a0.2.2) then
    bif ((Int.tmod a0.2.1 2) != 0) then
      bif decide (0 < ((List.length ([(gA8 o1 0)] ++ a0.2.2) : Nat) : Int)) then
        (call is_l02Turn [tA8 (List.getD ([(gA8 o1 0)] ++ a0.2.2) 0 (List.replicate 8 0)), tI a0.1]).bind fun o2 =>
        bif decide (0 < ((List.length ([(gA8 o1 0)] ++ a0.2.2) : Nat) : Int)) then
          (call is_l03Make [tI a0.1, tI (wi64 (a0.2.1 - 1)), tLA8 (List.set ([(gA8 o1 0)] ++ a0.2.2) 0 (gA8 o2 0))]).bind fun o3 =>
          some [tPIPILA8 ((gPIPILA8 o3 0).1, (((gPIPILA8 o3 0).2).1, ((gPIPILA8 o3 0).2).2))]
        else none
      else none
    else
      (call is_l03Make [tI a0.1, tI (wi64 (a0.2.1 - 1)), tLA8 ([(gA8 o1 0)] ++ a0.2.2)]).bind fun o4 =>
      some [tPIPILA8 ((gPIPILA8 o4 0).1, (((gPIPILA8 o4 0).2).1, ((gPIPILA8 o4 0).2).2))]
  else none
theorem es_l03Less (call : Oracle) (a0 : Int × Int × List (List Int)) (a1 : List Int) : run1 E call is_l03Less [tPIPILA8 a0, tA8 a1] = bs_l03Less call a0 a1 := by kernel_rfl
theorem vs_l03Less (a0 : Int × Int × List (List Int)) (a1 : List Int) {o : List TV} (h : bs_l03Less R a0 a1 = some o) : R is_l03Less [tPIPILA8 a0, tA8 a1] = some o := ev_step ((es_l03Less R a0 a1).trans h)
/-- spec.l03Turned loop 3 -/
noncomputable def bs_l03Turned_3 (call : Oracle) (x0 : List (List Int)) (x1 : List (List Int)) (x2 : Int) (x3 : Int) (x4 : Int) : Option (List TV) :=
  bif decide (x4 < ((List.length x0 : Nat) : Int)) then
    bif ((Int.tmod x3 2) != 0) then
      bif (decide (0 ≤ x4) && decide (x4 < ((List.length x0 : Nat) : Int))) then
        (call is_l02Turn [tA8 (List.getD x0 (Int.toNat x4) (List.replicate 8 0)), tI x2]).bind fun o2 =>
        bif (apOk x1 [(gA8 o2 0)]) then
          call is_l03Turned_3 [tLA8 x0, tLA8 (x1 ++ [(gA8 o2 0)]), tI x2, tI x3, tI (wi64 (x4 + 1))]
        else none
      else none
    else
      bif (decide (0 ≤ x4) && decide (x4 < ((List.length x0 : Nat) : Int))) then
        bif (apOk x1 [(List.getD x0 (Int.toNat x4) (List.replicate 8 0))]) then
          call is_l03Turned_3 [tLA8 x0, tLA8 (x1 ++ [(List.getD x0 (Int.toNat x4) (List.replicate 8 0))]), tI x2, tI x3, tI (wi64 (x4 + 1))]
        else none
      else none
  else
    some [tI 0, tLA8 x1]
theorem es_l03Turned_3 (call : Oracle) (x0 : List (List Int)) (x1 : List (List Int)) (x2 : Int) (x3 : Int) (x4 : Int) : run1 E call is_l03Turned_3 [tLA8 x0, tLA8 x1, tI x2, tI x3, tI x4] = bs_l03Turned_3 call x0 x1 x2 x3 x4 := by kernel_rfl
theorem vs_l03Turned_3 (x0 : List (List Int)) (x1 : List (List Int)) (x2 : Int) (x3 : Int) (x4 : Int) {o : List TV} (h : bs_l03Turned_3 R x0 x1 x2 x3 x4 = some o) : R is_l03Turned_3 [tLA8 x0, tLA8 x1, tI x2, tI x3, tI x4] = some o := ev_step ((es_l03Turned_3 R x0 x1 x2 x3 x4).trans h)
/-- spec.l03Turned -/
noncomputable def bs_l03Turned (call : Oracle) (a0 : List (List Int)) (a1 : Int) (a2 : Int) : Option (List TV) :=
  (call is_l03Turned_3 [tLA8 a0, tLA8 [], tI a1, tI a2, tI 0]).bind fun o3 =>
  some [tLA8 (gLA8 o3 1)]
theorem es_l03Turned (call : Oracle) (a0 : List (List Int)) (a1 : Int) (a2 : Int) : run1 E call is_l03Turned [tLA8 a0, tI a1, tI a2] = bs_l03Turned call a0 a1 a2 := by kernel_rfl
theorem vs_l03Turned (a0 : List (List Int)) (a1 : Int) (a2 : Int) {o : List TV} (h : bs_l03Turned R a0 a1 a2 = some o) : R is_l03Turned [tLA8 a0, tI a1, tI a2] = some o := ev_step ((es_l03Turned R a0 a1 a2).trans h)
/-- spec.l03Times -/
noncomputable def bs_l03Times (call : Oracle) (a0 : Int × Int × List (List Int)) (a1 : List Int) (a2 : Bool) : Option (List TV) :=
  bif a2 then
    (call is_l03Turned [tLA8 a0.2.2, tI a0.1, tI 1]).bind fun o1 =>
    (call is_l02Left [tA8 a1, tI a0.1]).bind fun o2 =>
    bif (apOk (gLA8 o1 0) [(gA8 o2 0)]) then
      (call is_l03Make [tI a0.1, tI (wi64 (a0.2.1 - 1)), tLA8 ((gLA8 o1 0) ++ [(gA8 o2 0)])]).bind fun o3 =>
      some [tPIPILA8 ((gPIPILA8 o3 0).1, (((gPIPILA8 o3 0).2).1, ((gPIPILA8 o3 0).2).2))]
    else none
  else
    bif (apOk [] a0.2.2) then
      bif (apOk a0.2.2 [a1]) then
        (call is_l03Make [tI a0.1, tI a0.2.1, tLA8 (a0.2.2 ++ [a1])]).bind fun o4 =>
        some [tPIPILA8 ((gPIPILA8 o4 0).1, (((gPIPILA8 o4 0).2).1, ((gPIPILA8 o4 0).2).2))]
      else none
    else none
theorem es_l03Times (call : Oracle) (a0 : Int × Int × List (List Int)) (a1 : List Int) (a2 : Bool) : run1 E call is_l03Times [tPIPILA8 a0, tA8 a1, tB a2] = bs_l03Times call a0 a1 a2 := by kernel_rfl
theorem vs_l03Times (a0 : Int × Int × List (List Int)) (a1 : List Int) (a2 : Bool) {o : List TV} (h : bs_l03Times R a0 a1 a2 = some o) : R is_l03Times [tPIPILA8 a0, tA8 a1, tB a2] = some o := ev_step ((es_l03Times R a0 a1 a2).trans h)
/-- spec.l04Conjugate -/
noncomputable def bs_l04Conjugate (call : Oracle) (a0 : Int × Int × List (List Int)) (a1 : List Int) : Option (List TV) :=
  (call is_l03Less [tPIPILA8 (a0.1, (a0.2.1, a0.2.2)), tA8 a1]).bind fun o1 =>
  (call is_l03Times [tPIPILA8 ((gPIPILA8 o1 0).1, (((gPIPILA8 o1 0).2).1, ((gPIPILA8 o1 0).2).2)), tA8 a1, tB false]).bind fun o2 =>
  some [tPIPILA8 ((gPIPILA8 o2 0).1, (((gPIPILA8 o2 0).2).1, ((gPIPILA8 o2 0).2).2))]
theorem es_l04Conjugate (call : Oracle) (a0 : Int × Int × List (List Int)) (a1 : List Int) : run1 E call is_l04Conjugate [tPIPILA8 a0, tA8 a1] = bs_l04Conjugate call a0 a1 := by kernel_rfl
theorem vs_l04Conjugate (a0 : Int × Int × List (List Int)) (a1 : List Int) {o : List TV} (h : bs_l04Conjugate R a0 a1 = some o) : R is_l04Conjugate [tPIPILA8 a0, tA8 a1] = some o := ev_step ((es_l04Conjugate R a0 a1).trans h)
/-- spec.l04Before loop 2 -/
noncomputable def bs_l04Before_2 (call : Oracle) (x0 : Int) (x1 : Int) (x2 : List (List Int)) (x3 : Int) (x4 : Int) (x5 : List (List Int)) (x6 : Int) : Option (List TV) :=
  bif decide (x6 < ((List.length x2 : Nat) : Int)) then
    (call is_l04Before_5 [tI x0, tI x1, tLA8 x2, tI x3, tI x4, tLA8 x5, tI x6, tI 0]).bind fun o2 =>
    bif ((gI o2 0) == 0) then
      call is_l04Before_2 [tI (gI o2 1), tI (gI o2 2), tLA8 (gLA8 o2 3), tI (gI o2 4), tI (gI o2 5), tLA8 (gLA8 o2 6), tI (wi64 ((gI o2 7) + 1))]
    else
      some [tI 1, tB (gB o2 1)]
  else
    some [tI 0]
theorem es_l04Before_2 (call : Oracle) (x0 : Int) (x1 : Int) (x2 : List (List Int)) (x3 : Int) (x4 : Int) (x5 : List (List Int)) (x6 : Int) : run1 E call is_l04Before_2 [tI x0, tI x1, tLA8 x2, tI x3, tI x4, tLA8 x5, tI x6] = bs_l04Before_2 call x0 x1 x2 x3 x4 x5 x6 := by kernel_rfl
theorem vs_l04Before_2 (x0 : Int) (x1 : Int) (x2 : List (List Int)) (x3 : Int) (x4 : Int) (x5 : List (List Int)) (x6 : Int) {o : List TV} (h : bs_l04Before_2 R x0 x1 x2 x3 x4 x5 x6 = some o) : R is_l04Before_2 [tI x0, tI x1, tLA8 x2, tI x3, tI x4, tLA8 x5, tI x6] = some o := ev_step ((es_l04Before_2 R x0 x1 x2 x3 x4 x5 x6).trans h)
/-- spec.l04Before loop 5 -/
noncomputable def bs_l04Before_5 (call : Oracle) (x0 : Int) (x1 : Int) (x2 : List (List Int)) (x3 : Int) (x4 : Int) (x5 : List (List Int)) (x6 : Int) (x7 : Int) : Option (List TV) :=
  bif decide (x7 < 8) then
    bif (decide (0 ≤ x6) && decide (x6 < ((List.length x2 : Nat) : Int))) then
      bif (decide (0 ≤ x7) && decide (x7 < 8)) then
        bif (decide (0 ≤ x6) && decide (x6 < ((List.length x5 : Nat) : Int))) then
          bif (decide (0 ≤ x7) && decide (x7 < 8)) then
            bif ((List.getD (List.getD x2 (Int.toNat x6) []) (Int.toNat x7) 0) != (List.getD (List.getD x5 (Int.toNat x6) []) (Int.toNat x7) 0)) then
              bif (decide (0 ≤ x6) && decide (x6 < ((List.length x2 : Nat) : Int))) then
                bif (decide (0 ≤ x7) && decide (x7 < 8)) then
                  bif (decide (0 ≤ x6) && decide (x6 < ((List.length x5 : Nat) : Int))) then
                    bif (decide (0 ≤ x7) && decide (x7 < 8)) then
                      some [tI 1, tB (decide ((List.getD (List.getD x2 (Int.toNat x6) []) (Int.toNat x7) 0) < (List.getD (List.getD x5 (Int.toNat x6) []) (Int.toNat x7) 0)))]
                    else none
                  else none
                else none
              else none
            else
              call is_l04Before_5 [tI x0, tI x1, tLA8 x2, tI x3, tI x4, tLA8 x5, tI x6, tI (wi64 (x7 + 1))]
          else none
        else none
      else none
    else none
  else
    some [tI 0, tI x0, tI x1, tLA8 x2, tI x3, tI x4, tLA8 x5, tI x6]
theorem es_l04Before_5 (call : Oracle) (x0 : Int) (x1 : Int) (x2 : List (List Int)) (x3 : Int) (x4 : Int) (x5 : List (List Int)) (x6 : Int) (x7 : Int) : run1 E call is_l04Before_5 [tI x0, tI x1, tLA8 x2, tI x3, tI x4, tLA8 x5, tI x6, tI x7] = bs_l04Before_5 call x0 x1 x2 x3 x4 x5 x6 x7 := by kernel_rfl
theorem vs_l04Before_5 (x0 : Int) (x1 : Int) (x2 : List (List Int)) (x3 : Int) (x4 : Int) (x5 : List (List Int)) (x6 : Int) (x7 : Int) {o : List TV} (h : bs_l04Before_5 R x0 x1 x2 x3 x4 x5 x6 x7 = some o) : R is_l04Before_5 [tI x0, tI x1, tLA8 x2, tI x3, tI x4, tLA8 x5, tI x6, tI x7] = some o := ev_step ((es_l04Before_5 R x0 x1 x2 x3 x4 x5 x6 x7).trans h)
/-- spec.l04Before -/
noncomputable def bs_l04Before (call : Oracle) (a0 : Int × Int × List (List Int)) (a1 : Int × Int × List (List Int)) : Option (List TV) :=
  (call is_l04Before_2 [tI a0.1, tI a0.2.1, tLA8 a0.2.2, tI a1.1, tI a1.2.1, tLA8 a1.2.2, tI 0]).bind fun o3 =>
  bif ((gI o3 0) == 0) then
    some [tB false]
  else
    some [tB (gB o3 1)]
theorem es_l04Before (call : Oracle) (a0 : Int × Int × List (List Int)) (a1 : Int × Int × List (List Int)) : run1 E call is_l04Before [tPIPILA8 a0, tPIPILA8 a1] = bs_l04Before call a0 a1 := by kernel_rfl
theorem vs_l04Before (a0 : Int × Int × List (List Int)) (a1 : Int × Int × List (List Int)) {o : List TV} (h : bs_l04Before R a0 a1 = some o) : R is_l04Before [tPIPILA8 a0, tPIPILA8 a1] = some o := ev_step ((es_l04Before R a0 a1).trans h)
/-- spec.l03Like loop 4 -/
noncomputable def bs_l03Like_4 (call : Oracle) (x0 : Int) (x1 : Int) (x2 : List (List Int)) (x3 : Int) (x4 : Int) (x5 : List (List Int)) (x6 : Int) : Option (List TV) :=
  bif decide (x6 < ((List.length x2 : Nat) : Int)) then
    bif (decide (0 ≤ x6) && decide (x6 < ((List.length x2 : Nat) : Int))) then
      bif (decide (0 ≤ x6) && decide (x6 < ((List.length x5 : Nat) : Int))) then
        bif ((List.getD x2 (Int.toNat x6) (List.replicate 8 0)) != (List.getD x5 (Int.toNat x6) (List.replicate 8 0))) then
          some [tI 1, tB false]
        else
          call is_l03Like_4 [tI x0, tI x1, tLA8 x2, tI x3, tI x4, tLA8 x5, tI (wi64 (x6 + 1))]
      else none
    else none
  else
    some [tI 0]
theorem es_l03Like_4 (call : Oracle) (x0 : Int) (x1 : Int) (x2 : List (List Int)) (x3 : Int) (x4 : Int) (x5 : List (List Int)) (x6 : Int) : run1 E call is_l03Like_4 [tI x0, tI x1, tLA8 x2, tI x3, tI x4, tLA8 x5, tI x6] = bs_l03Like_4 call x0 x1 x2 x3 x4 x5 x6 := by kernel_rfl
theorem vs_l03Like_4 (x0 : Int) (x1 : Int) (x2 : List (List Int)) (x3 : Int) (x4 : Int) (x5 : List (List Int)) (x6 : Int) {o : List TV} (h : bs_l03Like_4 R x0 x1 x2 x3 x4 x5 x6 = some o) : R is_l03Like_4 [tI x0, tI x1, tLA8 x2, tI x3, tI x4, tLA8 x5, tI x6] = some o := ev_step ((es_l03Like_4 R x0 x1 x2 x3 x4 x5 x6).trans h)
/-- spec.l03Like -/
noncomputable def bs_l03Like (call : Oracle) (a0 : Int × Int × List (List Int)) (a1 : Int × Int × List (List Int)) : Option (List TV) :=
  bif (a0.1 != a1.1) then
    some [tB false]
  else
    bif (a0.2.1 != a1.2.1) then
      some [tB false]
    else
      bif (((List.length a0.2.2 : Nat) : Int) != ((List.length a1.2.2 : Nat) : Int)) then
        some [tB false]
      else
        (call is_l03Like_4 [tI a0.1, tI a0.2.1, tLA8 a0.2.2, tI a1.1, tI a1.2.1, tLA8 a1.2.2, tI 0]).bind fun o1 =>
        bif ((gI o1 0) == 0) then
          some [tB true]
        else
          some [tB (gB o1 1)]
theorem es_l03Like (call : Oracle) (a0 : Int × Int × List (List Int)) (a1 : Int × Int × List (List Int)) : run1 E call is_l03Like [tPIPILA8 a0, tPIPILA8 a1] = bs_l03Like call a0 a1 := by kernel_rfl
theorem vs_l03Like (a0 : Int × Int × List (List Int)) (a1 : Int × Int × List (List Int)) {o : List TV} (h : bs_l03Like R a0 a1 = some o) : R is_l03Like [tPIPILA8 a0, tPIPILA8 a1] = some o := ev_step ((es_l03Like R a0 a1).trans h)
/-- spec.l04Insert loop 2 -/
noncomputable def bs_l04Insert_2 (call : Oracle) (x0 : List (Int × Int × List (List Int))) (x1 : Int) (x2 : Int) (x3 : List (List Int)) (x4 : Int) : Option (List TV) :=
  bif decide (x4 < ((List.length x0 : Nat) : Int)) then
    bif (decide (0 ≤ x4) && decide (x4 < ((List.length x0 : Nat) : Int))) then
      (call is_l04Before [tPIPILA8 ((List.getD x0 (Int.toNat x4) (0, (0, []))).1, (((List.getD x0 (Int.toNat x4) (0, (0, []))).2).1, ((List.getD x0 (Int.toNat x4) (0, (0, []))).2).2)), tPIPILA8 (x1, (x2, x3))]).bind fun o2 =>
      bif (gB o2 0) then
        call is_l04Insert_2 [tLPIPILA8 x0, tI x1, tI x2, tLA8 x3, tI (wi64 (x4 + 1))]
      else
        some [tI 0, tLPIPILA8 x0, tI x1, tI x2, tLA8 x3, tI x4]
    else none
  else
    some [tI 0, tLPIPILA8 x0, tI x1, tI x2, tLA8 x3, tI x4]
theorem es_l04Insert_2 (call : Oracle) (x0 : List (Int × Int × List (List Int))) (x1 : Int) (x2 : Int) (x3 : List (List Int)) (x4 : Int) : run1 E call is_l04Insert_2 [tLPIPILA8 x0, tI x1, tI x2, tLA8 x3, tI x4] = bs_l04Insert_2 call x0 x1 x2 x3 x4 := by kernel_rfl
theorem vs_l04Insert_2 (x0 : List (Int × Int × List (List Int))) (x1 : Int) (x2 : Int) (x3 : List (List Int)) (x4 : Int) {o : List TV} (h : bs_l04Insert_2 R x0 x1 x2 x3 x4 = some o) : R is_l04Insert_2 [tLPIPILA8 x0, tI x1, tI x2, tLA8 x3, tI x4] = some o := ev_step ((es_l04Insert_2 R x0 x1 x2 x3 x4).trans h)
end Go.Ev.YtolpnaiincngjaaGreat
