/- Bodies, part 3. -/
import Derived.KernelRfl
import Derived.Test.YtolpnaiincngjaaEnv
set_option linter.unusedVariables false
namespace Go.Ev.Ytolpnaiincngjaa
open Go.Ev
/-- spec.l03Positive -/
noncomputable def bs_l03Positive (call : Oracle) (a0 : Int × Int × List (List Int)) (a1 : Int × Int × List (List Int)) : Option (List TV) :=
  (call is_l03Both [tPIPILA8 (a0.1, (a0.2.1, a0.2.2)), tPIPILA8 (a1.1, (a1.2.1, a1.2.2))]).bind fun o1 =>
  bif ((gI o1 0) == 0) then
    bif decide (a0.2.1 < 0) then
      some [tI 5]
    else
      bif decide (a1.2.1 < 0) then
        some [tI 5]
      else
        some [tI (gI o1 0)]
  else
    some [tI (gI o1 0)]
theorem es_l03Positive (call : Oracle) (a0 : Int × Int × List (List Int)) (a1 : Int × Int × List (List Int)) : run1 E call is_l03Positive [tPIPILA8 a0, tPIPILA8 a1] = bs_l03Positive call a0 a1 := by kernel_rfl
theorem vs_l03Positive (a0 : Int × Int × List (List Int)) (a1 : Int × Int × List (List Int)) {o : List TV} (h : bs_l03Positive R a0 a1 = some o) : R is_l03Positive [tPIPILA8 a0, tPIPILA8 a1] = some o := ev_step ((es_l03Positive R a0 a1).trans h)
/-- spec.l03First -/
noncomputable def bs_l03First (call : Oracle) (a0 : Int × Int × List (List Int)) : Option (List TV) :=
  bif decide (0 < a0.2.1) then
    (call is_l02Half [tI a0.1]).bind fun o1 =>
    some [tA8 (gA8 o1 0)]
  else
    bif decide (0 < ((List.length a0.2.2 : Nat) : Int)) then
      bif decide (0 < ((List.length a0.2.2 : Nat) : Int)) then
        some [tA8 (List.getD a0.2.2 0 (List.replicate 8 0))]
      else none
    else
      (call is_l02Same [tI a0.1]).bind fun o2 =>
      some [tA8 (gA8 o2 0)]
theorem es_l03First (call : Oracle) (a0 : Int × Int × List (List Int)) : run1 E call is_l03First [tPIPILA8 a0] = bs_l03First call a0 := by kernel_rfl
theorem vs_l03First (a0 : Int × Int × List (List Int)) {o : List TV} (h : bs_l03First R a0 = some o) : R is_l03First [tPIPILA8 a0] = some o := ev_step ((es_l03First R a0).trans h)
/-- spec.l03Less -/
noncomputable def bs_l03Less (call : Oracle) (a0 : Int × Int × List (List Int)) (a1 : List Int) : Option (List TV) :=
  (call is_l02Left [tA8 a1, tI a0.1]).bind fun o1 =>
  bif (apOk [(gA8 o1 0)] a0.2.2) then
    bif ((Int.tmod a0.2.1 2) != 0) then
      bif decide (0 < ((List.length ([(gA8 o1 0)] ++ a0.2.2) : Nat) : Int)) then
        (call is_l02Turn [tA8 (List.getD ([(gA8 o1 0)] ++ a0.2.2) 0 (List.replicate 8 0)), tI a0.1]).bind fun o2 =>
        bif decide (0 < ((List.length ([(gA8 o1 0)] ++ a0.2.2) : Nat) : Int)) then
          (call is_l03Make [tI a0.1, tI (wi64 (a0.2.1 - 1)), tLA8 (List.set ([(gA8 o1 0)] ++ a0.2.2) 0 (gA8 o2 0))]).bind fun o3 =>
          some [tPIPILA8 ((gPIPILA8 o3 0).1, (((gPIPILA8 o3 0).2).1, ((gPIPILA8 o3 0).2).2))]
        else none
      else none
    else
      (call is_l03Make [tI a0.1, tI (wi64 (a0.2.1 - 1)), tLA8 ([(gA8 o1 0)] ++ a0.2.2)]).bind fun o4 =>
      some [tPIPILA8 ((gPIPILA8 o4 0).1, (((gPIPILA8 o4 0).2).1, ((gPIPILA8 o4 0).2).2))]
  else none
theorem es_l03Less (call : Oracle) (a0 : Int × Int × List (List Int)) (a1 : List Int) : run1 E call is_l03Less [tPIPILA8 a0, tA8 a1] = bs_l03Less call a0 a1 := by kernel_rfl
theorem vs_l03Less (a0 : Int × Int × List (List Int)) (a1 : List Int) {o : List TV} (h : bs_l03Less R a0 a1 = some o) : R is_l03Less [tPIPILA8 a0, tA8 a1] = some o := ev_step ((es_l03Less R a0 a1).trans h)
/-- spec.l03Common loop 3 -/
noncomputable def bs_l03Common_3 (call : Oracle) (x0 : Int) (x1 : Int) (x2 : List (List Int)) (x3 : Int) (x4 : Int) (x5 : List (List Int)) (x6 : Int) (x7 : Int) (x8 : List (List Int)) (x9 : Int) (x10 : Int) (x11 : List (List Int)) (x12 : Int) (x13 : Int) (x14 : List (List Int)) (x15 : Int) (x16 : Int) (x17 : List (List Int)) (x18 : Int) : Option (List TV) :=
  (call is_l03First [tPIPILA8 (x0, (x1, x2))]).bind fun o8 =>
  (call is_l03First [tPIPILA8 (x3, (x4, x5))]).bind fun o9 =>
  (call is_l02Meet [tA8 (gA8 o8 0), tA8 (gA8 o9 0), tI x18]).bind fun o10 =>
  (call is_l02Same [tI x18]).bind fun o11 =>
  bif ((gA8 o10 0) == (gA8 o11 0)) then
    some [tI 0, tI x15, tI x16, tLA8 x17, tI x0, tI x1, tLA8 x2, tI x3, tI x4, tLA8 x5]
  else
    (call is_l03Times [tPIPILA8 (x15, (x16, x17)), tA8 (gA8 o10 0), tB false]).bind fun o12 =>
    (call is_l03Less [tPIPILA8 (x0, (x1, x2)), tA8 (gA8 o10 0)]).bind fun o13 =>
    (call is_l03Less [tPIPILA8 (x3, (x4, x5)), tA8 (gA8 o10 0)]).bind fun o14 =>
    call is_l03Common_3 [tI ((gPIPILA8 o13 0).1), tI (((gPIPILA8 o13 0).2).1), tLA8 (((gPIPILA8 o13 0).2).2), tI ((gPIPILA8 o14 0).1), tI (((gPIPILA8 o14 0).2).1), tLA8 (((gPIPILA8 o14 0).2).2), tI x6, tI x7, tLA8 x8, tI x9, tI x10, tLA8 x11, tI x12, tI x13, tLA8 x14, tI ((gPIPILA8 o12 0).1), tI (((gPIPILA8 o12 0).2).1), tLA8 (((gPIPILA8 o12 0).2).2), tI x18]
theorem es_l03Common_3 (call : Oracle) (x0 : Int) (x1 : Int) (x2 : List (List Int)) (x3 : Int) (x4 : Int) (x5 : List (List Int)) (x6 : Int) (x7 : Int) (x8 : List (List Int)) (x9 : Int) (x10 : Int) (x11 : List (List Int)) (x12 : Int) (x13 : Int) (x14 : List (List Int)) (x15 : Int) (x16 : Int) (x17 : List (List Int)) (x18 : Int) : run1 E call is_l03Common_3 [tI x0, tI x1, tLA8 x2, tI x3, tI x4, tLA8 x5, tI x6, tI x7, tLA8 x8, tI x9, tI x10, tLA8 x11, tI x12, tI x13, tLA8 x14, tI x15, tI x16, tLA8 x17, tI x18] = bs_l03Common_3 call x0 x1 x2 x3 x4 x5 x6 x7 x8 x9 x10 x11 x12 x13 x14 x15 x16 x17 x18 := by kernel_rfl
theorem vs_l03Common_3 (x0 : Int) (x1 : Int) (x2 : List (List Int)) (x3 : Int) (x4 : Int) (x5 : List (List Int)) (x6 : Int) (x7 : Int) (x8 : List (List Int)) (x9 : Int) (x10 : Int) (x11 : List (List Int)) (x12 : Int) (x13 : Int) (x14 : List (List Int)) (x15 : Int) (x16 : Int) (x17 : List (List Int)) (x18 : Int) {o : List TV} (h : bs_l03Common_3 R x0 x1 x2 x3 x4 x5 x6 x7 x8 x9 x10 x11 x12 x13 x14 x15 x16 x17 x18 = some o) : R is_l03Common_3 [tI x0, tI x1, tLA8 x2, tI x3, tI x4, tLA8 x5, tI x6, tI x7, tLA8 x8, tI x9, tI x10, tLA8 x11, tI x12, tI x13, tLA8 x14, tI x15, tI x16, tLA8 x17, tI x18] = some o := ev_step ((es_l03Common_3 R x0 x1 x2 x3 x4 x5 x6 x7 x8 x9 x10 x11 x12 x13 x14 x15 x16 x17 x18).trans h)
/-- spec.l03Common -/
noncomputable def bs_l03Common (call : Oracle) (a0 : Int × Int × List (List Int)) (a1 : Int × Int × List (List Int)) : Option (List TV) :=
  (call is_l03Common_3 [tI a0.1, tI a0.2.1, tLA8 a0.2.2, tI a1.1, tI a1.2.1, tLA8 a1.2.2, tI 0, tI 0, tLA8 [], tI 0, tI 0, tLA8 [], tI 0, tI 0, tLA8 [], tI a0.1, tI 0, tLA8 [], tI a0.1]).bind fun o15 =>
  some [tPIPILA8 ((gI o15 1), ((gI o15 2), (gLA8 o15 3))), tPIPILA8 ((gI o15 4), ((gI o15 5), (gLA8 o15 6))), tPIPILA8 ((gI o15 7), ((gI o15 8), (gLA8 o15 9)))]
theorem es_l03Common (call : Oracle) (a0 : Int × Int × List (List Int)) (a1 : Int × Int × List (List Int)) : run1 E call is_l03Common [tPIPILA8 a0, tPIPILA8 a1] = bs_l03Common call a0 a1 := by kernel_rfl
theorem vs_l03Common (a0 : Int × Int × List (List Int)) (a1 : Int × Int × List (List Int)) {o : List TV} (h : bs_l03Common R a0 a1 = some o) : R is_l03Common [tPIPILA8 a0, tPIPILA8 a1] = some o := ev_step ((es_l03Common R a0 a1).trans h)
/-- spec.IsBeginningOf -/
noncomputable def bs_IsBeginningOf (call : Oracle) (a0 : Int × Int × List (List Int)) (a1 : Int × Int × List (List Int)) : Option (List TV) :=
  (call is_l03Positive [tPIPILA8 (a0.1, (a0.2.1, a0.2.2)), tPIPILA8 (a1.1, (a1.2.1, a1.2.2))]).bind fun o1 =>
  bif ((gI o1 0) != 0) then
    some [tB false, tI (gI o1 0)]
  else
    (call is_l03Common [tPIPILA8 (a0.1, (a0.2.1, a0.2.2)), tPIPILA8 (a1.1, (a1.2.1, a1.2.2))]).bind fun o2 =>
    bif (((gPIPILA8 o2 1).2).1 == 0) then
      some [tB (((List.length (((gPIPILA8 o2 1).2).2) : Nat) : Int) == 0), tI 0]
    else
      some [tB false, tI 0]
theorem es_IsBeginningOf (call : Oracle) (a0 : Int × Int × List (List Int)) (a1 : Int × Int × List (List Int)) : run1 E call is_IsBeginningOf [tPIPILA8 a0, tPIPILA8 a1] = bs_IsBeginningOf call a0 a1 := by kernel_rfl
theorem vs_IsBeginningOf (a0 : Int × Int × List (List Int)) (a1 : Int × Int × List (List Int)) {o : List TV} (h : bs_IsBeginningOf R a0 a1 = some o) : R is_IsBeginningOf [tPIPILA8 a0, tPIPILA8 a1] = some o := ev_step ((es_IsBeginningOf R a0 a1).trans h)
/-- impl.arePositive -/
noncomputable def bi_arePositive (call : Oracle) (a0 : Int × Int × List (List Int)) (a1 : Int × Int × List (List Int)) : Option (List TV) :=
  (call ii_areSameCount [tPIPILA8 (a0.1, (a0.2.1, a0.2.2)), tPIPILA8 (a1.1, (a1.2.1, a1.2.2))]).bind fun o1 =>
  bif ((gI o1 0) != 0) then
    some [tI (gI o1 0)]
  else
    bif decide (a0.2.1 < 0) then
      some [tI 5]
    else
      bif decide (a1.2.1 < 0) then
        some [tI 5]
      else
        some [tI 0]
theorem ei_arePositive (call : Oracle) (a0 : Int × Int × List (List Int)) (a1 : Int × Int × List (List Int)) : run1 E call ii_arePositive [tPIPILA8 a0, tPIPILA8 a1] = bi_arePositive call a0 a1 := by kernel_rfl
theorem vi_arePositive (a0 : Int × Int × List (List Int)) (a1 : Int × Int × List (List Int)) {o : List TV} (h : bi_arePositive R a0 a1 = some o) : R ii_arePositive [tPIPILA8 a0, tPIPILA8 a1] = some o := ev_step ((ei_arePositive R a0 a1).trans h)
/-- impl.IsBeginningOf -/
noncomputable def bi_IsBeginningOf (call : Oracle) (a0 : Int × Int × List (List Int)) (a1 : Int × Int × List (List Int)) : Option (List TV) :=
  (call ii_arePositive [tPIPILA8 (a0.1, (a0.2.1, a0.2.2)), tPIPILA8 (a1.1, (a1.2.1, a1.2.2))]).bind fun o1 =>
  bif ((gI o1 0) != 0) then
    some [tB false, tI (gI o1 0)]
  else
    (call ii_inverse [tPIPILA8 (a0.1, (a0.2.1, a0.2.2))]).bind fun o2 =>
    (call ii_product [tPIPILA8 ((gPIPILA8 o2 0).1, (((gPIPILA8 o2 0).2).1, ((gPIPILA8 o2 0).2).2)), tPIPILA8 (a1.1, (a1.2.1, a1.2.2))]).bind fun o3 =>
    some [tB (decide (0 ≤ ((gPIPILA8 o3 0).2).1)), tI 0]
theorem ei_IsBeginningOf (call : Oracle) (a0 : Int × Int × List (List Int)) (a1 : Int × Int × List (List Int)) : run1 E call ii_IsBeginningOf [tPIPILA8 a0, tPIPILA8 a1] = bi_IsBeginningOf call a0 a1 := by kernel_rfl
theorem vi_IsBeginningOf (a0 : Int × Int × List (List Int)) (a1 : Int × Int × List (List Int)) {o : List TV} (h : bi_IsBeginningOf R a0 a1 = some o) : R ii_IsBeginningOf [tPIPILA8 a0, tPIPILA8 a1] = some o := ev_step ((ei_IsBeginningOf R a0 a1).trans h)
/-- laws.FnExactIsBeginningOf -/
noncomputable def bw_FnExactIsBeginningOf (call : Oracle) (a0 : Int × Int × List (List Int)) (a1 : Int × Int × List (List Int)) : Option (List TV) :=
  (call iw_szNormal [tPIPILA8 (a0.1, (a0.2.1, a0.2.2)), tI 1048576]).bind fun o1 =>
  bif decide ((gI o1 0) < 0) then
    some [tB true]
  else
    (call iw_szNormal [tPIPILA8 (a1.1, (a1.2.1, a1.2.2)), tI (gI o1 0)]).bind fun o2 =>
    bif decide ((gI o2 0) < 0) then
      some [tB true]
    else
      (call iw_toNormal [tPIPILA8 (a0.1, (a0.2.1, a0.2.2))]).bind fun o3 =>
      (call iw_toNormal [tPIPILA8 (a1.1, (a1.2.1, a1.2.2))]).bind fun o4 =>
      (call is_IsBeginningOf [tPIPILA8 ((gPIPILA8 o3 0).1, (((gPIPILA8 o3 0).2).1, ((gPIPILA8 o3 0).2).2)), tPIPILA8 ((gPIPILA8 o4 0).1, (((gPIPILA8 o4 0).2).1, ((gPIPILA8 o4 0).2).2))]).bind fun o5 =>
      (call iw_toNormal [tPIPILA8 (a0.1, (a0.2.1, a0.2.2))]).bind fun o6 =>
      (call iw_toNormal [tPIPILA8 (a1.1, (a1.2.1, a1.2.2))]).bind fun o7 =>
      (call ii_IsBeginningOf [tPIPILA8 ((gPIPILA8 o6 0).1, (((gPIPILA8 o6 0).2).1, ((gPIPILA8 o6 0).2).2)), tPIPILA8 ((gPIPILA8 o7 0).1, (((gPIPILA8 o7 0).2).1, ((gPIPILA8 o7 0).2).2))]).bind fun o8 =>
      bif ((gB o8 0) != (gB o5 0)) then
        some [tB false]
      else
        bif ((gI o8 1) != (gI o5 1)) then
          some [tB false]
        else
          (call iw_toNormal [tPIPILA8 (a0.1, (a0.2.1, a0.2.2))]).bind fun o9 =>
          (call iw_eqNormal [tPIPILA8 ((gPIPILA8 o6 0).1, (((gPIPILA8 o6 0).2).1, ((gPIPILA8 o6 0).2).2)), tPIPILA8 ((gPIPILA8 o9 0).1, (((gPIPILA8 o9 0).2).1, ((gPIPILA8 o9 0).2).2))]).bind fun o10 =>
          bif (!(gB o10 0)) then
            some [tB false]
          else
            (call iw_toNormal [tPIPILA8 (a1.1, (a1.2.1, a1.2.2))]).bind fun o11 =>
            (call iw_eqNormal [tPIPILA8 ((gPIPILA8 o7 0).1, (((gPIPILA8 o7 0).2).1, ((gPIPILA8 o7 0).2).2)), tPIPILA8 ((gPIPILA8 o11 0).1, (((gPIPILA8 o11 0).2).1, ((gPIPILA8 o11 0).2).2))]).bind fun o12 =>
            bif (!(gB o12 0)) then
              some [tB false]
            else
              some [tB true]
theorem ew_FnExactIsBeginningOf (call : Oracle) (a0 : Int × Int × List (List Int)) (a1 : Int × Int × List (List Int)) : run1 E call iw_FnExactIsBeginningOf [tPIPILA8 a0, tPIPILA8 a1] = bw_FnExactIsBeginningOf call a0 a1 := by kernel_rfl
theorem vw_FnExactIsBeginningOf (a0 : Int × Int × List (List Int)) (a1 : Int × Int × List (List Int)) {o : List TV} (h : bw_FnExactIsBeginningOf R a0 a1 = some o) : R iw_FnExactIsBeginningOf [tPIPILA8 a0, tPIPILA8 a1] = some o := ev_step ((ew_FnExactIsBeginningOf R a0 a1).trans h)
/-- spec.FractionOf -/
noncomputable def bs_FractionOf (call : Oracle) (a0 : Int × Int × List (List Int)) : Option (List TV) :=
  (call is_l03Is [tPIPILA8 (a0.1, (a0.2.1, a0.2.2))]).bind fun o1 =>
  bif (!(gB o1 0)) then
    some [tPIPILA8 (0, (0, [])), tPIPILA8 (0, (0, [])), tI 1]
  else
    bif (apOk [] a0.2.2) then
      (call is_l03Common [tPIPILA8 (a0.1, ((mx 0 (wi64 (0 - a0.2.1))), [])), tPIPILA8 (a0.1, ((mx 0 a0.2.1), a0.2.2))]).bind fun o2 =>
      some [tPIPILA8 ((gPIPILA8 o2 1).1, (((gPIPILA8 o2 1).2).1, ((gPIPILA8 o2 1).2).2)), tPIPILA8 ((gPIPILA8 o2 2).1, (((gPIPILA8 o2 2).2).1, ((gPIPILA8 o2 2).2).2)), tI 0]
    else none
theorem es_FractionOf (call : Oracle) (a0 : Int × Int × List (List Int)) : run1 E call is_FractionOf [tPIPILA8 a0] = bs_FractionOf call a0 := by kernel_rfl
theorem vs_FractionOf (a0 : Int × Int × List (List Int)) {o : List TV} (h : bs_FractionOf R a0 = some o) : R is_FractionOf [tPIPILA8 a0] = some o := ev_step ((es_FractionOf R a0).trans h)
/-- impl.FractionOf -/
noncomputable def bi_FractionOf (call : Oracle) (a0 : Int × Int × List (List Int)) : Option (List TV) :=
  (call ii_IsNormal [tPIPILA8 (a0.1, (a0.2.1, a0.2.2))]).bind fun o1 =>
  bif (!(gB o1 0)) then
    some [tPIPILA8 (0, (0, [])), tPIPILA8 (0, (0, [])), tI 1]
  else
    bif decide (0 ≤ a0.2.1) then
      (call ii_copyNormal [tPIPILA8 (a0.1, (a0.2.1, a0.2.2))]).bind fun o2 =>
      some [tPIPILA8 (a0.1, (0, [])), tPIPILA8 ((gPIPILA8 o2 0).1, (((gPIPILA8 o2 0).2).1, ((gPIPILA8 o2 0).2).2)), tI 0]
    else
      bif (decide (0 ≤ (mn (wi64 (0 - a0.2.1)) ((List.length a0.2.2 : Nat) : Int))) && decide ((mn (wi64 (0 - a0.2.1)) ((List.length a0.2.2 : Nat) : Int)) ≤ ((List.length a0.2.2 : Nat) : Int))) then
        (call ii_inverse [tPIPILA8 (a0.1, (a0.2.1, (List.take (Int.toNat (mn (wi64 (0 - a0.2.1)) ((List.length a0.2.2 : Nat) : Int))) a0.2.2)))]).bind fun o3 =>
        (call ii_limited [tPIPILA8 ((gPIPILA8 o3 0).1, (((gPIPILA8 o3 0).2).1, ((gPIPILA8 o3 0).2).2))]).bind fun o4 =>
        bif ((gI o4 1) != 0) then
          some [tPIPILA8 (0, (0, [])), tPIPILA8 (0, (0, [])), tI (gI o4 1)]
        else
          bif (decide (0 ≤ (mn (wi64 (0 - a0.2.1)) ((List.length a0.2.2 : Nat) : Int))) && decide ((mn (wi64 (0 - a0.2.1)) ((List.length a0.2.2 : Nat) : Int)) ≤ ((List.length a0.2.2 : Nat) : Int))) then
            (call ii_copyNormal [tPIPILA8 (a0.1, (0, (List.drop (Int.toNat (mn (wi64 (0 - a0.2.1)) ((List.length a0.2.2 : Nat) : Int))) a0.2.2)))]).bind fun o5 =>
            some [tPIPILA8 ((gPIPILA8 o4 0).1, (((gPIPILA8 o4 0).2).1, ((gPIPILA8 o4 0).2).2)), tPIPILA8 ((gPIPILA8 o5 0).1, (((gPIPILA8 o5 0).2).1, ((gPIPILA8 o5 0).2).2)), tI 0]
          else none
      else none
theorem ei_FractionOf (call : Oracle) (a0 : Int × Int × List (List Int)) : run1 E call ii_FractionOf [tPIPILA8 a0] = bi_FractionOf call a0 := by kernel_rfl
theorem vi_FractionOf (a0 : Int × Int × List (List Int)) {o : List TV} (h : bi_FractionOf R a0 = some o) : R ii_FractionOf [tPIPILA8 a0] = some o := ev_step ((ei_FractionOf R a0).trans h)
/-- laws.FnExactFractionOf -/
noncomputable def bw_FnExactFractionOf (call : Oracle) (a0 : Int × Int × List (List Int)) : Option (List TV) :=
  (call iw_szNormal [tPIPILA8 (a0.1, (a0.2.1, a0.2.2)), tI 1048576]).bind fun o1 =>
  bif decide ((gI o1 0) < 0) then
    some [tB true]
  else
    (call iw_toNormal [tPIPILA8 (a0.1, (a0.2.1, a0.2.2))]).bind fun o2 =>
    (call is_FractionOf [tPIPILA8 ((gPIPILA8 o2 0).1, (((gPIPILA8 o2 0).2).1, ((gPIPILA8 o2 0).2).2))]).bind fun o3 =>
    (call iw_toNormal [tPIPILA8 (a0.1, (a0.2.1, a0.2.2))]).bind fun o4 =>
    (call ii_FractionOf [tPIPILA8 ((gPIPILA8 o4 0).1, (((gPIPILA8 o4 0).2).1, ((gPIPILA8 o4 0).2).2))]).bind fun o5 =>
    (call iw_eqNormal [tPIPILA8 ((gPIPILA8 o5 0).1, (((gPIPILA8 o5 0).2).1, ((gPIPILA8 o5 0).2).2)), tPIPILA8 ((gPIPILA8 o3 0).1, (((gPIPILA8 o3 0).2).1, ((gPIPILA8 o3 0).2).2))]).bind fun o6 =>
    bif (!(gB o6 0)) then
      some [tB false]
    else
      (call iw_eqNormal [tPIPILA8 ((gPIPILA8 o5 1).1, (((gPIPILA8 o5 1).2).1, ((gPIPILA8 o5 1).2).2)), tPIPILA8 ((gPIPILA8 o3 1).1, (((gPIPILA8 o3 1).2).1, ((gPIPILA8 o3 1).2).2))]).bind fun o7 =>
      bif (!(gB o7 0)) then
        some [tB false]
      else
        bif ((gI o5 2) != (gI o3 2)) then
          some [tB false]
        else
          (call iw_toNormal [tPIPILA8 (a0.1, (a0.2.1, a0.2.2))]).bind fun o8 =>
          (call iw_eqNormal [tPIPILA8 ((gPIPILA8 o4 0).1, (((gPIPILA8 o4 0).2).1, ((gPIPILA8 o4 0).2).2)), tPIPILA8 ((gPIPILA8 o8 0).1, (((gPIPILA8 o8 0).2).1, ((gPIPILA8 o8 0).2).2))]).bind fun o9 =>
          bif (!(gB o9 0)) then
            some [tB false]
          else
            (call iw_markNormal [tPIPILA8 ((gPIPILA8 o4 0).1, (((gPIPILA8 o4 0).2).1, ((gPIPILA8 o4 0).2).2)), tI 1]).bind fun o10 =>
            bif decide ((gI o10 0) < 0) then
              some [tB false]
            else
              (call iw_eqNormal [tPIPILA8 ((gPIPILA8 o5 0).1, (((gPIPILA8 o5 0).2).1, ((gPIPILA8 o5 0).2).2)), tPIPILA8 ((gPIPILA8 o3 0).1, (((gPIPILA8 o3 0).2).1, ((gPIPILA8 o3 0).2).2))]).bind fun o11 =>
              bif (!(gB o11 0)) then
                some [tB false]
              else
                (call iw_eqNormal [tPIPILA8 ((gPIPILA8 o5 1).1, (((gPIPILA8 o5 1).2).1, ((gPIPILA8 o5 1).2).2)), tPIPILA8 ((gPIPILA8 o3 1).1, (((gPIPILA8 o3 1).2).1, ((gPIPILA8 o3 1).2).2))]).bind fun o12 =>
                bif (!(gB o12 0)) then
                  some [tB false]
                else
                  bif ((gI o5 2) != (gI o3 2)) then
                    some [tB false]
                  else
                    (call iw_markNormal [tPIPILA8 ((gPIPILA8 o5 0).1, (((gPIPILA8 o5 0).2).1, ((gPIPILA8 o5 0).2).2)), tI 1]).bind fun o13 =>
                    (call iw_markNormal [tPIPILA8 ((gPIPILA8 o5 1).1, (((gPIPILA8 o5 1).2).1, ((gPIPILA8 o5 1).2).2)), tI (gI o13 0)]).bind fun o14 =>
                    (call iw_heldNormal [tPIPILA8 ((gPIPILA8 o5 0).1, (((gPIPILA8 o5 0).2).1, ((gPIPILA8 o13 1).2).2)), tI 1]).bind fun o15 =>
                    bif decide ((gI o15 0) < 0) then
                      some [tB false]
                    else
                      (call iw_heldNormal [tPIPILA8 ((gPIPILA8 o5 1).1, (((gPIPILA8 o5 1).2).1, ((gPIPILA8 o14 1).2).2)), tI (gI o15 0)]).bind fun o16 =>
                      bif decide ((gI o16 0) < 0) then
                        some [tB false]
                      else
                        bif ((gI o16 0) != (gI o14 0)) then
                          some [tB false]
                        else
                          (call iw_toNormal [tPIPILA8 (a0.1, (a0.2.1, a0.2.2))]).bind fun o17 =>
                          (call ii_FractionOf [tPIPILA8 ((gPIPILA8 o17 0).1, (((gPIPILA8 o17 0).2).1, ((gPIPILA8 o17 0).2).2))]).bind fun o18 =>
                          (call iw_eqNormal [tPIPILA8 ((gPIPILA8 o18 0).1, (((gPIPILA8 o18 0).2).1, ((gPIPILA8 o18 0).2).2)), tPIPILA8 ((gPIPILA8 o3 0).1, (((gPIPILA8 o3 0).2).1, ((gPIPILA8 o3 0).2).2))]).bind fun o19 =>
                          bif (!(gB o19 0)) then
                            some [tB false]
                          else
                            (call iw_eqNormal [tPIPILA8 ((gPIPILA8 o18 1).1, (((gPIPILA8 o18 1).2).1, ((gPIPILA8 o18 1).2).2)), tPIPILA8 ((gPIPILA8 o3 1).1, (((gPIPILA8 o3 1).2).1, ((gPIPILA8 o3 1).2).2))]).bind fun o20 =>
                            bif (!(gB o20 0)) then
                              some [tB false]
                            else
                              bif ((gI o18 2) != (gI o3 2)) then
                                some [tB false]
                              else
                                (call iw_heldNormal [tPIPILA8 ((gPIPILA8 o5 0).1, (((gPIPILA8 o5 0).2).1, ((gPIPILA8 o13 1).2).2)), tI 1]).bind fun o21 =>
                                bif decide ((gI o21 0) < 0) then
                                  some [tB false]
                                else
                                  (call iw_heldNormal [tPIPILA8 ((gPIPILA8 o5 1).1, (((gPIPILA8 o5 1).2).1, ((gPIPILA8 o14 1).2).2)), tI (gI o21 0)]).bind fun o22 =>
                                  bif decide ((gI o22 0) < 0) then
                                    some [tB false]
                                  else
                                    bif ((gI o22 0) != (gI o14 0)) then
                                      some [tB false]
                                    else
                                      some [tB true]
theorem ew_FnExactFractionOf (call : Oracle) (a0 : Int × Int × List (List Int)) : run1 E call iw_FnExactFractionOf [tPIPILA8 a0] = bw_FnExactFractionOf call a0 := by kernel_rfl
theorem vw_FnExactFractionOf (a0 : Int × Int × List (List Int)) {o : List TV} (h : bw_FnExactFractionOf R a0 = some o) : R iw_FnExactFractionOf [tPIPILA8 a0] = some o := ev_step ((ew_FnExactFractionOf R a0).trans h)
/-- spec.ConjugateBy -/
noncomputable def bs_ConjugateBy (call : Oracle) (a0 : Int × Int × List (List Int)) (a1 : Int × Int × List (List Int)) : Option (List TV) :=
  (call is_l03Both [tPIPILA8 (a0.1, (a0.2.1, a0.2.2)), tPIPILA8 (a1.1, (a1.2.1, a1.2.2))]).bind fun o1 =>
  bif ((gI o1 0) != 0) then
    some [tPIPILA8 (0, (0, [])), tI (gI o1 0)]
  else
    (call is_l03Inverse [tPIPILA8 (a1.1, (a1.2.1, a1.2.2))]).bind fun o2 =>
    (call is_l03Product [tPIPILA8 ((gPIPILA8 o2 0).1, (((gPIPILA8 o2 0).2).1, ((gPIPILA8 o2 0).2).2)), tPIPILA8 (a0.1, (a0.2.1, a0.2.2))]).bind fun o3 =>
    (call is_l03Fit [tPIPILA8 ((gPIPILA8 o3 0).1, (((gPIPILA8 o3 0).2).1, ((gPIPILA8 o3 0).2).2))]).bind fun o4 =>
    bif ((gI o4 1) != 0) then
      some [tPIPILA8 (0, (0, [])), tI (gI o4 1)]
    else
      (call is_l03Product [tPIPILA8 ((gPIPILA8 o4 0).1, (((gPIPILA8 o4 0).2).1, ((gPIPILA8 o4 0).2).2)), tPIPILA8 (a1.1, (a1.2.1, a1.2.2))]).bind fun o5 =>
      (call is_l03Fit [tPIPILA8 ((gPIPILA8 o5 0).1, (((gPIPILA8 o5 0).2).1, ((gPIPILA8 o5 0).2).2))]).bind fun o6 =>
      some [tPIPILA8 ((gPIPILA8 o6 0).1, (((gPIPILA8 o6 0).2).1, ((gPIPILA8 o6 0).2).2)), tI (gI o6 1)]
theorem es_ConjugateBy (call : Oracle) (a0 : Int × Int × List (List Int)) (a1 : Int × Int × List (List Int)) : run1 E call is_ConjugateBy [tPIPILA8 a0, tPIPILA8 a1] = bs_ConjugateBy call a0 a1 := by kernel_rfl
theorem vs_ConjugateBy (a0 : Int × Int × List (List Int)) (a1 : Int × Int × List (List Int)) {o : List TV} (h : bs_ConjugateBy R a0 a1 = some o) : R is_ConjugateBy [tPIPILA8 a0, tPIPILA8 a1] = some o := ev_step ((es_ConjugateBy R a0 a1).trans h)
/-- impl.ConjugateBy -/
noncomputable def bi_ConjugateBy (call : Oracle) (a0 : Int × Int × List (List Int)) (a1 : Int × Int × List (List Int)) : Option (List TV) :=
  (call ii_areSameCount [tPIPILA8 (a0.1, (a0.2.1, a0.2.2)), tPIPILA8 (a1.1, (a1.2.1, a1.2.2))]).bind fun o1 =>
  bif ((gI o1 0) != 0) then
    some [tPIPILA8 (0, (0, [])), tI (gI o1 0)]
  else
    (call ii_inverse [tPIPILA8 (a1.1, (a1.2.1, a1.2.2))]).bind fun o2 =>
    (call ii_product [tPIPILA8 ((gPIPILA8 o2 0).1, (((gPIPILA8 o2 0).2).1, ((gPIPILA8 o2 0).2).2)), tPIPILA8 (a0.1, (a0.2.1, a0.2.2))]).bind fun o3 =>
    (call ii_limited [tPIPILA8 ((gPIPILA8 o3 0).1, (((gPIPILA8 o3 0).2).1, ((gPIPILA8 o3 0).2).2))]).bind fun o4 =>
    bif ((gI o4 1) != 0) then
      some [tPIPILA8 (0, (0, [])), tI (gI o4 1)]
    else
      (call ii_product [tPIPILA8 ((gPIPILA8 o4 0).1, (((gPIPILA8 o4 0).2).1, ((gPIPILA8 o4 0).2).2)), tPIPILA8 (a1.1, (a1.2.1, a1.2.2))]).bind fun o5 =>
      (call ii_limited [tPIPILA8 ((gPIPILA8 o5 0).1, (((gPIPILA8 o5 0).2).1, ((gPIPILA8 o5 0).2).2))]).bind fun o6 =>
      some [tPIPILA8 ((gPIPILA8 o6 0).1, (((gPIPILA8 o6 0).2).1, ((gPIPILA8 o6 0).2).2)), tI (gI o6 1)]
theorem ei_ConjugateBy (call : Oracle) (a0 : Int × Int × List (List Int)) (a1 : Int × Int × List (List Int)) : run1 E call ii_ConjugateBy [tPIPILA8 a0, tPIPILA8 a1] = bi_ConjugateBy call a0 a1 := by kernel_rfl
theorem vi_ConjugateBy (a0 : Int × Int × List (List Int)) (a1 : Int × Int × List (List Int)) {o : List TV} (h : bi_ConjugateBy R a0 a1 = some o) : R ii_ConjugateBy [tPIPILA8 a0, tPIPILA8 a1] = some o := ev_step ((ei_ConjugateBy R a0 a1).trans h)
/-- laws.FnExactConjugateBy -/
noncomputable def bw_FnExactConjugateBy (call : Oracle) (a0 : Int × Int × List (List Int)) (a1 : Int × Int × List (List Int)) : Option (List TV) :=
  (call iw_szNormal [tPIPILA8 (a0.1, (a0.2.1, a0.2.2)), tI 1048576]).bind fun o1 =>
  bif decide ((gI o1 0) < 0) then
    some [tB true]
  else
    (call iw_szNormal [tPIPILA8 (a1.1, (a1.2.1, a1.2.2)), tI (gI o1 0)]).bind fun o2 =>
    bif decide ((gI o2 0) < 0) then
      some [tB true]
    else
      (call iw_toNormal [tPIPILA8 (a0.1, (a0.2.1, a0.2.2))]).bind fun o3 =>
      (call iw_toNormal [tPIPILA8 (a1.1, (a1.2.1, a1.2.2))]).bind fun o4 =>
      (call is_ConjugateBy [tPIPILA8 ((gPIPILA8 o3 0).1, (((gPIPILA8 o3 0).2).1, ((gPIPILA8 o3 0).2).2)), tPIPILA8 ((gPIPILA8 o4 0).1, (((gPIPILA8 o4 0).2).1, ((gPIPILA8 o4 0).2).2))]).bind fun o5 =>
      (call iw_toNormal [tPIPILA8 (a0.1, (a0.2.1, a0.2.2))]).bind fun o6 =>
      (call iw_toNormal [tPIPILA8 (a1.1, (a1.2.1, a1.2.2))]).bind fun o7 =>
      (call ii_ConjugateBy [tPIPILA8 ((gPIPILA8 o6 0).1, (((gPIPILA8 o6 0).2).1, ((gPIPILA8 o6 0).2).2)), tPIPILA8 ((gPIPILA8 o7 0).1, (((gPIPILA8 o7 0).2).1, ((gPIPILA8 o7 0).2).2))]).bind fun o8 =>
      (call iw_eqNormal [tPIPILA8 ((gPIPILA8 o8 0).1, (((gPIPILA8 o8 0).2).1, ((gPIPILA8 o8 0).2).2)), tPIPILA8 ((gPIPILA8 o5 0).1, (((gPIPILA8 o5 0).2).1, ((gPIPILA8 o5 0).2).2))]).bind fun o9 =>
      bif (!(gB o9 0)) then
        some [tB false]
      else
        bif ((gI o8 1) != (gI o5 1)) then
          some [tB false]
        else
          (call iw_toNormal [tPIPILA8 (a0.1, (a0.2.1, a0.2.2))]).bind fun o10 =>
          (call iw_eqNormal [tPIPILA8 ((gPIPILA8 o6 0).1, (((gPIPILA8 o6 0).2).1, ((gPIPILA8 o6 0).2).2)), tPIPILA8 ((gPIPILA8 o10 0).1, (((gPIPILA8 o10 0).2).1, ((gPIPILA8 o10 0).2).2))]).bind fun o11 =>
          bif (!(gB o11 0)) then
            some [tB false]
          else
            (call iw_toNormal [tPIPILA8 (a1.1, (a1.2.1, a1.2.2))]).bind fun o12 =>
            (call iw_eqNormal [tPIPILA8 ((gPIPILA8 o7 0).1, (((gPIPILA8 o7 0).2).1, ((gPIPILA8 o7 0).2).2)), tPIPILA8 ((gPIPILA8 o12 0).1, (((gPIPILA8 o12 0).2).1, ((gPIPILA8 o12 0).2).2))]).bind fun o13 =>
            bif (!(gB o13 0)) then
              some [tB false]
            else
              (call iw_markNormal [tPIPILA8 ((gPIPILA8 o6 0).1, (((gPIPILA8 o6 0).2).1, ((gPIPILA8 o6 0).2).2)), tI 1]).bind fun o14 =>
              (call iw_markNormal [tPIPILA8 ((gPIPILA8 o7 0).1, (((gPIPILA8 o7 0).2).1, ((gPIPILA8 o7 0).2).2)), tI (gI o14 0)]).bind fun o15 =>
              bif decide ((gI o15 0) < 0) then
                some [tB false]
              else
                (call iw_eqNormal [tPIPILA8 ((gPIPILA8 o8 0).1, (((gPIPILA8 o8 0).2).1, ((gPIPILA8 o8 0).2).2)), tPIPILA8 ((gPIPILA8 o5 0).1, (((gPIPILA8 o5 0).2).1, ((gPIPILA8 o5 0).2).2))]).bind fun o16 =>
                bif (!(gB o16 0)) then
                  some [tB false]
                else
                  bif ((gI o8 1) != (gI o5 1)) then
                    some [tB false]
                  else
                    (call iw_markNormal [tPIPILA8 ((gPIPILA8 o8 0).1, (((gPIPILA8 o8 0).2).1, ((gPIPILA8 o8 0).2).2)), tI 1]).bind fun o17 =>
                    (call iw_heldNormal [tPIPILA8 ((gPIPILA8 o8 0).1, (((gPIPILA8 o8 0).2).1, ((gPIPILA8 o17 1).2).2)), tI 1]).bind fun o18 =>
                    bif decide ((gI o18 0) < 0) then
                      some [tB false]
                    else
                      bif ((gI o18 0) != (gI o17 0)) then
                        some [tB false]
                      else
                        (call iw_toNormal [tPIPILA8 (a0.1, (a0.2.1, a0.2.2))]).bind fun o19 =>
                        (call iw_toNormal [tPIPILA8 (a1.1, (a1.2.1, a1.2.2))]).bind fun o20 =>
                        (call ii_ConjugateBy [tPIPILA8 ((gPIPILA8 o19 0).1, (((gPIPILA8 o19 0).2).1, ((gPIPILA8 o19 0).2).2)), tPIPILA8 ((gPIPILA8 o20 0).1, (((gPIPILA8 o20 0).2).1, ((gPIPILA8 o20 0).2).2))]).bind fun o21 =>
                        (call iw_eqNormal [tPIPILA8 ((gPIPILA8 o21 0).1, (((gPIPILA8 o21 0).2).1, ((gPIPILA8 o21 0).2).2)), tPIPILA8 ((gPIPILA8 o5 0).1, (((gPIPILA8 o5 0).2).1, ((gPIPILA8 o5 0).2).2))]).bind fun o22 =>
                        bif (!(gB o22 0)) then
                          some [tB false]
                        else
                          bif ((gI o21 1) != (gI o5 1)) then
                            some [tB false]
                          else
                            (call iw_heldNormal [tPIPILA8 ((gPIPILA8 o8 0).1, (((gPIPILA8 o8 0).2).1, ((gPIPILA8 o17 1).2).2)), tI 1]).bind fun o23 =>
                            bif decide ((gI o23 0) < 0) then
                              some [tB false]
                            else
                              bif ((gI o23 0) != (gI o17 0)) then
                                some [tB false]
                              else
                                some [tB true]
theorem ew_FnExactConjugateBy (call : Oracle) (a0 : Int × Int × List (List Int)) (a1 : Int × Int × List (List Int)) : run1 E call iw_FnExactConjugateBy [tPIPILA8 a0, tPIPILA8 a1] = bw_FnExactConjugateBy call a0 a1 := by kernel_rfl
theorem vw_FnExactConjugateBy (a0 : Int × Int × List (List Int)) (a1 : Int × Int × List (List Int)) {o : List TV} (h : bw_FnExactConjugateBy R a0 a1 = some o) : R iw_FnExactConjugateBy [tPIPILA8 a0, tPIPILA8 a1] = some o := ev_step ((ew_FnExactConjugateBy R a0 a1).trans h)
/-- spec.l04Summit loop 2 -/
noncomputable def bs_l04Summit_2 (call : Oracle) (x0 : Int) (x1 : Int) (x2 : List (List Int)) (x3 : Int) (x4 : Int) (x5 : List (List Int)) (x6 : Int) : Option (List TV) :=
  (call is_l04Summit_4 [tI x0, tI x1, tLA8 x2, tI x3, tI x4, tLA8 x5, tI x0, tI x1, tLA8 x2, tI x6, tB false, tI (wi64 (Int.tdiv (wi64 (x6 * (wi64 (x6 - 1)))) 2))]).bind fun o8 =>
  bif (!(gB o8 11)) then
    (call is_l04Summit_11 [tI (gI o8 1), tI (gI o8 2), tLA8 (gLA8 o8 3), tI (gI o8 4), tI (gI o8 5), tLA8 (gLA8 o8 6), tI (gI o8 1), tI (gI o8 2), tLA8 (gLA8 o8 3), tI (gI o8 10), tB (gB o8 11), tI (wi64 (Int.tdiv (wi64 ((gI o8 10) * (wi64 ((gI o8 10) - 1)))) 2))]).bind fun o9 =>
    bif (!(gB o9 11)) then
      some [tI 0, tI (gI o9 1), tI (gI o9 2), tLA8 (gLA8 o9 3)]
    else
      call is_l04Summit_2 [tI (gI o9 7), tI (gI o9 8), tLA8 (gLA8 o9 9), tI (gI o9 4), tI (gI o9 5), tLA8 (gLA8 o9 6), tI (gI o9 10)]
  else
    (call is_l04Summit_11 [tI (gI o8 1), tI (gI o8 2), tLA8 (gLA8 o8 3), tI (gI o8 4), tI (gI o8 5), tLA8 (gLA8 o8 6), tI (gI o8 7), tI (gI o8 8), tLA8 (gLA8 o8 9), tI (gI o8 10), tB (gB o8 11), tI (wi64 (Int.tdiv (wi64 ((gI o8 10) * (wi64 ((gI o8 10) - 1)))) 2))]).bind fun o10 =>
    bif (!(gB o10 11)) then
      some [tI 0, tI (gI o10 1), tI (gI o10 2), tLA8 (gLA8 o10 3)]
    else
      call is_l04Summit_2 [tI (gI o10 7), tI (gI o10 8), tLA8 (gLA8 o10 9), tI (gI o10 4), tI (gI o10 5), tLA8 (gLA8 o10 6), tI (gI o10 10)]
theorem es_l04Summit_2 (call : Oracle) (x0 : Int) (x1 : Int) (x2 : List (List Int)) (x3 : Int) (x4 : Int) (x5 : List (List Int)) (x6 : Int) : run1 E call is_l04Summit_2 [tI x0, tI x1, tLA8 x2, tI x3, tI x4, tLA8 x5, tI x6] = bs_l04Summit_2 call x0 x1 x2 x3 x4 x5 x6 := by kernel_rfl
theorem vs_l04Summit_2 (x0 : Int) (x1 : Int) (x2 : List (List Int)) (x3 : Int) (x4 : Int) (x5 : List (List Int)) (x6 : Int) {o : List TV} (h : bs_l04Summit_2 R x0 x1 x2 x3 x4 x5 x6 = some o) : R is_l04Summit_2 [tI x0, tI x1, tLA8 x2, tI x3, tI x4, tLA8 x5, tI x6] = some o := ev_step ((es_l04Summit_2 R x0 x1 x2 x3 x4 x5 x6).trans h)
/-- spec.l04Summit loop 4 -/
noncomputable def bs_l04Summit_4 (call : Oracle) (x0 : Int) (x1 : Int) (x2 : List (List Int)) (x3 : Int) (x4 : Int) (x5 : List (List Int)) (x6 : Int) (x7 : Int) (x8 : List (List Int)) (x9 : Int) (x10 : Bool) (x11 : Int) : Option (List TV) :=
  bif decide (0 < x11) then
    bif (!x10) then
      (call is_l04Cycle [tPIPILA8 (x6, (x7, x8))]).bind fun o2 =>
      call is_l04Summit_4 [tI x0, tI x1, tLA8 x2, tI x3, tI x4, tLA8 x5, tI ((gPIPILA8 o2 0).1), tI (((gPIPILA8 o2 0).2).1), tLA8 (((gPIPILA8 o2 0).2).2), tI x9, tB (decide (x1 < ((gPIPILA8 o2 0).2).1)), tI (wi64 (x11 - 1))]
    else
      some [tI 0, tI x0, tI x1, tLA8 x2, tI x3, tI x4, tLA8 x5, tI x6, tI x7, tLA8 x8, tI x9, tB x10]
  else
    some [tI 0, tI x0, tI x1, tLA8 x2, tI x3, tI x4, tLA8 x5, tI x6, tI x7, tLA8 x8, tI x9, tB x10]
theorem es_l04Summit_4 (call : Oracle) (x0 : Int) (x1 : Int) (x2 : List (List Int)) (x3 : Int) (x4 : Int) (x5 : List (List Int)) (x6 : Int) (x7 : Int) (x8 : List (List Int)) (x9 : Int) (x10 : Bool) (x11 : Int) : run1 E call is_l04Summit_4 [tI x0, tI x1, tLA8 x2, tI x3, tI x4, tLA8 x5, tI x6, tI x7, tLA8 x8, tI x9, tB x10, tI x11] = bs_l04Summit_4 call x0 x1 x2 x3 x4 x5 x6 x7 x8 x9 x10 x11 := by kernel_rfl
theorem vs_l04Summit_4 (x0 : Int) (x1 : Int) (x2 : List (List Int)) (x3 : Int) (x4 : Int) (x5 : List (List Int)) (x6 : Int) (x7 : Int) (x8 : List (List Int)) (x9 : Int) (x10 : Bool) (x11 : Int) {o : List TV} (h : bs_l04Summit_4 R x0 x1 x2 x3 x4 x5 x6 x7 x8 x9 x10 x11 = some o) : R is_l04Summit_4 [tI x0, tI x1, tLA8 x2, tI x3, tI x4, tLA8 x5, tI x6, tI x7, tLA8 x8, tI x9, tB x10, tI x11] = some o := ev_step ((es_l04Summit_4 R x0 x1 x2 x3 x4 x5 x6 x7 x8 x9 x10 x11).trans h)
/-- spec.l04Summit loop 11 -/
noncomputable def bs_l04Summit_11 (call : Oracle) (x0 : Int) (x1 : Int) (x2 : List (List Int)) (x3 : Int) (x4 : Int) (x5 : List (List Int)) (x6 : Int) (x7 : Int) (x8 : List (List Int)) (x9 : Int) (x10 : Bool) (x11 : Int) : Option (List TV) :=
  bif decide (0 < x11) then
    bif (!x10) then
      (call is_l04Decycle [tPIPILA8 (x6, (x7, x8))]).bind fun o5 =>
      call is_l04Summit_11 [tI x0, tI x1, tLA8 x2, tI x3, tI x4, tLA8 x5, tI ((gPIPILA8 o5 0).1), tI (((gPIPILA8 o5 0).2).1), tLA8 (((gPIPILA8 o5 0).2).2), tI x9, tB (decide ((wi64 ((((gPIPILA8 o5 0).2).1) + ((List.length (((gPIPILA8 o5 0).2).2) : Nat) : Int))) < (wi64 (x1 + ((List.length x2 : Nat) : Int))))), tI (wi64 (x11 - 1))]
    else
      some [tI 0, tI x0, tI x1, tLA8 x2, tI x3, tI x4, tLA8 x5, tI x6, tI x7, tLA8 x8, tI x9, tB x10]
  else
    some [tI 0, tI x0, tI x1, tLA8 x2, tI x3, tI x4, tLA8 x5, tI x6, tI x7, tLA8 x8, tI x9, tB x10]
theorem es_l04Summit_11 (call : Oracle) (x0 : Int) (x1 : Int) (x2 : List (List Int)) (x3 : Int) (x4 : Int) (x5 : List (List Int)) (x6 : Int) (x7 : Int) (x8 : List (List Int)) (x9 : Int) (x10 : Bool) (x11 : Int) : run1 E call is_l04Summit_11 [tI x0, tI x1, tLA8 x2, tI x3, tI x4, tLA8 x5, tI x6, tI x7, tLA8 x8, tI x9, tB x10, tI x11] = bs_l04Summit_11 call x0 x1 x2 x3 x4 x5 x6 x7 x8 x9 x10 x11 := by kernel_rfl
theorem vs_l04Summit_11 (x0 : Int) (x1 : Int) (x2 : List (List Int)) (x3 : Int) (x4 : Int) (x5 : List (List Int)) (x6 : Int) (x7 : Int) (x8 : List (List Int)) (x9 : Int) (x10 : Bool) (x11 : Int) {o : List TV} (h : bs_l04Summit_11 R x0 x1 x2 x3 x4 x5 x6 x7 x8 x9 x10 x11 = some o) : R is_l04Summit_11 [tI x0, tI x1, tLA8 x2, tI x3, tI x4, tLA8 x5, tI x6, tI x7, tLA8 x8, tI x9, tB x10, tI x11] = some o := ev_step ((es_l04Summit_11 R x0 x1 x2 x3 x4 x5 x6 x7 x8 x9 x10 x11).trans h)
/-- spec.l04Summit -/
noncomputable def bs_l04Summit (call : Oracle) (a0 : Int × Int × List (List Int)) : Option (List TV) :=
  (call is_l04Summit_2 [tI a0.1, tI a0.2.1, tLA8 a0.2.2, tI 0, tI 0, tLA8 [], tI a0.1]).bind fun o11 =>
  some [tPIPILA8 ((gI o11 1), ((gI o11 2), (gLA8 o11 3)))]
theorem es_l04Summit (call : Oracle) (a0 : Int × Int × List (List Int)) : run1 E call is_l04Summit [tPIPILA8 a0] = bs_l04Summit call a0 := by kernel_rfl
theorem vs_l04Summit (a0 : Int × Int × List (List Int)) {o : List TV} (h : bs_l04Summit R a0 = some o) : R is_l04Summit [tPIPILA8 a0] = some o := ev_step ((es_l04Summit R a0).trans h)
/-- spec.SummitLengths -/
noncomputable def bs_SummitLengths (call : Oracle) (a0 : Int × Int × List (List Int)) : Option (List TV) :=
  (call is_l03Is [tPIPILA8 (a0.1, (a0.2.1, a0.2.2))]).bind fun o1 =>
  bif (!(gB o1 0)) then
    some [tLI [], tI 1]
  else
    (call is_l04Summit [tPIPILA8 (a0.1, (a0.2.1, a0.2.2))]).bind fun o2 =>
    some [tLI [((gPIPILA8 o2 0).2).1, ((List.length (((gPIPILA8 o2 0).2).2) : Nat) : Int)], tI 0]
theorem es_SummitLengths (call : Oracle) (a0 : Int × Int × List (List Int)) : run1 E call is_SummitLengths [tPIPILA8 a0] = bs_SummitLengths call a0 := by kernel_rfl
theorem vs_SummitLengths (a0 : Int × Int × List (List Int)) {o : List TV} (h : bs_SummitLengths R a0 = some o) : R is_SummitLengths [tPIPILA8 a0] = some o := ev_step ((es_SummitLengths R a0).trans h)
/-- impl.summit$1 -/
noncomputable def bi_summitK1 (call : Oracle) (a0 : Int × Int × List (List Int)) (a1 : Int × Int × List (List Int)) : Option (List TV) :=
  some [tB (decide (a1.2.1 < a0.2.1))]
theorem ei_summitK1 (call : Oracle) (a0 : Int × Int × List (List Int)) (a1 : Int × Int × List (List Int)) : run1 E call ii_summitK1 [tPIPILA8 a0, tPIPILA8 a1] = bi_summitK1 call a0 a1 := by kernel_rfl
theorem vi_summitK1 (a0 : Int × Int × List (List Int)) (a1 : Int × Int × List (List Int)) {o : List TV} (h : bi_summitK1 R a0 a1 = some o) : R ii_summitK1 [tPIPILA8 a0, tPIPILA8 a1] = some o := ev_step ((ei_summitK1 R a0 a1).trans h)
/-- impl.better loop 3 -/
noncomputable def bi_better_3 (call : Oracle) (x0 : Int) (x1 : Int) (x2 : List (List Int)) (x3 : Int) (x4 : Int) (x5 : List (List Int)) (x6 : Int) (x7 : Int) (x8 : List (List Int)) (x9 : Int) (x10 : Int) : Option (List TV) :=
  bif decide (x10 < x9) then
    (call ii_cycled [tPIPILA8 (x6, (x7, x8))]).bind fun o3 =>
    (call ii_summitK1 [tPIPILA8 ((gPIPILA8 o3 0).1, (((gPIPILA8 o3 0).2).1, ((gPIPILA8 o3 0).2).2)), tPIPILA8 (x0, (x1, x2))]).bind fun o4 =>
    bif (gB o4 0) then
      some [tI 1, tI ((gPIPILA8 o3 0).1), tI (((gPIPILA8 o3 0).2).1), tLA8 (((gPIPILA8 o3 0).2).2), tB true]
    else
      call ii_better_3 [tI x0, tI x1, tLA8 x2, tI x3, tI x4, tLA8 x5, tI ((gPIPILA8 o3 0).1), tI (((gPIPILA8 o3 0).2).1), tLA8 (((gPIPILA8 o3 0).2).2), tI x9, tI (wi64 (x10 + 1))]
  else
    some [tI 0, tI x0, tI x1, tLA8 x2, tI x3, tI x4, tLA8 x5]
theorem ei_better_3 (call : Oracle) (x0 : Int) (x1 : Int) (x2 : List (List Int)) (x3 : Int) (x4 : Int) (x5 : List (List Int)) (x6 : Int) (x7 : Int) (x8 : List (List Int)) (x9 : Int) (x10 : Int) : run1 E call ii_better_3 [tI x0, tI x1, tLA8 x2, tI x3, tI x4, tLA8 x5, tI x6, tI x7, tLA8 x8, tI x9, tI x10] = bi_better_3 call x0 x1 x2 x3 x4 x5 x6 x7 x8 x9 x10 := by kernel_rfl
theorem vi_better_3 (x0 : Int) (x1 : Int) (x2 : List (List Int)) (x3 : Int) (x4 : Int) (x5 : List (List Int)) (x6 : Int) (x7 : Int) (x8 : List (List Int)) (x9 : Int) (x10 : Int) {o : List TV} (h : bi_better_3 R x0 x1 x2 x3 x4 x5 x6 x7 x8 x9 x10 = some o) : R ii_better_3 [tI x0, tI x1, tLA8 x2, tI x3, tI x4, tLA8 x5, tI x6, tI x7, tLA8 x8, tI x9, tI x10] = some o := ev_step ((ei_better_3 R x0 x1 x2 x3 x4 x5 x6 x7 x8 x9 x10).trans h)
/-- impl.better -/
noncomputable def bi_better (call : Oracle) (a0 : Int × Int × List (List Int)) : Option (List TV) :=
  (call ii_better_3 [tI a0.1, tI a0.2.1, tLA8 a0.2.2, tI 0, tI 0, tLA8 [], tI a0.1, tI a0.2.1, tLA8 a0.2.2, tI (wi64 (Int.tdiv (wi64 (a0.1 * (wi64 (a0.1 - 1)))) 2)), tI 0]).bind fun o5 =>
  bif ((gI o5 0) == 0) then
    some [tPIPILA8 ((gI o5 1), ((gI o5 2), (gLA8 o5 3))), tB false]
  else
    some [tPIPILA8 ((gI o5 1), ((gI o5 2), (gLA8 o5 3))), tB (gB o5 4)]
theorem ei_better (call : Oracle) (a0 : Int × Int × List (List Int)) : run1 E call ii_better [tPIPILA8 a0] = bi_better call a0 := by kernel_rfl
theorem vi_better (a0 : Int × Int × List (List Int)) {o : List TV} (h : bi_better R a0 = some o) : R ii_better [tPIPILA8 a0] = some o := ev_step ((ei_better R a0).trans h)
/-- impl.greatest -/
noncomputable def bi_greatest (call : Oracle) (a0 : Int × Int × List (List Int)) : Option (List TV) :=
  some [tI (wi64 (a0.2.1 + ((List.length a0.2.2 : Nat) : Int)))]
theorem ei_greatest (call : Oracle) (a0 : Int × Int × List (List Int)) : run1 E call ii_greatest [tPIPILA8 a0] = bi_greatest call a0 := by kernel_rfl
theorem vi_greatest (a0 : Int × Int × List (List Int)) {o : List TV} (h : bi_greatest R a0 = some o) : R ii_greatest [tPIPILA8 a0] = some o := ev_step ((ei_greatest R a0).trans h)
/-- impl.summit$2 -/
noncomputable def bi_summitK2 (call : Oracle) (a0 : Int × Int × List (List Int)) (a1 : Int × Int × List (List Int)) : Option (List TV) :=
  (call ii_greatest [tPIPILA8 (a0.1, (a0.2.1, a0.2.2))]).bind fun o1 =>
  (call ii_greatest [tPIPILA8 (a1.1, (a1.2.1, a1.2.2))]).bind fun o2 =>
  some [tB (decide ((gI o1 0) < (gI o2 0)))]
theorem ei_summitK2 (call : Oracle) (a0 : Int × Int × List (List Int)) (a1 : Int × Int × List (List Int)) : run1 E call ii_summitK2 [tPIPILA8 a0, tPIPILA8 a1] = bi_summitK2 call a0 a1 := by kernel_rfl
theorem vi_summitK2 (a0 : Int × Int × List (List Int)) (a1 : Int × Int × List (List Int)) {o : List TV} (h : bi_summitK2 R a0 a1 = some o) : R ii_summitK2 [tPIPILA8 a0, tPIPILA8 a1] = some o := ev_step ((ei_summitK2 R a0 a1).trans h)
/-- impl.better loop 3 -/
noncomputable def bi_better_v2_3 (call : Oracle) (x0 : Int) (x1 : Int) (x2 : List (List Int)) (x3 : Int) (x4 : Int) (x5 : List (List Int)) (x6 : Int) (x7 : Int) (x8 : List (List Int)) (x9 : Int) (x10 : Int) : Option (List TV) :=
  bif decide (x10 < x9) then
    (call ii_decycled [tPIPILA8 (x6, (x7, x8))]).bind fun o3 =>
    (call ii_summitK2 [tPIPILA8 ((gPIPILA8 o3 0).1, (((gPIPILA8 o3 0).2).1, ((gPIPILA8 o3 0).2).2)), tPIPILA8 (x0, (x1, x2))]).bind fun o4 =>
    bif (gB o4 0) then
      some [tI 1, tI ((gPIPILA8 o3 0).1), tI (((gPIPILA8 o3 0).2).1), tLA8 (((gPIPILA8 o3 0).2).2), tB true]
    else
      call ii_better_v2_3 [tI x0, tI x1, tLA8 x2, tI x3, tI x4, tLA8 x5, tI ((gPIPILA8 o3 0).1), tI (((gPIPILA8 o3 0).2).1), tLA8 (((gPIPILA8 o3 0).2).2), tI x9, tI (wi64 (x10 + 1))]
  else
    some [tI 0, tI x0, tI x1, tLA8 x2, tI x3, tI x4, tLA8 x5]
theorem ei_better_v2_3 (call : Oracle) (x0 : Int) (x1 : Int) (x2 : List (List Int)) (x3 : Int) (x4 : Int) (x5 : List (List Int)) (x6 : Int) (x7 : Int) (x8 : List (List Int)) (x9 : Int) (x10 : Int) : run1 E call ii_better_v2_3 [tI x0, tI x1, tLA8 x2, tI x3, tI x4, tLA8 x5, tI x6, tI x7, tLA8 x8, tI x9, tI x10] = bi_better_v2_3 call x0 x1 x2 x3 x4 x5 x6 x7 x8 x9 x10 := by kernel_rfl
theorem vi_better_v2_3 (x0 : Int) (x1 : Int) (x2 : List (List Int)) (x3 : Int) (x4 : Int) (x5 : List (List Int)) (x6 : Int) (x7 : Int) (x8 : List (List Int)) (x9 : Int) (x10 : Int) {o : List TV} (h : bi_better_v2_3 R x0 x1 x2 x3 x4 x5 x6 x7 x8 x9 x10 = some o) : R ii_better_v2_3 [tI x0, tI x1, tLA8 x2, tI x3, tI x4, tLA8 x5, tI x6, tI x7, tLA8 x8, tI x9, tI x10] = some o := ev_step ((ei_better_v2_3 R x0 x1 x2 x3 x4 x5 x6 x7 x8 x9 x10).trans h)
/-- impl.better -/
noncomputable def bi_better_v2 (call : Oracle) (a0 : Int × Int × List (List Int)) : Option (List TV) :=
  (call ii_better_v2_3 [tI a0.1, tI a0.2.1, tLA8 a0.2.2, tI 0, tI 0, tLA8 [], tI a0.1, tI a0.2.1, tLA8 a0.2.2, tI (wi64 (Int.tdiv (wi64 (a0.1 * (wi64 (a0.1 - 1)))) 2)), tI 0]).bind fun o5 =>
  bif ((gI o5 0) == 0) then
    some [tPIPILA8 ((gI o5 1), ((gI o5 2), (gLA8 o5 3))), tB false]
  else
    some [tPIPILA8 ((gI o5 1), ((gI o5 2), (gLA8 o5 3))), tB (gB o5 4)]
theorem ei_better_v2 (call : Oracle) (a0 : Int × Int × List (List Int)) : run1 E call ii_better_v2 [tPIPILA8 a0] = bi_better_v2 call a0 := by kernel_rfl
theorem vi_better_v2 (a0 : Int × Int × List (List Int)) {o : List TV} (h : bi_better_v2 R a0 = some o) : R ii_better_v2 [tPIPILA8 a0] = some o := ev_step ((ei_better_v2 R a0).trans h)
/-- impl.summit loop 1 -/
noncomputable def bi_summit_1 (call : Oracle) (x0 : Int) (x1 : Int) (x2 : List (List Int)) (x3 : Int) (x4 : Int) (x5 : List (List Int)) : Option (List TV) :=
  (call ii_better [tPIPILA8 (x0, (x1, x2))]).bind fun o5 =>
  bif (!(gB o5 1)) then
    (call ii_better_v2 [tPIPILA8 (x0, (x1, x2))]).bind fun o6 =>
    bif (!(gB o6 1)) then
      (call ii_copyNormal [tPIPILA8 (x0, (x1, x2))]).bind fun o7 =>
      some [tI 0, tI ((gPIPILA8 o7 0).1), tI (((gPIPILA8 o7 0).2).1), tLA8 (((gPIPILA8 o7 0).2).2)]
    else
      call ii_summit_1 [tI ((gPIPILA8 o6 0).1), tI (((gPIPILA8 o6 0).2).1), tLA8 (((gPIPILA8 o6 0).2).2), tI x3, tI x4, tLA8 x5]
  else
    bif (!(gB o5 1)) then
      (call ii_copyNormal [tPIPILA8 (x0, (x1, x2))]).bind fun o8 =>
      some [tI 0, tI ((gPIPILA8 o8 0).1), tI (((gPIPILA8 o8 0).2).1), tLA8 (((gPIPILA8 o8 0).2).2)]
    else
      call ii_summit_1 [tI ((gPIPILA8 o5 0).1), tI (((gPIPILA8 o5 0).2).1), tLA8 (((gPIPILA8 o5 0).2).2), tI x3, tI x4, tLA8 x5]
theorem ei_summit_1 (call : Oracle) (x0 : Int) (x1 : Int) (x2 : List (List Int)) (x3 : Int) (x4 : Int) (x5 : List (List Int)) : run1 E call ii_summit_1 [tI x0, tI x1, tLA8 x2, tI x3, tI x4, tLA8 x5] = bi_summit_1 call x0 x1 x2 x3 x4 x5 := by kernel_rfl
theorem vi_summit_1 (x0 : Int) (x1 : Int) (x2 : List (List Int)) (x3 : Int) (x4 : Int) (x5 : List (List Int)) {o : List TV} (h : bi_summit_1 R x0 x1 x2 x3 x4 x5 = some o) : R ii_summit_1 [tI x0, tI x1, tLA8 x2, tI x3, tI x4, tLA8 x5] = some o := ev_step ((ei_summit_1 R x0 x1 x2 x3 x4 x5).trans h)
/-- impl.summit -/
noncomputable def bi_summit (call : Oracle) (a0 : Int × Int × List (List Int)) : Option (List TV) :=
  (call ii_summit_1 [tI a0.1, tI a0.2.1, tLA8 a0.2.2, tI 0, tI 0, tLA8 []]).bind fun o9 =>
  some [tPIPILA8 ((gI o9 1), ((gI o9 2), (gLA8 o9 3)))]
theorem ei_summit (call : Oracle) (a0 : Int × Int × List (List Int)) : run1 E call ii_summit [tPIPILA8 a0] = bi_summit call a0 := by kernel_rfl
theorem vi_summit (a0 : Int × Int × List (List Int)) {o : List TV} (h : bi_summit R a0 = some o) : R ii_summit [tPIPILA8 a0] = some o := ev_step ((ei_summit R a0).trans h)
/-- impl.SummitLengths -/
noncomputable def bi_SummitLengths (call : Oracle) (a0 : Int × Int × List (List Int)) : Option (List TV) :=
  (call ii_IsNormal [tPIPILA8 (a0.1, (a0.2.1, a0.2.2))]).bind fun o1 =>
  bif (!(gB o1 0)) then
    some [tLI [], tI 1]
  else
    (call ii_summit [tPIPILA8 (a0.1, (a0.2.1, a0.2.2))]).bind fun o2 =>
    some [tLI [((gPIPILA8 o2 0).2).1, ((List.length (((gPIPILA8 o2 0).2).2) : Nat) : Int)], tI 0]
theorem ei_SummitLengths (call : Oracle) (a0 : Int × Int × List (List Int)) : run1 E call ii_SummitLengths [tPIPILA8 a0] = bi_SummitLengths call a0 := by kernel_rfl
theorem vi_SummitLengths (a0 : Int × Int × List (List Int)) {o : List TV} (h : bi_SummitLengths R a0 = some o) : R ii_SummitLengths [tPIPILA8 a0] = some o := ev_step ((ei_SummitLengths R a0).trans h)
/-- laws.heldInt64S loop 2 -/
noncomputable def bw_heldInt64S_2 (call : Oracle) (x0 : List Int) (x1 : Int) (x2 : Int) : Option (List TV) :=
  bif decide (x2 < ((List.length x0 : Nat) : Int)) then
    bif (decide (0 ≤ x2) && decide (x2 < ((List.length x0 : Nat) : Int))) then
      bif ((List.getD x0 (Int.toNat x2) 0) != x1) then
        some [tI 1, tI (-1)]
      else
        call iw_heldInt64S_2 [tLI x0, tI (wi64 (x1 + 1)), tI (wi64 (x2 + 1))]
    else none
  else
    some [tI 0, tI x1]
theorem ew_heldInt64S_2 (call : Oracle) (x0 : List Int) (x1 : Int) (x2 : Int) : run1 E call iw_heldInt64S_2 [tLI x0, tI x1, tI x2] = bw_heldInt64S_2 call x0 x1 x2 := by kernel_rfl
theorem vw_heldInt64S_2 (x0 : List Int) (x1 : Int) (x2 : Int) {o : List TV} (h : bw_heldInt64S_2 R x0 x1 x2 = some o) : R iw_heldInt64S_2 [tLI x0, tI x1, tI x2] = some o := ev_step ((ew_heldInt64S_2 R x0 x1 x2).trans h)
/-- laws.heldInt64S -/
noncomputable def bw_heldInt64S (call : Oracle) (a0 : List Int) (a1 : Int) : Option (List TV) :=
  (call iw_heldInt64S_2 [tLI a0, tI a1, tI 0]).bind fun o1 =>
  bif ((gI o1 0) == 0) then
    some [tI (gI o1 1)]
  else
    some [tI (gI o1 1)]
theorem ew_heldInt64S (call : Oracle) (a0 : List Int) (a1 : Int) : run1 E call iw_heldInt64S [tLI a0, tI a1] = bw_heldInt64S call a0 a1 := by kernel_rfl
theorem vw_heldInt64S (a0 : List Int) (a1 : Int) {o : List TV} (h : bw_heldInt64S R a0 a1 = some o) : R iw_heldInt64S [tLI a0, tI a1] = some o := ev_step ((ew_heldInt64S R a0 a1).trans h)
/-- laws.FnExactSummitLengths -/
noncomputable def bw_FnExactSummitLengths (call : Oracle) (a0 : Int × Int × List (List Int)) : Option (List TV) :=
  (call iw_szNormal [tPIPILA8 (a0.1, (a0.2.1, a0.2.2)), tI 1048576]).bind fun o1 =>
  bif decide ((gI o1 0) < 0) then
    some [tB true]
  else
    (call iw_toNormal [tPIPILA8 (a0.1, (a0.2.1, a0.2.2))]).bind fun o2 =>
    (call is_SummitLengths [tPIPILA8 ((gPIPILA8 o2 0).1, (((gPIPILA8 o2 0).2).1, ((gPIPILA8 o2 0).2).2))]).bind fun o3 =>
    (call iw_toNormal [tPIPILA8 (a0.1, (a0.2.1, a0.2.2))]).bind fun o4 =>
    (call ii_SummitLengths [tPIPILA8 ((gPIPILA8 o4 0).1, (((gPIPILA8 o4 0).2).1, ((gPIPILA8 o4 0).2).2))]).bind fun o5 =>
    (call iw_eqInt64S [tLI (gLI o5 0), tLI (gLI o3 0)]).bind fun o6 =>
    bif (!(gB o6 0)) then
      some [tB false]
    else
      bif ((gI o5 1) != (gI o3 1)) then
        some [tB false]
      else
        (call iw_toNormal [tPIPILA8 (a0.1, (a0.2.1, a0.2.2))]).bind fun o7 =>
        (call iw_eqNormal [tPIPILA8 ((gPIPILA8 o4 0).1, (((gPIPILA8 o4 0).2).1, ((gPIPILA8 o4 0).2).2)), tPIPILA8 ((gPIPILA8 o7 0).1, (((gPIPILA8 o7 0).2).1, ((gPIPILA8 o7 0).2).2))]).bind fun o8 =>
        bif (!(gB o8 0)) then
          some [tB false]
        else
          (call iw_markNormal [tPIPILA8 ((gPIPILA8 o4 0).1, (((gPIPILA8 o4 0).2).1, ((gPIPILA8 o4 0).2).2)), tI 1]).bind fun o9 =>
          bif decide ((gI o9 0) < 0) then
            some [tB false]
          else
            (call iw_eqInt64S [tLI (gLI o5 0), tLI (gLI o3 0)]).bind fun o10 =>
            bif (!(gB o10 0)) then
              some [tB false]
            else
              bif ((gI o5 1) != (gI o3 1)) then
                some [tB false]
              else
                (call iw_markInt64S [tLI (gLI o5 0), tI 1]).bind fun o11 =>
                (call iw_heldInt64S [tLI (gLI o11 1), tI 1]).bind fun o12 =>
                bif decide ((gI o12 0) < 0) then
                  some [tB false]
                else
                  bif ((gI o12 0) != (gI o11 0)) then
                    some [tB false]
                  else
                    (call iw_toNormal [tPIPILA8 (a0.1, (a0.2.1, a0.2.2))]).bind fun o13 =>
                    (call ii_SummitLengths [tPIPILA8 ((gPIPILA8 o13 0).1, (((gPIPILA8 o13 0).2).1, ((gPIPILA8 o13 0).2).2))]).bind fun o14 =>
                    (call iw_eqInt64S [tLI (gLI o14 0), tLI (gLI o3 0)]).bind fun o15 =>
                    bif (!(gB o15 0)) then
                      some [tB false]
                    else
                      bif ((gI o14 1) != (gI o3 1)) then
                        some [tB false]
                      else
                        (call iw_heldInt64S [tLI (gLI o11 1), tI 1]).bind fun o16 =>
                        bif decide ((gI o16 0) < 0) then
                          some [tB false]
                        else
                          bif ((gI o16 0) != (gI o11 0)) then
                            some [tB false]
                          else
                            some [tB true]
theorem ew_FnExactSummitLengths (call : Oracle) (a0 : Int × Int × List (List Int)) : run1 E call iw_FnExactSummitLengths [tPIPILA8 a0] = bw_FnExactSummitLengths call a0 := by kernel_rfl
theorem vw_FnExactSummitLengths (a0 : Int × Int × List (List Int)) {o : List TV} (h : bw_FnExactSummitLengths R a0 = some o) : R iw_FnExactSummitLengths [tPIPILA8 a0] = some o := ev_step ((ew_FnExactSummitLengths R a0).trans h)
/-- spec.PowerNormal loop 10 -/
noncomputable def bs_PowerNormal_10 (call : Oracle) (x0 : Int) (x1 : Int) (x2 : List (List Int)) (x3 : Int) (x4 : Int) (x5 : List (List Int)) (x6 : Int) (x7 : Int) (x8 : List (List Int)) (x9 : Int) : Option (List TV) :=
  bif decide (0 < x9) then
    (call is_l03Product [tPIPILA8 (x6, (x7, x8)), tPIPILA8 (x3, (x4, x5))]).bind fun o6 =>
    (call is_l03Fit [tPIPILA8 ((gPIPILA8 o6 0).1, (((gPIPILA8 o6 0).2).1, ((gPIPILA8 o6 0).2).2))]).bind fun o7 =>
    bif ((gI o7 1) != 0) then
      some [tI 1, tI 0, tI 0, tLA8 [], tI (gI o7 1)]
    else
      call is_PowerNormal_10 [tI x0, tI x1, tLA8 x2, tI x3, tI x4, tLA8 x5, tI ((gPIPILA8 o7 0).1), tI (((gPIPILA8 o7 0).2).1), tLA8 (((gPIPILA8 o7 0).2).2), tI (wi64 (x9 - 1))]
  else
    some [tI 0, tI x0, tI x1, tLA8 x2, tI x6, tI x7, tLA8 x8]
theorem es_PowerNormal_10 (call : Oracle) (x0 : Int) (x1 : Int) (x2 : List (List Int)) (x3 : Int) (x4 : Int) (x5 : List (List Int)) (x6 : Int) (x7 : Int) (x8 : List (List Int)) (x9 : Int) : run1 E call is_PowerNormal_10 [tI x0, tI x1, tLA8 x2, tI x3, tI x4, tLA8 x5, tI x6, tI x7, tLA8 x8, tI x9] = bs_PowerNormal_10 call x0 x1 x2 x3 x4 x5 x6 x7 x8 x9 := by kernel_rfl
theorem vs_PowerNormal_10 (x0 : Int) (x1 : Int) (x2 : List (List Int)) (x3 : Int) (x4 : Int) (x5 : List (List Int)) (x6 : Int) (x7 : Int) (x8 : List (List Int)) (x9 : Int) {o : List TV} (h : bs_PowerNormal_10 R x0 x1 x2 x3 x4 x5 x6 x7 x8 x9 = some o) : R is_PowerNormal_10 [tI x0, tI x1, tLA8 x2, tI x3, tI x4, tLA8 x5, tI x6, tI x7, tLA8 x8, tI x9] = some o := ev_step ((es_PowerNormal_10 R x0 x1 x2 x3 x4 x5 x6 x7 x8 x9).trans h)
/-- spec.PowerNormal -/
noncomputable def bs_PowerNormal (call : Oracle) (a0 : Int × Int × List (List Int)) (a1 : Int) : Option (List TV) :=
  (call is_l03Is [tPIPILA8 (a0.1, (a0.2.1, a0.2.2))]).bind fun o1 =>
  bif (!(gB o1 0)) then
    some [tPIPILA8 (0, (0, [])), tI 1]
  else
    (call is_l01In [tI a1, tI (-50), tI 50]).bind fun o2 =>
    bif (!(gB o2 0)) then
      some [tPIPILA8 (0, (0, [])), tI 2]
    else
      bif decide (a1 < 0) then
        (call is_l03Inverse [tPIPILA8 (a0.1, (a0.2.1, a0.2.2))]).bind fun o3 =>
        (call is_PowerNormal_10 [tI 0, tI 0, tLA8 [], tI ((gPIPILA8 o3 0).1), tI (((gPIPILA8 o3 0).2).1), tLA8 (((gPIPILA8 o3 0).2).2), tI a0.1, tI 0, tLA8 [], tI (wi64 (0 - a1))]).bind fun o8 =>
        bif ((gI o8 0) == 0) then
          some [tPIPILA8 ((gI o8 4), ((gI o8 5), (gLA8 o8 6))), tI 0]
        else
          some [tPIPILA8 ((gI o8 1), ((gI o8 2), (gLA8 o8 3))), tI (gI o8 4)]
      else
        (call is_PowerNormal_10 [tI 0, tI 0, tLA8 [], tI a0.1, tI a0.2.1, tLA8 a0.2.2, tI a0.1, tI 0, tLA8 [], tI a1]).bind fun o9 =>
        bif ((gI o9 0) == 0) then
          some [tPIPILA8 ((gI o9 4), ((gI o9 5), (gLA8 o9 6))), tI 0]
        else
          some [tPIPILA8 ((gI o9 1), ((gI o9 2), (gLA8 o9 3))), tI (gI o9 4)]
theorem es_PowerNormal (call : Oracle) (a0 : Int × Int × List (List Int)) (a1 : Int) : run1 E call is_PowerNormal [tPIPILA8 a0, tI a1] = bs_PowerNormal call a0 a1 := by kernel_rfl
theorem vs_PowerNormal (a0 : Int × Int × List (List Int)) (a1 : Int) {o : List TV} (h : bs_PowerNormal R a0 a1 = some o) : R is_PowerNormal [tPIPILA8 a0, tI a1] = some o := ev_step ((es_PowerNormal R a0 a1).trans h)
/-- impl.size -/
noncomputable def bi_size (call : Oracle) (a0 : Int) : Option (List TV) :=
  some [tI (mx a0 (wi64 (0 - a0)))]
theorem ei_size (call : Oracle) (a0 : Int) : run1 E call ii_size [tI a0] = bi_size call a0 := by kernel_rfl
theorem vi_size (a0 : Int) {o : List TV} (h : bi_size R a0 = some o) : R ii_size [tI a0] = some o := ev_step ((ei_size R a0).trans h)
/-- impl.PowerNormal loop 9 -/
noncomputable def bi_PowerNormal_9 (call : Oracle) (x0 : Int) (x1 : Int) (x2 : List (List Int)) (x3 : Int) (x4 : Int) (x5 : List (List Int)) (x6 : Int) (x7 : Int) (x8 : List (List Int)) (x9 : Int) (x10 : Int) : Option (List TV) :=
  bif decide (x10 < x9) then
    (call ii_product [tPIPILA8 (x6, (x7, x8)), tPIPILA8 (x3, (x4, x5))]).bind fun o7 =>
    (call ii_limited [tPIPILA8 ((gPIPILA8 o7 0).1, (((gPIPILA8 o7 0).2).1, ((gPIPILA8 o7 0).2).2))]).bind fun o8 =>
    bif ((gI o8 1) != 0) then
      some [tI 1, tI 0, tI 0, tLA8 [], tI (gI o8 1)]
    else
      call ii_PowerNormal_9 [tI x0, tI x1, tLA8 x2, tI x3, tI x4, tLA8 x5, tI ((gPIPILA8 o8 0).1), tI (((gPIPILA8 o8 0).2).1), tLA8 (((gPIPILA8 o8 0).2).2), tI x9, tI (wi64 (x10 + 1))]
  else
    some [tI 0, tI x0, tI x1, tLA8 x2, tI x6, tI x7, tLA8 x8]
theorem ei_PowerNormal_9 (call : Oracle) (x0 : Int) (x1 : Int) (x2 : List (List Int)) (x3 : Int) (x4 : Int) (x5 : List (List Int)) (x6 : Int) (x7 : Int) (x8 : List (List Int)) (x9 : Int) (x10 : Int) : run1 E call ii_PowerNormal_9 [tI x0, tI x1, tLA8 x2, tI x3, tI x4, tLA8 x5, tI x6, tI x7, tLA8 x8, tI x9, tI x10] = bi_PowerNormal_9 call x0 x1 x2 x3 x4 x5 x6 x7 x8 x9 x10 := by kernel_rfl
theorem vi_PowerNormal_9 (x0 : Int) (x1 : Int) (x2 : List (List Int)) (x3 : Int) (x4 : Int) (x5 : List (List Int)) (x6 : Int) (x7 : Int) (x8 : List (List Int)) (x9 : Int) (x10 : Int) {o : List TV} (h : bi_PowerNormal_9 R x0 x1 x2 x3 x4 x5 x6 x7 x8 x9 x10 = some o) : R ii_PowerNormal_9 [tI x0, tI x1, tLA8 x2, tI x3, tI x4, tLA8 x5, tI x6, tI x7, tLA8 x8, tI x9, tI x10] = some o := ev_step ((ei_PowerNormal_9 R x0 x1 x2 x3 x4 x5 x6 x7 x8 x9 x10).trans h)
/-- impl.PowerNormal -/
noncomputable def bi_PowerNormal (call : Oracle) (a0 : Int × Int × List (List Int)) (a1 : Int) : Option (List TV) :=
  (call ii_IsNormal [tPIPILA8 (a0.1, (a0.2.1, a0.2.2))]).bind fun o1 =>
  bif (!(gB o1 0)) then
    some [tPIPILA8 (0, (0, [])), tI 1]
  else
    (call ii_within [tI a1, tI (-50), tI 50]).bind fun o2 =>
    bif (!(gB o2 0)) then
      some [tPIPILA8 (0, (0, [])), tI 2]
    else
      bif decide (a1 < 0) then
        (call ii_inverse [tPIPILA8 (a0.1, (a0.2.1, a0.2.2))]).bind fun o3 =>
        (call ii_size [tI a1]).bind fun o4 =>
        (call ii_PowerNormal_9 [tI 0, tI 0, tLA8 [], tI ((gPIPILA8 o3 0).1), tI (((gPIPILA8 o3 0).2).1), tLA8 (((gPIPILA8 o3 0).2).2), tI a0.1, tI 0, tLA8 [], tI (gI o4 0), tI 0]).bind fun o9 =>
        bif ((gI o9 0) == 0) then
          some [tPIPILA8 ((gI o9 4), ((gI o9 5), (gLA8 o9 6))), tI 0]
        else
          some [tPIPILA8 ((gI o9 1), ((gI o9 2), (gLA8 o9 3))), tI (gI o9 4)]
      else
        (call ii_size [tI a1]).bind fun o10 =>
        (call ii_PowerNormal_9 [tI 0, tI 0, tLA8 [], tI a0.1, tI a0.2.1, tLA8 a0.2.2, tI a0.1, tI 0, tLA8 [], tI (gI o10 0), tI 0]).bind fun o11 =>
        bif ((gI o11 0) == 0) then
          some [tPIPILA8 ((gI o11 4), ((gI o11 5), (gLA8 o11 6))), tI 0]
        else
          some [tPIPILA8 ((gI o11 1), ((gI o11 2), (gLA8 o11 3))), tI (gI o11 4)]
theorem ei_PowerNormal (call : Oracle) (a0 : Int × Int × List (List Int)) (a1 : Int) : run1 E call ii_PowerNormal [tPIPILA8 a0, tI a1] = bi_PowerNormal call a0 a1 := by kernel_rfl
theorem vi_PowerNormal (a0 : Int × Int × List (List Int)) (a1 : Int) {o : List TV} (h : bi_PowerNormal R a0 a1 = some o) : R ii_PowerNormal [tPIPILA8 a0, tI a1] = some o := ev_step ((ei_PowerNormal R a0 a1).trans h)
/-- laws.FnExactPowerNormal -/
noncomputable def bw_FnExactPowerNormal (call : Oracle) (a0 : Int × Int × List (List Int)) (a1 : Int) : Option (List TV) :=
  (call iw_szNormal [tPIPILA8 (a0.1, (a0.2.1, a0.2.2)), tI 1048576]).bind fun o1 =>
  bif decide ((gI o1 0) < 0) then
    some [tB true]
  else
    (call iw_toNormal [tPIPILA8 (a0.1, (a0.2.1, a0.2.2))]).bind fun o2 =>
    (call is_PowerNormal [tPIPILA8 ((gPIPILA8 o2 0).1, (((gPIPILA8 o2 0).2).1, ((gPIPILA8 o2 0).2).2)), tI a1]).bind fun o3 =>
    (call iw_toNormal [tPIPILA8 (a0.1, (a0.2.1, a0.2.2))]).bind fun o4 =>
    (call ii_PowerNormal [tPIPILA8 ((gPIPILA8 o4 0).1, (((gPIPILA8 o4 0).2).1, ((gPIPILA8 o4 0).2).2)), tI a1]).bind fun o5 =>
    (call iw_eqNormal [tPIPILA8 ((gPIPILA8 o5 0).1, (((gPIPILA8 o5 0).2).1, ((gPIPILA8 o5 0).2).2)), tPIPILA8 ((gPIPILA8 o3 0).1, (((gPIPILA8 o3 0).2).1, ((gPIPILA8 o3 0).2).2))]).bind fun o6 =>
    bif (!(gB o6 0)) then
      some [tB false]
    else
      bif ((gI o5 1) != (gI o3 1)) then
        some [tB false]
      else
        (call iw_toNormal [tPIPILA8 (a0.1, (a0.2.1, a0.2.2))]).bind fun o7 =>
        (call iw_eqNormal [tPIPILA8 ((gPIPILA8 o4 0).1, (((gPIPILA8 o4 0).2).1, ((gPIPILA8 o4 0).2).2)), tPIPILA8 ((gPIPILA8 o7 0).1, (((gPIPILA8 o7 0).2).1, ((gPIPILA8 o7 0).2).2))]).bind fun o8 =>
        bif (!(gB o8 0)) then
          some [tB false]
        else
          (call iw_markNormal [tPIPILA8 ((gPIPILA8 o4 0).1, (((gPIPILA8 o4 0).2).1, ((gPIPILA8 o4 0).2).2)), tI 1]).bind fun o9 =>
          bif decide ((gI o9 0) < 0) then
            some [tB false]
          else
            (call iw_eqNormal [tPIPILA8 ((gPIPILA8 o5 0).1, (((gPIPILA8 o5 0).2).1, ((gPIPILA8 o5 0).2).2)), tPIPILA8 ((gPIPILA8 o3 0).1, (((gPIPILA8 o3 0).2).1, ((gPIPILA8 o3 0).2).2))]).bind fun o10 =>
            bif (!(gB o10 0)) then
              some [tB false]
            else
              bif ((gI o5 1) != (gI o3 1)) then
                some [tB false]
              else
                (call iw_markNormal [tPIPILA8 ((gPIPILA8 o5 0).1, (((gPIPILA8 o5 0).2).1, ((gPIPILA8 o5 0).2).2)), tI 1]).bind fun o11 =>
                (call iw_heldNormal [tPIPILA8 ((gPIPILA8 o5 0).1, (((gPIPILA8 o5 0).2).1, ((gPIPILA8 o11 1).2).2)), tI 1]).bind fun o12 =>
                bif decide ((gI o12 0) < 0) then
                  some [tB false]
                else
                  bif ((gI o12 0) != (gI o11 0)) then
                    some [tB false]
                  else
                    (call iw_toNormal [tPIPILA8 (a0.1, (a0.2.1, a0.2.2))]).bind fun o13 =>
                    (call ii_PowerNormal [tPIPILA8 ((gPIPILA8 o13 0).1, (((gPIPILA8 o13 0).2).1, ((gPIPILA8 o13 0).2).2)), tI a1]).bind fun o14 =>
                    (call iw_eqNormal [tPIPILA8 ((gPIPILA8 o14 0).1, (((gPIPILA8 o14 0).2).1, ((gPIPILA8 o14 0).2).2)), tPIPILA8 ((gPIPILA8 o3 0).1, (((gPIPILA8 o3 0).2).1, ((gPIPILA8 o3 0).2).2))]).bind fun o15 =>
                    bif (!(gB o15 0)) then
                      some [tB false]
                    else
                      bif ((gI o14 1) != (gI o3 1)) then
                        some [tB false]
                      else
                        (call iw_heldNormal [tPIPILA8 ((gPIPILA8 o5 0).1, (((gPIPILA8 o5 0).2).1, ((gPIPILA8 o11 1).2).2)), tI 1]).bind fun o16 =>
                        bif decide ((gI o16 0) < 0) then
                          some [tB false]
                        else
                          bif ((gI o16 0) != (gI o11 0)) then
                            some [tB false]
                          else
                            some [tB true]
theorem ew_FnExactPowerNormal (call : Oracle) (a0 : Int × Int × List (List Int)) (a1 : Int) : run1 E call iw_FnExactPowerNormal [tPIPILA8 a0, tI a1] = bw_FnExactPowerNormal call a0 a1 := by kernel_rfl
theorem vw_FnExactPowerNormal (a0 : Int × Int × List (List Int)) (a1 : Int) {o : List TV} (h : bw_FnExactPowerNormal R a0 a1 = some o) : R iw_FnExactPowerNormal [tPIPILA8 a0, tI a1] = some o := ev_step ((ew_FnExactPowerNormal R a0 a1).trans h)
end Go.Ev.Ytolpnaiincngjaa
