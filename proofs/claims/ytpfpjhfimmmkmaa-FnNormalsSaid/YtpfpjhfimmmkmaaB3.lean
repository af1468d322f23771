/- Bodies, part 3. -/
import Derived.KernelRfl
import Derived.Test.YtpfpjhfimmmkmaaEnv
set_option linter.unusedVariables false
namespace Go.Ev.Ytpfpjhfimmmkmaa
open Go.Ev
/-- spec.l03Inverse -/
noncomputable def bs_l03Inverse (call : Oracle) (a0 : Int × Int × List (List Int)) : Option (List TV) :=
  (call is_l03Inverse_3 [tI a0.1, tI a0.2.1, tLA8 a0.2.2, tI 0, tI 0, tLA8 [], tI a0.1, tI 0, tLA8 [], tI (wi64 (((List.length a0.2.2 : Nat) : Int) - 1))]).bind fun o3 =>
  (call is_l03Turned [tLA8 (gLA8 o3 9), tI (gI o3 1), tI (gI o3 2)]).bind fun o4 =>
  some [tPIPILA8 ((gI o3 1), ((wi64 ((gI o3 8) - (gI o3 2))), (gLA8 o4 0)))]
theorem es_l03Inverse (call : Oracle) (a0 : Int × Int × List (List Int)) : run1 E call is_l03Inverse [tPIPILA8 a0] = bs_l03Inverse call a0 := by kernel_rfl
theorem vs_l03Inverse (a0 : Int × Int × List (List Int)) {o : List TV} (h : bs_l03Inverse R a0 = some o) : R is_l03Inverse [tPIPILA8 a0] = some o := ev_step ((es_l03Inverse R a0).trans h)
/-- spec.InverseNormal -/
noncomputable def bs_InverseNormal (call : Oracle) (a0 : Int × Int × List (List Int)) : Option (List TV) :=
  (call is_l03Is [tPIPILA8 (a0.1, (a0.2.1, a0.2.2))]).bind fun o1 =>
  bif (!(gB o1 0)) then
    some [tPIPILA8 (0, (0, [])), tI 1]
  else
    (call is_l03Inverse [tPIPILA8 (a0.1, (a0.2.1, a0.2.2))]).bind fun o2 =>
    (call is_l03Fit [tPIPILA8 ((gPIPILA8 o2 0).1, (((gPIPILA8 o2 0).2).1, ((gPIPILA8 o2 0).2).2))]).bind fun o3 =>
    some [tPIPILA8 ((gPIPILA8 o3 0).1, (((gPIPILA8 o3 0).2).1, ((gPIPILA8 o3 0).2).2)), tI (gI o3 1)]
theorem es_InverseNormal (call : Oracle) (a0 : Int × Int × List (List Int)) : run1 E call is_InverseNormal [tPIPILA8 a0] = bs_InverseNormal call a0 := by kernel_rfl
theorem vs_InverseNormal (a0 : Int × Int × List (List Int)) {o : List TV} (h : bs_InverseNormal R a0 = some o) : R is_InverseNormal [tPIPILA8 a0] = some o := ev_step ((es_InverseNormal R a0).trans h)
/-- spec.DrawPowerNormal -/
noncomputable def bs_DrawPowerNormal (call : Oracle) (a0 : List Int) : Option (List TV) :=
  (call is_l01From [tLU8 a0]).bind fun o1 =>
  (call is_l03Some [tPLU8PIU64 ((gPLU8PIU64 o1 0).1, (((gPLU8PIU64 o1 0).2).1, ((gPLU8PIU64 o1 0).2).2))]).bind fun o2 =>
  (call is_l01Next [tPLU8PIU64 ((gPLU8PIU64 o2 1).1, (((gPLU8PIU64 o2 1).2).1, ((gPLU8PIU64 o2 1).2).2)), tI 5]).bind fun o3 =>
  (call is_l01Next [tPLU8PIU64 ((gPLU8PIU64 o3 1).1, (((gPLU8PIU64 o3 1).2).1, ((gPLU8PIU64 o3 1).2).2)), tI 9]).bind fun o4 =>
  (call is_l01Next [tPLU8PIU64 ((gPLU8PIU64 o4 1).1, (((gPLU8PIU64 o4 1).2).1, ((gPLU8PIU64 o4 1).2).2)), tI 30]).bind fun o5 =>
  (call is_l01Pick [tPLU8PIU64 ((gPLU8PIU64 o5 1).1, (((gPLU8PIU64 o5 1).2).1, ((gPLU8PIU64 o5 1).2).2)), tLI [(gI o3 0), (wi64 ((gI o4 0) - 4)), (wi64 ((gI o5 0) - 12)), 51]]).bind fun o6 =>
  some [tPIPILA8 ((gPIPILA8 o2 0).1, (((gPIPILA8 o2 0).2).1, ((gPIPILA8 o2 0).2).2)), tI (gI o6 0)]
theorem es_DrawPowerNormal (call : Oracle) (a0 : List Int) : run1 E call is_DrawPowerNormal [tLU8 a0] = bs_DrawPowerNormal call a0 := by kernel_rfl
theorem vs_DrawPowerNormal (a0 : List Int) {o : List TV} (h : bs_DrawPowerNormal R a0 = some o) : R is_DrawPowerNormal [tLU8 a0] = some o := ev_step ((es_DrawPowerNormal R a0).trans h)
/-- impl.PowerNormal loop 9 -/
noncomputable def bi_PowerNormal_9 (call : Oracle) (x0 : Int) (x1 : Int) (x2 : List (List Int)) (x3 : Int) (x4 : Int) (x5 : List (List Int)) (x6 : Int) (x7 : Int) (x8 : List (List Int)) (x9 : Int) (x10 : Int) : Option (List TV) :=
  bif decide (x10 < x9) then
    (call ii_product [tPIPILA8 (x6, (x7, x8)), tPIPILA8 (x3, (x4, x5))]).bind fun o7 =>
    (call ii_limited [tPIPILA8 ((gPIPILA8 o7 0).1, (((gPIPILA8 o7 0).2).1, ((gPIPILA8 o7 0).2).2))]).bind fun o8 =>
    bif ((gI o8 1) != 0) then
      some [tI 1, tI 0, tI 0, tLA8 [], tI (gI o8 1)]
    else
      call ii_PowerNormal_9 [tI x0, tI x1, tLA8 x2, tI x3, tI x4, tLA8 x5, tI ((gPIPILA8 o8 0).1), tI (((gPIPILA8 o8 0).2).1), tLA8 (((gPIPILA8 o8 0).2).2), tI x9, tI (wi64 (x10 + 1))]
  else
    some [tI 0, tI x0, tI x1, tLA8 x2, tI x6, tI x7, tLA8 x8]
theorem ei_PowerNormal_9 (call : Oracle) (x0 : Int) (x1 : Int) (x2 : List (List Int)) (x3 : Int) (x4 : Int) (x5 : List (List Int)) (x6 : Int) (x7 : Int) (x8 : List (List Int)) (x9 : Int) (x10 : Int) : run1 E call ii_PowerNormal_9 [tI x0, tI x1, tLA8 x2, tI x3, tI x4, tLA8 x5, tI x6, tI x7, tLA8 x8, tI x9, tI x10] = bi_PowerNormal_9 call x0 x1 x2 x3 x4 x5 x6 x7 x8 x9 x10 := by kernel_rfl
theorem vi_PowerNormal_9 (x0 : Int) (x1 : Int) (x2 : List (List Int)) (x3 : Int) (x4 : Int) (x5 : List (List Int)) (x6 : Int) (x7 : Int) (x8 : List (List Int)) (x9 : Int) (x10 : Int) {o : List TV} (h : bi_PowerNormal_9 R x0 x1 x2 x3 x4 x5 x6 x7 x8 x9 x10 = some o) : R ii_PowerNormal_9 [tI x0, tI x1, tLA8 x2, tI x3, tI x4, tLA8 x5, tI x6, tI x7, tLA8 x8, tI x9, tI x10] = some o := ev_step ((ei_PowerNormal_9 R x0 x1 x2 x3 x4 x5 x6 x7 x8 x9 x10).trans h)
/-- impl.PowerNormal -/
noncomputable def bi_PowerNormal (call : Oracle) (a0 : Int × Int × List (List Int)) (a1 : Int) : Option (List TV) :=
  (call ii_IsNormal [tPIPILA8 (a0.1, (a0.2.1, a0.2.2))]).bind fun o1 =>
  bif (!(gB o1 0)) then
    some [tPIPILA8 (0, (0, [])), tI 1]
  else
    (call ii_within [tI a1, tI (-50), tI 50]).bind fun o2 =>
    bif (!(gB o2 0)) then
      some [tPIPILA8 (0, (0, [])), tI 2]
    else
      bif decide (a1 < 0) then
        (call ii_inverse [tPIPILA8 (a0.1, (a0.2.1, a0.2.2))]).bind fun o3 =>
        (call ii_size [tI a1]).bind fun o4 =>
        (call ii_PowerNormal_9 [tI 0, tI 0, tLA8 [], tI ((gPIPILA8 o3 0).1), tI (((gPIPILA8 o3 0).2).1), tLA8 (((gPIPILA8 o3 0).2).2), tI a0.1, tI 0, tLA8 [], tI (gI o4 0), tI 0]).bind fun o9 =>
        bif ((gI o9 0) == 0) then
          some [tPIPILA8 ((gI o9 4), ((gI o9 5), (gLA8 o9 6))), tI 0]
        else
          some [tPIPILA8 ((gI o9 1), ((gI o9 2), (gLA8 o9 3))), tI (gI o9 4)]
      else
        (call ii_size [tI a1]).bind fun o10 =>
        (call ii_PowerNormal_9 [tI 0, tI 0, tLA8 [], tI a0.1, tI a0.2.1, tLA8 a0.2.2, tI a0.1, tI 0, tLA8 [], tI (gI o10 0), tI 0]).bind fun o11 =>
        bif ((gI o11 0) == 0) then
          some [tPIPILA8 ((gI o11 4), ((gI o11 5), (gLA8 o11 6))), tI 0]
        else
          some [tPIPILA8 ((gI o11 1), ((gI o11 2), (gLA8 o11 3))), tI (gI o11 4)]
theorem ei_PowerNormal (call : Oracle) (a0 : Int × Int × List (List Int)) (a1 : Int) : run1 E call ii_PowerNormal [tPIPILA8 a0, tI a1] = bi_PowerNormal call a0 a1 := by kernel_rfl
theorem vi_PowerNormal (a0 : Int × Int × List (List Int)) (a1 : Int) {o : List TV} (h : bi_PowerNormal R a0 a1 = some o) : R ii_PowerNormal [tPIPILA8 a0, tI a1] = some o := ev_step ((ei_PowerNormal R a0 a1).trans h)
/-- spec.PowerNormal loop 10 -/
noncomputable def bs_PowerNormal_10 (call : Oracle) (x0 : Int) (x1 : Int) (x2 : List (List Int)) (x3 : Int) (x4 : Int) (x5 : List (List Int)) (x6 : Int) (x7 : Int) (x8 : List (List Int)) (x9 : Int) : Option (List TV) :=
  bif decide (0 < x9) then
    (call is_l03Product [tPIPILA8 (x6, (x7, x8)), tPIPILA8 (x3, (x4, x5))]).bind fun o6 =>
    (call is_l03Fit [tPIPILA8 ((gPIPILA8 o6 0).1, (((gPIPILA8 o6 0).2).1, ((gPIPILA8 o6 0).2).2))]).bind fun o7 =>
    bif ((gI o7 1) != 0) then
      some [tI 1, tI 0, tI 0, tLA8 [], tI (gI o7 1)]
    else
      call is_PowerNormal_10 [tI x0, tI x1, tLA8 x2, tI x3, tI x4, tLA8 x5, tI ((gPIPILA8 o7 0).1), tI (((gPIPILA8 o7 0).2).1), tLA8 (((gPIPILA8 o7 0).2).2), tI (wi64 (x9 - 1))]
  else
    some [tI 0, tI x0, tI x1, tLA8 x2, tI x6, tI x7, tLA8 x8]
theorem es_PowerNormal_10 (call : Oracle) (x0 : Int) (x1 : Int) (x2 : List (List Int)) (x3 : Int) (x4 : Int) (x5 : List (List Int)) (x6 : Int) (x7 : Int) (x8 : List (List Int)) (x9 : Int) : run1 E call is_PowerNormal_10 [tI x0, tI x1, tLA8 x2, tI x3, tI x4, tLA8 x5, tI x6, tI x7, tLA8 x8, tI x9] = bs_PowerNormal_10 call x0 x1 x2 x3 x4 x5 x6 x7 x8 x9 := by kernel_rfl
theorem vs_PowerNormal_10 (x0 : Int) (x1 : Int) (x2 : List (List Int)) (x3 : Int) (x4 : Int) (x5 : List (List Int)) (x6 : Int) (x7 : Int) (x8 : List (List Int)) (x9 : Int) {o : List TV} (h : bs_PowerNormal_10 R x0 x1 x2 x3 x4 x5 x6 x7 x8 x9 = some o) : R is_PowerNormal_10 [tI x0, tI x1, tLA8 x2, tI x3, tI x4, tLA8 x5, tI x6, tI x7, tLA8 x8, tI x9] = some o := ev_step ((es_PowerNormal_10 R x0 x1 x2 x3 x4 x5 x6 x7 x8 x9).trans h)
/-- spec.PowerNormal -/
noncomputable def bs_PowerNormal (call : Oracle) (a0 : Int × Int × List (List Int)) (a1 : Int) : Option (List TV) :=
  (call is_l03Is [tPIPILA8 (a0.1, (a0.2.1, a0.2.2))]).bind fun o1 =>
  bif (!(gB o1 0)) then
    some [tPIPILA8 (0, (0, [])), tI 1]
  else
    (call is_l01In [tI a1, tI (-50), tI 50]).bind fun o2 =>
    bif (!(gB o2 0)) then
      some [tPIPILA8 (0, (0, [])), tI 2]
    else
      bif decide (a1 < 0) then
        (call is_l03Inverse [tPIPILA8 (a0.1, (a0.2.1, a0.2.2))]).bind fun o3 =>
        (call is_PowerNormal_10 [tI 0, tI 0, tLA8 [], tI ((gPIPILA8 o3 0).1), tI (((gPIPILA8 o3 0).2).1), tLA8 (((gPIPILA8 o3 0).2).2), tI a0.1, tI 0, tLA8 [], tI (wi64 (0 - a1))]).bind fun o8 =>
        bif ((gI o8 0) == 0) then
          some [tPIPILA8 ((gI o8 4), ((gI o8 5), (gLA8 o8 6))), tI 0]
        else
          some [tPIPILA8 ((gI o8 1), ((gI o8 2), (gLA8 o8 3))), tI (gI o8 4)]
      else
        (call is_PowerNormal_10 [tI 0, tI 0, tLA8 [], tI a0.1, tI a0.2.1, tLA8 a0.2.2, tI a0.1, tI 0, tLA8 [], tI a1]).bind fun o9 =>
        bif ((gI o9 0) == 0) then
          some [tPIPILA8 ((gI o9 4), ((gI o9 5), (gLA8 o9 6))), tI 0]
        else
          some [tPIPILA8 ((gI o9 1), ((gI o9 2), (gLA8 o9 3))), tI (gI o9 4)]
theorem es_PowerNormal (call : Oracle) (a0 : Int × Int × List (List Int)) (a1 : Int) : run1 E call is_PowerNormal [tPIPILA8 a0, tI a1] = bs_PowerNormal call a0 a1 := by kernel_rfl
theorem vs_PowerNormal (a0 : Int × Int × List (List Int)) (a1 : Int) {o : List TV} (h : bs_PowerNormal R a0 a1 = some o) : R is_PowerNormal [tPIPILA8 a0, tI a1] = some o := ev_step ((es_PowerNormal R a0 a1).trans h)
/-- laws.trivial9 -/
noncomputable def bw_trivial9 (call : Oracle) (a0 : Int × Int × List (List Int)) : Option (List TV) :=
  bif (a0.2.1 == 0) then
    some [tB (((List.length a0.2.2 : Nat) : Int) == 0)]
  else
    some [tB false]
theorem ew_trivial9 (call : Oracle) (a0 : Int × Int × List (List Int)) : run1 E call iw_trivial9 [tPIPILA8 a0] = bw_trivial9 call a0 := by kernel_rfl
theorem vw_trivial9 (a0 : Int × Int × List (List Int)) {o : List TV} (h : bw_trivial9 R a0 = some o) : R iw_trivial9 [tPIPILA8 a0] = some o := ev_step ((ew_trivial9 R a0).trans h)
/-- laws.roll loop 3 -/
noncomputable def bw_roll_3 (call : Oracle) (x0 : List Int) (x1 : Int) (x2 : Int) (x3 : Int) : Option (List TV) :=
  bif decide (x3 < ((List.length x0 : Nat) : Int)) then
    bif (decide (0 ≤ x3) && decide (x3 < ((List.length x0 : Nat) : Int))) then
      call iw_roll_3 [tLU8 x0, tI x1, tU64 (wu64 ((wu64 ((wu64 (x2 * 1099511628211)) + (wu64 ((List.getD x0 (Int.toNat x3) 0))))) + 5)), tI (wi64 (x3 + 1))]
    else none
  else
    some [tI 0, tI x1, tU64 x2, tLU8 x0]
theorem ew_roll_3 (call : Oracle) (x0 : List Int) (x1 : Int) (x2 : Int) (x3 : Int) : run1 E call iw_roll_3 [tLU8 x0, tI x1, tU64 x2, tI x3] = bw_roll_3 call x0 x1 x2 x3 := by kernel_rfl
theorem vw_roll_3 (x0 : List Int) (x1 : Int) (x2 : Int) (x3 : Int) {o : List TV} (h : bw_roll_3 R x0 x1 x2 x3 = some o) : R iw_roll_3 [tLU8 x0, tI x1, tU64 x2, tI x3] = some o := ev_step ((ew_roll_3 R x0 x1 x2 x3).trans h)
/-- laws.roll -/
noncomputable def bw_roll (call : Oracle) (a0 : List Int) (a1 : Int) : Option (List TV) :=
  (call iw_roll_3 [tLU8 a0, tI 0, tU64 (wu64 ((wu64 (a1 * 7919)) + (wu64 (((List.length a0 : Nat) : Int))))), tI 0]).bind fun o1 =>
  some [tPLU8PIU64 ((gLU8 o1 3), ((gI o1 1), (gU64 o1 2)))]
theorem ew_roll (call : Oracle) (a0 : List Int) (a1 : Int) : run1 E call iw_roll [tLU8 a0, tU64 a1] = bw_roll call a0 a1 := by kernel_rfl
theorem vw_roll (a0 : List Int) (a1 : Int) {o : List TV} (h : bw_roll R a0 a1 = some o) : R iw_roll [tLU8 a0, tU64 a1] = some o := ev_step ((ew_roll R a0 a1).trans h)
/-- (*laws.dice).below -/
noncomputable def b__w_dice__below (call : Oracle) (a0 : List Int × Int × Int) (a1 : Int) : Option (List TV) :=
  bif decide (a1 < 1) then
    some [tI 0, tPLU8PIU64 (a0.1, (a0.2.1, a0.2.2))]
  else
    bif decide (a0.2.1 < ((List.length a0.1 : Nat) : Int)) then
      bif (decide (0 ≤ a0.2.1) && decide (a0.2.1 < ((List.length a0.1 : Nat) : Int))) then
        bif (a1 != 0) then
          some [tI (Int.tmod (wi64 ((wi64 ((bitsAnd .u64 (shr .u64 (wu64 ((wu64 (a0.2.2 * 6364136223846793005)) + 1442695040888963407)) 33) 16777215))) + (wi64 ((List.getD a0.1 (Int.toNat a0.2.1) 0))))) a1), tPLU8PIU64 (a0.1, ((wi64 (a0.2.1 + 1)), (wu64 ((wu64 (a0.2.2 * 6364136223846793005)) + 1442695040888963407))))]
        else none
      else none
    else
      bif (a1 != 0) then
        some [tI (Int.tmod (wi64 ((bitsAnd .u64 (shr .u64 (wu64 ((wu64 (a0.2.2 * 6364136223846793005)) + 1442695040888963407)) 33) 16777215))) a1), tPLU8PIU64 (a0.1, (a0.2.1, (wu64 ((wu64 (a0.2.2 * 6364136223846793005)) + 1442695040888963407))))]
      else none
theorem e__w_dice__below (call : Oracle) (a0 : List Int × Int × Int) (a1 : Int) : run1 E call i__w_dice__below [tPLU8PIU64 a0, tI a1] = b__w_dice__below call a0 a1 := by kernel_rfl
theorem v__w_dice__below (a0 : List Int × Int × Int) (a1 : Int) {o : List TV} (h : b__w_dice__below R a0 a1 = some o) : R i__w_dice__below [tPLU8PIU64 a0, tI a1] = some o := ev_step ((e__w_dice__below R a0 a1).trans h)
/-- laws.letters9 loop 2 -/
noncomputable def bw_letters9_2 (call : Oracle) (x0 : Int) (x1 : Int) (x2 : List Int) (x3 : List Int) (x4 : Int) (x5 : Int) : Option (List TV) :=
  bif decide (0 < x5) then
    bif decide (1 < x4) then
      (call i__w_dice__below [tPLU8PIU64 (x2, (x0, x1)), tI (wi64 (x4 - 1))]).bind fun o3 =>
      (call i__w_dice__below [tPLU8PIU64 ((gPLU8PIU64 o3 1).1, (((gPLU8PIU64 o3 1).2).1, ((gPLU8PIU64 o3 1).2).2)), tI 2]).bind fun o4 =>
      bif (apOk x3 [(wi64 ((wi64 (1 + (gI o3 0))) * (wi64 (1 - (wi64 (2 * (gI o4 0)))))))]) then
        call iw_letters9_2 [tI (((gPLU8PIU64 o4 1).2).1), tU64 (((gPLU8PIU64 o4 1).2).2), tLU8 ((gPLU8PIU64 o4 1).1), tLI (x3 ++ [(wi64 ((wi64 (1 + (gI o3 0))) * (wi64 (1 - (wi64 (2 * (gI o4 0)))))))]), tI x4, tI (wi64 (x5 - 1))]
      else none
    else
      some [tI 0, tI x0, tU64 x1, tLU8 x2, tLI x3]
  else
    some [tI 0, tI x0, tU64 x1, tLU8 x2, tLI x3]
theorem ew_letters9_2 (call : Oracle) (x0 : Int) (x1 : Int) (x2 : List Int) (x3 : List Int) (x4 : Int) (x5 : Int) : run1 E call iw_letters9_2 [tI x0, tU64 x1, tLU8 x2, tLI x3, tI x4, tI x5] = bw_letters9_2 call x0 x1 x2 x3 x4 x5 := by kernel_rfl
theorem vw_letters9_2 (x0 : Int) (x1 : Int) (x2 : List Int) (x3 : List Int) (x4 : Int) (x5 : Int) {o : List TV} (h : bw_letters9_2 R x0 x1 x2 x3 x4 x5 = some o) : R iw_letters9_2 [tI x0, tU64 x1, tLU8 x2, tLI x3, tI x4, tI x5] = some o := ev_step ((ew_letters9_2 R x0 x1 x2 x3 x4 x5).trans h)
/-- laws.letters9 -/
noncomputable def bw_letters9 (call : Oracle) (a0 : List Int × Int × Int) (a1 : Int) (a2 : Int) : Option (List TV) :=
  (call iw_letters9_2 [tI a0.2.1, tU64 a0.2.2, tLU8 a0.1, tLI [], tI a1, tI a2]).bind fun o5 =>
  some [tLI (gLI o5 4), tPLU8PIU64 ((gLU8 o5 3), ((gI o5 1), (gU64 o5 2)))]
theorem ew_letters9 (call : Oracle) (a0 : List Int × Int × Int) (a1 : Int) (a2 : Int) : run1 E call iw_letters9 [tPLU8PIU64 a0, tI a1, tI a2] = bw_letters9 call a0 a1 a2 := by kernel_rfl
theorem vw_letters9 (a0 : List Int × Int × Int) (a1 : Int) (a2 : Int) {o : List TV} (h : bw_letters9 R a0 a1 a2 = some o) : R iw_letters9 [tPLU8PIU64 a0, tI a1, tI a2] = some o := ev_step ((ew_letters9 R a0 a1 a2).trans h)
/-- laws.FnNormalProducts join 23 -/
noncomputable def bw_FnNormalProducts_j23 (call : Oracle) (x0 : List Int) (x1 : Int) (x2 : Int) (x3 : List (List Int)) (x4 : Int) (x5 : Int) (x6 : List (List Int)) (x7 : Int) (x8 : Int) (x9 : List (List Int)) (x10 : Int) (x11 : Int) (x12 : List (List Int)) (x13 : Int) (x14 : Int) (x15 : List (List Int)) (x16 : Int) (x17 : Int) (x18 : Int) : Option (List TV) :=
  bif (x18 == 0) then
    bif decide (0 ≤ x17) then
      bif decide (x17 < 50) then
        (call ii_PowerNormal [tPIPILA8 (x10, (x11, x12)), tI (wi64 (x17 + 1))]).bind fun o48 =>
        (call ii_MultiplyNormals [tPIPILA8 (x13, (x14, x15)), tPIPILA8 (x10, (x11, x12))]).bind fun o49 =>
        bif ((gI o48 1) == 0) then
          bif ((gI o49 1) != 0) then
            some [tI 0, tB false]
          else
            (call iw_normal9 [tPIPILA8 ((gPIPILA8 o48 0).1, (((gPIPILA8 o48 0).2).1, ((gPIPILA8 o48 0).2).2)), tPIPILA8 ((gPIPILA8 o49 0).1, (((gPIPILA8 o49 0).2).1, ((gPIPILA8 o49 0).2).2))]).bind fun o50 =>
            bif (!(gB o50 0)) then
              some [tI 0, tB false]
            else
              (call iw_FnNormalProducts_j28 [tLU8 x0, tI x1, tI x2, tLA8 x3, tI x4, tI x5, tLA8 x6, tI x7, tI x8, tLA8 x9, tI x16]).bind fun o51 =>
              some [tI 0, tB (gB o51 1)]
        else
          (call iw_FnNormalProducts_j28 [tLU8 x0, tI x1, tI x2, tLA8 x3, tI x4, tI x5, tLA8 x6, tI x7, tI x8, tLA8 x9, tI x16]).bind fun o52 =>
          some [tI 0, tB (gB o52 1)]
      else
        (call iw_FnNormalProducts_j28 [tLU8 x0, tI x1, tI x2, tLA8 x3, tI x4, tI x5, tLA8 x6, tI x7, tI x8, tLA8 x9, tI x16]).bind fun o53 =>
        some [tI 0, tB (gB o53 1)]
    else
      (call iw_FnNormalProducts_j28 [tLU8 x0, tI x1, tI x2, tLA8 x3, tI x4, tI x5, tLA8 x6, tI x7, tI x8, tLA8 x9, tI x16]).bind fun o54 =>
      some [tI 0, tB (gB o54 1)]
  else
    (call iw_FnNormalProducts_j28 [tLU8 x0, tI x1, tI x2, tLA8 x3, tI x4, tI x5, tLA8 x6, tI x7, tI x8, tLA8 x9, tI x16]).bind fun o55 =>
    some [tI 0, tB (gB o55 1)]
theorem ew_FnNormalProducts_j23 (call : Oracle) (x0 : List Int) (x1 : Int) (x2 : Int) (x3 : List (List Int)) (x4 : Int) (x5 : Int) (x6 : List (List Int)) (x7 : Int) (x8 : Int) (x9 : List (List Int)) (x10 : Int) (x11 : Int) (x12 : List (List Int)) (x13 : Int) (x14 : Int) (x15 : List (List Int)) (x16 : Int) (x17 : Int) (x18 : Int) : run1 E call iw_FnNormalProducts_j23 [tLU8 x0, tI x1, tI x2, tLA8 x3, tI x4, tI x5, tLA8 x6, tI x7, tI x8, tLA8 x9, tI x10, tI x11, tLA8 x12, tI x13, tI x14, tLA8 x15, tI x16, tI x17, tI x18] = bw_FnNormalProducts_j23 call x0 x1 x2 x3 x4 x5 x6 x7 x8 x9 x10 x11 x12 x13 x14 x15 x16 x17 x18 := by kernel_rfl
theorem vw_FnNormalProducts_j23 (x0 : List Int) (x1 : Int) (x2 : Int) (x3 : List (List Int)) (x4 : Int) (x5 : Int) (x6 : List (List Int)) (x7 : Int) (x8 : Int) (x9 : List (List Int)) (x10 : Int) (x11 : Int) (x12 : List (List Int)) (x13 : Int) (x14 : Int) (x15 : List (List Int)) (x16 : Int) (x17 : Int) (x18 : Int) {o : List TV} (h : bw_FnNormalProducts_j23 R x0 x1 x2 x3 x4 x5 x6 x7 x8 x9 x10 x11 x12 x13 x14 x15 x16 x17 x18 = some o) : R iw_FnNormalProducts_j23 [tLU8 x0, tI x1, tI x2, tLA8 x3, tI x4, tI x5, tLA8 x6, tI x7, tI x8, tLA8 x9, tI x10, tI x11, tLA8 x12, tI x13, tI x14, tLA8 x15, tI x16, tI x17, tI x18] = some o := ev_step ((ew_FnNormalProducts_j23 R x0 x1 x2 x3 x4 x5 x6 x7 x8 x9 x10 x11 x12 x13 x14 x15 x16 x17 x18).trans h)
/-- laws.FnNormalProducts join 28 -/
noncomputable def bw_FnNormalProducts_j28 (call : Oracle) (x0 : List Int) (x1 : Int) (x2 : Int) (x3 : List (List Int)) (x4 : Int) (x5 : Int) (x6 : List (List Int)) (x7 : Int) (x8 : Int) (x9 : List (List Int)) (x10 : Int) : Option (List TV) :=
  bif (x10 != 0) then
    some [tI 0, tB (((List.length x9 : Nat) : Int) == 0)]
  else
    bif decide (x8 < (wi64 (x2 + x5))) then
      some [tI 0, tB false]
    else
      bif decide ((wi64 ((wi64 (x2 + x5)) + (wi64 (((List.length x3 : Nat) : Int) + ((List.length x6 : Nat) : Int))))) < (wi64 (x8 + ((List.length x9 : Nat) : Int)))) then
        some [tI 0, tB false]
      else
        (call iw_roll [tLU8 x0, tU64 9903]).bind fun o32 =>
        (call iw_letters9 [tPLU8PIU64 ((gPLU8PIU64 o32 0).1, (((gPLU8PIU64 o32 0).2).1, ((gPLU8PIU64 o32 0).2).2)), tI x1, tI 6]).bind fun o33 =>
        (call ii_NormalOf [tPILI (x1, (gLI o33 0))]).bind fun o34 =>
        (call ii_MultiplyNormals [tPIPILA8 (x7, (x8, x9)), tPIPILA8 ((gPIPILA8 o34 0).1, (((gPIPILA8 o34 0).2).1, ((gPIPILA8 o34 0).2).2))]).bind fun o35 =>
        (call ii_MultiplyNormals [tPIPILA8 (x4, (x5, x6)), tPIPILA8 ((gPIPILA8 o34 0).1, (((gPIPILA8 o34 0).2).1, ((gPIPILA8 o34 0).2).2))]).bind fun o36 =>
        bif ((gI o34 1) != 0) then
          some [tI 0, tB false]
        else
          bif ((gI o35 1) != 0) then
            some [tI 0, tB true]
          else
            bif ((gI o36 1) != 0) then
              some [tI 0, tB true]
            else
              (call ii_MultiplyNormals [tPIPILA8 (x1, (x2, x3)), tPIPILA8 ((gPIPILA8 o36 0).1, (((gPIPILA8 o36 0).2).1, ((gPIPILA8 o36 0).2).2))]).bind fun o37 =>
              bif ((gI o37 1) != 0) then
                some [tI 0, tB false]
              else
                (call iw_normal9 [tPIPILA8 ((gPIPILA8 o35 0).1, (((gPIPILA8 o35 0).2).1, ((gPIPILA8 o35 0).2).2)), tPIPILA8 ((gPIPILA8 o37 0).1, (((gPIPILA8 o37 0).2).1, ((gPIPILA8 o37 0).2).2))]).bind fun o38 =>
                bif (!(gB o38 0)) then
                  some [tI 0, tB false]
                else
                  (call ii_WordOfNormal [tPIPILA8 (x1, (x2, x3))]).bind fun o39 =>
                  (call ii_WordOfNormal [tPIPILA8 (x4, (x5, x6))]).bind fun o40 =>
                  bif ((gI o39 1) != 0) then
                    some [tI 0, tB true]
                  else
                    bif ((gI o40 1) != 0) then
                      some [tI 0, tB true]
                    else
                      bif decide (200 < (wi64 (((List.length (gLI o39 0) : Nat) : Int) + ((List.length (gLI o40 0) : Nat) : Int)))) then
                        some [tI 0, tB true]
                      else
                        bif (apOk [] (gLI o39 0)) then
                          bif (apOk (gLI o39 0) (gLI o40 0)) then
                            (call ii_NormalOf [tPILI (x1, ((gLI o39 0) ++ (gLI o40 0)))]).bind fun o41 =>
                            bif ((gI o41 1) == 0) then
                              (call iw_normal9 [tPIPILA8 ((gPIPILA8 o41 0).1, (((gPIPILA8 o41 0).2).1, ((gPIPILA8 o41 0).2).2)), tPIPILA8 (x7, (x8, x9))]).bind fun o42 =>
                              some [tI 0, tB (gB o42 0)]
                            else
                              some [tI 0, tB false]
                          else none
                        else none
theorem ew_FnNormalProducts_j28 (call : Oracle) (x0 : List Int) (x1 : Int) (x2 : Int) (x3 : List (List Int)) (x4 : Int) (x5 : Int) (x6 : List (List Int)) (x7 : Int) (x8 : Int) (x9 : List (List Int)) (x10 : Int) : run1 E call iw_FnNormalProducts_j28 [tLU8 x0, tI x1, tI x2, tLA8 x3, tI x4, tI x5, tLA8 x6, tI x7, tI x8, tLA8 x9, tI x10] = bw_FnNormalProducts_j28 call x0 x1 x2 x3 x4 x5 x6 x7 x8 x9 x10 := by kernel_rfl
theorem vw_FnNormalProducts_j28 (x0 : List Int) (x1 : Int) (x2 : Int) (x3 : List (List Int)) (x4 : Int) (x5 : Int) (x6 : List (List Int)) (x7 : Int) (x8 : Int) (x9 : List (List Int)) (x10 : Int) {o : List TV} (h : bw_FnNormalProducts_j28 R x0 x1 x2 x3 x4 x5 x6 x7 x8 x9 x10 = some o) : R iw_FnNormalProducts_j28 [tLU8 x0, tI x1, tI x2, tLA8 x3, tI x4, tI x5, tLA8 x6, tI x7, tI x8, tLA8 x9, tI x10] = some o := ev_step ((ew_FnNormalProducts_j28 R x0 x1 x2 x3 x4 x5 x6 x7 x8 x9 x10).trans h)
/-- laws.FnNormalProducts -/
noncomputable def bw_FnNormalProducts (call : Oracle) (a0 : List Int) : Option (List TV) :=
  (call iw_big [tLU8 a0]).bind fun o1 =>
  bif (gB o1 0) then
    some [tB true]
  else
    (call is_DrawMultiplyNormals [tLU8 a0]).bind fun o2 =>
    (call ii_MultiplyNormals [tPIPILA8 ((gPIPILA8 o2 0).1, (((gPIPILA8 o2 0).2).1, ((gPIPILA8 o2 0).2).2)), tPIPILA8 ((gPIPILA8 o2 1).1, (((gPIPILA8 o2 1).2).1, ((gPIPILA8 o2 1).2).2))]).bind fun o3 =>
    (call is_MultiplyNormals [tPIPILA8 ((gPIPILA8 o2 0).1, (((gPIPILA8 o2 0).2).1, ((gPIPILA8 o2 0).2).2)), tPIPILA8 ((gPIPILA8 o2 1).1, (((gPIPILA8 o2 1).2).1, ((gPIPILA8 o2 1).2).2))]).bind fun o4 =>
    bif ((gI o3 1) != (gI o4 1)) then
      some [tB false]
    else
      (call iw_normal9 [tPIPILA8 ((gPIPILA8 o3 0).1, (((gPIPILA8 o3 0).2).1, ((gPIPILA8 o3 0).2).2)), tPIPILA8 ((gPIPILA8 o4 0).1, (((gPIPILA8 o4 0).2).1, ((gPIPILA8 o4 0).2).2))]).bind fun o5 =>
      bif (!(gB o5 0)) then
        some [tB false]
      else
        (call is_DrawInverseNormal [tLU8 a0]).bind fun o6 =>
        (call ii_InverseNormal [tPIPILA8 ((gPIPILA8 o6 0).1, (((gPIPILA8 o6 0).2).1, ((gPIPILA8 o6 0).2).2))]).bind fun o7 =>
        (call is_InverseNormal [tPIPILA8 ((gPIPILA8 o6 0).1, (((gPIPILA8 o6 0).2).1, ((gPIPILA8 o6 0).2).2))]).bind fun o8 =>
        bif ((gI o7 1) != (gI o8 1)) then
          some [tB false]
        else
          (call iw_normal9 [tPIPILA8 ((gPIPILA8 o7 0).1, (((gPIPILA8 o7 0).2).1, ((gPIPILA8 o7 0).2).2)), tPIPILA8 ((gPIPILA8 o8 0).1, (((gPIPILA8 o8 0).2).1, ((gPIPILA8 o8 0).2).2))]).bind fun o9 =>
          bif (!(gB o9 0)) then
            some [tB false]
          else
            (call is_DrawPowerNormal [tLU8 a0]).bind fun o10 =>
            (call ii_PowerNormal [tPIPILA8 ((gPIPILA8 o10 0).1, (((gPIPILA8 o10 0).2).1, ((gPIPILA8 o10 0).2).2)), tI (gI o10 1)]).bind fun o11 =>
            (call is_PowerNormal [tPIPILA8 ((gPIPILA8 o10 0).1, (((gPIPILA8 o10 0).2).1, ((gPIPILA8 o10 0).2).2)), tI (gI o10 1)]).bind fun o12 =>
            bif ((gI o11 1) != (gI o12 1)) then
              some [tB false]
            else
              (call iw_normal9 [tPIPILA8 ((gPIPILA8 o11 0).1, (((gPIPILA8 o11 0).2).1, ((gPIPILA8 o11 0).2).2)), tPIPILA8 ((gPIPILA8 o12 0).1, (((gPIPILA8 o12 0).2).1, ((gPIPILA8 o12 0).2).2))]).bind fun o13 =>
              bif (!(gB o13 0)) then
                some [tB false]
              else
                bif ((gI o7 1) == 0) then
                  (call ii_MultiplyNormals [tPIPILA8 ((gPIPILA8 o6 0).1, (((gPIPILA8 o6 0).2).1, ((gPIPILA8 o6 0).2).2)), tPIPILA8 ((gPIPILA8 o7 0).1, (((gPIPILA8 o7 0).2).1, ((gPIPILA8 o7 0).2).2))]).bind fun o14 =>
                  (call ii_MultiplyNormals [tPIPILA8 ((gPIPILA8 o7 0).1, (((gPIPILA8 o7 0).2).1, ((gPIPILA8 o7 0).2).2)), tPIPILA8 ((gPIPILA8 o6 0).1, (((gPIPILA8 o6 0).2).1, ((gPIPILA8 o6 0).2).2))]).bind fun o15 =>
                  bif ((gI o14 1) != 0) then
                    some [tB false]
                  else
                    bif ((gI o15 1) != 0) then
                      some [tB false]
                    else
                      (call iw_trivial9 [tPIPILA8 ((gPIPILA8 o14 0).1, (((gPIPILA8 o14 0).2).1, ((gPIPILA8 o14 0).2).2))]).bind fun o16 =>
                      bif (!(gB o16 0)) then
                        some [tB false]
                      else
                        (call iw_trivial9 [tPIPILA8 ((gPIPILA8 o15 0).1, (((gPIPILA8 o15 0).2).1, ((gPIPILA8 o15 0).2).2))]).bind fun o17 =>
                        bif (!(gB o17 0)) then
                          some [tB false]
                        else
                          (call iw_FnNormalProducts_j23 [tLU8 a0, tI ((gPIPILA8 o2 0).1), tI (((gPIPILA8 o2 0).2).1), tLA8 (((gPIPILA8 o2 0).2).2), tI ((gPIPILA8 o2 1).1), tI (((gPIPILA8 o2 1).2).1), tLA8 (((gPIPILA8 o2 1).2).2), tI ((gPIPILA8 o3 0).1), tI (((gPIPILA8 o3 0).2).1), tLA8 (((gPIPILA8 o3 0).2).2), tI ((gPIPILA8 o10 0).1), tI (((gPIPILA8 o10 0).2).1), tLA8 (((gPIPILA8 o10 0).2).2), tI ((gPIPILA8 o11 0).1), tI (((gPIPILA8 o11 0).2).1), tLA8 (((gPIPILA8 o11 0).2).2), tI (gI o3 1), tI (gI o10 1), tI (gI o11 1)]).bind fun o56 =>
                          some [tB (gB o56 1)]
                else
                  (call iw_FnNormalProducts_j23 [tLU8 a0, tI ((gPIPILA8 o2 0).1), tI (((gPIPILA8 o2 0).2).1), tLA8 (((gPIPILA8 o2 0).2).2), tI ((gPIPILA8 o2 1).1), tI (((gPIPILA8 o2 1).2).1), tLA8 (((gPIPILA8 o2 1).2).2), tI ((gPIPILA8 o3 0).1), tI (((gPIPILA8 o3 0).2).1), tLA8 (((gPIPILA8 o3 0).2).2), tI ((gPIPILA8 o10 0).1), tI (((gPIPILA8 o10 0).2).1), tLA8 (((gPIPILA8 o10 0).2).2), tI ((gPIPILA8 o11 0).1), tI (((gPIPILA8 o11 0).2).1), tLA8 (((gPIPILA8 o11 0).2).2), tI (gI o3 1), tI (gI o10 1), tI (gI o11 1)]).bind fun o57 =>
                  some [tB (gB o57 1)]
theorem ew_FnNormalProducts (call : Oracle) (a0 : List Int) : run1 E call iw_FnNormalProducts [tLU8 a0] = bw_FnNormalProducts call a0 := by kernel_rfl
theorem vw_FnNormalProducts (a0 : List Int) {o : List TV} (h : bw_FnNormalProducts R a0 = some o) : R iw_FnNormalProducts [tLU8 a0] = some o := ev_step ((ew_FnNormalProducts R a0).trans h)
/-- spec.l03Up -/
noncomputable def bs_l03Up (call : Oracle) (a0 : List Int) : Option (List TV) :=
  (call is_l01From [tLU8 a0]).bind fun o1 =>
  (call is_l03Pair [tLU8 a0]).bind fun o2 =>
  (call is_l01Next [tPLU8PIU64 ((gPLU8PIU64 o1 0).1, (((gPLU8PIU64 o1 0).2).1, ((gPLU8PIU64 o1 0).2).2)), tI 10]).bind fun o3 =>
  bif decide (0 < (gI o3 0)) then
    (call is_l03Is [tPIPILA8 ((gPIPILA8 o2 0).1, (((gPIPILA8 o2 0).2).1, ((gPIPILA8 o2 0).2).2))]).bind fun o4 =>
    bif (gB o4 0) then
      (call is_l03Is [tPIPILA8 ((gPIPILA8 o2 1).1, (((gPIPILA8 o2 1).2).1, ((gPIPILA8 o2 1).2).2))]).bind fun o5 =>
      bif (gB o5 0) then
        (call is_l01Next [tPLU8PIU64 ((gPLU8PIU64 o3 1).1, (((gPLU8PIU64 o3 1).2).1, ((gPLU8PIU64 o3 1).2).2)), tI 2]).bind fun o6 =>
        (call is_l01Next [tPLU8PIU64 ((gPLU8PIU64 o6 1).1, (((gPLU8PIU64 o6 1).2).1, ((gPLU8PIU64 o6 1).2).2)), tI 3]).bind fun o7 =>
        bif decide ((gPIPILA8 o2 0).1 < 2) then
          (call is_l01Next [tPLU8PIU64 ((gPLU8PIU64 o7 1).1, (((gPLU8PIU64 o7 1).2).1, ((gPLU8PIU64 o7 1).2).2)), tI 3]).bind fun o8 =>
          bif ((gI o8 0) == 0) then
            bif ((gPIPILA8 o2 0).1 == (gPIPILA8 o2 1).1) then
              (call is_l03Product [tPIPILA8 ((gPIPILA8 o2 0).1, (0, ((gPIPILA8 o2 0).2).2)), tPIPILA8 ((gPIPILA8 o2 1).1, (0, ((gPIPILA8 o2 1).2).2))]).bind fun o9 =>
              some [tPIPILA8 ((gPIPILA8 o2 0).1, (0, ((gPIPILA8 o2 0).2).2)), tPIPILA8 ((gPIPILA8 o9 0).1, (((gPIPILA8 o9 0).2).1, ((gPIPILA8 o9 0).2).2))]
            else
              some [tPIPILA8 ((gPIPILA8 o2 0).1, (0, ((gPIPILA8 o2 0).2).2)), tPIPILA8 ((gPIPILA8 o2 1).1, (0, ((gPIPILA8 o2 1).2).2))]
          else
            some [tPIPILA8 ((gPIPILA8 o2 0).1, (0, ((gPIPILA8 o2 0).2).2)), tPIPILA8 ((gPIPILA8 o2 1).1, (0, ((gPIPILA8 o2 1).2).2))]
        else
          bif decide ((gPIPILA8 o2 1).1 < 2) then
            (call is_l01Next [tPLU8PIU64 ((gPLU8PIU64 o7 1).1, (((gPLU8PIU64 o7 1).2).1, ((gPLU8PIU64 o7 1).2).2)), tI 3]).bind fun o10 =>
            bif ((gI o10 0) == 0) then
              bif ((gPIPILA8 o2 0).1 == (gPIPILA8 o2 1).1) then
                (call is_l03Product [tPIPILA8 ((gPIPILA8 o2 0).1, (0, ((gPIPILA8 o2 0).2).2)), tPIPILA8 ((gPIPILA8 o2 1).1, (0, ((gPIPILA8 o2 1).2).2))]).bind fun o11 =>
                some [tPIPILA8 ((gPIPILA8 o2 0).1, (0, ((gPIPILA8 o2 0).2).2)), tPIPILA8 ((gPIPILA8 o11 0).1, (((gPIPILA8 o11 0).2).1, ((gPIPILA8 o11 0).2).2))]
              else
                some [tPIPILA8 ((gPIPILA8 o2 0).1, (0, ((gPIPILA8 o2 0).2).2)), tPIPILA8 ((gPIPILA8 o2 1).1, (0, ((gPIPILA8 o2 1).2).2))]
            else
              some [tPIPILA8 ((gPIPILA8 o2 0).1, (0, ((gPIPILA8 o2 0).2).2)), tPIPILA8 ((gPIPILA8 o2 1).1, (0, ((gPIPILA8 o2 1).2).2))]
          else
            (call is_l01Next [tPLU8PIU64 ((gPLU8PIU64 o7 1).1, (((gPLU8PIU64 o7 1).2).1, ((gPLU8PIU64 o7 1).2).2)), tI 3]).bind fun o12 =>
            bif ((gI o12 0) == 0) then
              bif ((gPIPILA8 o2 0).1 == (gPIPILA8 o2 1).1) then
                (call is_l03Product [tPIPILA8 ((gPIPILA8 o2 0).1, ((gI o6 0), ((gPIPILA8 o2 0).2).2)), tPIPILA8 ((gPIPILA8 o2 1).1, ((gI o7 0), ((gPIPILA8 o2 1).2).2))]).bind fun o13 =>
                some [tPIPILA8 ((gPIPILA8 o2 0).1, ((gI o6 0), ((gPIPILA8 o2 0).2).2)), tPIPILA8 ((gPIPILA8 o13 0).1, (((gPIPILA8 o13 0).2).1, ((gPIPILA8 o13 0).2).2))]
              else
                some [tPIPILA8 ((gPIPILA8 o2 0).1, ((gI o6 0), ((gPIPILA8 o2 0).2).2)), tPIPILA8 ((gPIPILA8 o2 1).1, ((gI o7 0), ((gPIPILA8 o2 1).2).2))]
            else
              some [tPIPILA8 ((gPIPILA8 o2 0).1, ((gI o6 0), ((gPIPILA8 o2 0).2).2)), tPIPILA8 ((gPIPILA8 o2 1).1, ((gI o7 0), ((gPIPILA8 o2 1).2).2))]
      else
        some [tPIPILA8 ((gPIPILA8 o2 0).1, (((gPIPILA8 o2 0).2).1, ((gPIPILA8 o2 0).2).2)), tPIPILA8 ((gPIPILA8 o2 1).1, (((gPIPILA8 o2 1).2).1, ((gPIPILA8 o2 1).2).2))]
    else
      some [tPIPILA8 ((gPIPILA8 o2 0).1, (((gPIPILA8 o2 0).2).1, ((gPIPILA8 o2 0).2).2)), tPIPILA8 ((gPIPILA8 o2 1).1, (((gPIPILA8 o2 1).2).1, ((gPIPILA8 o2 1).2).2))]
  else
    some [tPIPILA8 ((gPIPILA8 o2 0).1, (((gPIPILA8 o2 0).2).1, ((gPIPILA8 o2 0).2).2)), tPIPILA8 ((gPIPILA8 o2 1).1, (((gPIPILA8 o2 1).2).1, ((gPIPILA8 o2 1).2).2))]
theorem es_l03Up (call : Oracle) (a0 : List Int) : run1 E call is_l03Up [tLU8 a0] = bs_l03Up call a0 := by kernel_rfl
theorem vs_l03Up (a0 : List Int) {o : List TV} (h : bs_l03Up R a0 = some o) : R is_l03Up [tLU8 a0] = some o := ev_step ((es_l03Up R a0).trans h)
/-- spec.DrawCommonBeginning -/
noncomputable def bs_DrawCommonBeginning (call : Oracle) (a0 : List Int) : Option (List TV) :=
  (call is_l03Up [tLU8 a0]).bind fun o1 =>
  some [tPIPILA8 ((gPIPILA8 o1 0).1, (((gPIPILA8 o1 0).2).1, ((gPIPILA8 o1 0).2).2)), tPIPILA8 ((gPIPILA8 o1 1).1, (((gPIPILA8 o1 1).2).1, ((gPIPILA8 o1 1).2).2))]
theorem es_DrawCommonBeginning (call : Oracle) (a0 : List Int) : run1 E call is_DrawCommonBeginning [tLU8 a0] = bs_DrawCommonBeginning call a0 := by kernel_rfl
theorem vs_DrawCommonBeginning (a0 : List Int) {o : List TV} (h : bs_DrawCommonBeginning R a0 = some o) : R is_DrawCommonBeginning [tLU8 a0] = some o := ev_step ((es_DrawCommonBeginning R a0).trans h)
/-- impl.arePositive -/
noncomputable def bi_arePositive (call : Oracle) (a0 : Int × Int × List (List Int)) (a1 : Int × Int × List (List Int)) : Option (List TV) :=
  (call ii_areSameCount [tPIPILA8 (a0.1, (a0.2.1, a0.2.2)), tPIPILA8 (a1.1, (a1.2.1, a1.2.2))]).bind fun o1 =>
  bif ((gI o1 0) != 0) then
    some [tI (gI o1 0)]
  else
    bif decide (a0.2.1 < 0) then
      some [tI 5]
    else
      bif decide (a1.2.1 < 0) then
        some [tI 5]
      else
        some [tI 0]
theorem ei_arePositive (call : Oracle) (a0 : Int × Int × List (List Int)) (a1 : Int × Int × List (List Int)) : run1 E call ii_arePositive [tPIPILA8 a0, tPIPILA8 a1] = bi_arePositive call a0 a1 := by kernel_rfl
theorem vi_arePositive (a0 : Int × Int × List (List Int)) (a1 : Int × Int × List (List Int)) {o : List TV} (h : bi_arePositive R a0 a1 = some o) : R ii_arePositive [tPIPILA8 a0, tPIPILA8 a1] = some o := ev_step ((ei_arePositive R a0 a1).trans h)
/-- impl.head -/
noncomputable def bi_head (call : Oracle) (a0 : Int × Int × List (List Int)) : Option (List TV) :=
  bif decide (0 < a0.2.1) then
    (call ii_halfTurn [tI a0.1]).bind fun o1 =>
    some [tA8 (gA8 o1 0)]
  else
    bif decide (0 < ((List.length a0.2.2 : Nat) : Int)) then
      bif decide (0 < ((List.length a0.2.2 : Nat) : Int)) then
        some [tA8 (List.getD a0.2.2 0 (List.replicate 8 0))]
      else none
    else
      (call ii_nothing [tI a0.1]).bind fun o2 =>
      some [tA8 (gA8 o2 0)]
theorem ei_head (call : Oracle) (a0 : Int × Int × List (List Int)) : run1 E call ii_head [tPIPILA8 a0] = bi_head call a0 := by kernel_rfl
theorem vi_head (a0 : Int × Int × List (List Int)) {o : List TV} (h : bi_head R a0 = some o) : R ii_head [tPIPILA8 a0] = some o := ev_step ((ei_head R a0).trans h)
/-- impl.withoutHead -/
noncomputable def bi_withoutHead (call : Oracle) (a0 : Int × Int × List (List Int)) (a1 : List Int) : Option (List TV) :=
  (call i__i_Normal__putInverse [tPIPILA8 (a0.1, (0, [])), tA8 a1]).bind fun o1 =>
  (call ii_product [tPIPILA8 ((gPIPILA8 o1 0).1, (((gPIPILA8 o1 0).2).1, ((gPIPILA8 o1 0).2).2)), tPIPILA8 (a0.1, (a0.2.1, a0.2.2))]).bind fun o2 =>
  some [tPIPILA8 ((gPIPILA8 o2 0).1, (((gPIPILA8 o2 0).2).1, ((gPIPILA8 o2 0).2).2))]
theorem ei_withoutHead (call : Oracle) (a0 : Int × Int × List (List Int)) (a1 : List Int) : run1 E call ii_withoutHead [tPIPILA8 a0, tA8 a1] = bi_withoutHead call a0 a1 := by kernel_rfl
theorem vi_withoutHead (a0 : Int × Int × List (List Int)) (a1 : List Int) {o : List TV} (h : bi_withoutHead R a0 a1 = some o) : R ii_withoutHead [tPIPILA8 a0, tA8 a1] = some o := ev_step ((ei_withoutHead R a0 a1).trans h)
/-- impl.CommonBeginning loop 11 -/
noncomputable def bi_CommonBeginning_11 (call : Oracle) (x0 : Int) (x1 : Int) (x2 : List (List Int)) (x3 : Int) (x4 : Int) (x5 : List (List Int)) (x6 : Int) (x7 : Int) (x8 : List (List Int)) (x9 : Int) (x10 : Int) (x11 : List (List Int)) (x12 : Int) : Option (List TV) :=
  (call ii_head [tPIPILA8 (x0, (x1, x2))]).bind fun o11 =>
  (call ii_head [tPIPILA8 (x3, (x4, x5))]).bind fun o12 =>
  (call ii_meet [tA8 (gA8 o11 0), tA8 (gA8 o12 0), tI x12]).bind fun o13 =>
  (call ii_nothing [tI x12]).bind fun o14 =>
  bif ((gA8 o13 0) == (gA8 o14 0)) then
    (call ii_limited [tPIPILA8 (x9, (x10, x11))]).bind fun o15 =>
    some [tI 0, tI ((gPIPILA8 o15 0).1), tI (((gPIPILA8 o15 0).2).1), tLA8 (((gPIPILA8 o15 0).2).2), tI (gI o15 1)]
  else
    (call i__i_Normal__put [tPIPILA8 (x9, (x10, x11)), tA8 (gA8 o13 0)]).bind fun o16 =>
    (call ii_withoutHead [tPIPILA8 (x0, (x1, x2)), tA8 (gA8 o13 0)]).bind fun o17 =>
    (call ii_withoutHead [tPIPILA8 (x3, (x4, x5)), tA8 (gA8 o13 0)]).bind fun o18 =>
    call ii_CommonBeginning_11 [tI ((gPIPILA8 o17 0).1), tI (((gPIPILA8 o17 0).2).1), tLA8 (((gPIPILA8 o17 0).2).2), tI ((gPIPILA8 o18 0).1), tI (((gPIPILA8 o18 0).2).1), tLA8 (((gPIPILA8 o18 0).2).2), tI x6, tI x7, tLA8 x8, tI ((gPIPILA8 o16 0).1), tI (((gPIPILA8 o16 0).2).1), tLA8 (((gPIPILA8 o16 0).2).2), tI x12]
theorem ei_CommonBeginning_11 (call : Oracle) (x0 : Int) (x1 : Int) (x2 : List (List Int)) (x3 : Int) (x4 : Int) (x5 : List (List Int)) (x6 : Int) (x7 : Int) (x8 : List (List Int)) (x9 : Int) (x10 : Int) (x11 : List (List Int)) (x12 : Int) : run1 E call ii_CommonBeginning_11 [tI x0, tI x1, tLA8 x2, tI x3, tI x4, tLA8 x5, tI x6, tI x7, tLA8 x8, tI x9, tI x10, tLA8 x11, tI x12] = bi_CommonBeginning_11 call x0 x1 x2 x3 x4 x5 x6 x7 x8 x9 x10 x11 x12 := by kernel_rfl
theorem vi_CommonBeginning_11 (x0 : Int) (x1 : Int) (x2 : List (List Int)) (x3 : Int) (x4 : Int) (x5 : List (List Int)) (x6 : Int) (x7 : Int) (x8 : List (List Int)) (x9 : Int) (x10 : Int) (x11 : List (List Int)) (x12 : Int) {o : List TV} (h : bi_CommonBeginning_11 R x0 x1 x2 x3 x4 x5 x6 x7 x8 x9 x10 x11 x12 = some o) : R ii_CommonBeginning_11 [tI x0, tI x1, tLA8 x2, tI x3, tI x4, tLA8 x5, tI x6, tI x7, tLA8 x8, tI x9, tI x10, tLA8 x11, tI x12] = some o := ev_step ((ei_CommonBeginning_11 R x0 x1 x2 x3 x4 x5 x6 x7 x8 x9 x10 x11 x12).trans h)
/-- impl.CommonBeginning -/
noncomputable def bi_CommonBeginning (call : Oracle) (a0 : Int × Int × List (List Int)) (a1 : Int × Int × List (List Int)) : Option (List TV) :=
  (call ii_arePositive [tPIPILA8 (a0.1, (a0.2.1, a0.2.2)), tPIPILA8 (a1.1, (a1.2.1, a1.2.2))]).bind fun o1 =>
  bif ((gI o1 0) != 0) then
    some [tPIPILA8 (0, (0, [])), tI (gI o1 0)]
  else
    bif decide (0 < (mn a0.2.1 a1.2.1)) then
      (call i__i_Normal__turnBy [tPIPILA8 (a0.1, (0, [])), tI (mn a0.2.1 a1.2.1)]).bind fun o2 =>
      (call ii_CommonBeginning_11 [tI a0.1, tI (wi64 (a0.2.1 - (mn a0.2.1 a1.2.1))), tLA8 a0.2.2, tI a1.1, tI (wi64 (a1.2.1 - (mn a0.2.1 a1.2.1))), tLA8 a1.2.2, tI 0, tI 0, tLA8 [], tI ((gPIPILA8 o2 0).1), tI (((gPIPILA8 o2 0).2).1), tLA8 (((gPIPILA8 o2 0).2).2), tI a0.1]).bind fun o19 =>
      some [tPIPILA8 ((gI o19 1), ((gI o19 2), (gLA8 o19 3))), tI (gI o19 4)]
    else
      (call ii_CommonBeginning_11 [tI a0.1, tI a0.2.1, tLA8 a0.2.2, tI a1.1, tI a1.2.1, tLA8 a1.2.2, tI 0, tI 0, tLA8 [], tI a0.1, tI 0, tLA8 [], tI a0.1]).bind fun o20 =>
      some [tPIPILA8 ((gI o20 1), ((gI o20 2), (gLA8 o20 3))), tI (gI o20 4)]
theorem ei_CommonBeginning (call : Oracle) (a0 : Int × Int × List (List Int)) (a1 : Int × Int × List (List Int)) : run1 E call ii_CommonBeginning [tPIPILA8 a0, tPIPILA8 a1] = bi_CommonBeginning call a0 a1 := by kernel_rfl
theorem vi_CommonBeginning (a0 : Int × Int × List (List Int)) (a1 : Int × Int × List (List Int)) {o : List TV} (h : bi_CommonBeginning R a0 a1 = some o) : R ii_CommonBeginning [tPIPILA8 a0, tPIPILA8 a1] = some o := ev_step ((ei_CommonBeginning R a0 a1).trans h)
/-- spec.l03Positive -/
noncomputable def bs_l03Positive (call : Oracle) (a0 : Int × Int × List (List Int)) (a1 : Int × Int × List (List Int)) : Option (List TV) :=
  (call is_l03Both [tPIPILA8 (a0.1, (a0.2.1, a0.2.2)), tPIPILA8 (a1.1, (a1.2.1, a1.2.2))]).bind fun o1 =>
  bif ((gI o1 0) == 0) then
    bif decide (a0.2.1 < 0) then
      some [tI 5]
    else
      bif decide (a1.2.1 < 0) then
        some [tI 5]
      else
        some [tI (gI o1 0)]
  else
    some [tI (gI o1 0)]
theorem es_l03Positive (call : Oracle) (a0 : Int × Int × List (List Int)) (a1 : Int × Int × List (List Int)) : run1 E call is_l03Positive [tPIPILA8 a0, tPIPILA8 a1] = bs_l03Positive call a0 a1 := by kernel_rfl
theorem vs_l03Positive (a0 : Int × Int × List (List Int)) (a1 : Int × Int × List (List Int)) {o : List TV} (h : bs_l03Positive R a0 a1 = some o) : R is_l03Positive [tPIPILA8 a0, tPIPILA8 a1] = some o := ev_step ((es_l03Positive R a0 a1).trans h)
/-- spec.l03First -/
noncomputable def bs_l03First (call : Oracle) (a0 : Int × Int × List (List Int)) : Option (List TV) :=
  bif decide (0 < a0.2.1) then
    (call is_l02Half [tI a0.1]).bind fun o1 =>
    some [tA8 (gA8 o1 0)]
  else
    bif decide (0 < ((List.length a0.2.2 : Nat) : Int)) then
      bif decide (0 < ((List.length a0.2.2 : Nat) : Int)) then
        some [tA8 (List.getD a0.2.2 0 (List.replicate 8 0))]
      else none
    else
      (call is_l02Same [tI a0.1]).bind fun o2 =>
      some [tA8 (gA8 o2 0)]
theorem es_l03First (call : Oracle) (a0 : Int × Int × List (List Int)) : run1 E call is_l03First [tPIPILA8 a0] = bs_l03First call a0 := by kernel_rfl
theorem vs_l03First (a0 : Int × Int × List (List Int)) {o : List TV} (h : bs_l03First R a0 = some o) : R is_l03First [tPIPILA8 a0] = some o := ev_step ((es_l03First R a0).trans h)
/-- spec.l03Less -/
noncomputable def bs_l03Less (call : Oracle) (a0 : Int × Int × List (List Int)) (a1 : List Int) : Option (List TV) :=
  (call is_l02Left [tA8 a1, tI a0.1]).bind fun o1 =>
  bif (apOk [(gA8 o1 0)] a0.2.2) then
    bif ((Int.tmod a0.2.1 2) != 0) then
      bif decide (0 < ((List.length ([(gA8 o1 0)] ++ a0.2.2) : Nat) : Int)) then
        (call is_l02Turn [tA8 (List.getD ([(gA8 o1 0)] ++ a0.2.2) 0 (List.replicate 8 0)), tI a0.1]).bind fun o2 =>
        bif decide (0 < ((List.length ([(gA8 o1 0)] ++ a0.2.2) : Nat) : Int)) then
          (call is_l03Make [tI a0.1, tI (wi64 (a0.2.1 - 1)), tLA8 (List.set ([(gA8 o1 0)] ++ a0.2.2) 0 (gA8 o2 0))]).bind fun o3 =>
          some [tPIPILA8 ((gPIPILA8 o3 0).1, (((gPIPILA8 o3 0).2).1, ((gPIPILA8 o3 0).2).2))]
        else none
      else none
    else
      (call is_l03Make [tI a0.1, tI (wi64 (a0.2.1 - 1)), tLA8 ([(gA8 o1 0)] ++ a0.2.2)]).bind fun o4 =>
      some [tPIPILA8 ((gPIPILA8 o4 0).1, (((gPIPILA8 o4 0).2).1, ((gPIPILA8 o4 0).2).2))]
  else none
theorem es_l03Less (call : Oracle) (a0 : Int × Int × List (List Int)) (a1 : List Int) : run1 E call is_l03Less [tPIPILA8 a0, tA8 a1] = bs_l03Less call a0 a1 := by kernel_rfl
theorem vs_l03Less (a0 : Int × Int × List (List Int)) (a1 : List Int) {o : List TV} (h : bs_l03Less R a0 a1 = some o) : R is_l03Less [tPIPILA8 a0, tA8 a1] = some o := ev_step ((es_l03Less R a0 a1).trans h)
/-- spec.l03Common loop 3 -/
noncomputable def bs_l03Common_3 (call : Oracle) (x0 : Int) (x1 : Int) (x2 : List (List Int)) (x3 : Int) (x4 : Int) (x5 : List (List Int)) (x6 : Int) (x7 : Int) (x8 : List (List Int)) (x9 : Int) (x10 : Int) (x11 : List (List Int)) (x12 : Int) (x13 : Int) (x14 : List (List Int)) (x15 : Int) (x16 : Int) (x17 : List (List Int)) (x18 : Int) : Option (List TV) :=
  (call is_l03First [tPIPILA8 (x0, (x1, x2))]).bind fun o8 =>
  (call is_l03First [tPIPILA8 (x3, (x4, x5))]).bind fun o9 =>
  (call is_l02Meet [tA8 (gA8 o8 0), tA8 (gA8 o9 0), tI x18]).bind fun o10 =>
  (call is_l02Same [tI x18]).bind fun o11 =>
  bif ((gA8 o10 0) == (gA8 o11 0)) then
    some [tI 0, tI x15, tI x16, tLA8 x17, tI x0, tI x1, tLA8 x2, tI x3, tI x4, tLA8 x5]
  else
    (call is_l03Times [tPIPILA8 (x15, (x16, x17)), tA8 (gA8 o10 0), tB false]).bind fun o12 =>
    (call is_l03Less [tPIPILA8 (x0, (x1, x2)), tA8 (gA8 o10 0)]).bind fun o13 =>
    (call is_l03Less [tPIPILA8 (x3, (x4, x5)), tA8 (gA8 o10 0)]).bind fun o14 =>
    call is_l03Common_3 [tI ((gPIPILA8 o13 0).1), tI (((gPIPILA8 o13 0).2).1), tLA8 (((gPIPILA8 o13 0).2).2), tI ((gPIPILA8 o14 0).1), tI (((gPIPILA8 o14 0).2).1), tLA8 (((gPIPILA8 o14 0).2).2), tI x6, tI x7, tLA8 x8, tI x9, tI x10, tLA8 x11, tI x12, tI x13, tLA8 x14, tI ((gPIPILA8 o12 0).1), tI (((gPIPILA8 o12 0).2).1), tLA8 (((gPIPILA8 o12 0).2).2), tI x18]
theorem es_l03Common_3 (call : Oracle) (x0 : Int) (x1 : Int) (x2 : List (List Int)) (x3 : Int) (x4 : Int) (x5 : List (List Int)) (x6 : Int) (x7 : Int) (x8 : List (List Int)) (x9 : Int) (x10 : Int) (x11 : List (List Int)) (x12 : Int) (x13 : Int) (x14 : List (List Int)) (x15 : Int) (x16 : Int) (x17 : List (List Int)) (x18 : Int) : run1 E call is_l03Common_3 [tI x0, tI x1, tLA8 x2, tI x3, tI x4, tLA8 x5, tI x6, tI x7, tLA8 x8, tI x9, tI x10, tLA8 x11, tI x12, tI x13, tLA8 x14, tI x15, tI x16, tLA8 x17, tI x18] = bs_l03Common_3 call x0 x1 x2 x3 x4 x5 x6 x7 x8 x9 x10 x11 x12 x13 x14 x15 x16 x17 x18 := by kernel_rfl
theorem vs_l03Common_3 (x0 : Int) (x1 : Int) (x2 : List (List Int)) (x3 : Int) (x4 : Int) (x5 : List (List Int)) (x6 : Int) (x7 : Int) (x8 : List (List Int)) (x9 : Int) (x10 : Int) (x11 : List (List Int)) (x12 : Int) (x13 : Int) (x14 : List (List Int)) (x15 : Int) (x16 : Int) (x17 : List (List Int)) (x18 : Int) {o : List TV} (h : bs_l03Common_3 R x0 x1 x2 x3 x4 x5 x6 x7 x8 x9 x10 x11 x12 x13 x14 x15 x16 x17 x18 = some o) : R is_l03Common_3 [tI x0, tI x1, tLA8 x2, tI x3, tI x4, tLA8 x5, tI x6, tI x7, tLA8 x8, tI x9, tI x10, tLA8 x11, tI x12, tI x13, tLA8 x14, tI x15, tI x16, tLA8 x17, tI x18] = some o := ev_step ((es_l03Common_3 R x0 x1 x2 x3 x4 x5 x6 x7 x8 x9 x10 x11 x12 x13 x14 x15 x16 x17 x18).trans h)
/-- spec.l03Common -/
noncomputable def bs_l03Common (call : Oracle) (a0 : Int × Int × List (List Int)) (a1 : Int × Int × List (List Int)) : Option (List TV) :=
  (call is_l03Common_3 [tI a0.1, tI a0.2.1, tLA8 a0.2.2, tI a1.1, tI a1.2.1, tLA8 a1.2.2, tI 0, tI 0, tLA8 [], tI 0, tI 0, tLA8 [], tI 0, tI 0, tLA8 [], tI a0.1, tI 0, tLA8 [], tI a0.1]).bind fun o15 =>
  some [tPIPILA8 ((gI o15 1), ((gI o15 2), (gLA8 o15 3))), tPIPILA8 ((gI o15 4), ((gI o15 5), (gLA8 o15 6))), tPIPILA8 ((gI o15 7), ((gI o15 8), (gLA8 o15 9)))]
theorem es_l03Common (call : Oracle) (a0 : Int × Int × List (List Int)) (a1 : Int × Int × List (List Int)) : run1 E call is_l03Common [tPIPILA8 a0, tPIPILA8 a1] = bs_l03Common call a0 a1 := by kernel_rfl
theorem vs_l03Common (a0 : Int × Int × List (List Int)) (a1 : Int × Int × List (List Int)) {o : List TV} (h : bs_l03Common R a0 a1 = some o) : R is_l03Common [tPIPILA8 a0, tPIPILA8 a1] = some o := ev_step ((es_l03Common R a0 a1).trans h)
/-- spec.CommonBeginning -/
noncomputable def bs_CommonBeginning (call : Oracle) (a0 : Int × Int × List (List Int)) (a1 : Int × Int × List (List Int)) : Option (List TV) :=
  (call is_l03Positive [tPIPILA8 (a0.1, (a0.2.1, a0.2.2)), tPIPILA8 (a1.1, (a1.2.1, a1.2.2))]).bind fun o1 =>
  bif ((gI o1 0) != 0) then
    some [tPIPILA8 (0, (0, [])), tI (gI o1 0)]
  else
    (call is_l03Common [tPIPILA8 (a0.1, (a0.2.1, a0.2.2)), tPIPILA8 (a1.1, (a1.2.1, a1.2.2))]).bind fun o2 =>
    some [tPIPILA8 ((gPIPILA8 o2 0).1, (((gPIPILA8 o2 0).2).1, ((gPIPILA8 o2 0).2).2)), tI 0]
theorem es_CommonBeginning (call : Oracle) (a0 : Int × Int × List (List Int)) (a1 : Int × Int × List (List Int)) : run1 E call is_CommonBeginning [tPIPILA8 a0, tPIPILA8 a1] = bs_CommonBeginning call a0 a1 := by kernel_rfl
theorem vs_CommonBeginning (a0 : Int × Int × List (List Int)) (a1 : Int × Int × List (List Int)) {o : List TV} (h : bs_CommonBeginning R a0 a1 = some o) : R is_CommonBeginning [tPIPILA8 a0, tPIPILA8 a1] = some o := ev_step ((es_CommonBeginning R a0 a1).trans h)
/-- spec.DrawIsBeginningOf -/
noncomputable def bs_DrawIsBeginningOf (call : Oracle) (a0 : List Int) : Option (List TV) :=
  (call is_l03Up [tLU8 a0]).bind fun o1 =>
  some [tPIPILA8 ((gPIPILA8 o1 0).1, (((gPIPILA8 o1 0).2).1, ((gPIPILA8 o1 0).2).2)), tPIPILA8 ((gPIPILA8 o1 1).1, (((gPIPILA8 o1 1).2).1, ((gPIPILA8 o1 1).2).2))]
theorem es_DrawIsBeginningOf (call : Oracle) (a0 : List Int) : run1 E call is_DrawIsBeginningOf [tLU8 a0] = bs_DrawIsBeginningOf call a0 := by kernel_rfl
theorem vs_DrawIsBeginningOf (a0 : List Int) {o : List TV} (h : bs_DrawIsBeginningOf R a0 = some o) : R is_DrawIsBeginningOf [tLU8 a0] = some o := ev_step ((es_DrawIsBeginningOf R a0).trans h)
/-- impl.IsBeginningOf -/
noncomputable def bi_IsBeginningOf (call : Oracle) (a0 : Int × Int × List (List Int)) (a1 : Int × Int × List (List Int)) : Option (List TV) :=
  (call ii_arePositive [tPIPILA8 (a0.1, (a0.2.1, a0.2.2)), tPIPILA8 (a1.1, (a1.2.1, a1.2.2))]).bind fun o1 =>
  bif ((gI o1 0) != 0) then
    some [tB false, tI (gI o1 0)]
  else
    (call ii_inverse [tPIPILA8 (a0.1, (a0.2.1, a0.2.2))]).bind fun o2 =>
    (call ii_product [tPIPILA8 ((gPIPILA8 o2 0).1, (((gPIPILA8 o2 0).2).1, ((gPIPILA8 o2 0).2).2)), tPIPILA8 (a1.1, (a1.2.1, a1.2.2))]).bind fun o3 =>
    some [tB (decide (0 ≤ ((gPIPILA8 o3 0).2).1)), tI 0]
theorem ei_IsBeginningOf (call : Oracle) (a0 : Int × Int × List (List Int)) (a1 : Int × Int × List (List Int)) : run1 E call ii_IsBeginningOf [tPIPILA8 a0, tPIPILA8 a1] = bi_IsBeginningOf call a0 a1 := by kernel_rfl
theorem vi_IsBeginningOf (a0 : Int × Int × List (List Int)) (a1 : Int × Int × List (List Int)) {o : List TV} (h : bi_IsBeginningOf R a0 a1 = some o) : R ii_IsBeginningOf [tPIPILA8 a0, tPIPILA8 a1] = some o := ev_step ((ei_IsBeginningOf R a0 a1).trans h)
/-- spec.IsBeginningOf -/
noncomputable def bs_IsBeginningOf (call : Oracle) (a0 : Int × Int × List (List Int)) (a1 : Int × Int × List (List Int)) : Option (List TV) :=
  (call is_l03Positive [tPIPILA8 (a0.1, (a0.2.1, a0.2.2)), tPIPILA8 (a1.1, (a1.2.1, a1.2.2))]).bind fun o1 =>
  bif ((gI o1 0) != 0) then
    some [tB false, tI (gI o1 0)]
  else
    (call is_l03Common [tPIPILA8 (a0.1, (a0.2.1, a0.2.2)), tPIPILA8 (a1.1, (a1.2.1, a1.2.2))]).bind fun o2 =>
    bif (((gPIPILA8 o2 1).2).1 == 0) then
      some [tB (((List.length (((gPIPILA8 o2 1).2).2) : Nat) : Int) == 0), tI 0]
    else
      some [tB false, tI 0]
theorem es_IsBeginningOf (call : Oracle) (a0 : Int × Int × List (List Int)) (a1 : Int × Int × List (List Int)) : run1 E call is_IsBeginningOf [tPIPILA8 a0, tPIPILA8 a1] = bs_IsBeginningOf call a0 a1 := by kernel_rfl
theorem vs_IsBeginningOf (a0 : Int × Int × List (List Int)) (a1 : Int × Int × List (List Int)) {o : List TV} (h : bs_IsBeginningOf R a0 a1 = some o) : R is_IsBeginningOf [tPIPILA8 a0, tPIPILA8 a1] = some o := ev_step ((es_IsBeginningOf R a0 a1).trans h)
/-- spec.DrawFractionOf -/
noncomputable def bs_DrawFractionOf (call : Oracle) (a0 : List Int) : Option (List TV) :=
  (call is_l01From [tLU8 a0]).bind fun o1 =>
  (call is_l03Some [tPLU8PIU64 ((gPLU8PIU64 o1 0).1, (((gPLU8PIU64 o1 0).2).1, ((gPLU8PIU64 o1 0).2).2))]).bind fun o2 =>
  some [tPIPILA8 ((gPIPILA8 o2 0).1, (((gPIPILA8 o2 0).2).1, ((gPIPILA8 o2 0).2).2))]
theorem es_DrawFractionOf (call : Oracle) (a0 : List Int) : run1 E call is_DrawFractionOf [tLU8 a0] = bs_DrawFractionOf call a0 := by kernel_rfl
theorem vs_DrawFractionOf (a0 : List Int) {o : List TV} (h : bs_DrawFractionOf R a0 = some o) : R is_DrawFractionOf [tLU8 a0] = some o := ev_step ((es_DrawFractionOf R a0).trans h)
/-- impl.FractionOf -/
noncomputable def bi_FractionOf (call : Oracle) (a0 : Int × Int × List (List Int)) : Option (List TV) :=
  (call ii_IsNormal [tPIPILA8 (a0.1, (a0.2.1, a0.2.2))]).bind fun o1 =>
  bif (!(gB o1 0)) then
    some [tPIPILA8 (0, (0, [])), tPIPILA8 (0, (0, [])), tI 1]
  else
    bif decide (0 ≤ a0.2.1) then
      (call ii_copyNormal [tPIPILA8 (a0.1, (a0.2.1, a0.2.2))]).bind fun o2 =>
      some [tPIPILA8 (a0.1, (0, [])), tPIPILA8 ((gPIPILA8 o2 0).1, (((gPIPILA8 o2 0).2).1, ((gPIPILA8 o2 0).2).2)), tI 0]
    else
      bif (decide (0 ≤ (mn (wi64 (0 - a0.2.1)) ((List.length a0.2.2 : Nat) : Int))) && decide ((mn (wi64 (0 - a0.2.1)) ((List.length a0.2.2 : Nat) : Int)) ≤ ((List.length a0.2.2 : Nat) : Int))) then
        (call ii_inverse [tPIPILA8 (a0.1, (a0.2.1, (List.take (Int.toNat (mn (wi64 (0 - a0.2.1)) ((List.length a0.2.2 : Nat) : Int))) a0.2.2)))]).bind fun o3 =>
        (call ii_limited [tPIPILA8 ((gPIPILA8 o3 0).1, (((gPIPILA8 o3 0).2).1, ((gPIPILA8 o3 0).2).2))]).bind fun o4 =>
        bif ((gI o4 1) != 0) then
          some [tPIPILA8 (0, (0, [])), tPIPILA8 (0, (0, [])), tI (gI o4 1)]
        else
          bif (decide (0 ≤ (mn (wi64 (0 - a0.2.1)) ((List.length a0.2.2 : Nat) : Int))) && decide ((mn (wi64 (0 - a0.2.1)) ((List.length a0.2.2 : Nat) : Int)) ≤ ((List.length a0.2.2 : Nat) : Int))) then
            (call ii_copyNormal [tPIPILA8 (a0.1, (0, (List.drop (Int.toNat (mn (wi64 (0 - a0.2.1)) ((List.length a0.2.2 : Nat) : Int))) a0.2.2)))]).bind fun o5 =>
            some [tPIPILA8 ((gPIPILA8 o4 0).1, (((gPIPILA8 o4 0).2).1, ((gPIPILA8 o4 0).2).2)), tPIPILA8 ((gPIPILA8 o5 0).1, (((gPIPILA8 o5 0).2).1, ((gPIPILA8 o5 0).2).2)), tI 0]
          else none
      else none
theorem ei_FractionOf (call : Oracle) (a0 : Int × Int × List (List Int)) : run1 E call ii_FractionOf [tPIPILA8 a0] = bi_FractionOf call a0 := by kernel_rfl
theorem vi_FractionOf (a0 : Int × Int × List (List Int)) {o : List TV} (h : bi_FractionOf R a0 = some o) : R ii_FractionOf [tPIPILA8 a0] = some o := ev_step ((ei_FractionOf R a0).trans h)
/-- spec.FractionOf -/
noncomputable def bs_FractionOf (call : Oracle) (a0 : Int × Int × List (List Int)) : Option (List TV) :=
  (call is_l03Is [tPIPILA8 (a0.1, (a0.2.1, a0.2.2))]).bind fun o1 =>
  bif (!(gB o1 0)) then
    some [tPIPILA8 (0, (0, [])), tPIPILA8 (0, (0, [])), tI 1]
  else
    bif (apOk [] a0.2.2) then
      (call is_l03Common [tPIPILA8 (a0.1, ((mx 0 (wi64 (0 - a0.2.1))), [])), tPIPILA8 (a0.1, ((mx 0 a0.2.1), a0.2.2))]).bind fun o2 =>
      some [tPIPILA8 ((gPIPILA8 o2 1).1, (((gPIPILA8 o2 1).2).1, ((gPIPILA8 o2 1).2).2)), tPIPILA8 ((gPIPILA8 o2 2).1, (((gPIPILA8 o2 2).2).1, ((gPIPILA8 o2 2).2).2)), tI 0]
    else none
theorem es_FractionOf (call : Oracle) (a0 : Int × Int × List (List Int)) : run1 E call is_FractionOf [tPIPILA8 a0] = bs_FractionOf call a0 := by kernel_rfl
theorem vs_FractionOf (a0 : Int × Int × List (List Int)) {o : List TV} (h : bs_FractionOf R a0 = some o) : R is_FractionOf [tPIPILA8 a0] = some o := ev_step ((es_FractionOf R a0).trans h)
/-- laws.FnBeginnings join 24 -/
noncomputable def bw_FnBeginnings_j24 (call : Oracle) (x0 : Int) (x1 : Int) (x2 : List (List Int)) (x3 : Int) (x4 : Int) (x5 : List (List Int)) (x6 : Int) (x7 : Int) (x8 : List (List Int)) (x9 : Int) (x10 : Int) (x11 : List (List Int)) (x12 : Int) (x13 : Int) (x14 : List (List Int)) (x15 : Int) (x16 : Bool) (x17 : Int) : Option (List TV) :=
  bif (x17 == 0) then
    (call ii_InverseNormal [tPIPILA8 (x9, (x10, x11))]).bind fun o29 =>
    (call ii_MultiplyNormals [tPIPILA8 ((gPIPILA8 o29 0).1, (((gPIPILA8 o29 0).2).1, ((gPIPILA8 o29 0).2).2)), tPIPILA8 (x12, (x13, x14))]).bind fun o30 =>
    bif ((gI o29 1) == 0) then
      bif ((gI o30 1) == 0) then
        bif ((decide (0 ≤ ((gPIPILA8 o30 0).2).1)) != x16) then
          some [tI 0, tB false]
        else
          (call iw_FnBeginnings_j29 [tI x0, tI x1, tLA8 x2, tI x3, tI x4, tLA8 x5, tI x6, tI x7, tLA8 x8, tI x15]).bind fun o31 =>
          some [tI 0, tB (gB o31 1)]
      else
        (call iw_FnBeginnings_j29 [tI x0, tI x1, tLA8 x2, tI x3, tI x4, tLA8 x5, tI x6, tI x7, tLA8 x8, tI x15]).bind fun o32 =>
        some [tI 0, tB (gB o32 1)]
    else
      (call iw_FnBeginnings_j29 [tI x0, tI x1, tLA8 x2, tI x3, tI x4, tLA8 x5, tI x6, tI x7, tLA8 x8, tI x15]).bind fun o33 =>
      some [tI 0, tB (gB o33 1)]
  else
    (call iw_FnBeginnings_j29 [tI x0, tI x1, tLA8 x2, tI x3, tI x4, tLA8 x5, tI x6, tI x7, tLA8 x8, tI x15]).bind fun o34 =>
    some [tI 0, tB (gB o34 1)]
theorem ew_FnBeginnings_j24 (call : Oracle) (x0 : Int) (x1 : Int) (x2 : List (List Int)) (x3 : Int) (x4 : Int) (x5 : List (List Int)) (x6 : Int) (x7 : Int) (x8 : List (List Int)) (x9 : Int) (x10 : Int) (x11 : List (List Int)) (x12 : Int) (x13 : Int) (x14 : List (List Int)) (x15 : Int) (x16 : Bool) (x17 : Int) : run1 E call iw_FnBeginnings_j24 [tI x0, tI x1, tLA8 x2, tI x3, tI x4, tLA8 x5, tI x6, tI x7, tLA8 x8, tI x9, tI x10, tLA8 x11, tI x12, tI x13, tLA8 x14, tI x15, tB x16, tI x17] = bw_FnBeginnings_j24 call x0 x1 x2 x3 x4 x5 x6 x7 x8 x9 x10 x11 x12 x13 x14 x15 x16 x17 := by kernel_rfl
theorem vw_FnBeginnings_j24 (x0 : Int) (x1 : Int) (x2 : List (List Int)) (x3 : Int) (x4 : Int) (x5 : List (List Int)) (x6 : Int) (x7 : Int) (x8 : List (List Int)) (x9 : Int) (x10 : Int) (x11 : List (List Int)) (x12 : Int) (x13 : Int) (x14 : List (List Int)) (x15 : Int) (x16 : Bool) (x17 : Int) {o : List TV} (h : bw_FnBeginnings_j24 R x0 x1 x2 x3 x4 x5 x6 x7 x8 x9 x10 x11 x12 x13 x14 x15 x16 x17 = some o) : R iw_FnBeginnings_j24 [tI x0, tI x1, tLA8 x2, tI x3, tI x4, tLA8 x5, tI x6, tI x7, tLA8 x8, tI x9, tI x10, tLA8 x11, tI x12, tI x13, tLA8 x14, tI x15, tB x16, tI x17] = some o := ev_step ((ew_FnBeginnings_j24 R x0 x1 x2 x3 x4 x5 x6 x7 x8 x9 x10 x11 x12 x13 x14 x15 x16 x17).trans h)
/-- laws.FnBeginnings join 29 -/
noncomputable def bw_FnBeginnings_j29 (call : Oracle) (x0 : Int) (x1 : Int) (x2 : List (List Int)) (x3 : Int) (x4 : Int) (x5 : List (List Int)) (x6 : Int) (x7 : Int) (x8 : List (List Int)) (x9 : Int) : Option (List TV) :=
  bif (x9 != 0) then
    some [tI 0, tB (((List.length x8 : Nat) : Int) == 0)]
  else
    (call ii_IsBeginningOf [tPIPILA8 (x6, (x7, x8)), tPIPILA8 (x0, (x1, x2))]).bind fun o23 =>
    (call ii_IsBeginningOf [tPIPILA8 (x6, (x7, x8)), tPIPILA8 (x3, (x4, x5))]).bind fun o24 =>
    bif ((gI o23 1) == 0) then
      bif ((gI o24 1) == 0) then
        bif (gB o23 0) then
          some [tI 0, tB (gB o24 0)]
        else
          some [tI 0, tB false]
      else
        some [tI 0, tB false]
    else
      some [tI 0, tB false]
theorem ew_FnBeginnings_j29 (call : Oracle) (x0 : Int) (x1 : Int) (x2 : List (List Int)) (x3 : Int) (x4 : Int) (x5 : List (List Int)) (x6 : Int) (x7 : Int) (x8 : List (List Int)) (x9 : Int) : run1 E call iw_FnBeginnings_j29 [tI x0, tI x1, tLA8 x2, tI x3, tI x4, tLA8 x5, tI x6, tI x7, tLA8 x8, tI x9] = bw_FnBeginnings_j29 call x0 x1 x2 x3 x4 x5 x6 x7 x8 x9 := by kernel_rfl
theorem vw_FnBeginnings_j29 (x0 : Int) (x1 : Int) (x2 : List (List Int)) (x3 : Int) (x4 : Int) (x5 : List (List Int)) (x6 : Int) (x7 : Int) (x8 : List (List Int)) (x9 : Int) {o : List TV} (h : bw_FnBeginnings_j29 R x0 x1 x2 x3 x4 x5 x6 x7 x8 x9 = some o) : R iw_FnBeginnings_j29 [tI x0, tI x1, tLA8 x2, tI x3, tI x4, tLA8 x5, tI x6, tI x7, tLA8 x8, tI x9] = some o := ev_step ((ew_FnBeginnings_j29 R x0 x1 x2 x3 x4 x5 x6 x7 x8 x9).trans h)
/-- laws.FnBeginnings -/
noncomputable def bw_FnBeginnings (call : Oracle) (a0 : List Int) : Option (List TV) :=
  (call iw_big [tLU8 a0]).bind fun o1 =>
  bif (gB o1 0) then
    some [tB true]
  else
    (call is_DrawCommonBeginning [tLU8 a0]).bind fun o2 =>
    (call ii_CommonBeginning [tPIPILA8 ((gPIPILA8 o2 0).1, (((gPIPILA8 o2 0).2).1, ((gPIPILA8 o2 0).2).2)), tPIPILA8 ((gPIPILA8 o2 1).1, (((gPIPILA8 o2 1).2).1, ((gPIPILA8 o2 1).2).2))]).bind fun o3 =>
    (call is_CommonBeginning [tPIPILA8 ((gPIPILA8 o2 0).1, (((gPIPILA8 o2 0).2).1, ((gPIPILA8 o2 0).2).2)), tPIPILA8 ((gPIPILA8 o2 1).1, (((gPIPILA8 o2 1).2).1, ((gPIPILA8 o2 1).2).2))]).bind fun o4 =>
    bif ((gI o3 1) != (gI o4 1)) then
      some [tB false]
    else
      (call iw_normal9 [tPIPILA8 ((gPIPILA8 o3 0).1, (((gPIPILA8 o3 0).2).1, ((gPIPILA8 o3 0).2).2)), tPIPILA8 ((gPIPILA8 o4 0).1, (((gPIPILA8 o4 0).2).1, ((gPIPILA8 o4 0).2).2))]).bind fun o5 =>
      bif (!(gB o5 0)) then
        some [tB false]
      else
        (call is_DrawIsBeginningOf [tLU8 a0]).bind fun o6 =>
        (call ii_IsBeginningOf [tPIPILA8 ((gPIPILA8 o6 0).1, (((gPIPILA8 o6 0).2).1, ((gPIPILA8 o6 0).2).2)), tPIPILA8 ((gPIPILA8 o6 1).1, (((gPIPILA8 o6 1).2).1, ((gPIPILA8 o6 1).2).2))]).bind fun o7 =>
        (call is_IsBeginningOf [tPIPILA8 ((gPIPILA8 o6 0).1, (((gPIPILA8 o6 0).2).1, ((gPIPILA8 o6 0).2).2)), tPIPILA8 ((gPIPILA8 o6 1).1, (((gPIPILA8 o6 1).2).1, ((gPIPILA8 o6 1).2).2))]).bind fun o8 =>
        bif ((gI o7 1) != (gI o8 1)) then
          some [tB false]
        else
          bif ((gB o7 0) != (gB o8 0)) then
            some [tB false]
          else
            (call is_DrawFractionOf [tLU8 a0]).bind fun o9 =>
            (call ii_FractionOf [tPIPILA8 ((gPIPILA8 o9 0).1, (((gPIPILA8 o9 0).2).1, ((gPIPILA8 o9 0).2).2))]).bind fun o10 =>
            (call is_FractionOf [tPIPILA8 ((gPIPILA8 o9 0).1, (((gPIPILA8 o9 0).2).1, ((gPIPILA8 o9 0).2).2))]).bind fun o11 =>
            bif ((gI o10 2) != (gI o11 2)) then
              some [tB false]
            else
              (call iw_normal9 [tPIPILA8 ((gPIPILA8 o10 0).1, (((gPIPILA8 o10 0).2).1, ((gPIPILA8 o10 0).2).2)), tPIPILA8 ((gPIPILA8 o11 0).1, (((gPIPILA8 o11 0).2).1, ((gPIPILA8 o11 0).2).2))]).bind fun o12 =>
              bif (!(gB o12 0)) then
                some [tB false]
              else
                (call iw_normal9 [tPIPILA8 ((gPIPILA8 o10 1).1, (((gPIPILA8 o10 1).2).1, ((gPIPILA8 o10 1).2).2)), tPIPILA8 ((gPIPILA8 o11 1).1, (((gPIPILA8 o11 1).2).1, ((gPIPILA8 o11 1).2).2))]).bind fun o13 =>
                bif (!(gB o13 0)) then
                  some [tB false]
                else
                  bif ((gI o10 2) == 0) then
                    (call ii_InverseNormal [tPIPILA8 ((gPIPILA8 o10 0).1, (((gPIPILA8 o10 0).2).1, ((gPIPILA8 o10 0).2).2))]).bind fun o14 =>
                    (call ii_MultiplyNormals [tPIPILA8 ((gPIPILA8 o14 0).1, (((gPIPILA8 o14 0).2).1, ((gPIPILA8 o14 0).2).2)), tPIPILA8 ((gPIPILA8 o10 1).1, (((gPIPILA8 o10 1).2).1, ((gPIPILA8 o10 1).2).2))]).bind fun o15 =>
                    (call ii_CommonBeginning [tPIPILA8 ((gPIPILA8 o10 0).1, (((gPIPILA8 o10 0).2).1, ((gPIPILA8 o10 0).2).2)), tPIPILA8 ((gPIPILA8 o10 1).1, (((gPIPILA8 o10 1).2).1, ((gPIPILA8 o10 1).2).2))]).bind fun o16 =>
                    bif ((gI o14 1) != 0) then
                      some [tB false]
                    else
                      bif ((gI o15 1) != 0) then
                        some [tB false]
                      else
                        (call iw_normal9 [tPIPILA8 ((gPIPILA8 o15 0).1, (((gPIPILA8 o15 0).2).1, ((gPIPILA8 o15 0).2).2)), tPIPILA8 ((gPIPILA8 o9 0).1, (((gPIPILA8 o9 0).2).1, ((gPIPILA8 o9 0).2).2))]).bind fun o17 =>
                        bif (!(gB o17 0)) then
                          some [tB false]
                        else
                          bif ((gI o16 1) != 0) then
                            some [tB false]
                          else
                            (call iw_trivial9 [tPIPILA8 ((gPIPILA8 o16 0).1, (((gPIPILA8 o16 0).2).1, ((gPIPILA8 o16 0).2).2))]).bind fun o18 =>
                            bif (!(gB o18 0)) then
                              some [tB false]
                            else
                              (call iw_FnBeginnings_j24 [tI ((gPIPILA8 o2 0).1), tI (((gPIPILA8 o2 0).2).1), tLA8 (((gPIPILA8 o2 0).2).2), tI ((gPIPILA8 o2 1).1), tI (((gPIPILA8 o2 1).2).1), tLA8 (((gPIPILA8 o2 1).2).2), tI ((gPIPILA8 o3 0).1), tI (((gPIPILA8 o3 0).2).1), tLA8 (((gPIPILA8 o3 0).2).2), tI ((gPIPILA8 o6 0).1), tI (((gPIPILA8 o6 0).2).1), tLA8 (((gPIPILA8 o6 0).2).2), tI ((gPIPILA8 o6 1).1), tI (((gPIPILA8 o6 1).2).1), tLA8 (((gPIPILA8 o6 1).2).2), tI (gI o3 1), tB (gB o7 0), tI (gI o7 1)]).bind fun o35 =>
                              some [tB (gB o35 1)]
                  else
                    (call iw_FnBeginnings_j24 [tI ((gPIPILA8 o2 0).1), tI (((gPIPILA8 o2 0).2).1), tLA8 (((gPIPILA8 o2 0).2).2), tI ((gPIPILA8 o2 1).1), tI (((gPIPILA8 o2 1).2).1), tLA8 (((gPIPILA8 o2 1).2).2), tI ((gPIPILA8 o3 0).1), tI (((gPIPILA8 o3 0).2).1), tLA8 (((gPIPILA8 o3 0).2).2), tI ((gPIPILA8 o6 0).1), tI (((gPIPILA8 o6 0).2).1), tLA8 (((gPIPILA8 o6 0).2).2), tI ((gPIPILA8 o6 1).1), tI (((gPIPILA8 o6 1).2).1), tLA8 (((gPIPILA8 o6 1).2).2), tI (gI o3 1), tB (gB o7 0), tI (gI o7 1)]).bind fun o36 =>
                    some [tB (gB o36 1)]
theorem ew_FnBeginnings (call : Oracle) (a0 : List Int) : run1 E call iw_FnBeginnings [tLU8 a0] = bw_FnBeginnings call a0 := by kernel_rfl
theorem vw_FnBeginnings (a0 : List Int) {o : List TV} (h : bw_FnBeginnings R a0 = some o) : R iw_FnBeginnings [tLU8 a0] = some o := ev_step ((ew_FnBeginnings R a0).trans h)
end Go.Ev.Ytpfpjhfimmmkmaa
