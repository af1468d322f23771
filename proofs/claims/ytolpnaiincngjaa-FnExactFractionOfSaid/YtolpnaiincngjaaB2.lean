/- Bodies, part 2. -/
import Derived.KernelRfl
import Derived.Test.YtolpnaiincngjaaEnv
set_option linter.unusedVariables false
namespace Go.Ev.Ytolpnaiincngjaa
open Go.Ev
/-- laws.heldSimpleS loop 2 -/
noncomputable def bw_heldSimpleS_2 (call : Oracle) (x0 : List (List Int)) (x1 : Int) (x2 : Int) : Option (List TV) :=
  bif decide (x2 < ((List.length x0 : Nat) : Int)) then
    (call iw_heldSimpleS_5 [tLA8 x0, tI x1, tI x2, tI 0]).bind fun o2 =>
    bif ((gI o2 0) == 0) then
      call iw_heldSimpleS_2 [tLA8 (gLA8 o2 1), tI (gI o2 2), tI (wi64 ((gI o2 3) + 1))]
    else
      some [tI 1, tI (gI o2 1)]
  else
    some [tI 0, tI x1]
theorem ew_heldSimpleS_2 (call : Oracle) (x0 : List (List Int)) (x1 : Int) (x2 : Int) : run1 E call iw_heldSimpleS_2 [tLA8 x0, tI x1, tI x2] = bw_heldSimpleS_2 call x0 x1 x2 := by kernel_rfl
theorem vw_heldSimpleS_2 (x0 : List (List Int)) (x1 : Int) (x2 : Int) {o : List TV} (h : bw_heldSimpleS_2 R x0 x1 x2 = some o) : R iw_heldSimpleS_2 [tLA8 x0, tI x1, tI x2] = some o := ev_step ((ew_heldSimpleS_2 R x0 x1 x2).trans h)
/-- laws.heldSimpleS loop 5 -/
noncomputable def bw_heldSimpleS_5 (call : Oracle) (x0 : List (List Int)) (x1 : Int) (x2 : Int) (x3 : Int) : Option (List TV) :=
  bif decide (x3 < 8) then
    bif (decide (0 ≤ x2) && decide (x2 < ((List.length x0 : Nat) : Int))) then
      bif (decide (0 ≤ x3) && decide (x3 < 8)) then
        bif ((List.getD (List.getD x0 (Int.toNat x2) []) (Int.toNat x3) 0) != (wu8 (x1))) then
          some [tI 1, tI (-1)]
        else
          call iw_heldSimpleS_5 [tLA8 x0, tI (wi64 (x1 + 1)), tI x2, tI (wi64 (x3 + 1))]
      else none
    else none
  else
    some [tI 0, tLA8 x0, tI x1, tI x2]
theorem ew_heldSimpleS_5 (call : Oracle) (x0 : List (List Int)) (x1 : Int) (x2 : Int) (x3 : Int) : run1 E call iw_heldSimpleS_5 [tLA8 x0, tI x1, tI x2, tI x3] = bw_heldSimpleS_5 call x0 x1 x2 x3 := by kernel_rfl
theorem vw_heldSimpleS_5 (x0 : List (List Int)) (x1 : Int) (x2 : Int) (x3 : Int) {o : List TV} (h : bw_heldSimpleS_5 R x0 x1 x2 x3 = some o) : R iw_heldSimpleS_5 [tLA8 x0, tI x1, tI x2, tI x3] = some o := ev_step ((ew_heldSimpleS_5 R x0 x1 x2 x3).trans h)
/-- laws.heldSimpleS -/
noncomputable def bw_heldSimpleS (call : Oracle) (a0 : List (List Int)) (a1 : Int) : Option (List TV) :=
  (call iw_heldSimpleS_2 [tLA8 a0, tI a1, tI 0]).bind fun o3 =>
  bif ((gI o3 0) == 0) then
    some [tI (gI o3 1)]
  else
    some [tI (gI o3 1)]
theorem ew_heldSimpleS (call : Oracle) (a0 : List (List Int)) (a1 : Int) : run1 E call iw_heldSimpleS [tLA8 a0, tI a1] = bw_heldSimpleS call a0 a1 := by kernel_rfl
theorem vw_heldSimpleS (a0 : List (List Int)) (a1 : Int) {o : List TV} (h : bw_heldSimpleS R a0 a1 = some o) : R iw_heldSimpleS [tLA8 a0, tI a1] = some o := ev_step ((ew_heldSimpleS R a0 a1).trans h)
/-- laws.heldNormal -/
noncomputable def bw_heldNormal (call : Oracle) (a0 : Int × Int × List (List Int)) (a1 : Int) : Option (List TV) :=
  (call iw_heldSimpleS [tLA8 a0.2.2, tI a1]).bind fun o1 =>
  bif decide ((gI o1 0) < 0) then
    some [tI (-1)]
  else
    some [tI (gI o1 0)]
theorem ew_heldNormal (call : Oracle) (a0 : Int × Int × List (List Int)) (a1 : Int) : run1 E call iw_heldNormal [tPIPILA8 a0, tI a1] = bw_heldNormal call a0 a1 := by kernel_rfl
theorem vw_heldNormal (a0 : Int × Int × List (List Int)) (a1 : Int) {o : List TV} (h : bw_heldNormal R a0 a1 = some o) : R iw_heldNormal [tPIPILA8 a0, tI a1] = some o := ev_step ((ew_heldNormal R a0 a1).trans h)
/-- laws.FnExactNormalOf -/
noncomputable def bw_FnExactNormalOf (call : Oracle) (a0 : Int × List Int) : Option (List TV) :=
  (call iw_szBraid [tPILI (a0.1, a0.2), tI 1048576]).bind fun o1 =>
  bif decide ((gI o1 0) < 0) then
    some [tB true]
  else
    (call iw_toBraid [tPILI (a0.1, a0.2)]).bind fun o2 =>
    (call is_NormalOf [tPILI ((gPILI o2 0).1, (gPILI o2 0).2)]).bind fun o3 =>
    (call iw_toBraid [tPILI (a0.1, a0.2)]).bind fun o4 =>
    (call ii_NormalOf [tPILI ((gPILI o4 0).1, (gPILI o4 0).2)]).bind fun o5 =>
    (call iw_eqNormal [tPIPILA8 ((gPIPILA8 o5 0).1, (((gPIPILA8 o5 0).2).1, ((gPIPILA8 o5 0).2).2)), tPIPILA8 ((gPIPILA8 o3 0).1, (((gPIPILA8 o3 0).2).1, ((gPIPILA8 o3 0).2).2))]).bind fun o6 =>
    bif (!(gB o6 0)) then
      some [tB false]
    else
      bif ((gI o5 1) != (gI o3 1)) then
        some [tB false]
      else
        (call iw_toBraid [tPILI (a0.1, a0.2)]).bind fun o7 =>
        (call iw_eqBraid [tPILI ((gPILI o4 0).1, (gPILI o4 0).2), tPILI ((gPILI o7 0).1, (gPILI o7 0).2)]).bind fun o8 =>
        bif (!(gB o8 0)) then
          some [tB false]
        else
          (call iw_markBraid [tPILI ((gPILI o4 0).1, (gPILI o4 0).2), tI 1]).bind fun o9 =>
          bif decide ((gI o9 0) < 0) then
            some [tB false]
          else
            (call iw_eqNormal [tPIPILA8 ((gPIPILA8 o5 0).1, (((gPIPILA8 o5 0).2).1, ((gPIPILA8 o5 0).2).2)), tPIPILA8 ((gPIPILA8 o3 0).1, (((gPIPILA8 o3 0).2).1, ((gPIPILA8 o3 0).2).2))]).bind fun o10 =>
            bif (!(gB o10 0)) then
              some [tB false]
            else
              bif ((gI o5 1) != (gI o3 1)) then
                some [tB false]
              else
                (call iw_markNormal [tPIPILA8 ((gPIPILA8 o5 0).1, (((gPIPILA8 o5 0).2).1, ((gPIPILA8 o5 0).2).2)), tI 1]).bind fun o11 =>
                (call iw_heldNormal [tPIPILA8 ((gPIPILA8 o5 0).1, (((gPIPILA8 o5 0).2).1, ((gPIPILA8 o11 1).2).2)), tI 1]).bind fun o12 =>
                bif decide ((gI o12 0) < 0) then
                  some [tB false]
                else
                  bif ((gI o12 0) != (gI o11 0)) then
                    some [tB false]
                  else
                    (call iw_toBraid [tPILI (a0.1, a0.2)]).bind fun o13 =>
                    (call ii_NormalOf [tPILI ((gPILI o13 0).1, (gPILI o13 0).2)]).bind fun o14 =>
                    (call iw_eqNormal [tPIPILA8 ((gPIPILA8 o14 0).1, (((gPIPILA8 o14 0).2).1, ((gPIPILA8 o14 0).2).2)), tPIPILA8 ((gPIPILA8 o3 0).1, (((gPIPILA8 o3 0).2).1, ((gPIPILA8 o3 0).2).2))]).bind fun o15 =>
                    bif (!(gB o15 0)) then
                      some [tB false]
                    else
                      bif ((gI o14 1) != (gI o3 1)) then
                        some [tB false]
                      else
                        (call iw_heldNormal [tPIPILA8 ((gPIPILA8 o5 0).1, (((gPIPILA8 o5 0).2).1, ((gPIPILA8 o11 1).2).2)), tI 1]).bind fun o16 =>
                        bif decide ((gI o16 0) < 0) then
                          some [tB false]
                        else
                          bif ((gI o16 0) != (gI o11 0)) then
                            some [tB false]
                          else
                            some [tB true]
theorem ew_FnExactNormalOf (call : Oracle) (a0 : Int × List Int) : run1 E call iw_FnExactNormalOf [tPILI a0] = bw_FnExactNormalOf call a0 := by kernel_rfl
theorem vw_FnExactNormalOf (a0 : Int × List Int) {o : List TV} (h : bw_FnExactNormalOf R a0 = some o) : R iw_FnExactNormalOf [tPILI a0] = some o := ev_step ((ew_FnExactNormalOf R a0).trans h)
/-- spec.l04First -/
noncomputable def bs_l04First (call : Oracle) (a0 : Int × Int × List (List Int)) : Option (List TV) :=
  bif ((Int.tmod a0.2.1 2) != 0) then
    bif decide (0 < ((List.length a0.2.2 : Nat) : Int)) then
      (call is_l02Turn [tA8 (List.getD a0.2.2 0 (List.replicate 8 0)), tI a0.1]).bind fun o1 =>
      some [tA8 (gA8 o1 0)]
    else none
  else
    bif decide (0 < ((List.length a0.2.2 : Nat) : Int)) then
      some [tA8 (List.getD a0.2.2 0 (List.replicate 8 0))]
    else none
theorem es_l04First (call : Oracle) (a0 : Int × Int × List (List Int)) : run1 E call is_l04First [tPIPILA8 a0] = bs_l04First call a0 := by kernel_rfl
theorem vs_l04First (a0 : Int × Int × List (List Int)) {o : List TV} (h : bs_l04First R a0 = some o) : R is_l04First [tPIPILA8 a0] = some o := ev_step ((es_l04First R a0).trans h)
/-- spec.l04Cycle -/
noncomputable def bs_l04Cycle (call : Oracle) (a0 : Int × Int × List (List Int)) : Option (List TV) :=
  bif (((List.length a0.2.2 : Nat) : Int) == 0) then
    some [tPIPILA8 (a0.1, (a0.2.1, a0.2.2))]
  else
    bif decide (1 ≤ ((List.length a0.2.2 : Nat) : Int)) then
      bif (apOk [] (List.drop 1 a0.2.2)) then
        (call is_l04First [tPIPILA8 (a0.1, (a0.2.1, a0.2.2))]).bind fun o1 =>
        bif (apOk (List.drop 1 a0.2.2) [(gA8 o1 0)]) then
          (call is_l03Make [tI a0.1, tI a0.2.1, tLA8 ((List.drop 1 a0.2.2) ++ [(gA8 o1 0)])]).bind fun o2 =>
          some [tPIPILA8 ((gPIPILA8 o2 0).1, (((gPIPILA8 o2 0).2).1, ((gPIPILA8 o2 0).2).2))]
        else none
      else none
    else none
theorem es_l04Cycle (call : Oracle) (a0 : Int × Int × List (List Int)) : run1 E call is_l04Cycle [tPIPILA8 a0] = bs_l04Cycle call a0 := by kernel_rfl
theorem vs_l04Cycle (a0 : Int × Int × List (List Int)) {o : List TV} (h : bs_l04Cycle R a0 = some o) : R is_l04Cycle [tPIPILA8 a0] = some o := ev_step ((es_l04Cycle R a0).trans h)
/-- spec.CyclingOf -/
noncomputable def bs_CyclingOf (call : Oracle) (a0 : Int × Int × List (List Int)) : Option (List TV) :=
  (call is_l03Is [tPIPILA8 (a0.1, (a0.2.1, a0.2.2))]).bind fun o1 =>
  bif (!(gB o1 0)) then
    some [tPIPILA8 (0, (0, [])), tI 1]
  else
    (call is_l04Cycle [tPIPILA8 (a0.1, (a0.2.1, a0.2.2))]).bind fun o2 =>
    (call is_l04Cycle [tPIPILA8 (a0.1, (a0.2.1, a0.2.2))]).bind fun o3 =>
    (call is_l03Make [tI a0.1, tI (((gPIPILA8 o2 0).2).1), tLA8 (((gPIPILA8 o3 0).2).2)]).bind fun o4 =>
    (call is_l03Fit [tPIPILA8 ((gPIPILA8 o4 0).1, (((gPIPILA8 o4 0).2).1, ((gPIPILA8 o4 0).2).2))]).bind fun o5 =>
    some [tPIPILA8 ((gPIPILA8 o5 0).1, (((gPIPILA8 o5 0).2).1, ((gPIPILA8 o5 0).2).2)), tI (gI o5 1)]
theorem es_CyclingOf (call : Oracle) (a0 : Int × Int × List (List Int)) : run1 E call is_CyclingOf [tPIPILA8 a0] = bs_CyclingOf call a0 := by kernel_rfl
theorem vs_CyclingOf (a0 : Int × Int × List (List Int)) {o : List TV} (h : bs_CyclingOf R a0 = some o) : R is_CyclingOf [tPIPILA8 a0] = some o := ev_step ((es_CyclingOf R a0).trans h)
/-- impl.turned -/
noncomputable def bi_turned (call : Oracle) (a0 : List Int) (a1 : Int × Int × List (List Int)) : Option (List TV) :=
  bif ((Int.tmod a1.2.1 2) != 0) then
    (call ii_turn [tA8 a0, tI a1.1]).bind fun o1 =>
    some [tA8 (gA8 o1 0)]
  else
    some [tA8 a0]
theorem ei_turned (call : Oracle) (a0 : List Int) (a1 : Int × Int × List (List Int)) : run1 E call ii_turned [tA8 a0, tPIPILA8 a1] = bi_turned call a0 a1 := by kernel_rfl
theorem vi_turned (a0 : List Int) (a1 : Int × Int × List (List Int)) {o : List TV} (h : bi_turned R a0 a1 = some o) : R ii_turned [tA8 a0, tPIPILA8 a1] = some o := ev_step ((ei_turned R a0 a1).trans h)
/-- impl.cycled -/
noncomputable def bi_cycled (call : Oracle) (a0 : Int × Int × List (List Int)) : Option (List TV) :=
  bif (((List.length a0.2.2 : Nat) : Int) == 0) then
    (call ii_copyNormal [tPIPILA8 (a0.1, (a0.2.1, a0.2.2))]).bind fun o1 =>
    some [tPIPILA8 ((gPIPILA8 o1 0).1, (((gPIPILA8 o1 0).2).1, ((gPIPILA8 o1 0).2).2))]
  else
    bif decide (1 ≤ ((List.length a0.2.2 : Nat) : Int)) then
      (call ii_copyNormal [tPIPILA8 (a0.1, (a0.2.1, (List.drop 1 a0.2.2)))]).bind fun o2 =>
      bif decide (0 < ((List.length a0.2.2 : Nat) : Int)) then
        (call ii_turned [tA8 (List.getD a0.2.2 0 (List.replicate 8 0)), tPIPILA8 (a0.1, (a0.2.1, a0.2.2))]).bind fun o3 =>
        (call i__i_Normal__put [tPIPILA8 ((gPIPILA8 o2 0).1, (((gPIPILA8 o2 0).2).1, ((gPIPILA8 o2 0).2).2)), tA8 (gA8 o3 0)]).bind fun o4 =>
        some [tPIPILA8 ((gPIPILA8 o4 0).1, (((gPIPILA8 o4 0).2).1, ((gPIPILA8 o4 0).2).2))]
      else none
    else none
theorem ei_cycled (call : Oracle) (a0 : Int × Int × List (List Int)) : run1 E call ii_cycled [tPIPILA8 a0] = bi_cycled call a0 := by kernel_rfl
theorem vi_cycled (a0 : Int × Int × List (List Int)) {o : List TV} (h : bi_cycled R a0 = some o) : R ii_cycled [tPIPILA8 a0] = some o := ev_step ((ei_cycled R a0).trans h)
/-- impl.changed -/
noncomputable def bi_changed (call : Oracle) (a0 : Int × Int × List (List Int)) : Option (List TV) :=
  (call ii_IsNormal [tPIPILA8 (a0.1, (a0.2.1, a0.2.2))]).bind fun o1 =>
  bif (!(gB o1 0)) then
    some [tPIPILA8 (0, (0, [])), tI 1]
  else
    (call ii_cycled [tPIPILA8 (a0.1, (a0.2.1, a0.2.2))]).bind fun o2 =>
    (call ii_limited [tPIPILA8 ((gPIPILA8 o2 0).1, (((gPIPILA8 o2 0).2).1, ((gPIPILA8 o2 0).2).2))]).bind fun o3 =>
    some [tPIPILA8 ((gPIPILA8 o3 0).1, (((gPIPILA8 o3 0).2).1, ((gPIPILA8 o3 0).2).2)), tI (gI o3 1)]
theorem ei_changed (call : Oracle) (a0 : Int × Int × List (List Int)) : run1 E call ii_changed [tPIPILA8 a0] = bi_changed call a0 := by kernel_rfl
theorem vi_changed (a0 : Int × Int × List (List Int)) {o : List TV} (h : bi_changed R a0 = some o) : R ii_changed [tPIPILA8 a0] = some o := ev_step ((ei_changed R a0).trans h)
/-- impl.CyclingOf -/
noncomputable def bi_CyclingOf (call : Oracle) (a0 : Int × Int × List (List Int)) : Option (List TV) :=
  (call ii_changed [tPIPILA8 (a0.1, (a0.2.1, a0.2.2))]).bind fun o1 =>
  some [tPIPILA8 ((gPIPILA8 o1 0).1, (((gPIPILA8 o1 0).2).1, ((gPIPILA8 o1 0).2).2)), tI (gI o1 1)]
theorem ei_CyclingOf (call : Oracle) (a0 : Int × Int × List (List Int)) : run1 E call ii_CyclingOf [tPIPILA8 a0] = bi_CyclingOf call a0 := by kernel_rfl
theorem vi_CyclingOf (a0 : Int × Int × List (List Int)) {o : List TV} (h : bi_CyclingOf R a0 = some o) : R ii_CyclingOf [tPIPILA8 a0] = some o := ev_step ((ei_CyclingOf R a0).trans h)
/-- laws.FnExactCyclingOf -/
noncomputable def bw_FnExactCyclingOf (call : Oracle) (a0 : Int × Int × List (List Int)) : Option (List TV) :=
  (call iw_szNormal [tPIPILA8 (a0.1, (a0.2.1, a0.2.2)), tI 1048576]).bind fun o1 =>
  bif decide ((gI o1 0) < 0) then
    some [tB true]
  else
    (call iw_toNormal [tPIPILA8 (a0.1, (a0.2.1, a0.2.2))]).bind fun o2 =>
    (call is_CyclingOf [tPIPILA8 ((gPIPILA8 o2 0).1, (((gPIPILA8 o2 0).2).1, ((gPIPILA8 o2 0).2).2))]).bind fun o3 =>
    (call iw_toNormal [tPIPILA8 (a0.1, (a0.2.1, a0.2.2))]).bind fun o4 =>
    (call ii_CyclingOf [tPIPILA8 ((gPIPILA8 o4 0).1, (((gPIPILA8 o4 0).2).1, ((gPIPILA8 o4 0).2).2))]).bind fun o5 =>
    (call iw_eqNormal [tPIPILA8 ((gPIPILA8 o5 0).1, (((gPIPILA8 o5 0).2).1, ((gPIPILA8 o5 0).2).2)), tPIPILA8 ((gPIPILA8 o3 0).1, (((gPIPILA8 o3 0).2).1, ((gPIPILA8 o3 0).2).2))]).bind fun o6 =>
    bif (!(gB o6 0)) then
      some [tB false]
    else
      bif ((gI o5 1) != (gI o3 1)) then
        some [tB false]
      else
        (call iw_toNormal [tPIPILA8 (a0.1, (a0.2.1, a0.2.2))]).bind fun o7 =>
        (call iw_eqNormal [tPIPILA8 ((gPIPILA8 o4 0).1, (((gPIPILA8 o4 0).2).1, ((gPIPILA8 o4 0).2).2)), tPIPILA8 ((gPIPILA8 o7 0).1, (((gPIPILA8 o7 0).2).1, ((gPIPILA8 o7 0).2).2))]).bind fun o8 =>
        bif (!(gB o8 0)) then
          some [tB false]
        else
          (call iw_markNormal [tPIPILA8 ((gPIPILA8 o4 0).1, (((gPIPILA8 o4 0).2).1, ((gPIPILA8 o4 0).2).2)), tI 1]).bind fun o9 =>
          bif decide ((gI o9 0) < 0) then
            some [tB false]
          else
            (call iw_eqNormal [tPIPILA8 ((gPIPILA8 o5 0).1, (((gPIPILA8 o5 0).2).1, ((gPIPILA8 o5 0).2).2)), tPIPILA8 ((gPIPILA8 o3 0).1, (((gPIPILA8 o3 0).2).1, ((gPIPILA8 o3 0).2).2))]).bind fun o10 =>
            bif (!(gB o10 0)) then
              some [tB false]
            else
              bif ((gI o5 1) != (gI o3 1)) then
                some [tB false]
              else
                (call iw_markNormal [tPIPILA8 ((gPIPILA8 o5 0).1, (((gPIPILA8 o5 0).2).1, ((gPIPILA8 o5 0).2).2)), tI 1]).bind fun o11 =>
                (call iw_heldNormal [tPIPILA8 ((gPIPILA8 o5 0).1, (((gPIPILA8 o5 0).2).1, ((gPIPILA8 o11 1).2).2)), tI 1]).bind fun o12 =>
                bif decide ((gI o12 0) < 0) then
                  some [tB false]
                else
                  bif ((gI o12 0) != (gI o11 0)) then
                    some [tB false]
                  else
                    (call iw_toNormal [tPIPILA8 (a0.1, (a0.2.1, a0.2.2))]).bind fun o13 =>
                    (call ii_CyclingOf [tPIPILA8 ((gPIPILA8 o13 0).1, (((gPIPILA8 o13 0).2).1, ((gPIPILA8 o13 0).2).2))]).bind fun o14 =>
                    (call iw_eqNormal [tPIPILA8 ((gPIPILA8 o14 0).1, (((gPIPILA8 o14 0).2).1, ((gPIPILA8 o14 0).2).2)), tPIPILA8 ((gPIPILA8 o3 0).1, (((gPIPILA8 o3 0).2).1, ((gPIPILA8 o3 0).2).2))]).bind fun o15 =>
                    bif (!(gB o15 0)) then
                      some [tB false]
                    else
                      bif ((gI o14 1) != (gI o3 1)) then
                        some [tB false]
                      else
                        (call iw_heldNormal [tPIPILA8 ((gPIPILA8 o5 0).1, (((gPIPILA8 o5 0).2).1, ((gPIPILA8 o11 1).2).2)), tI 1]).bind fun o16 =>
                        bif decide ((gI o16 0) < 0) then
                          some [tB false]
                        else
                          bif ((gI o16 0) != (gI o11 0)) then
                            some [tB false]
                          else
                            some [tB true]
theorem ew_FnExactCyclingOf (call : Oracle) (a0 : Int × Int × List (List Int)) : run1 E call iw_FnExactCyclingOf [tPIPILA8 a0] = bw_FnExactCyclingOf call a0 := by kernel_rfl
theorem vw_FnExactCyclingOf (a0 : Int × Int × List (List Int)) {o : List TV} (h : bw_FnExactCyclingOf R a0 = some o) : R iw_FnExactCyclingOf [tPIPILA8 a0] = some o := ev_step ((ew_FnExactCyclingOf R a0).trans h)
/-- spec.l04Decycle -/
noncomputable def bs_l04Decycle (call : Oracle) (a0 : Int × Int × List (List Int)) : Option (List TV) :=
  bif (((List.length a0.2.2 : Nat) : Int) == 0) then
    some [tPIPILA8 (a0.1, (a0.2.1, a0.2.2))]
  else
    bif (decide (0 ≤ (wi64 (((List.length a0.2.2 : Nat) : Int) - 1))) && decide ((wi64 (((List.length a0.2.2 : Nat) : Int) - 1)) < ((List.length a0.2.2 : Nat) : Int))) then
      bif ((Int.tmod a0.2.1 2) != 0) then
        (call is_l02Turn [tA8 (List.getD a0.2.2 (Int.toNat (wi64 (((List.length a0.2.2 : Nat) : Int) - 1))) (List.replicate 8 0)), tI a0.1]).bind fun o1 =>
        bif (decide (0 ≤ (wi64 (((List.length a0.2.2 : Nat) : Int) - 1))) && decide ((wi64 (((List.length a0.2.2 : Nat) : Int) - 1)) ≤ ((List.length a0.2.2 : Nat) : Int))) then
          bif (apOk [(gA8 o1 0)] (List.take (Int.toNat (wi64 (((List.length a0.2.2 : Nat) : Int) - 1))) a0.2.2)) then
            (call is_l03Make [tI a0.1, tI a0.2.1, tLA8 ([(gA8 o1 0)] ++ (List.take (Int.toNat (wi64 (((List.length a0.2.2 : Nat) : Int) - 1))) a0.2.2))]).bind fun o2 =>
            some [tPIPILA8 ((gPIPILA8 o2 0).1, (((gPIPILA8 o2 0).2).1, ((gPIPILA8 o2 0).2).2))]
          else none
        else none
      else
        bif (decide (0 ≤ (wi64 (((List.length a0.2.2 : Nat) : Int) - 1))) && decide ((wi64 (((List.length a0.2.2 : Nat) : Int) - 1)) ≤ ((List.length a0.2.2 : Nat) : Int))) then
          bif (apOk [(List.getD a0.2.2 (Int.toNat (wi64 (((List.length a0.2.2 : Nat) : Int) - 1))) (List.replicate 8 0))] (List.take (Int.toNat (wi64 (((List.length a0.2.2 : Nat) : Int) - 1))) a0.2.2)) then
            (call is_l03Make [tI a0.1, tI a0.2.1, tLA8 ([(List.getD a0.2.2 (Int.toNat (wi64 (((List.length a0.2.2 : Nat) : Int) - 1))) (List.replicate 8 0))] ++ (List.take (Int.toNat (wi64 (((List.length a0.2.2 : Nat) : Int) - 1))) a0.2.2))]).bind fun o3 =>
            some [tPIPILA8 ((gPIPILA8 o3 0).1, (((gPIPILA8 o3 0).2).1, ((gPIPILA8 o3 0).2).2))]
          else none
        else none
    else none
theorem es_l04Decycle (call : Oracle) (a0 : Int × Int × List (List Int)) : run1 E call is_l04Decycle [tPIPILA8 a0] = bs_l04Decycle call a0 := by kernel_rfl
theorem vs_l04Decycle (a0 : Int × Int × List (List Int)) {o : List TV} (h : bs_l04Decycle R a0 = some o) : R is_l04Decycle [tPIPILA8 a0] = some o := ev_step ((es_l04Decycle R a0).trans h)
/-- spec.DecyclingOf -/
noncomputable def bs_DecyclingOf (call : Oracle) (a0 : Int × Int × List (List Int)) : Option (List TV) :=
  (call is_l03Is [tPIPILA8 (a0.1, (a0.2.1, a0.2.2))]).bind fun o1 =>
  bif (!(gB o1 0)) then
    some [tPIPILA8 (0, (0, [])), tI 1]
  else
    (call is_l04Decycle [tPIPILA8 (a0.1, (a0.2.1, a0.2.2))]).bind fun o2 =>
    (call is_l04Decycle [tPIPILA8 (a0.1, (a0.2.1, a0.2.2))]).bind fun o3 =>
    (call is_l03Make [tI a0.1, tI (((gPIPILA8 o2 0).2).1), tLA8 (((gPIPILA8 o3 0).2).2)]).bind fun o4 =>
    (call is_l03Fit [tPIPILA8 ((gPIPILA8 o4 0).1, (((gPIPILA8 o4 0).2).1, ((gPIPILA8 o4 0).2).2))]).bind fun o5 =>
    some [tPIPILA8 ((gPIPILA8 o5 0).1, (((gPIPILA8 o5 0).2).1, ((gPIPILA8 o5 0).2).2)), tI (gI o5 1)]
theorem es_DecyclingOf (call : Oracle) (a0 : Int × Int × List (List Int)) : run1 E call is_DecyclingOf [tPIPILA8 a0] = bs_DecyclingOf call a0 := by kernel_rfl
theorem vs_DecyclingOf (a0 : Int × Int × List (List Int)) {o : List TV} (h : bs_DecyclingOf R a0 = some o) : R is_DecyclingOf [tPIPILA8 a0] = some o := ev_step ((es_DecyclingOf R a0).trans h)
/-- impl.decycled loop 7 -/
noncomputable def bi_decycled_7 (call : Oracle) (x0 : Int) (x1 : Int) (x2 : List (List Int)) (x3 : Int) (x4 : Int) (x5 : List (List Int)) (x6 : List (List Int)) (x7 : Int) (x8 : Int) : Option (List TV) :=
  bif decide (x8 < x7) then
    bif (decide (0 ≤ x8) && decide (x8 < ((List.length x6 : Nat) : Int))) then
      (call i__i_Normal__put [tPIPILA8 (x3, (x4, x5)), tA8 (List.getD x6 (Int.toNat x8) (List.replicate 8 0))]).bind fun o5 =>
      call ii_decycled_7 [tI x0, tI x1, tLA8 x2, tI ((gPIPILA8 o5 0).1), tI (((gPIPILA8 o5 0).2).1), tLA8 (((gPIPILA8 o5 0).2).2), tLA8 x6, tI x7, tI (wi64 (x8 + 1))]
    else none
  else
    some [tI 0, tI x0, tI x1, tLA8 x2, tI x3, tI x4, tLA8 x5]
theorem ei_decycled_7 (call : Oracle) (x0 : Int) (x1 : Int) (x2 : List (List Int)) (x3 : Int) (x4 : Int) (x5 : List (List Int)) (x6 : List (List Int)) (x7 : Int) (x8 : Int) : run1 E call ii_decycled_7 [tI x0, tI x1, tLA8 x2, tI x3, tI x4, tLA8 x5, tLA8 x6, tI x7, tI x8] = bi_decycled_7 call x0 x1 x2 x3 x4 x5 x6 x7 x8 := by kernel_rfl
theorem vi_decycled_7 (x0 : Int) (x1 : Int) (x2 : List (List Int)) (x3 : Int) (x4 : Int) (x5 : List (List Int)) (x6 : List (List Int)) (x7 : Int) (x8 : Int) {o : List TV} (h : bi_decycled_7 R x0 x1 x2 x3 x4 x5 x6 x7 x8 = some o) : R ii_decycled_7 [tI x0, tI x1, tLA8 x2, tI x3, tI x4, tLA8 x5, tLA8 x6, tI x7, tI x8] = some o := ev_step ((ei_decycled_7 R x0 x1 x2 x3 x4 x5 x6 x7 x8).trans h)
/-- impl.decycled -/
noncomputable def bi_decycled (call : Oracle) (a0 : Int × Int × List (List Int)) : Option (List TV) :=
  bif decide ((wi64 (((List.length a0.2.2 : Nat) : Int) - 1)) < 0) then
    (call ii_copyNormal [tPIPILA8 (a0.1, (a0.2.1, a0.2.2))]).bind fun o1 =>
    some [tPIPILA8 ((gPIPILA8 o1 0).1, (((gPIPILA8 o1 0).2).1, ((gPIPILA8 o1 0).2).2))]
  else
    bif (decide (0 ≤ (wi64 (((List.length a0.2.2 : Nat) : Int) - 1))) && decide ((wi64 (((List.length a0.2.2 : Nat) : Int) - 1)) < ((List.length a0.2.2 : Nat) : Int))) then
      (call ii_turned [tA8 (List.getD a0.2.2 (Int.toNat (wi64 (((List.length a0.2.2 : Nat) : Int) - 1))) (List.replicate 8 0)), tPIPILA8 (a0.1, (a0.2.1, a0.2.2))]).bind fun o2 =>
      (call i__i_Normal__put [tPIPILA8 (a0.1, (a0.2.1, [])), tA8 (gA8 o2 0)]).bind fun o3 =>
      bif (decide (0 ≤ (wi64 (((List.length a0.2.2 : Nat) : Int) - 1))) && decide ((wi64 (((List.length a0.2.2 : Nat) : Int) - 1)) ≤ ((List.length a0.2.2 : Nat) : Int))) then
        (call ii_decycled_7 [tI 0, tI 0, tLA8 [], tI ((gPIPILA8 o3 0).1), tI (((gPIPILA8 o3 0).2).1), tLA8 (((gPIPILA8 o3 0).2).2), tLA8 (List.take (Int.toNat (wi64 (((List.length a0.2.2 : Nat) : Int) - 1))) a0.2.2), tI ((List.length (List.take (Int.toNat (wi64 (((List.length a0.2.2 : Nat) : Int) - 1))) a0.2.2) : Nat) : Int), tI 0]).bind fun o6 =>
        some [tPIPILA8 ((gI o6 4), ((gI o6 5), (gLA8 o6 6)))]
      else none
    else none
theorem ei_decycled (call : Oracle) (a0 : Int × Int × List (List Int)) : run1 E call ii_decycled [tPIPILA8 a0] = bi_decycled call a0 := by kernel_rfl
theorem vi_decycled (a0 : Int × Int × List (List Int)) {o : List TV} (h : bi_decycled R a0 = some o) : R ii_decycled [tPIPILA8 a0] = some o := ev_step ((ei_decycled R a0).trans h)
/-- impl.changed -/
noncomputable def bi_changed_v2 (call : Oracle) (a0 : Int × Int × List (List Int)) : Option (List TV) :=
  (call ii_IsNormal [tPIPILA8 (a0.1, (a0.2.1, a0.2.2))]).bind fun o1 =>
  bif (!(gB o1 0)) then
    some [tPIPILA8 (0, (0, [])), tI 1]
  else
    (call ii_decycled [tPIPILA8 (a0.1, (a0.2.1, a0.2.2))]).bind fun o2 =>
    (call ii_limited [tPIPILA8 ((gPIPILA8 o2 0).1, (((gPIPILA8 o2 0).2).1, ((gPIPILA8 o2 0).2).2))]).bind fun o3 =>
    some [tPIPILA8 ((gPIPILA8 o3 0).1, (((gPIPILA8 o3 0).2).1, ((gPIPILA8 o3 0).2).2)), tI (gI o3 1)]
theorem ei_changed_v2 (call : Oracle) (a0 : Int × Int × List (List Int)) : run1 E call ii_changed_v2 [tPIPILA8 a0] = bi_changed_v2 call a0 := by kernel_rfl
theorem vi_changed_v2 (a0 : Int × Int × List (List Int)) {o : List TV} (h : bi_changed_v2 R a0 = some o) : R ii_changed_v2 [tPIPILA8 a0] = some o := ev_step ((ei_changed_v2 R a0).trans h)
/-- impl.DecyclingOf -/
noncomputable def bi_DecyclingOf (call : Oracle) (a0 : Int × Int × List (List Int)) : Option (List TV) :=
  (call ii_changed_v2 [tPIPILA8 (a0.1, (a0.2.1, a0.2.2))]).bind fun o1 =>
  some [tPIPILA8 ((gPIPILA8 o1 0).1, (((gPIPILA8 o1 0).2).1, ((gPIPILA8 o1 0).2).2)), tI (gI o1 1)]
theorem ei_DecyclingOf (call : Oracle) (a0 : Int × Int × List (List Int)) : run1 E call ii_DecyclingOf [tPIPILA8 a0] = bi_DecyclingOf call a0 := by kernel_rfl
theorem vi_DecyclingOf (a0 : Int × Int × List (List Int)) {o : List TV} (h : bi_DecyclingOf R a0 = some o) : R ii_DecyclingOf [tPIPILA8 a0] = some o := ev_step ((ei_DecyclingOf R a0).trans h)
/-- laws.FnExactDecyclingOf -/
noncomputable def bw_FnExactDecyclingOf (call : Oracle) (a0 : Int × Int × List (List Int)) : Option (List TV) :=
  (call iw_szNormal [tPIPILA8 (a0.1, (a0.2.1, a0.2.2)), tI 1048576]).bind fun o1 =>
  bif decide ((gI o1 0) < 0) then
    some [tB true]
  else
    (call iw_toNormal [tPIPILA8 (a0.1, (a0.2.1, a0.2.2))]).bind fun o2 =>
    (call is_DecyclingOf [tPIPILA8 ((gPIPILA8 o2 0).1, (((gPIPILA8 o2 0).2).1, ((gPIPILA8 o2 0).2).2))]).bind fun o3 =>
    (call iw_toNormal [tPIPILA8 (a0.1, (a0.2.1, a0.2.2))]).bind fun o4 =>
    (call ii_DecyclingOf [tPIPILA8 ((gPIPILA8 o4 0).1, (((gPIPILA8 o4 0).2).1, ((gPIPILA8 o4 0).2).2))]).bind fun o5 =>
    (call iw_eqNormal [tPIPILA8 ((gPIPILA8 o5 0).1, (((gPIPILA8 o5 0).2).1, ((gPIPILA8 o5 0).2).2)), tPIPILA8 ((gPIPILA8 o3 0).1, (((gPIPILA8 o3 0).2).1, ((gPIPILA8 o3 0).2).2))]).bind fun o6 =>
    bif (!(gB o6 0)) then
      some [tB false]
    else
      bif ((gI o5 1) != (gI o3 1)) then
        some [tB false]
      else
        (call iw_toNormal [tPIPILA8 (a0.1, (a0.2.1, a0.2.2))]).bind fun o7 =>
        (call iw_eqNormal [tPIPILA8 ((gPIPILA8 o4 0).1, (((gPIPILA8 o4 0).2).1, ((gPIPILA8 o4 0).2).2)), tPIPILA8 ((gPIPILA8 o7 0).1, (((gPIPILA8 o7 0).2).1, ((gPIPILA8 o7 0).2).2))]).bind fun o8 =>
        bif (!(gB o8 0)) then
          some [tB false]
        else
          (call iw_markNormal [tPIPILA8 ((gPIPILA8 o4 0).1, (((gPIPILA8 o4 0).2).1, ((gPIPILA8 o4 0).2).2)), tI 1]).bind fun o9 =>
          bif decide ((gI o9 0) < 0) then
            some [tB false]
          else
            (call iw_eqNormal [tPIPILA8 ((gPIPILA8 o5 0).1, (((gPIPILA8 o5 0).2).1, ((gPIPILA8 o5 0).2).2)), tPIPILA8 ((gPIPILA8 o3 0).1, (((gPIPILA8 o3 0).2).1, ((gPIPILA8 o3 0).2).2))]).bind fun o10 =>
            bif (!(gB o10 0)) then
              some [tB false]
            else
              bif ((gI o5 1) != (gI o3 1)) then
                some [tB false]
              else
                (call iw_markNormal [tPIPILA8 ((gPIPILA8 o5 0).1, (((gPIPILA8 o5 0).2).1, ((gPIPILA8 o5 0).2).2)), tI 1]).bind fun o11 =>
                (call iw_heldNormal [tPIPILA8 ((gPIPILA8 o5 0).1, (((gPIPILA8 o5 0).2).1, ((gPIPILA8 o11 1).2).2)), tI 1]).bind fun o12 =>
                bif decide ((gI o12 0) < 0) then
                  some [tB false]
                else
                  bif ((gI o12 0) != (gI o11 0)) then
                    some [tB false]
                  else
                    (call iw_toNormal [tPIPILA8 (a0.1, (a0.2.1, a0.2.2))]).bind fun o13 =>
                    (call ii_DecyclingOf [tPIPILA8 ((gPIPILA8 o13 0).1, (((gPIPILA8 o13 0).2).1, ((gPIPILA8 o13 0).2).2))]).bind fun o14 =>
                    (call iw_eqNormal [tPIPILA8 ((gPIPILA8 o14 0).1, (((gPIPILA8 o14 0).2).1, ((gPIPILA8 o14 0).2).2)), tPIPILA8 ((gPIPILA8 o3 0).1, (((gPIPILA8 o3 0).2).1, ((gPIPILA8 o3 0).2).2))]).bind fun o15 =>
                    bif (!(gB o15 0)) then
                      some [tB false]
                    else
                      bif ((gI o14 1) != (gI o3 1)) then
                        some [tB false]
                      else
                        (call iw_heldNormal [tPIPILA8 ((gPIPILA8 o5 0).1, (((gPIPILA8 o5 0).2).1, ((gPIPILA8 o11 1).2).2)), tI 1]).bind fun o16 =>
                        bif decide ((gI o16 0) < 0) then
                          some [tB false]
                        else
                          bif ((gI o16 0) != (gI o11 0)) then
                            some [tB false]
                          else
                            some [tB true]
theorem ew_FnExactDecyclingOf (call : Oracle) (a0 : Int × Int × List (List Int)) : run1 E call iw_FnExactDecyclingOf [tPIPILA8 a0] = bw_FnExactDecyclingOf call a0 := by kernel_rfl
theorem vw_FnExactDecyclingOf (a0 : Int × Int × List (List Int)) {o : List TV} (h : bw_FnExactDecyclingOf R a0 = some o) : R iw_FnExactDecyclingOf [tPIPILA8 a0] = some o := ev_step ((ew_FnExactDecyclingOf R a0).trans h)
/-- spec.RightNormalOf loop 5 -/
noncomputable def bs_RightNormalOf_5 (call : Oracle) (x0 : Int) (x1 : List Int) (x2 : Int) (x3 : Int) (x4 : List (List Int)) (x5 : List Int) (x6 : Int) : Option (List TV) :=
  bif decide (0 ≤ x6) then
    bif (decide (0 ≤ x6) && decide (x6 < ((List.length x1 : Nat) : Int))) then
      bif (apOk x5 [(List.getD x1 (Int.toNat x6) 0)]) then
        call is_RightNormalOf_5 [tI x0, tLI x1, tI x2, tI x3, tLA8 x4, tLI (x5 ++ [(List.getD x1 (Int.toNat x6) 0)]), tI (wi64 (x6 - 1))]
      else none
    else none
  else
    some [tI 0, tI x0, tLI x1, tI x2, tI x3, tLA8 x4, tLI x5]
theorem es_RightNormalOf_5 (call : Oracle) (x0 : Int) (x1 : List Int) (x2 : Int) (x3 : Int) (x4 : List (List Int)) (x5 : List Int) (x6 : Int) : run1 E call is_RightNormalOf_5 [tI x0, tLI x1, tI x2, tI x3, tLA8 x4, tLI x5, tI x6] = bs_RightNormalOf_5 call x0 x1 x2 x3 x4 x5 x6 := by kernel_rfl
theorem vs_RightNormalOf_5 (x0 : Int) (x1 : List Int) (x2 : Int) (x3 : Int) (x4 : List (List Int)) (x5 : List Int) (x6 : Int) {o : List TV} (h : bs_RightNormalOf_5 R x0 x1 x2 x3 x4 x5 x6 = some o) : R is_RightNormalOf_5 [tI x0, tLI x1, tI x2, tI x3, tLA8 x4, tLI x5, tI x6] = some o := ev_step ((es_RightNormalOf_5 R x0 x1 x2 x3 x4 x5 x6).trans h)
/-- spec.RightNormalOf loop 11 -/
noncomputable def bs_RightNormalOf_11 (call : Oracle) (x0 : Int) (x1 : Int) (x2 : List (List Int)) (x3 : Int) (x4 : Int) (x5 : List (List Int)) (x6 : Int) (x7 : Int) (x8 : List (List Int)) (x9 : Int) : Option (List TV) :=
  bif decide (0 ≤ x9) then
    bif (decide (0 ≤ x9) && decide (x9 < ((List.length x5 : Nat) : Int))) then
      (call is_l02Back [tA8 (List.getD x5 (Int.toNat x9) (List.replicate 8 0)), tI x3]).bind fun o5 =>
      bif (apOk x8 [(gA8 o5 0)]) then
        call is_RightNormalOf_11 [tI x0, tI x1, tLA8 x2, tI x3, tI x4, tLA8 x5, tI x6, tI x7, tLA8 (x8 ++ [(gA8 o5 0)]), tI (wi64 (x9 - 1))]
      else none
    else none
  else
    some [tI 0, tI x0, tI x1, tLA8 x2, tI x6, tI x7, tLA8 x8]
theorem es_RightNormalOf_11 (call : Oracle) (x0 : Int) (x1 : Int) (x2 : List (List Int)) (x3 : Int) (x4 : Int) (x5 : List (List Int)) (x6 : Int) (x7 : Int) (x8 : List (List Int)) (x9 : Int) : run1 E call is_RightNormalOf_11 [tI x0, tI x1, tLA8 x2, tI x3, tI x4, tLA8 x5, tI x6, tI x7, tLA8 x8, tI x9] = bs_RightNormalOf_11 call x0 x1 x2 x3 x4 x5 x6 x7 x8 x9 := by kernel_rfl
theorem vs_RightNormalOf_11 (x0 : Int) (x1 : Int) (x2 : List (List Int)) (x3 : Int) (x4 : Int) (x5 : List (List Int)) (x6 : Int) (x7 : Int) (x8 : List (List Int)) (x9 : Int) {o : List TV} (h : bs_RightNormalOf_11 R x0 x1 x2 x3 x4 x5 x6 x7 x8 x9 = some o) : R is_RightNormalOf_11 [tI x0, tI x1, tLA8 x2, tI x3, tI x4, tLA8 x5, tI x6, tI x7, tLA8 x8, tI x9] = some o := ev_step ((es_RightNormalOf_11 R x0 x1 x2 x3 x4 x5 x6 x7 x8 x9).trans h)
/-- spec.RightNormalOf -/
noncomputable def bs_RightNormalOf (call : Oracle) (a0 : Int × List Int) : Option (List TV) :=
  (call is_l01Is [tPILI (a0.1, a0.2)]).bind fun o1 =>
  bif (!(gB o1 0)) then
    some [tPIPILA8 (0, (0, [])), tI 1]
  else
    (call is_RightNormalOf_5 [tI a0.1, tLI a0.2, tI 0, tI 0, tLA8 [], tLI [], tI (wi64 (((List.length a0.2 : Nat) : Int) - 1))]).bind fun o2 =>
    (call is_l03Of [tI (gI o2 1), tLI (gLI o2 6)]).bind fun o3 =>
    (call is_RightNormalOf_11 [tI (gI o2 3), tI (gI o2 4), tLA8 (gLA8 o2 5), tI ((gPIPILA8 o3 0).1), tI (((gPIPILA8 o3 0).2).1), tLA8 (((gPIPILA8 o3 0).2).2), tI ((gPIPILA8 o3 0).1), tI (((gPIPILA8 o3 0).2).1), tLA8 [], tI (wi64 (((List.length (((gPIPILA8 o3 0).2).2) : Nat) : Int) - 1))]).bind fun o6 =>
    (call is_l03Fit [tPIPILA8 ((gI o6 4), ((gI o6 5), (gLA8 o6 6)))]).bind fun o7 =>
    some [tPIPILA8 ((gPIPILA8 o7 0).1, (((gPIPILA8 o7 0).2).1, ((gPIPILA8 o7 0).2).2)), tI (gI o7 1)]
theorem es_RightNormalOf (call : Oracle) (a0 : Int × List Int) : run1 E call is_RightNormalOf [tPILI a0] = bs_RightNormalOf call a0 := by kernel_rfl
theorem vs_RightNormalOf (a0 : Int × List Int) {o : List TV} (h : bs_RightNormalOf R a0 = some o) : R is_RightNormalOf [tPILI a0] = some o := ev_step ((es_RightNormalOf R a0).trans h)
/-- impl.reversed loop 3 -/
noncomputable def bi_reversed_3 (call : Oracle) (x0 : Int) (x1 : List Int) (x2 : Int) (x3 : List Int) (x4 : Int) (x5 : List Int) (x6 : Int) : Option (List TV) :=
  bif decide (0 ≤ x6) then
    bif (decide (0 ≤ x6) && decide (x6 < ((List.length x1 : Nat) : Int))) then
      bif (apOk x5 [(List.getD x1 (Int.toNat x6) 0)]) then
        call ii_reversed_3 [tI x0, tLI x1, tI x2, tLI x3, tI x4, tLI (x5 ++ [(List.getD x1 (Int.toNat x6) 0)]), tI (wi64 (x6 - 1))]
      else none
    else none
  else
    some [tI 0, tI x2, tLI x3, tI x4, tLI x5]
theorem ei_reversed_3 (call : Oracle) (x0 : Int) (x1 : List Int) (x2 : Int) (x3 : List Int) (x4 : Int) (x5 : List Int) (x6 : Int) : run1 E call ii_reversed_3 [tI x0, tLI x1, tI x2, tLI x3, tI x4, tLI x5, tI x6] = bi_reversed_3 call x0 x1 x2 x3 x4 x5 x6 := by kernel_rfl
theorem vi_reversed_3 (x0 : Int) (x1 : List Int) (x2 : Int) (x3 : List Int) (x4 : Int) (x5 : List Int) (x6 : Int) {o : List TV} (h : bi_reversed_3 R x0 x1 x2 x3 x4 x5 x6 = some o) : R ii_reversed_3 [tI x0, tLI x1, tI x2, tLI x3, tI x4, tLI x5, tI x6] = some o := ev_step ((ei_reversed_3 R x0 x1 x2 x3 x4 x5 x6).trans h)
/-- impl.reversed -/
noncomputable def bi_reversed (call : Oracle) (a0 : Int × List Int) : Option (List TV) :=
  (call ii_reversed_3 [tI a0.1, tLI a0.2, tI 0, tLI [], tI a0.1, tLI [], tI (wi64 (((List.length a0.2 : Nat) : Int) - 1))]).bind fun o1 =>
  some [tPILI ((gI o1 3), (gLI o1 4))]
theorem ei_reversed (call : Oracle) (a0 : Int × List Int) : run1 E call ii_reversed [tPILI a0] = bi_reversed call a0 := by kernel_rfl
theorem vi_reversed (a0 : Int × List Int) {o : List TV} (h : bi_reversed R a0 = some o) : R ii_reversed [tPILI a0] = some o := ev_step ((ei_reversed R a0).trans h)
/-- impl.RightNormalOf loop 6 -/
noncomputable def bi_RightNormalOf_6 (call : Oracle) (x0 : Int) (x1 : Int) (x2 : List (List Int)) (x3 : Int) (x4 : Int) (x5 : List (List Int)) (x6 : Int) (x7 : Int) (x8 : List (List Int)) (x9 : Int) : Option (List TV) :=
  bif decide (0 ≤ x9) then
    bif (decide (0 ≤ x9) && decide (x9 < ((List.length x5 : Nat) : Int))) then
      (call ii_backOf [tA8 (List.getD x5 (Int.toNat x9) (List.replicate 8 0)), tI x3]).bind fun o5 =>
      bif (apOk x8 [(gA8 o5 0)]) then
        call ii_RightNormalOf_6 [tI x0, tI x1, tLA8 x2, tI x3, tI x4, tLA8 x5, tI x6, tI x7, tLA8 (x8 ++ [(gA8 o5 0)]), tI (wi64 (x9 - 1))]
      else none
    else none
  else
    some [tI 0, tI x0, tI x1, tLA8 x2, tI x6, tI x7, tLA8 x8]
theorem ei_RightNormalOf_6 (call : Oracle) (x0 : Int) (x1 : Int) (x2 : List (List Int)) (x3 : Int) (x4 : Int) (x5 : List (List Int)) (x6 : Int) (x7 : Int) (x8 : List (List Int)) (x9 : Int) : run1 E call ii_RightNormalOf_6 [tI x0, tI x1, tLA8 x2, tI x3, tI x4, tLA8 x5, tI x6, tI x7, tLA8 x8, tI x9] = bi_RightNormalOf_6 call x0 x1 x2 x3 x4 x5 x6 x7 x8 x9 := by kernel_rfl
theorem vi_RightNormalOf_6 (x0 : Int) (x1 : Int) (x2 : List (List Int)) (x3 : Int) (x4 : Int) (x5 : List (List Int)) (x6 : Int) (x7 : Int) (x8 : List (List Int)) (x9 : Int) {o : List TV} (h : bi_RightNormalOf_6 R x0 x1 x2 x3 x4 x5 x6 x7 x8 x9 = some o) : R ii_RightNormalOf_6 [tI x0, tI x1, tLA8 x2, tI x3, tI x4, tLA8 x5, tI x6, tI x7, tLA8 x8, tI x9] = some o := ev_step ((ei_RightNormalOf_6 R x0 x1 x2 x3 x4 x5 x6 x7 x8 x9).trans h)
/-- impl.RightNormalOf -/
noncomputable def bi_RightNormalOf (call : Oracle) (a0 : Int × List Int) : Option (List TV) :=
  (call ii_IsBraid [tPILI (a0.1, a0.2)]).bind fun o1 =>
  bif (!(gB o1 0)) then
    some [tPIPILA8 (0, (0, [])), tI 1]
  else
    (call ii_reversed [tPILI (a0.1, a0.2)]).bind fun o2 =>
    (call ii_normalOf [tPILI ((gPILI o2 0).1, (gPILI o2 0).2)]).bind fun o3 =>
    (call ii_RightNormalOf_6 [tI 0, tI 0, tLA8 [], tI ((gPIPILA8 o3 0).1), tI (((gPIPILA8 o3 0).2).1), tLA8 (((gPIPILA8 o3 0).2).2), tI ((gPIPILA8 o3 0).1), tI (((gPIPILA8 o3 0).2).1), tLA8 [], tI (wi64 (((List.length (((gPIPILA8 o3 0).2).2) : Nat) : Int) - 1))]).bind fun o6 =>
    (call ii_limited [tPIPILA8 ((gI o6 4), ((gI o6 5), (gLA8 o6 6)))]).bind fun o7 =>
    some [tPIPILA8 ((gPIPILA8 o7 0).1, (((gPIPILA8 o7 0).2).1, ((gPIPILA8 o7 0).2).2)), tI (gI o7 1)]
theorem ei_RightNormalOf (call : Oracle) (a0 : Int × List Int) : run1 E call ii_RightNormalOf [tPILI a0] = bi_RightNormalOf call a0 := by kernel_rfl
theorem vi_RightNormalOf (a0 : Int × List Int) {o : List TV} (h : bi_RightNormalOf R a0 = some o) : R ii_RightNormalOf [tPILI a0] = some o := ev_step ((ei_RightNormalOf R a0).trans h)
/-- laws.FnExactRightNormalOf -/
noncomputable def bw_FnExactRightNormalOf (call : Oracle) (a0 : Int × List Int) : Option (List TV) :=
  (call iw_szBraid [tPILI (a0.1, a0.2), tI 1048576]).bind fun o1 =>
  bif decide ((gI o1 0) < 0) then
    some [tB true]
  else
    (call iw_toBraid [tPILI (a0.1, a0.2)]).bind fun o2 =>
    (call is_RightNormalOf [tPILI ((gPILI o2 0).1, (gPILI o2 0).2)]).bind fun o3 =>
    (call iw_toBraid [tPILI (a0.1, a0.2)]).bind fun o4 =>
    (call ii_RightNormalOf [tPILI ((gPILI o4 0).1, (gPILI o4 0).2)]).bind fun o5 =>
    (call iw_eqNormal [tPIPILA8 ((gPIPILA8 o5 0).1, (((gPIPILA8 o5 0).2).1, ((gPIPILA8 o5 0).2).2)), tPIPILA8 ((gPIPILA8 o3 0).1, (((gPIPILA8 o3 0).2).1, ((gPIPILA8 o3 0).2).2))]).bind fun o6 =>
    bif (!(gB o6 0)) then
      some [tB false]
    else
      bif ((gI o5 1) != (gI o3 1)) then
        some [tB false]
      else
        (call iw_toBraid [tPILI (a0.1, a0.2)]).bind fun o7 =>
        (call iw_eqBraid [tPILI ((gPILI o4 0).1, (gPILI o4 0).2), tPILI ((gPILI o7 0).1, (gPILI o7 0).2)]).bind fun o8 =>
        bif (!(gB o8 0)) then
          some [tB false]
        else
          (call iw_markBraid [tPILI ((gPILI o4 0).1, (gPILI o4 0).2), tI 1]).bind fun o9 =>
          bif decide ((gI o9 0) < 0) then
            some [tB false]
          else
            (call iw_eqNormal [tPIPILA8 ((gPIPILA8 o5 0).1, (((gPIPILA8 o5 0).2).1, ((gPIPILA8 o5 0).2).2)), tPIPILA8 ((gPIPILA8 o3 0).1, (((gPIPILA8 o3 0).2).1, ((gPIPILA8 o3 0).2).2))]).bind fun o10 =>
            bif (!(gB o10 0)) then
              some [tB false]
            else
              bif ((gI o5 1) != (gI o3 1)) then
                some [tB false]
              else
                (call iw_markNormal [tPIPILA8 ((gPIPILA8 o5 0).1, (((gPIPILA8 o5 0).2).1, ((gPIPILA8 o5 0).2).2)), tI 1]).bind fun o11 =>
                (call iw_heldNormal [tPIPILA8 ((gPIPILA8 o5 0).1, (((gPIPILA8 o5 0).2).1, ((gPIPILA8 o11 1).2).2)), tI 1]).bind fun o12 =>
                bif decide ((gI o12 0) < 0) then
                  some [tB false]
                else
                  bif ((gI o12 0) != (gI o11 0)) then
                    some [tB false]
                  else
                    (call iw_toBraid [tPILI (a0.1, a0.2)]).bind fun o13 =>
                    (call ii_RightNormalOf [tPILI ((gPILI o13 0).1, (gPILI o13 0).2)]).bind fun o14 =>
                    (call iw_eqNormal [tPIPILA8 ((gPIPILA8 o14 0).1, (((gPIPILA8 o14 0).2).1, ((gPIPILA8 o14 0).2).2)), tPIPILA8 ((gPIPILA8 o3 0).1, (((gPIPILA8 o3 0).2).1, ((gPIPILA8 o3 0).2).2))]).bind fun o15 =>
                    bif (!(gB o15 0)) then
                      some [tB false]
                    else
                      bif ((gI o14 1) != (gI o3 1)) then
                        some [tB false]
                      else
                        (call iw_heldNormal [tPIPILA8 ((gPIPILA8 o5 0).1, (((gPIPILA8 o5 0).2).1, ((gPIPILA8 o11 1).2).2)), tI 1]).bind fun o16 =>
                        bif decide ((gI o16 0) < 0) then
                          some [tB false]
                        else
                          bif ((gI o16 0) != (gI o11 0)) then
                            some [tB false]
                          else
                            some [tB true]
theorem ew_FnExactRightNormalOf (call : Oracle) (a0 : Int × List Int) : run1 E call iw_FnExactRightNormalOf [tPILI a0] = bw_FnExactRightNormalOf call a0 := by kernel_rfl
theorem vw_FnExactRightNormalOf (a0 : Int × List Int) {o : List TV} (h : bw_FnExactRightNormalOf R a0 = some o) : R iw_FnExactRightNormalOf [tPILI a0] = some o := ev_step ((ew_FnExactRightNormalOf R a0).trans h)
/-- spec.l03Inverse loop 3 -/
noncomputable def bs_l03Inverse_3 (call : Oracle) (x0 : Int) (x1 : Int) (x2 : List (List Int)) (x3 : Int) (x4 : Int) (x5 : List (List Int)) (x6 : Int) (x7 : Int) (x8 : List (List Int)) (x9 : Int) : Option (List TV) :=
  bif decide (0 ≤ x9) then
    bif (decide (0 ≤ x9) && decide (x9 < ((List.length x2 : Nat) : Int))) then
      (call is_l03Times [tPIPILA8 (x6, (x7, x8)), tA8 (List.getD x2 (Int.toNat x9) (List.replicate 8 0)), tB true]).bind fun o2 =>
      call is_l03Inverse_3 [tI x0, tI x1, tLA8 x2, tI x3, tI x4, tLA8 x5, tI ((gPIPILA8 o2 0).1), tI (((gPIPILA8 o2 0).2).1), tLA8 (((gPIPILA8 o2 0).2).2), tI (wi64 (x9 - 1))]
    else none
  else
    some [tI 0, tI x0, tI x1, tLA8 x2, tI x3, tI x4, tLA8 x5, tI x6, tI x7, tLA8 x8]
theorem es_l03Inverse_3 (call : Oracle) (x0 : Int) (x1 : Int) (x2 : List (List Int)) (x3 : Int) (x4 : Int) (x5 : List (List Int)) (x6 : Int) (x7 : Int) (x8 : List (List Int)) (x9 : Int) : run1 E call is_l03Inverse_3 [tI x0, tI x1, tLA8 x2, tI x3, tI x4, tLA8 x5, tI x6, tI x7, tLA8 x8, tI x9] = bs_l03Inverse_3 call x0 x1 x2 x3 x4 x5 x6 x7 x8 x9 := by kernel_rfl
theorem vs_l03Inverse_3 (x0 : Int) (x1 : Int) (x2 : List (List Int)) (x3 : Int) (x4 : Int) (x5 : List (List Int)) (x6 : Int) (x7 : Int) (x8 : List (List Int)) (x9 : Int) {o : List TV} (h : bs_l03Inverse_3 R x0 x1 x2 x3 x4 x5 x6 x7 x8 x9 = some o) : R is_l03Inverse_3 [tI x0, tI x1, tLA8 x2, tI x3, tI x4, tLA8 x5, tI x6, tI x7, tLA8 x8, tI x9] = some o := ev_step ((es_l03Inverse_3 R x0 x1 x2 x3 x4 x5 x6 x7 x8 x9).trans h)
/-- spec.l03Inverse -/
noncomputable def bs_l03Inverse (call : Oracle) (a0 : Int × Int × List (List Int)) : Option (List TV) :=
  (call is_l03Inverse_3 [tI a0.1, tI a0.2.1, tLA8 a0.2.2, tI 0, tI 0, tLA8 [], tI a0.1, tI 0, tLA8 [], tI (wi64 (((List.length a0.2.2 : Nat) : Int) - 1))]).bind fun o3 =>
  (call is_l03Turned [tLA8 (gLA8 o3 9), tI (gI o3 1), tI (gI o3 2)]).bind fun o4 =>
  some [tPIPILA8 ((gI o3 1), ((wi64 ((gI o3 8) - (gI o3 2))), (gLA8 o4 0)))]
theorem es_l03Inverse (call : Oracle) (a0 : Int × Int × List (List Int)) : run1 E call is_l03Inverse [tPIPILA8 a0] = bs_l03Inverse call a0 := by kernel_rfl
theorem vs_l03Inverse (a0 : Int × Int × List (List Int)) {o : List TV} (h : bs_l03Inverse R a0 = some o) : R is_l03Inverse [tPIPILA8 a0] = some o := ev_step ((es_l03Inverse R a0).trans h)
/-- spec.InverseNormal -/
noncomputable def bs_InverseNormal (call : Oracle) (a0 : Int × Int × List (List Int)) : Option (List TV) :=
  (call is_l03Is [tPIPILA8 (a0.1, (a0.2.1, a0.2.2))]).bind fun o1 =>
  bif (!(gB o1 0)) then
    some [tPIPILA8 (0, (0, [])), tI 1]
  else
    (call is_l03Inverse [tPIPILA8 (a0.1, (a0.2.1, a0.2.2))]).bind fun o2 =>
    (call is_l03Fit [tPIPILA8 ((gPIPILA8 o2 0).1, (((gPIPILA8 o2 0).2).1, ((gPIPILA8 o2 0).2).2))]).bind fun o3 =>
    some [tPIPILA8 ((gPIPILA8 o3 0).1, (((gPIPILA8 o3 0).2).1, ((gPIPILA8 o3 0).2).2)), tI (gI o3 1)]
theorem es_InverseNormal (call : Oracle) (a0 : Int × Int × List (List Int)) : run1 E call is_InverseNormal [tPIPILA8 a0] = bs_InverseNormal call a0 := by kernel_rfl
theorem vs_InverseNormal (a0 : Int × Int × List (List Int)) {o : List TV} (h : bs_InverseNormal R a0 = some o) : R is_InverseNormal [tPIPILA8 a0] = some o := ev_step ((es_InverseNormal R a0).trans h)
/-- impl.inverse loop 3 -/
noncomputable def bi_inverse_3 (call : Oracle) (x0 : Int) (x1 : Int) (x2 : List (List Int)) (x3 : Int) (x4 : Int) (x5 : List (List Int)) (x6 : Int) (x7 : Int) (x8 : List (List Int)) (x9 : Int) : Option (List TV) :=
  bif decide (0 ≤ x9) then
    bif (decide (0 ≤ x9) && decide (x9 < ((List.length x2 : Nat) : Int))) then
      (call i__i_Normal__putInverse [tPIPILA8 (x6, (x7, x8)), tA8 (List.getD x2 (Int.toNat x9) (List.replicate 8 0))]).bind fun o2 =>
      call ii_inverse_3 [tI x0, tI x1, tLA8 x2, tI x3, tI x4, tLA8 x5, tI ((gPIPILA8 o2 0).1), tI (((gPIPILA8 o2 0).2).1), tLA8 (((gPIPILA8 o2 0).2).2), tI (wi64 (x9 - 1))]
    else none
  else
    some [tI 0, tI x0, tI x1, tLA8 x2, tI x3, tI x4, tLA8 x5, tI x6, tI x7, tLA8 x8]
theorem ei_inverse_3 (call : Oracle) (x0 : Int) (x1 : Int) (x2 : List (List Int)) (x3 : Int) (x4 : Int) (x5 : List (List Int)) (x6 : Int) (x7 : Int) (x8 : List (List Int)) (x9 : Int) : run1 E call ii_inverse_3 [tI x0, tI x1, tLA8 x2, tI x3, tI x4, tLA8 x5, tI x6, tI x7, tLA8 x8, tI x9] = bi_inverse_3 call x0 x1 x2 x3 x4 x5 x6 x7 x8 x9 := by kernel_rfl
theorem vi_inverse_3 (x0 : Int) (x1 : Int) (x2 : List (List Int)) (x3 : Int) (x4 : Int) (x5 : List (List Int)) (x6 : Int) (x7 : Int) (x8 : List (List Int)) (x9 : Int) {o : List TV} (h : bi_inverse_3 R x0 x1 x2 x3 x4 x5 x6 x7 x8 x9 = some o) : R ii_inverse_3 [tI x0, tI x1, tLA8 x2, tI x3, tI x4, tLA8 x5, tI x6, tI x7, tLA8 x8, tI x9] = some o := ev_step ((ei_inverse_3 R x0 x1 x2 x3 x4 x5 x6 x7 x8 x9).trans h)
/-- impl.inverse -/
noncomputable def bi_inverse (call : Oracle) (a0 : Int × Int × List (List Int)) : Option (List TV) :=
  (call ii_inverse_3 [tI a0.1, tI a0.2.1, tLA8 a0.2.2, tI 0, tI 0, tLA8 [], tI a0.1, tI 0, tLA8 [], tI (wi64 (((List.length a0.2.2 : Nat) : Int) - 1))]).bind fun o3 =>
  (call i__i_Normal__turnBy [tPIPILA8 ((gI o3 7), ((gI o3 8), (gLA8 o3 9))), tI (wi64 (0 - (gI o3 2)))]).bind fun o4 =>
  some [tPIPILA8 ((gPIPILA8 o4 0).1, (((gPIPILA8 o4 0).2).1, ((gPIPILA8 o4 0).2).2))]
theorem ei_inverse (call : Oracle) (a0 : Int × Int × List (List Int)) : run1 E call ii_inverse [tPIPILA8 a0] = bi_inverse call a0 := by kernel_rfl
theorem vi_inverse (a0 : Int × Int × List (List Int)) {o : List TV} (h : bi_inverse R a0 = some o) : R ii_inverse [tPIPILA8 a0] = some o := ev_step ((ei_inverse R a0).trans h)
/-- impl.InverseNormal -/
noncomputable def bi_InverseNormal (call : Oracle) (a0 : Int × Int × List (List Int)) : Option (List TV) :=
  (call ii_IsNormal [tPIPILA8 (a0.1, (a0.2.1, a0.2.2))]).bind fun o1 =>
  bif (!(gB o1 0)) then
    some [tPIPILA8 (0, (0, [])), tI 1]
  else
    (call ii_inverse [tPIPILA8 (a0.1, (a0.2.1, a0.2.2))]).bind fun o2 =>
    (call ii_limited [tPIPILA8 ((gPIPILA8 o2 0).1, (((gPIPILA8 o2 0).2).1, ((gPIPILA8 o2 0).2).2))]).bind fun o3 =>
    some [tPIPILA8 ((gPIPILA8 o3 0).1, (((gPIPILA8 o3 0).2).1, ((gPIPILA8 o3 0).2).2)), tI (gI o3 1)]
theorem ei_InverseNormal (call : Oracle) (a0 : Int × Int × List (List Int)) : run1 E call ii_InverseNormal [tPIPILA8 a0] = bi_InverseNormal call a0 := by kernel_rfl
theorem vi_InverseNormal (a0 : Int × Int × List (List Int)) {o : List TV} (h : bi_InverseNormal R a0 = some o) : R ii_InverseNormal [tPIPILA8 a0] = some o := ev_step ((ei_InverseNormal R a0).trans h)
/-- laws.FnExactInverseNormal -/
noncomputable def bw_FnExactInverseNormal (call : Oracle) (a0 : Int × Int × List (List Int)) : Option (List TV) :=
  (call iw_szNormal [tPIPILA8 (a0.1, (a0.2.1, a0.2.2)), tI 1048576]).bind fun o1 =>
  bif decide ((gI o1 0) < 0) then
    some [tB true]
  else
    (call iw_toNormal [tPIPILA8 (a0.1, (a0.2.1, a0.2.2))]).bind fun o2 =>
    (call is_InverseNormal [tPIPILA8 ((gPIPILA8 o2 0).1, (((gPIPILA8 o2 0).2).1, ((gPIPILA8 o2 0).2).2))]).bind fun o3 =>
    (call iw_toNormal [tPIPILA8 (a0.1, (a0.2.1, a0.2.2))]).bind fun o4 =>
    (call ii_InverseNormal [tPIPILA8 ((gPIPILA8 o4 0).1, (((gPIPILA8 o4 0).2).1, ((gPIPILA8 o4 0).2).2))]).bind fun o5 =>
    (call iw_eqNormal [tPIPILA8 ((gPIPILA8 o5 0).1, (((gPIPILA8 o5 0).2).1, ((gPIPILA8 o5 0).2).2)), tPIPILA8 ((gPIPILA8 o3 0).1, (((gPIPILA8 o3 0).2).1, ((gPIPILA8 o3 0).2).2))]).bind fun o6 =>
    bif (!(gB o6 0)) then
      some [tB false]
    else
      bif ((gI o5 1) != (gI o3 1)) then
        some [tB false]
      else
        (call iw_toNormal [tPIPILA8 (a0.1, (a0.2.1, a0.2.2))]).bind fun o7 =>
        (call iw_eqNormal [tPIPILA8 ((gPIPILA8 o4 0).1, (((gPIPILA8 o4 0).2).1, ((gPIPILA8 o4 0).2).2)), tPIPILA8 ((gPIPILA8 o7 0).1, (((gPIPILA8 o7 0).2).1, ((gPIPILA8 o7 0).2).2))]).bind fun o8 =>
        bif (!(gB o8 0)) then
          some [tB false]
        else
          (call iw_markNormal [tPIPILA8 ((gPIPILA8 o4 0).1, (((gPIPILA8 o4 0).2).1, ((gPIPILA8 o4 0).2).2)), tI 1]).bind fun o9 =>
          bif decide ((gI o9 0) < 0) then
            some [tB false]
          else
            (call iw_eqNormal [tPIPILA8 ((gPIPILA8 o5 0).1, (((gPIPILA8 o5 0).2).1, ((gPIPILA8 o5 0).2).2)), tPIPILA8 ((gPIPILA8 o3 0).1, (((gPIPILA8 o3 0).2).1, ((gPIPILA8 o3 0).2).2))]).bind fun o10 =>
            bif (!(gB o10 0)) then
              some [tB false]
            else
              bif ((gI o5 1) != (gI o3 1)) then
                some [tB false]
              else
                (call iw_markNormal [tPIPILA8 ((gPIPILA8 o5 0).1, (((gPIPILA8 o5 0).2).1, ((gPIPILA8 o5 0).2).2)), tI 1]).bind fun o11 =>
                (call iw_heldNormal [tPIPILA8 ((gPIPILA8 o5 0).1, (((gPIPILA8 o5 0).2).1, ((gPIPILA8 o11 1).2).2)), tI 1]).bind fun o12 =>
                bif decide ((gI o12 0) < 0) then
                  some [tB false]
                else
                  bif ((gI o12 0) != (gI o11 0)) then
                    some [tB false]
                  else
                    (call iw_toNormal [tPIPILA8 (a0.1, (a0.2.1, a0.2.2))]).bind fun o13 =>
                    (call ii_InverseNormal [tPIPILA8 ((gPIPILA8 o13 0).1, (((gPIPILA8 o13 0).2).1, ((gPIPILA8 o13 0).2).2))]).bind fun o14 =>
                    (call iw_eqNormal [tPIPILA8 ((gPIPILA8 o14 0).1, (((gPIPILA8 o14 0).2).1, ((gPIPILA8 o14 0).2).2)), tPIPILA8 ((gPIPILA8 o3 0).1, (((gPIPILA8 o3 0).2).1, ((gPIPILA8 o3 0).2).2))]).bind fun o15 =>
                    bif (!(gB o15 0)) then
                      some [tB false]
                    else
                      bif ((gI o14 1) != (gI o3 1)) then
                        some [tB false]
                      else
                        (call iw_heldNormal [tPIPILA8 ((gPIPILA8 o5 0).1, (((gPIPILA8 o5 0).2).1, ((gPIPILA8 o11 1).2).2)), tI 1]).bind fun o16 =>
                        bif decide ((gI o16 0) < 0) then
                          some [tB false]
                        else
                          bif ((gI o16 0) != (gI o11 0)) then
                            some [tB false]
                          else
                            some [tB true]
theorem ew_FnExactInverseNormal (call : Oracle) (a0 : Int × Int × List (List Int)) : run1 E call iw_FnExactInverseNormal [tPIPILA8 a0] = bw_FnExactInverseNormal call a0 := by kernel_rfl
theorem vw_FnExactInverseNormal (a0 : Int × Int × List (List Int)) {o : List TV} (h : bw_FnExactInverseNormal R a0 = some o) : R iw_FnExactInverseNormal [tPIPILA8 a0] = some o := ev_step ((ew_FnExactInverseNormal R a0).trans h)
/-- spec.l03Both -/
noncomputable def bs_l03Both (call : Oracle) (a0 : Int × Int × List (List Int)) (a1 : Int × Int × List (List Int)) : Option (List TV) :=
  (call is_l03Is [tPIPILA8 (a0.1, (a0.2.1, a0.2.2))]).bind fun o1 =>
  bif (!(gB o1 0)) then
    some [tI 1]
  else
    (call is_l03Is [tPIPILA8 (a1.1, (a1.2.1, a1.2.2))]).bind fun o2 =>
    bif (!(gB o2 0)) then
      some [tI 1]
    else
      bif (a0.1 != a1.1) then
        some [tI 2]
      else
        some [tI 0]
theorem es_l03Both (call : Oracle) (a0 : Int × Int × List (List Int)) (a1 : Int × Int × List (List Int)) : run1 E call is_l03Both [tPIPILA8 a0, tPIPILA8 a1] = bs_l03Both call a0 a1 := by kernel_rfl
theorem vs_l03Both (a0 : Int × Int × List (List Int)) (a1 : Int × Int × List (List Int)) {o : List TV} (h : bs_l03Both R a0 a1 = some o) : R is_l03Both [tPIPILA8 a0, tPIPILA8 a1] = some o := ev_step ((es_l03Both R a0 a1).trans h)
/-- spec.MultiplyNormals -/
noncomputable def bs_MultiplyNormals (call : Oracle) (a0 : Int × Int × List (List Int)) (a1 : Int × Int × List (List Int)) : Option (List TV) :=
  (call is_l03Both [tPIPILA8 (a0.1, (a0.2.1, a0.2.2)), tPIPILA8 (a1.1, (a1.2.1, a1.2.2))]).bind fun o1 =>
  bif ((gI o1 0) != 0) then
    some [tPIPILA8 (0, (0, [])), tI (gI o1 0)]
  else
    (call is_l03Product [tPIPILA8 (a0.1, (a0.2.1, a0.2.2)), tPIPILA8 (a1.1, (a1.2.1, a1.2.2))]).bind fun o2 =>
    (call is_l03Fit [tPIPILA8 ((gPIPILA8 o2 0).1, (((gPIPILA8 o2 0).2).1, ((gPIPILA8 o2 0).2).2))]).bind fun o3 =>
    some [tPIPILA8 ((gPIPILA8 o3 0).1, (((gPIPILA8 o3 0).2).1, ((gPIPILA8 o3 0).2).2)), tI (gI o3 1)]
theorem es_MultiplyNormals (call : Oracle) (a0 : Int × Int × List (List Int)) (a1 : Int × Int × List (List Int)) : run1 E call is_MultiplyNormals [tPIPILA8 a0, tPIPILA8 a1] = bs_MultiplyNormals call a0 a1 := by kernel_rfl
theorem vs_MultiplyNormals (a0 : Int × Int × List (List Int)) (a1 : Int × Int × List (List Int)) {o : List TV} (h : bs_MultiplyNormals R a0 a1 = some o) : R is_MultiplyNormals [tPIPILA8 a0, tPIPILA8 a1] = some o := ev_step ((es_MultiplyNormals R a0 a1).trans h)
/-- impl.areSameCount -/
noncomputable def bi_areSameCount (call : Oracle) (a0 : Int × Int × List (List Int)) (a1 : Int × Int × List (List Int)) : Option (List TV) :=
  (call ii_IsNormal [tPIPILA8 (a0.1, (a0.2.1, a0.2.2))]).bind fun o1 =>
  bif (!(gB o1 0)) then
    some [tI 1]
  else
    (call ii_IsNormal [tPIPILA8 (a1.1, (a1.2.1, a1.2.2))]).bind fun o2 =>
    bif (!(gB o2 0)) then
      some [tI 1]
    else
      bif (a0.1 != a1.1) then
        some [tI 2]
      else
        some [tI 0]
theorem ei_areSameCount (call : Oracle) (a0 : Int × Int × List (List Int)) (a1 : Int × Int × List (List Int)) : run1 E call ii_areSameCount [tPIPILA8 a0, tPIPILA8 a1] = bi_areSameCount call a0 a1 := by kernel_rfl
theorem vi_areSameCount (a0 : Int × Int × List (List Int)) (a1 : Int × Int × List (List Int)) {o : List TV} (h : bi_areSameCount R a0 a1 = some o) : R ii_areSameCount [tPIPILA8 a0, tPIPILA8 a1] = some o := ev_step ((ei_areSameCount R a0 a1).trans h)
/-- impl.MultiplyNormals -/
noncomputable def bi_MultiplyNormals (call : Oracle) (a0 : Int × Int × List (List Int)) (a1 : Int × Int × List (List Int)) : Option (List TV) :=
  (call ii_areSameCount [tPIPILA8 (a0.1, (a0.2.1, a0.2.2)), tPIPILA8 (a1.1, (a1.2.1, a1.2.2))]).bind fun o1 =>
  bif ((gI o1 0) != 0) then
    some [tPIPILA8 (0, (0, [])), tI (gI o1 0)]
  else
    (call ii_product [tPIPILA8 (a0.1, (a0.2.1, a0.2.2)), tPIPILA8 (a1.1, (a1.2.1, a1.2.2))]).bind fun o2 =>
    (call ii_limited [tPIPILA8 ((gPIPILA8 o2 0).1, (((gPIPILA8 o2 0).2).1, ((gPIPILA8 o2 0).2).2))]).bind fun o3 =>
    some [tPIPILA8 ((gPIPILA8 o3 0).1, (((gPIPILA8 o3 0).2).1, ((gPIPILA8 o3 0).2).2)), tI (gI o3 1)]
theorem ei_MultiplyNormals (call : Oracle) (a0 : Int × Int × List (List Int)) (a1 : Int × Int × List (List Int)) : run1 E call ii_MultiplyNormals [tPIPILA8 a0, tPIPILA8 a1] = bi_MultiplyNormals call a0 a1 := by kernel_rfl
theorem vi_MultiplyNormals (a0 : Int × Int × List (List Int)) (a1 : Int × Int × List (List Int)) {o : List TV} (h : bi_MultiplyNormals R a0 a1 = some o) : R ii_MultiplyNormals [tPIPILA8 a0, tPIPILA8 a1] = some o := ev_step ((ei_MultiplyNormals R a0 a1).trans h)
/-- laws.FnExactMultiplyNormals -/
noncomputable def bw_FnExactMultiplyNormals (call : Oracle) (a0 : Int × Int × List (List Int)) (a1 : Int × Int × List (List Int)) : Option (List TV) :=
  (call iw_szNormal [tPIPILA8 (a0.1, (a0.2.1, a0.2.2)), tI 1048576]).bind fun o1 =>
  bif decide ((gI o1 0) < 0) then
    some [tB true]
  else
    (call iw_szNormal [tPIPILA8 (a1.1, (a1.2.1, a1.2.2)), tI (gI o1 0)]).bind fun o2 =>
    bif decide ((gI o2 0) < 0) then
      some [tB true]
    else
      (call iw_toNormal [tPIPILA8 (a0.1, (a0.2.1, a0.2.2))]).bind fun o3 =>
      (call iw_toNormal [tPIPILA8 (a1.1, (a1.2.1, a1.2.2))]).bind fun o4 =>
      (call is_MultiplyNormals [tPIPILA8 ((gPIPILA8 o3 0).1, (((gPIPILA8 o3 0).2).1, ((gPIPILA8 o3 0).2).2)), tPIPILA8 ((gPIPILA8 o4 0).1, (((gPIPILA8 o4 0).2).1, ((gPIPILA8 o4 0).2).2))]).bind fun o5 =>
      (call iw_toNormal [tPIPILA8 (a0.1, (a0.2.1, a0.2.2))]).bind fun o6 =>
      (call iw_toNormal [tPIPILA8 (a1.1, (a1.2.1, a1.2.2))]).bind fun o7 =>
      (call ii_MultiplyNormals [tPIPILA8 ((gPIPILA8 o6 0).1, (((gPIPILA8 o6 0).2).1, ((gPIPILA8 o6 0).2).2)), tPIPILA8 ((gPIPILA8 o7 0).1, (((gPIPILA8 o7 0).2).1, ((gPIPILA8 o7 0).2).2))]).bind fun o8 =>
      (call iw_eqNormal [tPIPILA8 ((gPIPILA8 o8 0).1, (((gPIPILA8 o8 0).2).1, ((gPIPILA8 o8 0).2).2)), tPIPILA8 ((gPIPILA8 o5 0).1, (((gPIPILA8 o5 0).2).1, ((gPIPILA8 o5 0).2).2))]).bind fun o9 =>
      bif (!(gB o9 0)) then
        some [tB false]
      else
        bif ((gI o8 1) != (gI o5 1)) then
          some [tB false]
        else
          (call iw_toNormal [tPIPILA8 (a0.1, (a0.2.1, a0.2.2))]).bind fun o10 =>
          (call iw_eqNormal [tPIPILA8 ((gPIPILA8 o6 0).1, (((gPIPILA8 o6 0).2).1, ((gPIPILA8 o6 0).2).2)), tPIPILA8 ((gPIPILA8 o10 0).1, (((gPIPILA8 o10 0).2).1, ((gPIPILA8 o10 0).2).2))]).bind fun o11 =>
          bif (!(gB o11 0)) then
            some [tB false]
          else
            (call iw_toNormal [tPIPILA8 (a1.1, (a1.2.1, a1.2.2))]).bind fun o12 =>
            (call iw_eqNormal [tPIPILA8 ((gPIPILA8 o7 0).1, (((gPIPILA8 o7 0).2).1, ((gPIPILA8 o7 0).2).2)), tPIPILA8 ((gPIPILA8 o12 0).1, (((gPIPILA8 o12 0).2).1, ((gPIPILA8 o12 0).2).2))]).bind fun o13 =>
            bif (!(gB o13 0)) then
              some [tB false]
            else
              (call iw_markNormal [tPIPILA8 ((gPIPILA8 o6 0).1, (((gPIPILA8 o6 0).2).1, ((gPIPILA8 o6 0).2).2)), tI 1]).bind fun o14 =>
              (call iw_markNormal [tPIPILA8 ((gPIPILA8 o7 0).1, (((gPIPILA8 o7 0).2).1, ((gPIPILA8 o7 0).2).2)), tI (gI o14 0)]).bind fun o15 =>
              bif decide ((gI o15 0) < 0) then
                some [tB false]
              else
                (call iw_eqNormal [tPIPILA8 ((gPIPILA8 o8 0).1, (((gPIPILA8 o8 0).2).1, ((gPIPILA8 o8 0).2).2)), tPIPILA8 ((gPIPILA8 o5 0).1, (((gPIPILA8 o5 0).2).1, ((gPIPILA8 o5 0).2).2))]).bind fun o16 =>
                bif (!(gB o16 0)) then
                  some [tB false]
                else
                  bif ((gI o8 1) != (gI o5 1)) then
                    some [tB false]
                  else
                    (call iw_markNormal [tPIPILA8 ((gPIPILA8 o8 0).1, (((gPIPILA8 o8 0).2).1, ((gPIPILA8 o8 0).2).2)), tI 1]).bind fun o17 =>
                    (call iw_heldNormal [tPIPILA8 ((gPIPILA8 o8 0).1, (((gPIPILA8 o8 0).2).1, ((gPIPILA8 o17 1).2).2)), tI 1]).bind fun o18 =>
                    bif decide ((gI o18 0) < 0) then
                      some [tB false]
                    else
                      bif ((gI o18 0) != (gI o17 0)) then
                        some [tB false]
                      else
                        (call iw_toNormal [tPIPILA8 (a0.1, (a0.2.1, a0.2.2))]).bind fun o19 =>
                        (call iw_toNormal [tPIPILA8 (a1.1, (a1.2.1, a1.2.2))]).bind fun o20 =>
                        (call ii_MultiplyNormals [tPIPILA8 ((gPIPILA8 o19 0).1, (((gPIPILA8 o19 0).2).1, ((gPIPILA8 o19 0).2).2)), tPIPILA8 ((gPIPILA8 o20 0).1, (((gPIPILA8 o20 0).2).1, ((gPIPILA8 o20 0).2).2))]).bind fun o21 =>
                        (call iw_eqNormal [tPIPILA8 ((gPIPILA8 o21 0).1, (((gPIPILA8 o21 0).2).1, ((gPIPILA8 o21 0).2).2)), tPIPILA8 ((gPIPILA8 o5 0).1, (((gPIPILA8 o5 0).2).1, ((gPIPILA8 o5 0).2).2))]).bind fun o22 =>
                        bif (!(gB o22 0)) then
                          some [tB false]
                        else
                          bif ((gI o21 1) != (gI o5 1)) then
                            some [tB false]
                          else
                            (call iw_heldNormal [tPIPILA8 ((gPIPILA8 o8 0).1, (((gPIPILA8 o8 0).2).1, ((gPIPILA8 o17 1).2).2)), tI 1]).bind fun o23 =>
                            bif decide ((gI o23 0) < 0) then
                              some [tB false]
                            else
                              bif ((gI o23 0) != (gI o17 0)) then
                                some [tB false]
                              else
                                some [tB true]
theorem ew_FnExactMultiplyNormals (call : Oracle) (a0 : Int × Int × List (List Int)) (a1 : Int × Int × List (List Int)) : run1 E call iw_FnExactMultiplyNormals [tPIPILA8 a0, tPIPILA8 a1] = bw_FnExactMultiplyNormals call a0 a1 := by kernel_rfl
theorem vw_FnExactMultiplyNormals (a0 : Int × Int × List (List Int)) (a1 : Int × Int × List (List Int)) {o : List TV} (h : bw_FnExactMultiplyNormals R a0 a1 = some o) : R iw_FnExactMultiplyNormals [tPIPILA8 a0, tPIPILA8 a1] = some o := ev_step ((ew_FnExactMultiplyNormals R a0 a1).trans h)
end Go.Ev.Ytolpnaiincngjaa
