/- Bodies, part 0. -/
import Derived.KernelRfl
import Derived.Test.YtadjhggdddbicaaEnv
set_option linter.unusedVariables false
namespace Go.Ev.Ytadjhggdddbicaa
open Go.Ev
/-- laws.toPart loop 3 -/
noncomputable def bw_toPart_3 (call : Oracle) (x0 : List Int) (x1 : List Int) (x2 : List Int) (x3 : Int) : Option (List TV) :=
  bif decide (x3 < 8) then
    bif (decide (0 ≤ x3) && decide (x3 < 8)) then
      bif (decide (0 ≤ x3) && decide (x3 < 8)) then
        call iw_toPart_3 [tA8 x0, tA8 x1, tA8 (List.set x2 (Int.toNat x3) (List.getD x0 (Int.toNat x3) 0)), tI (wi64 (x3 + 1))]
      else none
    else none
  else
    some [tI 0, tA8 x1, tA8 x2]
theorem ew_toPart_3 (call : Oracle) (x0 : List Int) (x1 : List Int) (x2 : List Int) (x3 : Int) : run1 E call iw_toPart_3 [tA8 x0, tA8 x1, tA8 x2, tI x3] = bw_toPart_3 call x0 x1 x2 x3 := by kernel_rfl
theorem vw_toPart_3 (x0 : List Int) (x1 : List Int) (x2 : List Int) (x3 : Int) {o : List TV} (h : bw_toPart_3 R x0 x1 x2 x3 = some o) : R iw_toPart_3 [tA8 x0, tA8 x1, tA8 x2, tI x3] = some o := ev_step ((ew_toPart_3 R x0 x1 x2 x3).trans h)
/-- laws.toPart -/
noncomputable def bw_toPart (call : Oracle) (a0 : List Int) : Option (List TV) :=
  (call iw_toPart_3 [tA8 a0, tA8 (List.replicate 8 0), tA8 (List.replicate 8 0), tI 0]).bind fun o1 =>
  some [tA8 (gA8 o1 2)]
theorem ew_toPart (call : Oracle) (a0 : List Int) : run1 E call iw_toPart [tA8 a0] = bw_toPart call a0 := by kernel_rfl
theorem vw_toPart (a0 : List Int) {o : List TV} (h : bw_toPart R a0 = some o) : R iw_toPart [tA8 a0] = some o := ev_step ((ew_toPart R a0).trans h)
/-- spec.l01In -/
noncomputable def bs_l01In (call : Oracle) (a0 : Int) (a1 : Int) (a2 : Int) : Option (List TV) :=
  bif decide (a1 ≤ a0) then
    some [tB (decide (a0 ≤ a2))]
  else
    some [tB false]
theorem es_l01In (call : Oracle) (a0 : Int) (a1 : Int) (a2 : Int) : run1 E call is_l01In [tI a0, tI a1, tI a2] = bs_l01In call a0 a1 a2 := by kernel_rfl
theorem vs_l01In (a0 : Int) (a1 : Int) (a2 : Int) {o : List TV} (h : bs_l01In R a0 a1 a2 = some o) : R is_l01In [tI a0, tI a1, tI a2] = some o := ev_step ((es_l01In R a0 a1 a2).trans h)
/-- spec.l07Least loop 3 -/
noncomputable def bs_l07Least_3 (call : Oracle) (x0 : List Int) (x1 : List Int) (x2 : List Int) (x3 : List Bool) (x4 : Int) (x5 : Int) : Option (List TV) :=
  bif decide (x5 < 8) then
    bif decide (x4 ≤ x5) then
      bif (decide (0 ≤ x5) && decide (x5 < 8)) then
        bif ((List.getD x0 (Int.toNat x5) 0) != 0) then
          some [tI 1, tAi8 x2, tB false]
        else
          bif decide (x5 < x4) then
            bif (decide (0 ≤ x5) && decide (x5 < 8)) then
              bif decide (x4 ≤ (wi64 ((List.getD x0 (Int.toNat x5) 0)))) then
                some [tI 1, tAi8 x2, tB false]
              else
                bif (decide (0 ≤ x5) && decide (x5 < 8)) then
                  bif (decide (0 ≤ (List.getD x0 (Int.toNat x5) 0)) && decide ((List.getD x0 (Int.toNat x5) 0) < 8)) then
                    bif (List.getD x3 (Int.toNat (List.getD x0 (Int.toNat x5) 0)) false) then
                      some [tI 1, tAi8 x2, tB false]
                    else
                      bif decide (x5 < x4) then
                        bif (decide (0 ≤ x5) && decide (x5 < 8)) then
                          bif (decide (0 ≤ (List.getD x0 (Int.toNat x5) 0)) && decide ((List.getD x0 (Int.toNat x5) 0) < 8)) then
                            call is_l07Least_3 [tA8 x0, tAi8 x1, tAi8 x2, tAB8 (List.set x3 (Int.toNat (List.getD x0 (Int.toNat x5) 0)) true), tI x4, tI (wi64 (x5 + 1))]
                          else none
                        else none
                      else
                        call is_l07Least_3 [tA8 x0, tAi8 x1, tAi8 x2, tAB8 x3, tI x4, tI (wi64 (x5 + 1))]
                  else none
                else none
            else none
          else
            bif decide (x5 < x4) then
              bif (decide (0 ≤ x5) && decide (x5 < 8)) then
                bif (decide (0 ≤ (List.getD x0 (Int.toNat x5) 0)) && decide ((List.getD x0 (Int.toNat x5) 0) < 8)) then
                  call is_l07Least_3 [tA8 x0, tAi8 x1, tAi8 x2, tAB8 (List.set x3 (Int.toNat (List.getD x0 (Int.toNat x5) 0)) true), tI x4, tI (wi64 (x5 + 1))]
                else none
              else none
            else
              call is_l07Least_3 [tA8 x0, tAi8 x1, tAi8 x2, tAB8 x3, tI x4, tI (wi64 (x5 + 1))]
      else none
    else
      bif decide (x5 < x4) then
        bif (decide (0 ≤ x5) && decide (x5 < 8)) then
          bif decide (x4 ≤ (wi64 ((List.getD x0 (Int.toNat x5) 0)))) then
            some [tI 1, tAi8 x2, tB false]
          else
            bif (decide (0 ≤ x5) && decide (x5 < 8)) then
              bif (decide (0 ≤ (List.getD x0 (Int.toNat x5) 0)) && decide ((List.getD x0 (Int.toNat x5) 0) < 8)) then
                bif (List.getD x3 (Int.toNat (List.getD x0 (Int.toNat x5) 0)) false) then
                  some [tI 1, tAi8 x2, tB false]
                else
                  bif decide (x5 < x4) then
                    bif (decide (0 ≤ x5) && decide (x5 < 8)) then
                      bif (decide (0 ≤ (List.getD x0 (Int.toNat x5) 0)) && decide ((List.getD x0 (Int.toNat x5) 0) < 8)) then
                        call is_l07Least_3 [tA8 x0, tAi8 x1, tAi8 x2, tAB8 (List.set x3 (Int.toNat (List.getD x0 (Int.toNat x5) 0)) true), tI x4, tI (wi64 (x5 + 1))]
                      else none
                    else none
                  else
                    call is_l07Least_3 [tA8 x0, tAi8 x1, tAi8 x2, tAB8 x3, tI x4, tI (wi64 (x5 + 1))]
              else none
            else none
        else none
      else
        bif decide (x5 < x4) then
          bif (decide (0 ≤ x5) && decide (x5 < 8)) then
            bif (decide (0 ≤ (List.getD x0 (Int.toNat x5) 0)) && decide ((List.getD x0 (Int.toNat x5) 0) < 8)) then
              call is_l07Least_3 [tA8 x0, tAi8 x1, tAi8 x2, tAB8 (List.set x3 (Int.toNat (List.getD x0 (Int.toNat x5) 0)) true), tI x4, tI (wi64 (x5 + 1))]
            else none
          else none
        else
          call is_l07Least_3 [tA8 x0, tAi8 x1, tAi8 x2, tAB8 x3, tI x4, tI (wi64 (x5 + 1))]
  else
    some [tI 0, tA8 x0, tAi8 x1, tAi8 x2, tI x4]
theorem es_l07Least_3 (call : Oracle) (x0 : List Int) (x1 : List Int) (x2 : List Int) (x3 : List Bool) (x4 : Int) (x5 : Int) : run1 E call is_l07Least_3 [tA8 x0, tAi8 x1, tAi8 x2, tAB8 x3, tI x4, tI x5] = bs_l07Least_3 call x0 x1 x2 x3 x4 x5 := by kernel_rfl
theorem vs_l07Least_3 (x0 : List Int) (x1 : List Int) (x2 : List Int) (x3 : List Bool) (x4 : Int) (x5 : Int) {o : List TV} (h : bs_l07Least_3 R x0 x1 x2 x3 x4 x5 = some o) : R is_l07Least_3 [tA8 x0, tAi8 x1, tAi8 x2, tAB8 x3, tI x4, tI x5] = some o := ev_step ((es_l07Least_3 R x0 x1 x2 x3 x4 x5).trans h)
/-- spec.l07Least loop 11 -/
noncomputable def bs_l07Least_11 (call : Oracle) (x0 : List Int) (x1 : List Int) (x2 : List Int) (x3 : List Bool) (x4 : Int) (x5 : Int) : Option (List TV) :=
  bif decide (x5 < x4) then
    (call is_l07Least_14 [tA8 x0, tAi8 x1, tAi8 x2, tAB8 x3, tI x4, tI x5, tI x5]).bind fun o3 =>
    call is_l07Least_11 [tA8 (gA8 o3 1), tAi8 (gAi8 o3 2), tAi8 (gAi8 o3 3), tAB8 (gAB8 o3 4), tI (gI o3 5), tI (wi64 ((gI o3 6) + 1))]
  else
    some [tI 0, tAi8 x1, tAi8 x2]
theorem es_l07Least_11 (call : Oracle) (x0 : List Int) (x1 : List Int) (x2 : List Int) (x3 : List Bool) (x4 : Int) (x5 : Int) : run1 E call is_l07Least_11 [tA8 x0, tAi8 x1, tAi8 x2, tAB8 x3, tI x4, tI x5] = bs_l07Least_11 call x0 x1 x2 x3 x4 x5 := by kernel_rfl
theorem vs_l07Least_11 (x0 : List Int) (x1 : List Int) (x2 : List Int) (x3 : List Bool) (x4 : Int) (x5 : Int) {o : List TV} (h : bs_l07Least_11 R x0 x1 x2 x3 x4 x5 = some o) : R is_l07Least_11 [tA8 x0, tAi8 x1, tAi8 x2, tAB8 x3, tI x4, tI x5] = some o := ev_step ((es_l07Least_11 R x0 x1 x2 x3 x4 x5).trans h)
/-- spec.l07Least loop 14 -/
noncomputable def bs_l07Least_14 (call : Oracle) (x0 : List Int) (x1 : List Int) (x2 : List Int) (x3 : List Bool) (x4 : Int) (x5 : Int) (x6 : Int) : Option (List TV) :=
  bif (decide (0 ≤ x6) && decide (x6 < 8)) then
    bif (!(List.getD x3 (Int.toNat x6) false)) then
      bif (decide (0 ≤ x6) && decide (x6 < 8)) then
        bif (decide (0 ≤ x6) && decide (x6 < 8)) then
          bif (decide (0 ≤ x6) && decide (x6 < 8)) then
            call is_l07Least_14 [tA8 x0, tAi8 x1, tAi8 (List.set x2 (Int.toNat x6) x5), tAB8 (List.set x3 (Int.toNat x6) true), tI x4, tI x5, tI (wi64 ((List.getD x0 (Int.toNat x6) 0)))]
          else none
        else none
      else none
    else
      some [tI 0, tA8 x0, tAi8 x1, tAi8 x2, tAB8 x3, tI x4, tI x5]
  else none
theorem es_l07Least_14 (call : Oracle) (x0 : List Int) (x1 : List Int) (x2 : List Int) (x3 : List Bool) (x4 : Int) (x5 : Int) (x6 : Int) : run1 E call is_l07Least_14 [tA8 x0, tAi8 x1, tAi8 x2, tAB8 x3, tI x4, tI x5, tI x6] = bs_l07Least_14 call x0 x1 x2 x3 x4 x5 x6 := by kernel_rfl
theorem vs_l07Least_14 (x0 : List Int) (x1 : List Int) (x2 : List Int) (x3 : List Bool) (x4 : Int) (x5 : Int) (x6 : Int) {o : List TV} (h : bs_l07Least_14 R x0 x1 x2 x3 x4 x5 x6 = some o) : R is_l07Least_14 [tA8 x0, tAi8 x1, tAi8 x2, tAB8 x3, tI x4, tI x5, tI x6] = some o := ev_step ((es_l07Least_14 R x0 x1 x2 x3 x4 x5 x6).trans h)
/-- spec.l07Least -/
noncomputable def bs_l07Least (call : Oracle) (a0 : List Int) (a1 : Int) : Option (List TV) :=
  (call is_l07Least_3 [tA8 a0, tAi8 (List.replicate 8 0), tAi8 (List.replicate 8 0), tAB8 (List.replicate 8 false), tI a1, tI 0]).bind fun o1 =>
  bif ((gI o1 0) == 0) then
    (call is_l07Least_11 [tA8 (gA8 o1 1), tAi8 (gAi8 o1 2), tAi8 (gAi8 o1 3), tAB8 (List.replicate 8 false), tI (gI o1 4), tI 0]).bind fun o4 =>
    some [tAi8 (gAi8 o4 2), tB true]
  else
    some [tAi8 (gAi8 o1 1), tB (gB o1 2)]
theorem es_l07Least (call : Oracle) (a0 : List Int) (a1 : Int) : run1 E call is_l07Least [tA8 a0, tI a1] = bs_l07Least call a0 a1 := by kernel_rfl
theorem vs_l07Least (a0 : List Int) (a1 : Int) {o : List TV} (h : bs_l07Least R a0 a1 = some o) : R is_l07Least [tA8 a0, tI a1] = some o := ev_step ((es_l07Least R a0 a1).trans h)
/-- spec.l07Made loop 3 -/
noncomputable def bs_l07Made_3 (call : Oracle) (x0 : List Int) (x1 : List Int) (x2 : List Int) (x3 : Int) (x4 : Int) : Option (List TV) :=
  bif decide (x4 < x3) then
    bif (decide (0 ≤ x4) && decide (x4 < 8)) then
      bif (decide (0 ≤ x4) && decide (x4 < 8)) then
        (call is_l07Made_7 [tAi8 x0, tA8 x1, tA8 (List.set x2 (Int.toNat x4) (wu8 ((List.getD x0 (Int.toNat x4) 0)))), tI x3, tI x4, tI (wi64 (x3 - 1))]).bind fun o2 =>
        call is_l07Made_3 [tAi8 (gAi8 o2 1), tA8 (gA8 o2 2), tA8 (gA8 o2 3), tI (gI o2 4), tI (wi64 ((gI o2 5) + 1))]
      else none
    else none
  else
    some [tI 0, tA8 x1, tA8 x2]
theorem es_l07Made_3 (call : Oracle) (x0 : List Int) (x1 : List Int) (x2 : List Int) (x3 : Int) (x4 : Int) : run1 E call is_l07Made_3 [tAi8 x0, tA8 x1, tA8 x2, tI x3, tI x4] = bs_l07Made_3 call x0 x1 x2 x3 x4 := by kernel_rfl
theorem vs_l07Made_3 (x0 : List Int) (x1 : List Int) (x2 : List Int) (x3 : Int) (x4 : Int) {o : List TV} (h : bs_l07Made_3 R x0 x1 x2 x3 x4 = some o) : R is_l07Made_3 [tAi8 x0, tA8 x1, tA8 x2, tI x3, tI x4] = some o := ev_step ((es_l07Made_3 R x0 x1 x2 x3 x4).trans h)
/-- spec.l07Made loop 7 -/
noncomputable def bs_l07Made_7 (call : Oracle) (x0 : List Int) (x1 : List Int) (x2 : List Int) (x3 : Int) (x4 : Int) (x5 : Int) : Option (List TV) :=
  bif decide (x4 < x5) then
    bif (decide (0 ≤ x5) && decide (x5 < 8)) then
      bif (decide (0 ≤ x4) && decide (x4 < 8)) then
        bif ((List.getD x0 (Int.toNat x5) 0) == (List.getD x0 (Int.toNat x4) 0)) then
          bif (decide (0 ≤ x4) && decide (x4 < 8)) then
            call is_l07Made_7 [tAi8 x0, tA8 x1, tA8 (List.set x2 (Int.toNat x4) (wu8 (x5))), tI x3, tI x4, tI (wi64 (x5 - 1))]
          else none
        else
          call is_l07Made_7 [tAi8 x0, tA8 x1, tA8 x2, tI x3, tI x4, tI (wi64 (x5 - 1))]
      else none
    else none
  else
    some [tI 0, tAi8 x0, tA8 x1, tA8 x2, tI x3, tI x4]
theorem es_l07Made_7 (call : Oracle) (x0 : List Int) (x1 : List Int) (x2 : List Int) (x3 : Int) (x4 : Int) (x5 : Int) : run1 E call is_l07Made_7 [tAi8 x0, tA8 x1, tA8 x2, tI x3, tI x4, tI x5] = bs_l07Made_7 call x0 x1 x2 x3 x4 x5 := by kernel_rfl
theorem vs_l07Made_7 (x0 : List Int) (x1 : List Int) (x2 : List Int) (x3 : Int) (x4 : Int) (x5 : Int) {o : List TV} (h : bs_l07Made_7 R x0 x1 x2 x3 x4 x5 = some o) : R is_l07Made_7 [tAi8 x0, tA8 x1, tA8 x2, tI x3, tI x4, tI x5] = some o := ev_step ((es_l07Made_7 R x0 x1 x2 x3 x4 x5).trans h)
/-- spec.l07Made -/
noncomputable def bs_l07Made (call : Oracle) (a0 : List Int) (a1 : Int) : Option (List TV) :=
  (call is_l07Made_3 [tAi8 a0, tA8 (List.replicate 8 0), tA8 (List.replicate 8 0), tI a1, tI 0]).bind fun o3 =>
  some [tA8 (gA8 o3 2)]
theorem es_l07Made (call : Oracle) (a0 : List Int) (a1 : Int) : run1 E call is_l07Made [tAi8 a0, tI a1] = bs_l07Made call a0 a1 := by kernel_rfl
theorem vs_l07Made (a0 : List Int) (a1 : Int) {o : List TV} (h : bs_l07Made R a0 a1 = some o) : R is_l07Made [tAi8 a0, tI a1] = some o := ev_step ((es_l07Made R a0 a1).trans h)
/-- spec.l07Crossing loop 2 -/
noncomputable def bs_l07Crossing_2 (call : Oracle) (x0 : List Int) (x1 : Int) (x2 : Int) : Option (List TV) :=
  bif decide (x2 < x1) then
    (call is_l07Crossing_5 [tAi8 x0, tI x1, tI x2, tI (wi64 (x2 + 1))]).bind fun o6 =>
    bif ((gI o6 0) == 0) then
      call is_l07Crossing_2 [tAi8 (gAi8 o6 1), tI (gI o6 2), tI (wi64 ((gI o6 3) + 1))]
    else
      some [tI 1, tB (gB o6 1)]
  else
    some [tI 0]
theorem es_l07Crossing_2 (call : Oracle) (x0 : List Int) (x1 : Int) (x2 : Int) : run1 E call is_l07Crossing_2 [tAi8 x0, tI x1, tI x2] = bs_l07Crossing_2 call x0 x1 x2 := by kernel_rfl
theorem vs_l07Crossing_2 (x0 : List Int) (x1 : Int) (x2 : Int) {o : List TV} (h : bs_l07Crossing_2 R x0 x1 x2 = some o) : R is_l07Crossing_2 [tAi8 x0, tI x1, tI x2] = some o := ev_step ((es_l07Crossing_2 R x0 x1 x2).trans h)
/-- spec.l07Crossing loop 5 -/
noncomputable def bs_l07Crossing_5 (call : Oracle) (x0 : List Int) (x1 : Int) (x2 : Int) (x3 : Int) : Option (List TV) :=
  bif decide (x3 < x1) then
    (call is_l07Crossing_8 [tAi8 x0, tI x1, tI x2, tI x3, tI (wi64 (x3 + 1))]).bind fun o4 =>
    bif ((gI o4 0) == 0) then
      call is_l07Crossing_5 [tAi8 (gAi8 o4 1), tI (gI o4 2), tI (gI o4 3), tI (wi64 ((gI o4 4) + 1))]
    else
      some [tI 1, tB (gB o4 1)]
  else
    some [tI 0, tAi8 x0, tI x1, tI x2]
theorem es_l07Crossing_5 (call : Oracle) (x0 : List Int) (x1 : Int) (x2 : Int) (x3 : Int) : run1 E call is_l07Crossing_5 [tAi8 x0, tI x1, tI x2, tI x3] = bs_l07Crossing_5 call x0 x1 x2 x3 := by kernel_rfl
theorem vs_l07Crossing_5 (x0 : List Int) (x1 : Int) (x2 : Int) (x3 : Int) {o : List TV} (h : bs_l07Crossing_5 R x0 x1 x2 x3 = some o) : R is_l07Crossing_5 [tAi8 x0, tI x1, tI x2, tI x3] = some o := ev_step ((es_l07Crossing_5 R x0 x1 x2 x3).trans h)
/-- spec.l07Crossing loop 8 -/
noncomputable def bs_l07Crossing_8 (call : Oracle) (x0 : List Int) (x1 : Int) (x2 : Int) (x3 : Int) (x4 : Int) : Option (List TV) :=
  bif decide (x4 < x1) then
    (call is_l07Crossing_11 [tAi8 x0, tI x1, tI x2, tI x3, tI x4, tI (wi64 (x4 + 1))]).bind fun o2 =>
    bif ((gI o2 0) == 0) then
      call is_l07Crossing_8 [tAi8 (gAi8 o2 1), tI (gI o2 2), tI (gI o2 3), tI (gI o2 4), tI (wi64 ((gI o2 5) + 1))]
    else
      some [tI 1, tB (gB o2 1)]
  else
    some [tI 0, tAi8 x0, tI x1, tI x2, tI x3]
theorem es_l07Crossing_8 (call : Oracle) (x0 : List Int) (x1 : Int) (x2 : Int) (x3 : Int) (x4 : Int) : run1 E call is_l07Crossing_8 [tAi8 x0, tI x1, tI x2, tI x3, tI x4] = bs_l07Crossing_8 call x0 x1 x2 x3 x4 := by kernel_rfl
theorem vs_l07Crossing_8 (x0 : List Int) (x1 : Int) (x2 : Int) (x3 : Int) (x4 : Int) {o : List TV} (h : bs_l07Crossing_8 R x0 x1 x2 x3 x4 = some o) : R is_l07Crossing_8 [tAi8 x0, tI x1, tI x2, tI x3, tI x4] = some o := ev_step ((es_l07Crossing_8 R x0 x1 x2 x3 x4).trans h)
/-- spec.l07Crossing loop 11 -/
noncomputable def bs_l07Crossing_11 (call : Oracle) (x0 : List Int) (x1 : Int) (x2 : Int) (x3 : Int) (x4 : Int) (x5 : Int) : Option (List TV) :=
  bif decide (x5 < x1) then
    bif (decide (0 ≤ x2) && decide (x2 < 8)) then
      bif (decide (0 ≤ x4) && decide (x4 < 8)) then
        bif ((List.getD x0 (Int.toNat x2) 0) == (List.getD x0 (Int.toNat x4) 0)) then
          bif (decide (0 ≤ x3) && decide (x3 < 8)) then
            bif (decide (0 ≤ x5) && decide (x5 < 8)) then
              bif ((List.getD x0 (Int.toNat x3) 0) == (List.getD x0 (Int.toNat x5) 0)) then
                bif (decide (0 ≤ x2) && decide (x2 < 8)) then
                  bif (decide (0 ≤ x3) && decide (x3 < 8)) then
                    bif ((List.getD x0 (Int.toNat x2) 0) != (List.getD x0 (Int.toNat x3) 0)) then
                      some [tI 1, tB true]
                    else
                      call is_l07Crossing_11 [tAi8 x0, tI x1, tI x2, tI x3, tI x4, tI (wi64 (x5 + 1))]
                  else none
                else none
              else
                call is_l07Crossing_11 [tAi8 x0, tI x1, tI x2, tI x3, tI x4, tI (wi64 (x5 + 1))]
            else none
          else none
        else
          call is_l07Crossing_11 [tAi8 x0, tI x1, tI x2, tI x3, tI x4, tI (wi64 (x5 + 1))]
      else none
    else none
  else
    some [tI 0, tAi8 x0, tI x1, tI x2, tI x3, tI x4]
theorem es_l07Crossing_11 (call : Oracle) (x0 : List Int) (x1 : Int) (x2 : Int) (x3 : Int) (x4 : Int) (x5 : Int) : run1 E call is_l07Crossing_11 [tAi8 x0, tI x1, tI x2, tI x3, tI x4, tI x5] = bs_l07Crossing_11 call x0 x1 x2 x3 x4 x5 := by kernel_rfl
theorem vs_l07Crossing_11 (x0 : List Int) (x1 : Int) (x2 : Int) (x3 : Int) (x4 : Int) (x5 : Int) {o : List TV} (h : bs_l07Crossing_11 R x0 x1 x2 x3 x4 x5 = some o) : R is_l07Crossing_11 [tAi8 x0, tI x1, tI x2, tI x3, tI x4, tI x5] = some o := ev_step ((es_l07Crossing_11 R x0 x1 x2 x3 x4 x5).trans h)
/-- spec.l07Crossing -/
noncomputable def bs_l07Crossing (call : Oracle) (a0 : List Int) (a1 : Int) : Option (List TV) :=
  (call is_l07Crossing_2 [tAi8 a0, tI a1, tI 0]).bind fun o7 =>
  bif ((gI o7 0) == 0) then
    some [tB false]
  else
    some [tB (gB o7 1)]
theorem es_l07Crossing (call : Oracle) (a0 : List Int) (a1 : Int) : run1 E call is_l07Crossing [tAi8 a0, tI a1] = bs_l07Crossing call a0 a1 := by kernel_rfl
theorem vs_l07Crossing (a0 : List Int) (a1 : Int) {o : List TV} (h : bs_l07Crossing R a0 a1 = some o) : R is_l07Crossing [tAi8 a0, tI a1] = some o := ev_step ((es_l07Crossing R a0 a1).trans h)
/-- spec.l07Is -/
noncomputable def bs_l07Is (call : Oracle) (a0 : List Int) (a1 : Int) : Option (List TV) :=
  (call is_l01In [tI a1, tI 1, tI 8]).bind fun o1 =>
  bif (!(gB o1 0)) then
    some [tB false]
  else
    (call is_l07Least [tA8 a0, tI a1]).bind fun o2 =>
    bif (gB o2 1) then
      (call is_l07Made [tAi8 (gAi8 o2 0), tI a1]).bind fun o3 =>
      bif ((gA8 o3 0) == a0) then
        (call is_l07Crossing [tAi8 (gAi8 o2 0), tI a1]).bind fun o4 =>
        some [tB (!(gB o4 0))]
      else
        some [tB false]
    else
      some [tB false]
theorem es_l07Is (call : Oracle) (a0 : List Int) (a1 : Int) : run1 E call is_l07Is [tA8 a0, tI a1] = bs_l07Is call a0 a1 := by kernel_rfl
theorem vs_l07Is (a0 : List Int) (a1 : Int) {o : List TV} (h : bs_l07Is R a0 a1 = some o) : R is_l07Is [tA8 a0, tI a1] = some o := ev_step ((es_l07Is R a0 a1).trans h)
/-- spec.l07Blocks loop 4 -/
noncomputable def bs_l07Blocks_4 (call : Oracle) (x0 : List Int) (x1 : List (List Int)) (x2 : Int) (x3 : Int) : Option (List TV) :=
  bif decide (x3 < x2) then
    bif (decide (0 ≤ x3) && decide (x3 < 8)) then
      bif ((List.getD x0 (Int.toNat x3) 0) != x3) then
        call is_l07Blocks_4 [tAi8 x0, tLLI x1, tI x2, tI (wi64 (x3 + 1))]
      else
        (call is_l07Blocks_9 [tAi8 x0, tLLI x1, tLI [], tI x2, tI x3, tI x3]).bind fun o3 =>
        bif (apOk (gLLI o3 2) [(gLI o3 3)]) then
          call is_l07Blocks_4 [tAi8 (gAi8 o3 1), tLLI ((gLLI o3 2) ++ [(gLI o3 3)]), tI (gI o3 4), tI (wi64 ((gI o3 5) + 1))]
        else none
    else none
  else
    some [tI 0, tLLI x1]
theorem es_l07Blocks_4 (call : Oracle) (x0 : List Int) (x1 : List (List Int)) (x2 : Int) (x3 : Int) : run1 E call is_l07Blocks_4 [tAi8 x0, tLLI x1, tI x2, tI x3] = bs_l07Blocks_4 call x0 x1 x2 x3 := by kernel_rfl
theorem vs_l07Blocks_4 (x0 : List Int) (x1 : List (List Int)) (x2 : Int) (x3 : Int) {o : List TV} (h : bs_l07Blocks_4 R x0 x1 x2 x3 = some o) : R is_l07Blocks_4 [tAi8 x0, tLLI x1, tI x2, tI x3] = some o := ev_step ((es_l07Blocks_4 R x0 x1 x2 x3).trans h)
/-- spec.l07Blocks loop 9 -/
noncomputable def bs_l07Blocks_9 (call : Oracle) (x0 : List Int) (x1 : List (List Int)) (x2 : List Int) (x3 : Int) (x4 : Int) (x5 : Int) : Option (List TV) :=
  bif decide (x5 < x3) then
    bif (decide (0 ≤ x5) && decide (x5 < 8)) then
      bif ((List.getD x0 (Int.toNat x5) 0) == x4) then
        bif (apOk x2 [x5]) then
          call is_l07Blocks_9 [tAi8 x0, tLLI x1, tLI (x2 ++ [x5]), tI x3, tI x4, tI (wi64 (x5 + 1))]
        else none
      else
        call is_l07Blocks_9 [tAi8 x0, tLLI x1, tLI x2, tI x3, tI x4, tI (wi64 (x5 + 1))]
    else none
  else
    some [tI 0, tAi8 x0, tLLI x1, tLI x2, tI x3, tI x4]
theorem es_l07Blocks_9 (call : Oracle) (x0 : List Int) (x1 : List (List Int)) (x2 : List Int) (x3 : Int) (x4 : Int) (x5 : Int) : run1 E call is_l07Blocks_9 [tAi8 x0, tLLI x1, tLI x2, tI x3, tI x4, tI x5] = bs_l07Blocks_9 call x0 x1 x2 x3 x4 x5 := by kernel_rfl
theorem vs_l07Blocks_9 (x0 : List Int) (x1 : List (List Int)) (x2 : List Int) (x3 : Int) (x4 : Int) (x5 : Int) {o : List TV} (h : bs_l07Blocks_9 R x0 x1 x2 x3 x4 x5 = some o) : R is_l07Blocks_9 [tAi8 x0, tLLI x1, tLI x2, tI x3, tI x4, tI x5] = some o := ev_step ((es_l07Blocks_9 R x0 x1 x2 x3 x4 x5).trans h)
/-- spec.l07Blocks -/
noncomputable def bs_l07Blocks (call : Oracle) (a0 : List Int) (a1 : Int) : Option (List TV) :=
  (call is_l07Least [tA8 a0, tI a1]).bind fun o1 =>
  (call is_l07Blocks_4 [tAi8 (gAi8 o1 0), tLLI [], tI a1, tI 0]).bind fun o4 =>
  some [tLLI (gLLI o4 1)]
theorem es_l07Blocks (call : Oracle) (a0 : List Int) (a1 : Int) : run1 E call is_l07Blocks [tA8 a0, tI a1] = bs_l07Blocks call a0 a1 := by kernel_rfl
theorem vs_l07Blocks (a0 : List Int) (a1 : Int) {o : List TV} (h : bs_l07Blocks R a0 a1 = some o) : R is_l07Blocks [tA8 a0, tI a1] = some o := ev_step ((es_l07Blocks R a0 a1).trans h)
/-- spec.BlocksOfPart -/
noncomputable def bs_BlocksOfPart (call : Oracle) (a0 : List Int) (a1 : Int) : Option (List TV) :=
  (call is_l07Is [tA8 a0, tI a1]).bind fun o1 =>
  bif (!(gB o1 0)) then
    some [tLLI [], tI 1]
  else
    (call is_l07Blocks [tA8 a0, tI a1]).bind fun o2 =>
    some [tLLI (gLLI o2 0), tI 0]
theorem es_BlocksOfPart (call : Oracle) (a0 : List Int) (a1 : Int) : run1 E call is_BlocksOfPart [tA8 a0, tI a1] = bs_BlocksOfPart call a0 a1 := by kernel_rfl
theorem vs_BlocksOfPart (a0 : List Int) (a1 : Int) {o : List TV} (h : bs_BlocksOfPart R a0 a1 = some o) : R is_BlocksOfPart [tA8 a0, tI a1] = some o := ev_step ((es_BlocksOfPart R a0 a1).trans h)
/-- impl.within -/
noncomputable def bi_within (call : Oracle) (a0 : Int) (a1 : Int) (a2 : Int) : Option (List TV) :=
  bif decide (a1 ≤ a0) then
    some [tB (decide (a0 ≤ a2))]
  else
    some [tB false]
theorem ei_within (call : Oracle) (a0 : Int) (a1 : Int) (a2 : Int) : run1 E call ii_within [tI a0, tI a1, tI a2] = bi_within call a0 a1 a2 := by kernel_rfl
theorem vi_within (a0 : Int) (a1 : Int) (a2 : Int) {o : List TV} (h : bi_within R a0 a1 a2 = some o) : R ii_within [tI a0, tI a1, tI a2] = some o := ev_step ((ei_within R a0 a1 a2).trans h)
/-- impl.isCount -/
noncomputable def bi_isCount (call : Oracle) (a0 : Int) : Option (List TV) :=
  (call ii_within [tI a0, tI 1, tI 8]).bind fun o1 =>
  some [tB (gB o1 0)]
theorem ei_isCount (call : Oracle) (a0 : Int) : run1 E call ii_isCount [tI a0] = bi_isCount call a0 := by kernel_rfl
theorem vi_isCount (a0 : Int) {o : List TV} (h : bi_isCount R a0 = some o) : R ii_isCount [tI a0] = some o := ev_step ((ei_isCount R a0).trans h)
/-- impl.strandsOf loop 3 -/
noncomputable def bi_strandsOf_3 (call : Oracle) (x0 : List Int) (x1 : Int) (x2 : Int) : Option (List TV) :=
  bif decide (x2 < x1) then
    bif (apOk x0 [x2]) then
      call ii_strandsOf_3 [tLI (x0 ++ [x2]), tI x1, tI (wi64 (x2 + 1))]
    else none
  else
    some [tI 0, tLI x0]
theorem ei_strandsOf_3 (call : Oracle) (x0 : List Int) (x1 : Int) (x2 : Int) : run1 E call ii_strandsOf_3 [tLI x0, tI x1, tI x2] = bi_strandsOf_3 call x0 x1 x2 := by kernel_rfl
theorem vi_strandsOf_3 (x0 : List Int) (x1 : Int) (x2 : Int) {o : List TV} (h : bi_strandsOf_3 R x0 x1 x2 = some o) : R ii_strandsOf_3 [tLI x0, tI x1, tI x2] = some o := ev_step ((ei_strandsOf_3 R x0 x1 x2).trans h)
/-- impl.strandsOf -/
noncomputable def bi_strandsOf (call : Oracle) (a0 : Int) : Option (List TV) :=
  (call ii_strandsOf_3 [tLI [], tI a0, tI 0]).bind fun o1 =>
  some [tLI (gLI o1 1)]
theorem ei_strandsOf (call : Oracle) (a0 : Int) : run1 E call ii_strandsOf [tI a0] = bi_strandsOf call a0 := by kernel_rfl
theorem vi_strandsOf (a0 : Int) {o : List TV} (h : bi_strandsOf R a0 = some o) : R ii_strandsOf [tI a0] = some o := ev_step ((ei_strandsOf R a0).trans h)
/-- impl.fineGroups -/
noncomputable def bi_fineGroups (call : Oracle) (a0 : Int) : Option (List TV) :=
  (call ii_strandsOf [tI a0]).bind fun o1 =>
  some [tLI (gLI o1 0)]
theorem ei_fineGroups (call : Oracle) (a0 : Int) : run1 E call ii_fineGroups [tI a0] = bi_fineGroups call a0 := by kernel_rfl
theorem vi_fineGroups (a0 : Int) {o : List TV} (h : bi_fineGroups R a0 = some o) : R ii_fineGroups [tI a0] = some o := ev_step ((ei_fineGroups R a0).trans h)
/-- (impl.groups).merge loop 2 -/
noncomputable def b_i_groups__merge_2 (call : Oracle) (x0 : List Int) (x1 : Int) (x2 : Int) (x3 : Int) (x4 : Int) : Option (List TV) :=
  bif decide (x4 < x3) then
    bif (decide (0 ≤ x4) && decide (x4 < ((List.length x0 : Nat) : Int))) then
      bif ((List.getD x0 (Int.toNat x4) 0) == x2) then
        bif (decide (0 ≤ x4) && decide (x4 < ((List.length x0 : Nat) : Int))) then
          call i_i_groups__merge_2 [tLI (List.set x0 (Int.toNat x4) x1), tI x1, tI x2, tI x3, tI (wi64 (x4 + 1))]
        else none
      else
        call i_i_groups__merge_2 [tLI x0, tI x1, tI x2, tI x3, tI (wi64 (x4 + 1))]
    else none
  else
    some [tI 0, tLI x0]
theorem e_i_groups__merge_2 (call : Oracle) (x0 : List Int) (x1 : Int) (x2 : Int) (x3 : Int) (x4 : Int) : run1 E call i_i_groups__merge_2 [tLI x0, tI x1, tI x2, tI x3, tI x4] = b_i_groups__merge_2 call x0 x1 x2 x3 x4 := by kernel_rfl
theorem v_i_groups__merge_2 (x0 : List Int) (x1 : Int) (x2 : Int) (x3 : Int) (x4 : Int) {o : List TV} (h : b_i_groups__merge_2 R x0 x1 x2 x3 x4 = some o) : R i_i_groups__merge_2 [tLI x0, tI x1, tI x2, tI x3, tI x4] = some o := ev_step ((e_i_groups__merge_2 R x0 x1 x2 x3 x4).trans h)
/-- (impl.groups).merge -/
noncomputable def b_i_groups__merge (call : Oracle) (a0 : List Int) (a1 : Int) (a2 : Int) : Option (List TV) :=
  bif (decide (0 ≤ a1) && decide (a1 < ((List.length a0 : Nat) : Int))) then
    bif (decide (0 ≤ a2) && decide (a2 < ((List.length a0 : Nat) : Int))) then
      bif (decide (0 ≤ a1) && decide (a1 < ((List.length a0 : Nat) : Int))) then
        bif (decide (0 ≤ a2) && decide (a2 < ((List.length a0 : Nat) : Int))) then
          (call i_i_groups__merge_2 [tLI a0, tI (mn (List.getD a0 (Int.toNat a1) 0) (List.getD a0 (Int.toNat a2) 0)), tI (mx (List.getD a0 (Int.toNat a1) 0) (List.getD a0 (Int.toNat a2) 0)), tI ((List.length a0 : Nat) : Int), tI 0]).bind fun o1 =>
          some [tLI (gLI o1 1)]
        else none
      else none
    else none
  else none
theorem e_i_groups__merge (call : Oracle) (a0 : List Int) (a1 : Int) (a2 : Int) : run1 E call i_i_groups__merge [tLI a0, tI a1, tI a2] = b_i_groups__merge call a0 a1 a2 := by kernel_rfl
theorem v_i_groups__merge (a0 : List Int) (a1 : Int) (a2 : Int) {o : List TV} (h : b_i_groups__merge R a0 a1 a2 = some o) : R i_i_groups__merge [tLI a0, tI a1, tI a2] = some o := ev_step ((e_i_groups__merge R a0 a1 a2).trans h)
/-- (impl.groups).part loop 3 -/
noncomputable def b_i_groups__part_3 (call : Oracle) (x0 : List Int) (x1 : List Int) (x2 : List Int) (x3 : Int) (x4 : Int) : Option (List TV) :=
  bif decide (x4 < x3) then
    bif (decide (0 ≤ x4) && decide (x4 < ((List.length x0 : Nat) : Int))) then
      bif (decide (0 ≤ x4) && decide (x4 < 8)) then
        (call i_i_groups__part_7 [tLI x0, tA8 x1, tA8 (List.set x2 (Int.toNat x4) (wu8 ((List.getD x0 (Int.toNat x4) 0)))), tI x4, tI (List.getD x0 (Int.toNat x4) 0), tI (wi64 (x4 + 1)), tI x3, tI x4]).bind fun o2 =>
        call i_i_groups__part_3 [tLI (gLI o2 1), tA8 (gA8 o2 2), tA8 (gA8 o2 3), tI (gI o2 4), tI (wi64 ((gI o2 5) + 1))]
      else none
    else none
  else
    some [tI 0, tA8 x1, tA8 x2]
theorem e_i_groups__part_3 (call : Oracle) (x0 : List Int) (x1 : List Int) (x2 : List Int) (x3 : Int) (x4 : Int) : run1 E call i_i_groups__part_3 [tLI x0, tA8 x1, tA8 x2, tI x3, tI x4] = b_i_groups__part_3 call x0 x1 x2 x3 x4 := by kernel_rfl
theorem v_i_groups__part_3 (x0 : List Int) (x1 : List Int) (x2 : List Int) (x3 : Int) (x4 : Int) {o : List TV} (h : b_i_groups__part_3 R x0 x1 x2 x3 x4 = some o) : R i_i_groups__part_3 [tLI x0, tA8 x1, tA8 x2, tI x3, tI x4] = some o := ev_step ((e_i_groups__part_3 R x0 x1 x2 x3 x4).trans h)
/-- (impl.groups).part loop 7 -/
noncomputable def b_i_groups__part_7 (call : Oracle) (x0 : List Int) (x1 : List Int) (x2 : List Int) (x3 : Int) (x4 : Int) (x5 : Int) (x6 : Int) (x7 : Int) : Option (List TV) :=
  bif decide (x5 < ((List.length x0 : Nat) : Int)) then
    bif (decide (0 ≤ x5) && decide (x5 < ((List.length x0 : Nat) : Int))) then
      bif ((List.getD x0 (Int.toNat x5) 0) == x4) then
        bif (decide (0 ≤ x3) && decide (x3 < 8)) then
          some [tI 0, tLI x0, tA8 x1, tA8 (List.set x2 (Int.toNat x3) (wu8 (x5))), tI x6, tI x7]
        else none
      else
        call i_i_groups__part_7 [tLI x0, tA8 x1, tA8 x2, tI x3, tI x4, tI (wi64 (x5 + 1)), tI x6, tI x7]
    else none
  else
    some [tI 0, tLI x0, tA8 x1, tA8 x2, tI x6, tI x7]
theorem e_i_groups__part_7 (call : Oracle) (x0 : List Int) (x1 : List Int) (x2 : List Int) (x3 : Int) (x4 : Int) (x5 : Int) (x6 : Int) (x7 : Int) : run1 E call i_i_groups__part_7 [tLI x0, tA8 x1, tA8 x2, tI x3, tI x4, tI x5, tI x6, tI x7] = b_i_groups__part_7 call x0 x1 x2 x3 x4 x5 x6 x7 := by kernel_rfl
theorem v_i_groups__part_7 (x0 : List Int) (x1 : List Int) (x2 : List Int) (x3 : Int) (x4 : Int) (x5 : Int) (x6 : Int) (x7 : Int) {o : List TV} (h : b_i_groups__part_7 R x0 x1 x2 x3 x4 x5 x6 x7 = some o) : R i_i_groups__part_7 [tLI x0, tA8 x1, tA8 x2, tI x3, tI x4, tI x5, tI x6, tI x7] = some o := ev_step ((e_i_groups__part_7 R x0 x1 x2 x3 x4 x5 x6 x7).trans h)
/-- (impl.groups).part -/
noncomputable def b_i_groups__part (call : Oracle) (a0 : List Int) : Option (List TV) :=
  (call i_i_groups__part_3 [tLI a0, tA8 (List.replicate 8 0), tA8 (List.replicate 8 0), tI ((List.length a0 : Nat) : Int), tI 0]).bind fun o3 =>
  some [tA8 (gA8 o3 2)]
theorem e_i_groups__part (call : Oracle) (a0 : List Int) : run1 E call i_i_groups__part [tLI a0] = b_i_groups__part call a0 := by kernel_rfl
theorem v_i_groups__part (a0 : List Int) {o : List TV} (h : b_i_groups__part R a0 = some o) : R i_i_groups__part [tLI a0] = some o := ev_step ((e_i_groups__part R a0).trans h)
/-- impl.groupsOf loop 3 -/
noncomputable def bi_groupsOf_3 (call : Oracle) (x0 : List Int) (x1 : List Int) (x2 : Int) (x3 : Int) (x4 : Int) : Option (List TV) :=
  bif decide (x4 < x3) then
    bif (decide (0 ≤ x4) && decide (x4 < 8)) then
      bif decide (x2 ≤ (wi64 ((List.getD x0 (Int.toNat x4) 0)))) then
        some [tI 1, tLI [], tB false]
      else
        (call i_i_groups__merge [tLI x1, tI x4, tI (wi64 ((List.getD x0 (Int.toNat x4) 0)))]).bind fun o3 =>
        call ii_groupsOf_3 [tA8 x0, tLI (gLI o3 0), tI x2, tI x3, tI (wi64 (x4 + 1))]
    else none
  else
    some [tI 0, tA8 x0, tLI x1]
theorem ei_groupsOf_3 (call : Oracle) (x0 : List Int) (x1 : List Int) (x2 : Int) (x3 : Int) (x4 : Int) : run1 E call ii_groupsOf_3 [tA8 x0, tLI x1, tI x2, tI x3, tI x4] = bi_groupsOf_3 call x0 x1 x2 x3 x4 := by kernel_rfl
theorem vi_groupsOf_3 (x0 : List Int) (x1 : List Int) (x2 : Int) (x3 : Int) (x4 : Int) {o : List TV} (h : bi_groupsOf_3 R x0 x1 x2 x3 x4 = some o) : R ii_groupsOf_3 [tA8 x0, tLI x1, tI x2, tI x3, tI x4] = some o := ev_step ((ei_groupsOf_3 R x0 x1 x2 x3 x4).trans h)
/-- impl.groupsOf -/
noncomputable def bi_groupsOf (call : Oracle) (a0 : List Int) (a1 : Int) : Option (List TV) :=
  (call ii_fineGroups [tI a1]).bind fun o1 =>
  (call ii_groupsOf_3 [tA8 a0, tLI (gLI o1 0), tI a1, tI a1, tI 0]).bind fun o4 =>
  bif ((gI o4 0) == 0) then
    (call i_i_groups__part [tLI (gLI o4 2)]).bind fun o5 =>
    some [tLI (gLI o4 2), tB ((gA8 o5 0) == (gA8 o4 1))]
  else
    some [tLI (gLI o4 1), tB (gB o4 2)]
theorem ei_groupsOf (call : Oracle) (a0 : List Int) (a1 : Int) : run1 E call ii_groupsOf [tA8 a0, tI a1] = bi_groupsOf call a0 a1 := by kernel_rfl
theorem vi_groupsOf (a0 : List Int) (a1 : Int) {o : List TV} (h : bi_groupsOf R a0 a1 = some o) : R ii_groupsOf [tA8 a0, tI a1] = some o := ev_step ((ei_groupsOf R a0 a1).trans h)
/-- (impl.groups).crossing loop 3 -/
noncomputable def b_i_groups__crossing_3 (call : Oracle) (x0 : List Int) (x1 : Int) (x2 : Int) (x3 : Int) : Option (List TV) :=
  bif decide (x3 < x2) then
    (call i_i_groups__crossing_6 [tLI x0, tI x1, tI x3, tI (wi64 (x3 + 1)), tI x2, tI x3]).bind fun o6 =>
    bif ((gI o6 0) == 0) then
      call i_i_groups__crossing_3 [tLI (gLI o6 1), tI (gI o6 2), tI (gI o6 3), tI (wi64 ((gI o6 4) + 1))]
    else
      some [tI 1, tI (gI o6 1), tI (gI o6 2), tB (gB o6 3)]
  else
    some [tI 0]
theorem e_i_groups__crossing_3 (call : Oracle) (x0 : List Int) (x1 : Int) (x2 : Int) (x3 : Int) : run1 E call i_i_groups__crossing_3 [tLI x0, tI x1, tI x2, tI x3] = b_i_groups__crossing_3 call x0 x1 x2 x3 := by kernel_rfl
theorem v_i_groups__crossing_3 (x0 : List Int) (x1 : Int) (x2 : Int) (x3 : Int) {o : List TV} (h : b_i_groups__crossing_3 R x0 x1 x2 x3 = some o) : R i_i_groups__crossing_3 [tLI x0, tI x1, tI x2, tI x3] = some o := ev_step ((e_i_groups__crossing_3 R x0 x1 x2 x3).trans h)
/-- (impl.groups).crossing loop 6 -/
noncomputable def b_i_groups__crossing_6 (call : Oracle) (x0 : List Int) (x1 : Int) (x2 : Int) (x3 : Int) (x4 : Int) (x5 : Int) : Option (List TV) :=
  bif decide (x3 < x1) then
    (call i_i_groups__crossing_9 [tLI x0, tI x1, tI x2, tI x3, tI (wi64 (x3 + 1)), tI x4, tI x5]).bind fun o4 =>
    bif ((gI o4 0) == 0) then
      call i_i_groups__crossing_6 [tLI (gLI o4 1), tI (gI o4 2), tI (gI o4 3), tI (wi64 ((gI o4 4) + 1)), tI (gI o4 5), tI (gI o4 6)]
    else
      some [tI 1, tI (gI o4 1), tI (gI o4 2), tB (gB o4 3)]
  else
    some [tI 0, tLI x0, tI x1, tI x4, tI x5]
theorem e_i_groups__crossing_6 (call : Oracle) (x0 : List Int) (x1 : Int) (x2 : Int) (x3 : Int) (x4 : Int) (x5 : Int) : run1 E call i_i_groups__crossing_6 [tLI x0, tI x1, tI x2, tI x3, tI x4, tI x5] = b_i_groups__crossing_6 call x0 x1 x2 x3 x4 x5 := by kernel_rfl
theorem v_i_groups__crossing_6 (x0 : List Int) (x1 : Int) (x2 : Int) (x3 : Int) (x4 : Int) (x5 : Int) {o : List TV} (h : b_i_groups__crossing_6 R x0 x1 x2 x3 x4 x5 = some o) : R i_i_groups__crossing_6 [tLI x0, tI x1, tI x2, tI x3, tI x4, tI x5] = some o := ev_step ((e_i_groups__crossing_6 R x0 x1 x2 x3 x4 x5).trans h)
/-- (impl.groups).crossing loop 9 -/
noncomputable def b_i_groups__crossing_9 (call : Oracle) (x0 : List Int) (x1 : Int) (x2 : Int) (x3 : Int) (x4 : Int) (x5 : Int) (x6 : Int) : Option (List TV) :=
  bif decide (x4 < x1) then
    (call i_i_groups__crossing_12 [tLI x0, tI x1, tI x2, tI x3, tI x4, tI (wi64 (x4 + 1)), tI x5, tI x6]).bind fun o2 =>
    bif ((gI o2 0) == 0) then
      call i_i_groups__crossing_9 [tLI (gLI o2 1), tI (gI o2 2), tI (gI o2 3), tI (gI o2 4), tI (wi64 ((gI o2 5) + 1)), tI (gI o2 6), tI (gI o2 7)]
    else
      some [tI 1, tI (gI o2 1), tI (gI o2 2), tB (gB o2 3)]
  else
    some [tI 0, tLI x0, tI x1, tI x2, tI x3, tI x5, tI x6]
theorem e_i_groups__crossing_9 (call : Oracle) (x0 : List Int) (x1 : Int) (x2 : Int) (x3 : Int) (x4 : Int) (x5 : Int) (x6 : Int) : run1 E call i_i_groups__crossing_9 [tLI x0, tI x1, tI x2, tI x3, tI x4, tI x5, tI x6] = b_i_groups__crossing_9 call x0 x1 x2 x3 x4 x5 x6 := by kernel_rfl
theorem v_i_groups__crossing_9 (x0 : List Int) (x1 : Int) (x2 : Int) (x3 : Int) (x4 : Int) (x5 : Int) (x6 : Int) {o : List TV} (h : b_i_groups__crossing_9 R x0 x1 x2 x3 x4 x5 x6 = some o) : R i_i_groups__crossing_9 [tLI x0, tI x1, tI x2, tI x3, tI x4, tI x5, tI x6] = some o := ev_step ((e_i_groups__crossing_9 R x0 x1 x2 x3 x4 x5 x6).trans h)
/-- (impl.groups).crossing loop 12 -/
noncomputable def b_i_groups__crossing_12 (call : Oracle) (x0 : List Int) (x1 : Int) (x2 : Int) (x3 : Int) (x4 : Int) (x5 : Int) (x6 : Int) (x7 : Int) : Option (List TV) :=
  bif decide (x5 < x1) then
    bif (decide (0 ≤ x2) && decide (x2 < ((List.length x0 : Nat) : Int))) then
      bif (decide (0 ≤ x4) && decide (x4 < ((List.length x0 : Nat) : Int))) then
        bif ((List.getD x0 (Int.toNat x2) 0) == (List.getD x0 (Int.toNat x4) 0)) then
          bif (decide (0 ≤ x3) && decide (x3 < ((List.length x0 : Nat) : Int))) then
            bif (decide (0 ≤ x5) && decide (x5 < ((List.length x0 : Nat) : Int))) then
              bif ((List.getD x0 (Int.toNat x3) 0) == (List.getD x0 (Int.toNat x5) 0)) then
                bif (decide (0 ≤ x2) && decide (x2 < ((List.length x0 : Nat) : Int))) then
                  bif (decide (0 ≤ x3) && decide (x3 < ((List.length x0 : Nat) : Int))) then
                    bif ((List.getD x0 (Int.toNat x2) 0) != (List.getD x0 (Int.toNat x3) 0)) then
                      some [tI 1, tI x2, tI x3, tB true]
                    else
                      call i_i_groups__crossing_12 [tLI x0, tI x1, tI x2, tI x3, tI x4, tI (wi64 (x5 + 1)), tI x6, tI x7]
                  else none
                else none
              else
                call i_i_groups__crossing_12 [tLI x0, tI x1, tI x2, tI x3, tI x4, tI (wi64 (x5 + 1)), tI x6, tI x7]
            else none
          else none
        else
          call i_i_groups__crossing_12 [tLI x0, tI x1, tI x2, tI x3, tI x4, tI (wi64 (x5 + 1)), tI x6, tI x7]
      else none
    else none
  else
    some [tI 0, tLI x0, tI x1, tI x2, tI x3, tI x4, tI x6, tI x7]
theorem e_i_groups__crossing_12 (call : Oracle) (x0 : List Int) (x1 : Int) (x2 : Int) (x3 : Int) (x4 : Int) (x5 : Int) (x6 : Int) (x7 : Int) : run1 E call i_i_groups__crossing_12 [tLI x0, tI x1, tI x2, tI x3, tI x4, tI x5, tI x6, tI x7] = b_i_groups__crossing_12 call x0 x1 x2 x3 x4 x5 x6 x7 := by kernel_rfl
theorem v_i_groups__crossing_12 (x0 : List Int) (x1 : Int) (x2 : Int) (x3 : Int) (x4 : Int) (x5 : Int) (x6 : Int) (x7 : Int) {o : List TV} (h : b_i_groups__crossing_12 R x0 x1 x2 x3 x4 x5 x6 x7 = some o) : R i_i_groups__crossing_12 [tLI x0, tI x1, tI x2, tI x3, tI x4, tI x5, tI x6, tI x7] = some o := ev_step ((e_i_groups__crossing_12 R x0 x1 x2 x3 x4 x5 x6 x7).trans h)
/-- (impl.groups).crossing -/
noncomputable def b_i_groups__crossing (call : Oracle) (a0 : List Int) : Option (List TV) :=
  (call i_i_groups__crossing_3 [tLI a0, tI ((List.length a0 : Nat) : Int), tI ((List.length a0 : Nat) : Int), tI 0]).bind fun o7 =>
  bif ((gI o7 0) == 0) then
    some [tI 0, tI 0, tB false]
  else
    some [tI (gI o7 1), tI (gI o7 2), tB (gB o7 3)]
theorem e_i_groups__crossing (call : Oracle) (a0 : List Int) : run1 E call i_i_groups__crossing [tLI a0] = b_i_groups__crossing call a0 := by kernel_rfl
theorem v_i_groups__crossing (a0 : List Int) {o : List TV} (h : b_i_groups__crossing R a0 = some o) : R i_i_groups__crossing [tLI a0] = some o := ev_step ((e_i_groups__crossing R a0).trans h)
/-- impl.IsPart -/
noncomputable def bi_IsPart (call : Oracle) (a0 : List Int) (a1 : Int) : Option (List TV) :=
  (call ii_isCount [tI a1]).bind fun o1 =>
  bif (!(gB o1 0)) then
    some [tB false]
  else
    (call ii_groupsOf [tA8 a0, tI a1]).bind fun o2 =>
    bif (!(gB o2 1)) then
      some [tB false]
    else
      (call i_i_groups__crossing [tLI (gLI o2 0)]).bind fun o3 =>
      some [tB (!(gB o3 2))]
theorem ei_IsPart (call : Oracle) (a0 : List Int) (a1 : Int) : run1 E call ii_IsPart [tA8 a0, tI a1] = bi_IsPart call a0 a1 := by kernel_rfl
theorem vi_IsPart (a0 : List Int) (a1 : Int) {o : List TV} (h : bi_IsPart R a0 a1 = some o) : R ii_IsPart [tA8 a0, tI a1] = some o := ev_step ((ei_IsPart R a0 a1).trans h)
/-- impl.blocksOf loop 4 -/
noncomputable def bi_blocksOf_4 (call : Oracle) (x0 : List Int) (x1 : List (List Int)) (x2 : Int) (x3 : Int) (x4 : Int) : Option (List TV) :=
  bif decide (x4 < x3) then
    bif (decide (0 ≤ x4) && decide (x4 < ((List.length x0 : Nat) : Int))) then
      bif ((List.getD x0 (Int.toNat x4) 0) != x4) then
        call ii_blocksOf_4 [tLI x0, tLLI x1, tI x2, tI x3, tI (wi64 (x4 + 1))]
      else
        (call ii_blocksOf_9 [tLI x0, tLLI x1, tLI [], tI x2, tI x4, tI x4, tI x3, tI x4]).bind fun o3 =>
        bif (apOk (gLLI o3 2) [(gLI o3 3)]) then
          call ii_blocksOf_4 [tLI (gLI o3 1), tLLI ((gLLI o3 2) ++ [(gLI o3 3)]), tI (gI o3 4), tI (gI o3 5), tI (wi64 ((gI o3 6) + 1))]
        else none
    else none
  else
    some [tI 0, tLLI x1]
theorem ei_blocksOf_4 (call : Oracle) (x0 : List Int) (x1 : List (List Int)) (x2 : Int) (x3 : Int) (x4 : Int) : run1 E call ii_blocksOf_4 [tLI x0, tLLI x1, tI x2, tI x3, tI x4] = bi_blocksOf_4 call x0 x1 x2 x3 x4 := by kernel_rfl
theorem vi_blocksOf_4 (x0 : List Int) (x1 : List (List Int)) (x2 : Int) (x3 : Int) (x4 : Int) {o : List TV} (h : bi_blocksOf_4 R x0 x1 x2 x3 x4 = some o) : R ii_blocksOf_4 [tLI x0, tLLI x1, tI x2, tI x3, tI x4] = some o := ev_step ((ei_blocksOf_4 R x0 x1 x2 x3 x4).trans h)
/-- impl.blocksOf loop 9 -/
noncomputable def bi_blocksOf_9 (call : Oracle) (x0 : List Int) (x1 : List (List Int)) (x2 : List Int) (x3 : Int) (x4 : Int) (x5 : Int) (x6 : Int) (x7 : Int) : Option (List TV) :=
  bif decide (x5 < x3) then
    bif (decide (0 ≤ x5) && decide (x5 < ((List.length x0 : Nat) : Int))) then
      bif ((List.getD x0 (Int.toNat x5) 0) == x4) then
        bif (apOk x2 [x5]) then
          call ii_blocksOf_9 [tLI x0, tLLI x1, tLI (x2 ++ [x5]), tI x3, tI x4, tI (wi64 (x5 + 1)), tI x6, tI x7]
        else none
      else
        call ii_blocksOf_9 [tLI x0, tLLI x1, tLI x2, tI x3, tI x4, tI (wi64 (x5 + 1)), tI x6, tI x7]
    else none
  else
    some [tI 0, tLI x0, tLLI x1, tLI x2, tI x3, tI x6, tI x7]
theorem ei_blocksOf_9 (call : Oracle) (x0 : List Int) (x1 : List (List Int)) (x2 : List Int) (x3 : Int) (x4 : Int) (x5 : Int) (x6 : Int) (x7 : Int) : run1 E call ii_blocksOf_9 [tLI x0, tLLI x1, tLI x2, tI x3, tI x4, tI x5, tI x6, tI x7] = bi_blocksOf_9 call x0 x1 x2 x3 x4 x5 x6 x7 := by kernel_rfl
theorem vi_blocksOf_9 (x0 : List Int) (x1 : List (List Int)) (x2 : List Int) (x3 : Int) (x4 : Int) (x5 : Int) (x6 : Int) (x7 : Int) {o : List TV} (h : bi_blocksOf_9 R x0 x1 x2 x3 x4 x5 x6 x7 = some o) : R ii_blocksOf_9 [tLI x0, tLLI x1, tLI x2, tI x3, tI x4, tI x5, tI x6, tI x7] = some o := ev_step ((ei_blocksOf_9 R x0 x1 x2 x3 x4 x5 x6 x7).trans h)
/-- impl.blocksOf -/
noncomputable def bi_blocksOf (call : Oracle) (a0 : List Int) (a1 : Int) : Option (List TV) :=
  (call ii_groupsOf [tA8 a0, tI a1]).bind fun o1 =>
  (call ii_blocksOf_4 [tLI (gLI o1 0), tLLI [], tI a1, tI a1, tI 0]).bind fun o4 =>
  some [tLLI (gLLI o4 1)]
theorem ei_blocksOf (call : Oracle) (a0 : List Int) (a1 : Int) : run1 E call ii_blocksOf [tA8 a0, tI a1] = bi_blocksOf call a0 a1 := by kernel_rfl
theorem vi_blocksOf (a0 : List Int) (a1 : Int) {o : List TV} (h : bi_blocksOf R a0 a1 = some o) : R ii_blocksOf [tA8 a0, tI a1] = some o := ev_step ((ei_blocksOf R a0 a1).trans h)
/-- impl.BlocksOfPart -/
noncomputable def bi_BlocksOfPart (call : Oracle) (a0 : List Int) (a1 : Int) : Option (List TV) :=
  (call ii_IsPart [tA8 a0, tI a1]).bind fun o1 =>
  bif (!(gB o1 0)) then
    some [tLLI [], tI 1]
  else
    (call ii_blocksOf [tA8 a0, tI a1]).bind fun o2 =>
    some [tLLI (gLLI o2 0), tI 0]
theorem ei_BlocksOfPart (call : Oracle) (a0 : List Int) (a1 : Int) : run1 E call ii_BlocksOfPart [tA8 a0, tI a1] = bi_BlocksOfPart call a0 a1 := by kernel_rfl
theorem vi_BlocksOfPart (a0 : List Int) (a1 : Int) {o : List TV} (h : bi_BlocksOfPart R a0 a1 = some o) : R ii_BlocksOfPart [tA8 a0, tI a1] = some o := ev_step ((ei_BlocksOfPart R a0 a1).trans h)
/-- laws.eqInt64S loop 4 -/
noncomputable def bw_eqInt64S_4 (call : Oracle) (x0 : List Int) (x1 : List Int) (x2 : Int) : Option (List TV) :=
  bif decide (x2 < ((List.length x0 : Nat) : Int)) then
    bif (decide (0 ≤ x2) && decide (x2 < ((List.length x0 : Nat) : Int))) then
      bif (decide (0 ≤ x2) && decide (x2 < ((List.length x1 : Nat) : Int))) then
        bif ((List.getD x0 (Int.toNat x2) 0) != (List.getD x1 (Int.toNat x2) 0)) then
          some [tI 1, tB false]
        else
          call iw_eqInt64S_4 [tLI x0, tLI x1, tI (wi64 (x2 + 1))]
      else none
    else none
  else
    some [tI 0]
theorem ew_eqInt64S_4 (call : Oracle) (x0 : List Int) (x1 : List Int) (x2 : Int) : run1 E call iw_eqInt64S_4 [tLI x0, tLI x1, tI x2] = bw_eqInt64S_4 call x0 x1 x2 := by kernel_rfl
theorem vw_eqInt64S_4 (x0 : List Int) (x1 : List Int) (x2 : Int) {o : List TV} (h : bw_eqInt64S_4 R x0 x1 x2 = some o) : R iw_eqInt64S_4 [tLI x0, tLI x1, tI x2] = some o := ev_step ((ew_eqInt64S_4 R x0 x1 x2).trans h)
/-- laws.eqInt64S -/
noncomputable def bw_eqInt64S (call : Oracle) (a0 : List Int) (a1 : List Int) : Option (List TV) :=
  bif (((List.length a0 : Nat) : Int) != ((List.length a1 : Nat) : Int)) then
    some [tB false]
  else
    (call iw_eqInt64S_4 [tLI a0, tLI a1, tI 0]).bind fun o1 =>
    bif ((gI o1 0) == 0) then
      some [tB true]
    else
      some [tB (gB o1 1)]
theorem ew_eqInt64S (call : Oracle) (a0 : List Int) (a1 : List Int) : run1 E call iw_eqInt64S [tLI a0, tLI a1] = bw_eqInt64S call a0 a1 := by kernel_rfl
theorem vw_eqInt64S (a0 : List Int) (a1 : List Int) {o : List TV} (h : bw_eqInt64S R a0 a1 = some o) : R iw_eqInt64S [tLI a0, tLI a1] = some o := ev_step ((ew_eqInt64S R a0 a1).trans h)
/-- laws.eqInt64SS loop 4 -/
noncomputable def bw_eqInt64SS_4 (call : Oracle) (x0 : List (List Int)) (x1 : List (List Int)) (x2 : Int) : Option (List TV) :=
  bif decide (x2 < ((List.length x0 : Nat) : Int)) then
    bif (decide (0 ≤ x2) && decide (x2 < ((List.length x0 : Nat) : Int))) then
      bif (decide (0 ≤ x2) && decide (x2 < ((List.length x1 : Nat) : Int))) then
        (call iw_eqInt64S [tLI (List.getD x0 (Int.toNat x2) []), tLI (List.getD x1 (Int.toNat x2) [])]).bind fun o2 =>
        bif (!(gB o2 0)) then
          some [tI 1, tB false]
        else
          call iw_eqInt64SS_4 [tLLI x0, tLLI x1, tI (wi64 (x2 + 1))]
      else none
    else none
  else
    some [tI 0]
theorem ew_eqInt64SS_4 (call : Oracle) (x0 : List (List Int)) (x1 : List (List Int)) (x2 : Int) : run1 E call iw_eqInt64SS_4 [tLLI x0, tLLI x1, tI x2] = bw_eqInt64SS_4 call x0 x1 x2 := by kernel_rfl
theorem vw_eqInt64SS_4 (x0 : List (List Int)) (x1 : List (List Int)) (x2 : Int) {o : List TV} (h : bw_eqInt64SS_4 R x0 x1 x2 = some o) : R iw_eqInt64SS_4 [tLLI x0, tLLI x1, tI x2] = some o := ev_step ((ew_eqInt64SS_4 R x0 x1 x2).trans h)
/-- laws.eqInt64SS -/
noncomputable def bw_eqInt64SS (call : Oracle) (a0 : List (List Int)) (a1 : List (List Int)) : Option (List TV) :=
  bif (((List.length a0 : Nat) : Int) != ((List.length a1 : Nat) : Int)) then
    some [tB false]
  else
    (call iw_eqInt64SS_4 [tLLI a0, tLLI a1, tI 0]).bind fun o3 =>
    bif ((gI o3 0) == 0) then
      some [tB true]
    else
      some [tB (gB o3 1)]
theorem ew_eqInt64SS (call : Oracle) (a0 : List (List Int)) (a1 : List (List Int)) : run1 E call iw_eqInt64SS [tLLI a0, tLLI a1] = bw_eqInt64SS call a0 a1 := by kernel_rfl
theorem vw_eqInt64SS (a0 : List (List Int)) (a1 : List (List Int)) {o : List TV} (h : bw_eqInt64SS R a0 a1 = some o) : R iw_eqInt64SS [tLLI a0, tLLI a1] = some o := ev_step ((ew_eqInt64SS R a0 a1).trans h)
/-- laws.markInt64S loop 2 -/
noncomputable def bw_markInt64S_2 (call : Oracle) (x0 : List Int) (x1 : Int) (x2 : Int) : Option (List TV) :=
  bif decide (x2 < ((List.length x0 : Nat) : Int)) then
    bif (decide (0 ≤ x2) && decide (x2 < ((List.length x0 : Nat) : Int))) then
      call iw_markInt64S_2 [tLI (List.set x0 (Int.toNat x2) x1), tI (wi64 (x1 + 1)), tI (wi64 (x2 + 1))]
    else none
  else
    some [tI 0, tLI x0, tI x1]
theorem ew_markInt64S_2 (call : Oracle) (x0 : List Int) (x1 : Int) (x2 : Int) : run1 E call iw_markInt64S_2 [tLI x0, tI x1, tI x2] = bw_markInt64S_2 call x0 x1 x2 := by kernel_rfl
theorem vw_markInt64S_2 (x0 : List Int) (x1 : Int) (x2 : Int) {o : List TV} (h : bw_markInt64S_2 R x0 x1 x2 = some o) : R iw_markInt64S_2 [tLI x0, tI x1, tI x2] = some o := ev_step ((ew_markInt64S_2 R x0 x1 x2).trans h)
/-- laws.markInt64S -/
noncomputable def bw_markInt64S (call : Oracle) (a0 : List Int) (a1 : Int) : Option (List TV) :=
  (call iw_markInt64S_2 [tLI a0, tI a1, tI 0]).bind fun o1 =>
  some [tI (gI o1 2), tLI (gLI o1 1)]
theorem ew_markInt64S (call : Oracle) (a0 : List Int) (a1 : Int) : run1 E call iw_markInt64S [tLI a0, tI a1] = bw_markInt64S call a0 a1 := by kernel_rfl
theorem vw_markInt64S (a0 : List Int) (a1 : Int) {o : List TV} (h : bw_markInt64S R a0 a1 = some o) : R iw_markInt64S [tLI a0, tI a1] = some o := ev_step ((ew_markInt64S R a0 a1).trans h)
/-- laws.markInt64SS loop 2 -/
noncomputable def bw_markInt64SS_2 (call : Oracle) (x0 : List (List Int)) (x1 : Int) (x2 : Int) : Option (List TV) :=
  bif decide (x2 < ((List.length x0 : Nat) : Int)) then
    bif (decide (0 ≤ x2) && decide (x2 < ((List.length x0 : Nat) : Int))) then
      (call iw_markInt64S [tLI (List.getD x0 (Int.toNat x2) []), tI x1]).bind fun o2 =>
      call iw_markInt64SS_2 [tLLI (List.set x0 (Int.toNat x2) (gLI o2 1)), tI (gI o2 0), tI (wi64 (x2 + 1))]
    else none
  else
    some [tI 0, tLLI x0, tI x1]
theorem ew_markInt64SS_2 (call : Oracle) (x0 : List (List Int)) (x1 : Int) (x2 : Int) : run1 E call iw_markInt64SS_2 [tLLI x0, tI x1, tI x2] = bw_markInt64SS_2 call x0 x1 x2 := by kernel_rfl
theorem vw_markInt64SS_2 (x0 : List (List Int)) (x1 : Int) (x2 : Int) {o : List TV} (h : bw_markInt64SS_2 R x0 x1 x2 = some o) : R iw_markInt64SS_2 [tLLI x0, tI x1, tI x2] = some o := ev_step ((ew_markInt64SS_2 R x0 x1 x2).trans h)
/-- laws.markInt64SS -/
noncomputable def bw_markInt64SS (call : Oracle) (a0 : List (List Int)) (a1 : Int) : Option (List TV) :=
  (call iw_markInt64SS_2 [tLLI a0, tI a1, tI 0]).bind fun o3 =>
  some [tI (gI o3 2), tLLI (gLLI o3 1)]
theorem ew_markInt64SS (call : Oracle) (a0 : List (List Int)) (a1 : Int) : run1 E call iw_markInt64SS [tLLI a0, tI a1] = bw_markInt64SS call a0 a1 := by kernel_rfl
theorem vw_markInt64SS (a0 : List (List Int)) (a1 : Int) {o : List TV} (h : bw_markInt64SS R a0 a1 = some o) : R iw_markInt64SS [tLLI a0, tI a1] = some o := ev_step ((ew_markInt64SS R a0 a1).trans h)
/-- laws.heldInt64S loop 2 -/
noncomputable def bw_heldInt64S_2 (call : Oracle) (x0 : List Int) (x1 : Int) (x2 : Int) : Option (List TV) :=
  bif decide (x2 < ((List.length x0 : Nat) : Int)) then
    bif (decide (0 ≤ x2) && decide (x2 < ((List.length x0 : Nat) : Int))) then
      bif ((List.getD x0 (Int.toNat x2) 0) != x1) then
        some [tI 1, tI (-1)]
      else
        call iw_heldInt64S_2 [tLI x0, tI (wi64 (x1 + 1)), tI (wi64 (x2 + 1))]
    else none
  else
    some [tI 0, tI x1]
theorem ew_heldInt64S_2 (call : Oracle) (x0 : List Int) (x1 : Int) (x2 : Int) : run1 E call iw_heldInt64S_2 [tLI x0, tI x1, tI x2] = bw_heldInt64S_2 call x0 x1 x2 := by kernel_rfl
theorem vw_heldInt64S_2 (x0 : List Int) (x1 : Int) (x2 : Int) {o : List TV} (h : bw_heldInt64S_2 R x0 x1 x2 = some o) : R iw_heldInt64S_2 [tLI x0, tI x1, tI x2] = some o := ev_step ((ew_heldInt64S_2 R x0 x1 x2).trans h)
/-- laws.heldInt64S -/
noncomputable def bw_heldInt64S (call : Oracle) (a0 : List Int) (a1 : Int) : Option (List TV) :=
  (call iw_heldInt64S_2 [tLI a0, tI a1, tI 0]).bind fun o1 =>
  bif ((gI o1 0) == 0) then
    some [tI (gI o1 1)]
  else
    some [tI (gI o1 1)]
theorem ew_heldInt64S (call : Oracle) (a0 : List Int) (a1 : Int) : run1 E call iw_heldInt64S [tLI a0, tI a1] = bw_heldInt64S call a0 a1 := by kernel_rfl
theorem vw_heldInt64S (a0 : List Int) (a1 : Int) {o : List TV} (h : bw_heldInt64S R a0 a1 = some o) : R iw_heldInt64S [tLI a0, tI a1] = some o := ev_step ((ew_heldInt64S R a0 a1).trans h)
/-- laws.heldInt64SS loop 2 -/
noncomputable def bw_heldInt64SS_2 (call : Oracle) (x0 : List (List Int)) (x1 : Int) (x2 : Int) : Option (List TV) :=
  bif decide (x2 < ((List.length x0 : Nat) : Int)) then
    bif (decide (0 ≤ x2) && decide (x2 < ((List.length x0 : Nat) : Int))) then
      (call iw_heldInt64S [tLI (List.getD x0 (Int.toNat x2) []), tI x1]).bind fun o2 =>
      bif decide ((gI o2 0) < 0) then
        some [tI 1, tI (-1)]
      else
        call iw_heldInt64SS_2 [tLLI x0, tI (gI o2 0), tI (wi64 (x2 + 1))]
    else none
  else
    some [tI 0, tI x1]
theorem ew_heldInt64SS_2 (call : Oracle) (x0 : List (List Int)) (x1 : Int) (x2 : Int) : run1 E call iw_heldInt64SS_2 [tLLI x0, tI x1, tI x2] = bw_heldInt64SS_2 call x0 x1 x2 := by kernel_rfl
theorem vw_heldInt64SS_2 (x0 : List (List Int)) (x1 : Int) (x2 : Int) {o : List TV} (h : bw_heldInt64SS_2 R x0 x1 x2 = some o) : R iw_heldInt64SS_2 [tLLI x0, tI x1, tI x2] = some o := ev_step ((ew_heldInt64SS_2 R x0 x1 x2).trans h)
/-- laws.heldInt64SS -/
noncomputable def bw_heldInt64SS (call : Oracle) (a0 : List (List Int)) (a1 : Int) : Option (List TV) :=
  (call iw_heldInt64SS_2 [tLLI a0, tI a1, tI 0]).bind fun o3 =>
  bif ((gI o3 0) == 0) then
    some [tI (gI o3 1)]
  else
    some [tI (gI o3 1)]
theorem ew_heldInt64SS (call : Oracle) (a0 : List (List Int)) (a1 : Int) : run1 E call iw_heldInt64SS [tLLI a0, tI a1] = bw_heldInt64SS call a0 a1 := by kernel_rfl
theorem vw_heldInt64SS (a0 : List (List Int)) (a1 : Int) {o : List TV} (h : bw_heldInt64SS R a0 a1 = some o) : R iw_heldInt64SS [tLLI a0, tI a1] = some o := ev_step ((ew_heldInt64SS R a0 a1).trans h)
/-- laws.FnExactBlocksOfPart -/
noncomputable def bw_FnExactBlocksOfPart (call : Oracle) (a0 : List Int) (a1 : Int) : Option (List TV) :=
  (call iw_toPart [tA8 a0]).bind fun o1 =>
  (call is_BlocksOfPart [tA8 (gA8 o1 0), tI a1]).bind fun o2 =>
  (call iw_toPart [tA8 a0]).bind fun o3 =>
  (call ii_BlocksOfPart [tA8 (gA8 o3 0), tI a1]).bind fun o4 =>
  (call iw_eqInt64SS [tLLI (gLLI o4 0), tLLI (gLLI o2 0)]).bind fun o5 =>
  bif (!(gB o5 0)) then
    some [tB false]
  else
    bif ((gI o4 1) != (gI o2 1)) then
      some [tB false]
    else
      (call iw_markInt64SS [tLLI (gLLI o4 0), tI 1]).bind fun o6 =>
      (call iw_heldInt64SS [tLLI (gLLI o6 1), tI 1]).bind fun o7 =>
      bif decide ((gI o7 0) < 0) then
        some [tB false]
      else
        bif ((gI o7 0) != (gI o6 0)) then
          some [tB false]
        else
          (call iw_toPart [tA8 a0]).bind fun o8 =>
          (call ii_BlocksOfPart [tA8 (gA8 o8 0), tI a1]).bind fun o9 =>
          (call iw_eqInt64SS [tLLI (gLLI o9 0), tLLI (gLLI o2 0)]).bind fun o10 =>
          bif (!(gB o10 0)) then
            some [tB false]
          else
            bif ((gI o9 1) != (gI o2 1)) then
              some [tB false]
            else
              (call iw_heldInt64SS [tLLI (gLLI o6 1), tI 1]).bind fun o11 =>
              bif decide ((gI o11 0) < 0) then
                some [tB false]
              else
                bif ((gI o11 0) != (gI o6 0)) then
                  some [tB false]
                else
                  some [tB true]
theorem ew_FnExactBlocksOfPart (call : Oracle) (a0 : List Int) (a1 : Int) : run1 E call iw_FnExactBlocksOfPart [tA8 a0, tI a1] = bw_FnExactBlocksOfPart call a0 a1 := by kernel_rfl
theorem vw_FnExactBlocksOfPart (a0 : List Int) (a1 : Int) {o : List TV} (h : bw_FnExactBlocksOfPart R a0 a1 = some o) : R iw_FnExactBlocksOfPart [tA8 a0, tI a1] = some o := ev_step ((ew_FnExactBlocksOfPart R a0 a1).trans h)
end Go.Ev.Ytadjhggdddbicaa
