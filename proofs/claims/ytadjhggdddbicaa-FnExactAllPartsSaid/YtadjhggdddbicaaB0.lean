/- Bodies, part 0. -/
import Derived.KernelRfl
import Derived.Test.YtadjhggdddbicaaEnv
set_option linter.unusedVariables false
namespace Go.Ev.Ytadjhggdddbicaa
open Go.Ev
/-- spec.l01In -/
noncomputable def bs_l01In (call : Oracle) (a0 : Int) (a1 : Int) (a2 : Int) : Option (List TV) :=
  bif decide (a1 ≤ a0) then
    some [tB (decide (a0 ≤ a2))]
  else
    some [tB false]
theorem es_l01In (call : Oracle) (a0 : Int) (a1 : Int) (a2 : Int) : run1 E call is_l01In [tI a0, tI a1, tI a2] = bs_l01In call a0 a1 a2 := by kernel_rfl
theorem vs_l01In (a0 : Int) (a1 : Int) (a2 : Int) {o : List TV} (h : bs_l01In R a0 a1 a2 = some o) : R is_l01In [tI a0, tI a1, tI a2] = some o := ev_step ((es_l01In R a0 a1 a2).trans h)
/-- spec.l07Crossing loop 2 -/
noncomputable def bs_l07Crossing_2 (call : Oracle) (x0 : List Int) (x1 : Int) (x2 : Int) : Option (List TV) :=
  bif decide (x2 < x1) then
    (call is_l07Crossing_5 [tAi8 x0, tI x1, tI x2, tI (wi64 (x2 + 1))]).bind fun o6 =>
    bif ((gI o6 0) == 0) then
      call is_l07Crossing_2 [tAi8 (gAi8 o6 1), tI (gI o6 2), tI (wi64 ((gI o6 3) + 1))]
    else
      some [tI 1, tB (gB o6 1)]
  else
    some [tI 0]
theorem es_l07Crossing_2 (call : Oracle) (x0 : List Int) (x1 : Int) (x2 : Int) : run1 E call is_l07Crossing_2 [tAi8 x0, tI x1, tI x2] = bs_l07Crossing_2 call x0 x1 x2 := by kernel_rfl
theorem vs_l07Crossing_2 (x0 : List Int) (x1 : Int) (x2 : Int) {o : List TV} (h : bs_l07Crossing_2 R x0 x1 x2 = some o) : R is_l07Crossing_2 [tAi8 x0, tI x1, tI x2] = some o := ev_step ((es_l07Crossing_2 R x0 x1 x2).trans h)
/-- spec.l07Crossing loop 5 -/
noncomputable def bs_l07Crossing_5 (call : Oracle) (x0 : List Int) (x1 : Int) (x2 : Int) (x3 : Int) : Option (List TV) :=
  bif decide (x3 < x1) then
    (call is_l07Crossing_8 [tAi8 x0, tI x1, tI x2, tI x3, tI (wi64 (x3 + 1))]).bind fun o4 =>
    bif ((gI o4 0) == 0) then
      call is_l07Crossing_5 [tAi8 (gAi8 o4 1), tI (gI o4 2), tI (gI o4 3), tI (wi64 ((gI o4 4) + 1))]
    else
      some [tI 1, tB (gB o4 1)]
  else
    some [tI 0, tAi8 x0, tI x1, tI x2]
theorem es_l07Crossing_5 (call : Oracle) (x0 : List Int) (x1 : Int) (x2 : Int) (x3 : Int) : run1 E call is_l07Crossing_5 [tAi8 x0, tI x1, tI x2, tI x3] = bs_l07Crossing_5 call x0 x1 x2 x3 := by kernel_rfl
theorem vs_l07Crossing_5 (x0 : List Int) (x1 : Int) (x2 : Int) (x3 : Int) {o : List TV} (h : bs_l07Crossing_5 R x0 x1 x2 x3 = some o) : R is_l07Crossing_5 [tAi8 x0, tI x1, tI x2, tI x3] = some o := ev_step ((es_l07Crossing_5 R x0 x1 x2 x3).trans h)
/-- spec.l07Crossing loop 8 -/
noncomputable def bs_l07Crossing_8 (call : Oracle) (x0 : List Int) (x1 : Int) (x2 : Int) (x3 : Int) (x4 : Int) : Option (List TV) :=
  bif decide (x4 < x1) then
    (call is_l07Crossing_11 [tAi8 x0, tI x1, tI x2, tI x3, tI x4, tI (wi64 (x4 + 1))]).bind fun o2 =>
    bif ((gI o2 0) == 0) then
      call is_l07Crossing_8 [tAi8 (gAi8 o2 1), tI (gI o2 2), tI (gI o2 3), tI (gI o2 4), tI (wi64 ((gI o2 5) + 1))]
    else
      some [tI 1, tB (gB o2 1)]
  else
    some [tI 0, tAi8 x0, tI x1, tI x2, tI x3]
theorem es_l07Crossing_8 (call : Oracle) (x0 : List Int) (x1 : Int) (x2 : Int) (x3 : Int) (x4 : Int) : run1 E call is_l07Crossing_8 [tAi8 x0, tI x1, tI x2, tI x3, tI x4] = bs_l07Crossing_8 call x0 x1 x2 x3 x4 := by kernel_rfl
theorem vs_l07Crossing_8 (x0 : List Int) (x1 : Int) (x2 : Int) (x3 : Int) (x4 : Int) {o : List TV} (h : bs_l07Crossing_8 R x0 x1 x2 x3 x4 = some o) : R is_l07Crossing_8 [tAi8 x0, tI x1, tI x2, tI x3, tI x4] = some o := ev_step ((es_l07Crossing_8 R x0 x1 x2 x3 x4).trans h)
/-- spec.l07Crossing loop 11 -/
noncomputable def bs_l07Crossing_11 (call : Oracle) (x0 : List Int) (x1 : Int) (x2 : Int) (x3 : Int) (x4 : Int) (x5 : Int) : Option (List TV) :=
  bif decide (x5 < x1) then
    bif (decide (0 ≤ x2) && decide (x2 < 8)) then
      bif (decide (0 ≤ x4) && decide (x4 < 8)) then
        bif ((List.getD x0 (Int.toNat x2) 0) == (List.getD x0 (Int.toNat x4) 0)) then
          bif (decide (0 ≤ x3) && decide (x3 < 8)) then
            bif (decide (0 ≤ x5) && decide (x5 < 8)) then
              bif ((List.getD x0 (Int.toNat x3) 0) == (List.getD x0 (Int.toNat x5) 0)) then
                bif (decide (0 ≤ x2) && decide (x2 < 8)) then
                  bif (decide (0 ≤ x3) && decide (x3 < 8)) then
                    bif ((List.getD x0 (Int.toNat x2) 0) != (List.getD x0 (Int.toNat x3) 0)) then
                      some [tI 1, tB true]
                    else
                      call is_l07Crossing_11 [tAi8 x0, tI x1, tI x2, tI x3, tI x4, tI (wi64 (x5 + 1))]
                  else none
                else none
              else
                call is_l07Crossing_11 [tAi8 x0, tI x1, tI x2, tI x3, tI x4, tI (wi64 (x5 + 1))]
            else none
          else none
        else
          call is_l07Crossing_11 [tAi8 x0, tI x1, tI x2, tI x3, tI x4, tI (wi64 (x5 + 1))]
      else none
    else none
  else
    some [tI 0, tAi8 x0, tI x1, tI x2, tI x3, tI x4]
theorem es_l07Crossing_11 (call : Oracle) (x0 : List Int) (x1 : Int) (x2 : Int) (x3 : Int) (x4 : Int) (x5 : Int) : run1 E call is_l07Crossing_11 [tAi8 x0, tI x1, tI x2, tI x3, tI x4, tI x5] = bs_l07Crossing_11 call x0 x1 x2 x3 x4 x5 := by kernel_rfl
theorem vs_l07Crossing_11 (x0 : List Int) (x1 : Int) (x2 : Int) (x3 : Int) (x4 : Int) (x5 : Int) {o : List TV} (h : bs_l07Crossing_11 R x0 x1 x2 x3 x4 x5 = some o) : R is_l07Crossing_11 [tAi8 x0, tI x1, tI x2, tI x3, tI x4, tI x5] = some o := ev_step ((es_l07Crossing_11 R x0 x1 x2 x3 x4 x5).trans h)
/-- spec.l07Crossing -/
noncomputable def bs_l07Crossing (call : Oracle) (a0 : List Int) (a1 : Int) : Option (List TV) :=
  (call is_l07Crossing_2 [tAi8 a0, tI a1, tI 0]).bind fun o7 =>
  bif ((gI o7 0) == 0) then
    some [tB false]
  else
    some [tB (gB o7 1)]
theorem es_l07Crossing (call : Oracle) (a0 : List Int) (a1 : Int) : run1 E call is_l07Crossing [tAi8 a0, tI a1] = bs_l07Crossing call a0 a1 := by kernel_rfl
theorem vs_l07Crossing (a0 : List Int) (a1 : Int) {o : List TV} (h : bs_l07Crossing R a0 a1 = some o) : R is_l07Crossing [tAi8 a0, tI a1] = some o := ev_step ((es_l07Crossing R a0 a1).trans h)
/-- spec.l07Made loop 3 -/
noncomputable def bs_l07Made_3 (call : Oracle) (x0 : List Int) (x1 : List Int) (x2 : List Int) (x3 : Int) (x4 : Int) : Option (List TV) :=
  bif decide (x4 < x3) then
    bif (decide (0 ≤ x4) && decide (x4 < 8)) then
      bif (decide (0 ≤ x4) && decide (x4 < 8)) then
        (call is_l07Made_7 [tAi8 x0, tA8 x1, tA8 (List.set x2 (Int.toNat x4) (wu8 ((List.getD x0 (Int.toNat x4) 0)))), tI x3, tI x4, tI (wi64 (x3 - 1))]).bind fun o2 =>
        call is_l07Made_3 [tAi8 (gAi8 o2 1), tA8 (gA8 o2 2), tA8 (gA8 o2 3), tI (gI o2 4), tI (wi64 ((gI o2 5) + 1))]
      else none
    else none
  else
    some [tI 0, tA8 x1, tA8 x2]
theorem es_l07Made_3 (call : Oracle) (x0 : List Int) (x1 : List Int) (x2 : List Int) (x3 : Int) (x4 : Int) : run1 E call is_l07Made_3 [tAi8 x0, tA8 x1, tA8 x2, tI x3, tI x4] = bs_l07Made_3 call x0 x1 x2 x3 x4 := by kernel_rfl
theorem vs_l07Made_3 (x0 : List Int) (x1 : List Int) (x2 : List Int) (x3 : Int) (x4 : Int) {o : List TV} (h : bs_l07Made_3 R x0 x1 x2 x3 x4 = some o) : R is_l07Made_3 [tAi8 x0, tA8 x1, tA8 x2, tI x3, tI x4] = some o := ev_step ((es_l07Made_3 R x0 x1 x2 x3 x4).trans h)
/-- spec.l07Made loop 7 -/
noncomputable def bs_l07Made_7 (call : Oracle) (x0 : List Int) (x1 : List Int) (x2 : List Int) (x3 : Int) (x4 : Int) (x5 : Int) : Option (List TV) :=
  bif decide (x4 < x5) then
    bif (decide (0 ≤ x5) && decide (x5 < 8)) then
      bif (decide (0 ≤ x4) && decide (x4 < 8)) then
        bif ((List.getD x0 (Int.toNat x5) 0) == (List.getD x0 (Int.toNat x4) 0)) then
          bif (decide (0 ≤ x4) && decide (x4 < 8)) then
            call is_l07Made_7 [tAi8 x0, tA8 x1, tA8 (List.set x2 (Int.toNat x4) (wu8 (x5))), tI x3, tI x4, tI (wi64 (x5 - 1))]
          else none
        else
          call is_l07Made_7 [tAi8 x0, tA8 x1, tA8 x2, tI x3, tI x4, tI (wi64 (x5 - 1))]
      else none
    else none
  else
    some [tI 0, tAi8 x0, tA8 x1, tA8 x2, tI x3, tI x4]
theorem es_l07Made_7 (call : Oracle) (x0 : List Int) (x1 : List Int) (x2 : List Int) (x3 : Int) (x4 : Int) (x5 : Int) : run1 E call is_l07Made_7 [tAi8 x0, tA8 x1, tA8 x2, tI x3, tI x4, tI x5] = bs_l07Made_7 call x0 x1 x2 x3 x4 x5 := by kernel_rfl
theorem vs_l07Made_7 (x0 : List Int) (x1 : List Int) (x2 : List Int) (x3 : Int) (x4 : Int) (x5 : Int) {o : List TV} (h : bs_l07Made_7 R x0 x1 x2 x3 x4 x5 = some o) : R is_l07Made_7 [tAi8 x0, tA8 x1, tA8 x2, tI x3, tI x4, tI x5] = some o := ev_step ((es_l07Made_7 R x0 x1 x2 x3 x4 x5).trans h)
/-- spec.l07Made -/
noncomputable def bs_l07Made (call : Oracle) (a0 : List Int) (a1 : Int) : Option (List TV) :=
  (call is_l07Made_3 [tAi8 a0, tA8 (List.replicate 8 0), tA8 (List.replicate 8 0), tI a1, tI 0]).bind fun o3 =>
  some [tA8 (gA8 o3 2)]
theorem es_l07Made (call : Oracle) (a0 : List Int) (a1 : Int) : run1 E call is_l07Made [tAi8 a0, tI a1] = bs_l07Made call a0 a1 := by kernel_rfl
theorem vs_l07Made (a0 : List Int) (a1 : Int) {o : List TV} (h : bs_l07Made R a0 a1 = some o) : R is_l07Made [tAi8 a0, tI a1] = some o := ev_step ((es_l07Made R a0 a1).trans h)
/-- spec.l07Before loop 2 -/
noncomputable def bs_l07Before_2 (call : Oracle) (x0 : List Int) (x1 : List Int) (x2 : Int) : Option (List TV) :=
  bif decide (x2 < 8) then
    bif (decide (0 ≤ x2) && decide (x2 < 8)) then
      bif (decide (0 ≤ x2) && decide (x2 < 8)) then
        bif ((List.getD x0 (Int.toNat x2) 0) != (List.getD x1 (Int.toNat x2) 0)) then
          bif (decide (0 ≤ x2) && decide (x2 < 8)) then
            bif (decide (0 ≤ x2) && decide (x2 < 8)) then
              some [tI 1, tB (decide ((List.getD x0 (Int.toNat x2) 0) < (List.getD x1 (Int.toNat x2) 0)))]
            else none
          else none
        else
          call is_l07Before_2 [tA8 x0, tA8 x1, tI (wi64 (x2 + 1))]
      else none
    else none
  else
    some [tI 0]
theorem es_l07Before_2 (call : Oracle) (x0 : List Int) (x1 : List Int) (x2 : Int) : run1 E call is_l07Before_2 [tA8 x0, tA8 x1, tI x2] = bs_l07Before_2 call x0 x1 x2 := by kernel_rfl
theorem vs_l07Before_2 (x0 : List Int) (x1 : List Int) (x2 : Int) {o : List TV} (h : bs_l07Before_2 R x0 x1 x2 = some o) : R is_l07Before_2 [tA8 x0, tA8 x1, tI x2] = some o := ev_step ((es_l07Before_2 R x0 x1 x2).trans h)
/-- spec.l07Before -/
noncomputable def bs_l07Before (call : Oracle) (a0 : List Int) (a1 : List Int) : Option (List TV) :=
  (call is_l07Before_2 [tA8 a0, tA8 a1, tI 0]).bind fun o1 =>
  bif ((gI o1 0) == 0) then
    some [tB false]
  else
    some [tB (gB o1 1)]
theorem es_l07Before (call : Oracle) (a0 : List Int) (a1 : List Int) : run1 E call is_l07Before [tA8 a0, tA8 a1] = bs_l07Before call a0 a1 := by kernel_rfl
theorem vs_l07Before (a0 : List Int) (a1 : List Int) {o : List TV} (h : bs_l07Before R a0 a1 = some o) : R is_l07Before [tA8 a0, tA8 a1] = some o := ev_step ((es_l07Before R a0 a1).trans h)
/-- spec.l07All loop 5 -/
noncomputable def bs_l07All_5 (call : Oracle) (x0 : List (List Int)) (x1 : List Int) (x2 : Int) : Option (List TV) :=
  bif decide (x2 < ((List.length x0 : Nat) : Int)) then
    bif (decide (0 ≤ x2) && decide (x2 < ((List.length x0 : Nat) : Int))) then
      (call is_l07Before [tA8 (List.getD x0 (Int.toNat x2) (List.replicate 8 0)), tA8 x1]).bind fun o4 =>
      bif (gB o4 0) then
        call is_l07All_5 [tLA8 x0, tA8 x1, tI (wi64 (x2 + 1))]
      else
        some [tI 0, tLA8 x0, tA8 x1, tI x2]
    else none
  else
    some [tI 0, tLA8 x0, tA8 x1, tI x2]
theorem es_l07All_5 (call : Oracle) (x0 : List (List Int)) (x1 : List Int) (x2 : Int) : run1 E call is_l07All_5 [tLA8 x0, tA8 x1, tI x2] = bs_l07All_5 call x0 x1 x2 := by kernel_rfl
theorem vs_l07All_5 (x0 : List (List Int)) (x1 : List Int) (x2 : Int) {o : List TV} (h : bs_l07All_5 R x0 x1 x2 = some o) : R is_l07All_5 [tLA8 x0, tA8 x1, tI x2] = some o := ev_step ((es_l07All_5 R x0 x1 x2).trans h)
/-- spec.l07All loop 10 -/
noncomputable def bs_l07All_10 (call : Oracle) (x0 : List (List Int)) (x1 : List Int) (x2 : Int) (x3 : Int) (x4 : Int) : Option (List TV) :=
  bif decide (x4 ≤ x2) then
    bif decide (x4 < x2) then
      bif (decide (0 ≤ x4) && decide (x4 < 8)) then
        bif ((List.getD x1 (Int.toNat x4) 0) != x4) then
          call is_l07All_10 [tLA8 x0, tAi8 x1, tI x2, tI x3, tI (wi64 (x4 + 1))]
        else
          bif (decide (0 ≤ x2) && decide (x2 < 8)) then
            (call is_l07All [tAi8 (List.set x1 (Int.toNat x2) x4), tI (wi64 (x2 + 1)), tI x3, tLA8 x0]).bind fun o8 =>
            call is_l07All_10 [tLA8 (gLA8 o8 0), tAi8 x1, tI x2, tI x3, tI (wi64 (x4 + 1))]
          else none
      else none
    else
      bif (decide (0 ≤ x2) && decide (x2 < 8)) then
        (call is_l07All [tAi8 (List.set x1 (Int.toNat x2) x4), tI (wi64 (x2 + 1)), tI x3, tLA8 x0]).bind fun o9 =>
        call is_l07All_10 [tLA8 (gLA8 o9 0), tAi8 x1, tI x2, tI x3, tI (wi64 (x4 + 1))]
      else none
  else
    some [tI 0, tLA8 x0]
theorem es_l07All_10 (call : Oracle) (x0 : List (List Int)) (x1 : List Int) (x2 : Int) (x3 : Int) (x4 : Int) : run1 E call is_l07All_10 [tLA8 x0, tAi8 x1, tI x2, tI x3, tI x4] = bs_l07All_10 call x0 x1 x2 x3 x4 := by kernel_rfl
theorem vs_l07All_10 (x0 : List (List Int)) (x1 : List Int) (x2 : Int) (x3 : Int) (x4 : Int) {o : List TV} (h : bs_l07All_10 R x0 x1 x2 x3 x4 = some o) : R is_l07All_10 [tLA8 x0, tAi8 x1, tI x2, tI x3, tI x4] = some o := ev_step ((es_l07All_10 R x0 x1 x2 x3 x4).trans h)
/-- spec.l07All -/
noncomputable def bs_l07All (call : Oracle) (a0 : List Int) (a1 : Int) (a2 : Int) (a3 : List (List Int)) : Option (List TV) :=
  bif (a1 == a2) then
    (call is_l07Crossing [tAi8 a0, tI a2]).bind fun o1 =>
    bif (gB o1 0) then
      some [tLA8 a3]
    else
      (call is_l07Made [tAi8 a0, tI a2]).bind fun o2 =>
      (call is_l07All_5 [tLA8 a3, tA8 (gA8 o2 0), tI 0]).bind fun o5 =>
      bif (decide (0 ≤ (gI o5 3)) && decide ((gI o5 3) ≤ ((List.length (gLA8 o5 1) : Nat) : Int))) then
        bif (apOk [(gA8 o5 2)] (List.drop (Int.toNat (gI o5 3)) (gLA8 o5 1))) then
          bif (decide (0 ≤ (gI o5 3)) && decide ((gI o5 3) ≤ ((List.length (gLA8 o5 1) : Nat) : Int))) then
            bif (apOk [] (List.take (Int.toNat (gI o5 3)) (gLA8 o5 1))) then
              bif (apOk (List.take (Int.toNat (gI o5 3)) (gLA8 o5 1)) ([(gA8 o5 2)] ++ (List.drop (Int.toNat (gI o5 3)) (gLA8 o5 1)))) then
                some [tLA8 ((List.take (Int.toNat (gI o5 3)) (gLA8 o5 1)) ++ ([(gA8 o5 2)] ++ (List.drop (Int.toNat (gI o5 3)) (gLA8 o5 1))))]
              else none
            else none
          else none
        else none
      else none
  else
    (call is_l07All_10 [tLA8 a3, tAi8 a0, tI a1, tI a2, tI 0]).bind fun o10 =>
    some [tLA8 (gLA8 o10 1)]
theorem es_l07All (call : Oracle) (a0 : List Int) (a1 : Int) (a2 : Int) (a3 : List (List Int)) : run1 E call is_l07All [tAi8 a0, tI a1, tI a2, tLA8 a3] = bs_l07All call a0 a1 a2 a3 := by kernel_rfl
theorem vs_l07All (a0 : List Int) (a1 : Int) (a2 : Int) (a3 : List (List Int)) {o : List TV} (h : bs_l07All R a0 a1 a2 a3 = some o) : R is_l07All [tAi8 a0, tI a1, tI a2, tLA8 a3] = some o := ev_step ((es_l07All R a0 a1 a2 a3).trans h)
/-- spec.AllParts -/
noncomputable def bs_AllParts (call : Oracle) (a0 : Int) : Option (List TV) :=
  (call is_l01In [tI a0, tI 1, tI 7]).bind fun o1 =>
  bif (!(gB o1 0)) then
    some [tLA8 [], tI 2]
  else
    (call is_l07All [tAi8 (List.replicate 8 0), tI 0, tI a0, tLA8 []]).bind fun o2 =>
    some [tLA8 (gLA8 o2 0), tI 0]
theorem es_AllParts (call : Oracle) (a0 : Int) : run1 E call is_AllParts [tI a0] = bs_AllParts call a0 := by kernel_rfl
theorem vs_AllParts (a0 : Int) {o : List TV} (h : bs_AllParts R a0 = some o) : R is_AllParts [tI a0] = some o := ev_step ((es_AllParts R a0).trans h)
/-- impl.within -/
noncomputable def bi_within (call : Oracle) (a0 : Int) (a1 : Int) (a2 : Int) : Option (List TV) :=
  bif decide (a1 ≤ a0) then
    some [tB (decide (a0 ≤ a2))]
  else
    some [tB false]
theorem ei_within (call : Oracle) (a0 : Int) (a1 : Int) (a2 : Int) : run1 E call ii_within [tI a0, tI a1, tI a2] = bi_within call a0 a1 a2 := by kernel_rfl
theorem vi_within (a0 : Int) (a1 : Int) (a2 : Int) {o : List TV} (h : bi_within R a0 a1 a2 = some o) : R ii_within [tI a0, tI a1, tI a2] = some o := ev_step ((ei_within R a0 a1 a2).trans h)
/-- impl.strandsOf loop 3 -/
noncomputable def bi_strandsOf_3 (call : Oracle) (x0 : List Int) (x1 : Int) (x2 : Int) : Option (List TV) :=
  bif decide (x2 < x1) then
    bif (apOk x0 [x2]) then
      call ii_strandsOf_3 [tLI (x0 ++ [x2]), tI x1, tI (wi64 (x2 + 1))]
    else none
  else
    some [tI 0, tLI x0]
theorem ei_strandsOf_3 (call : Oracle) (x0 : List Int) (x1 : Int) (x2 : Int) : run1 E call ii_strandsOf_3 [tLI x0, tI x1, tI x2] = bi_strandsOf_3 call x0 x1 x2 := by kernel_rfl
theorem vi_strandsOf_3 (x0 : List Int) (x1 : Int) (x2 : Int) {o : List TV} (h : bi_strandsOf_3 R x0 x1 x2 = some o) : R ii_strandsOf_3 [tLI x0, tI x1, tI x2] = some o := ev_step ((ei_strandsOf_3 R x0 x1 x2).trans h)
/-- impl.strandsOf -/
noncomputable def bi_strandsOf (call : Oracle) (a0 : Int) : Option (List TV) :=
  (call ii_strandsOf_3 [tLI [], tI a0, tI 0]).bind fun o1 =>
  some [tLI (gLI o1 1)]
theorem ei_strandsOf (call : Oracle) (a0 : Int) : run1 E call ii_strandsOf [tI a0] = bi_strandsOf call a0 := by kernel_rfl
theorem vi_strandsOf (a0 : Int) {o : List TV} (h : bi_strandsOf R a0 = some o) : R ii_strandsOf [tI a0] = some o := ev_step ((ei_strandsOf R a0).trans h)
/-- impl.fineGroups -/
noncomputable def bi_fineGroups (call : Oracle) (a0 : Int) : Option (List TV) :=
  (call ii_strandsOf [tI a0]).bind fun o1 =>
  some [tLI (gLI o1 0)]
theorem ei_fineGroups (call : Oracle) (a0 : Int) : run1 E call ii_fineGroups [tI a0] = bi_fineGroups call a0 := by kernel_rfl
theorem vi_fineGroups (a0 : Int) {o : List TV} (h : bi_fineGroups R a0 = some o) : R ii_fineGroups [tI a0] = some o := ev_step ((ei_fineGroups R a0).trans h)
/-- (impl.groups).crossing loop 3 -/
noncomputable def b_i_groups__crossing_3 (call : Oracle) (x0 : List Int) (x1 : Int) (x2 : Int) (x3 : Int) : Option (List TV) :=
  bif decide (x3 < x2) then
    (call i_i_groups__crossing_6 [tLI x0, tI x1, tI x3, tI (wi64 (x3 + 1)), tI x2, tI x3]).bind fun o6 =>
    bif ((gI o6 0) == 0) then
      call i_i_groups__crossing_3 [tLI (gLI o6 1), tI (gI o6 2), tI (gI o6 3), tI (wi64 ((gI o6 4) + 1))]
    else
      some [tI 1, tI (gI o6 1), tI (gI o6 2), tB (gB o6 3)]
  else
    some [tI 0]
theorem e_i_groups__crossing_3 (call : Oracle) (x0 : List Int) (x1 : Int) (x2 : Int) (x3 : Int) : run1 E call i_i_groups__crossing_3 [tLI x0, tI x1, tI x2, tI x3] = b_i_groups__crossing_3 call x0 x1 x2 x3 := by kernel_rfl
theorem v_i_groups__crossing_3 (x0 : List Int) (x1 : Int) (x2 : Int) (x3 : Int) {o : List TV} (h : b_i_groups__crossing_3 R x0 x1 x2 x3 = some o) : R i_i_groups__crossing_3 [tLI x0, tI x1, tI x2, tI x3] = some o := ev_step ((e_i_groups__crossing_3 R x0 x1 x2 x3).trans h)
/-- (impl.groups).crossing loop 6 -/
noncomputable def b_i_groups__crossing_6 (call : Oracle) (x0 : List Int) (x1 : Int) (x2 : Int) (x3 : Int) (x4 : Int) (x5 : Int) : Option (List TV) :=
  bif decide (x3 < x1) then
    (call i_i_groups__crossing_9 [tLI x0, tI x1, tI x2, tI x3, tI (wi64 (x3 + 1)), tI x4, tI x5]).bind fun o4 =>
    bif ((gI o4 0) == 0) then
      call i_i_groups__crossing_6 [tLI (gLI o4 1), tI (gI o4 2), tI (gI o4 3), tI (wi64 ((gI o4 4) + 1)), tI (gI o4 5), tI (gI o4 6)]
    else
      some [tI 1, tI (gI o4 1), tI (gI o4 2), tB (gB o4 3)]
  else
    some [tI 0, tLI x0, tI x1, tI x4, tI x5]
theorem e_i_groups__crossing_6 (call : Oracle) (x0 : List Int) (x1 : Int) (x2 : Int) (x3 : Int) (x4 : Int) (x5 : Int) : run1 E call i_i_groups__crossing_6 [tLI x0, tI x1, tI x2, tI x3, tI x4, tI x5] = b_i_groups__crossing_6 call x0 x1 x2 x3 x4 x5 := by kernel_rfl
theorem v_i_groups__crossing_6 (x0 : List Int) (x1 : Int) (x2 : Int) (x3 : Int) (x4 : Int) (x5 : Int) {o : List TV} (h : b_i_groups__crossing_6 R x0 x1 x2 x3 x4 x5 = some o) : R i_i_groups__crossing_6 [tLI x0, tI x1, tI x2, tI x3, tI x4, tI x5] = some o := ev_step ((e_i_groups__crossing_6 R x0 x1 x2 x3 x4 x5).trans h)
/-- (impl.groups).crossing loop 9 -/
noncomputable def b_i_groups__crossing_9 (call : Oracle) (x0 : List Int) (x1 : Int) (x2 : Int) (x3 : Int) (x4 : Int) (x5 : Int) (x6 : Int) : Option (List TV) :=
  bif decide (x4 < x1) then
    (call i_i_groups__crossing_12 [tLI x0, tI x1, tI x2, tI x3, tI x4, tI (wi64 (x4 + 1)), tI x5, tI x6]).bind fun o2 =>
    bif ((gI o2 0) == 0) then
      call i_i_groups__crossing_9 [tLI (gLI o2 1), tI (gI o2 2), tI (gI o2 3), tI (gI o2 4), tI (wi64 ((gI o2 5) + 1)), tI (gI o2 6), tI (gI o2 7)]
    else
      some [tI 1, tI (gI o2 1), tI (gI o2 2), tB (gB o2 3)]
  else
    some [tI 0, tLI x0, tI x1, tI x2, tI x3, tI x5, tI x6]
theorem e_i_groups__crossing_9 (call : Oracle) (x0 : List Int) (x1 : Int) (x2 : Int) (x3 : Int) (x4 : Int) (x5 : Int) (x6 : Int) : run1 E call i_i_groups__crossing_9 [tLI x0, tI x1, tI x2, tI x3, tI x4, tI x5, tI x6] = b_i_groups__crossing_9 call x0 x1 x2 x3 x4 x5 x6 := by kernel_rfl
theorem v_i_groups__crossing_9 (x0 : List Int) (x1 : Int) (x2 : Int) (x3 : Int) (x4 : Int) (x5 : Int) (x6 : Int) {o : List TV} (h : b_i_groups__crossing_9 R x0 x1 x2 x3 x4 x5 x6 = some o) : R i_i_groups__crossing_9 [tLI x0, tI x1, tI x2, tI x3, tI x4, tI x5, tI x6] = some o := ev_step ((e_i_groups__crossing_9 R x0 x1 x2 x3 x4 x5 x6).trans h)
/-- (impl.groups).crossing loop 12 -/
noncomputable def b_i_groups__crossing_12 (call : Oracle) (x0 : List Int) (x1 : Int) (x2 : Int) (x3 : Int) (x4 : Int) (x5 : Int) (x6 : Int) (x7 : Int) : Option (List TV) :=
  bif decide (x5 < x1) then
    bif (decide (0 ≤ x2) && decide (x2 < ((List.length x0 : Nat) : Int))) then
      bif (decide (0 ≤ x4) && decide (x4 < ((List.length x0 : Nat) : Int))) then
        bif ((List.getD x0 (Int.toNat x2) 0) == (List.getD x0 (Int.toNat x4) 0)) then
          bif (decide (0 ≤ x3) && decide (x3 < ((List.length x0 : Nat) : Int))) then
            bif (decide (0 ≤ x5) && decide (x5 < ((List.length x0 : Nat) : Int))) then
              bif ((List.getD x0 (Int.toNat x3) 0) == (List.getD x0 (Int.toNat x5) 0)) then
                bif (decide (0 ≤ x2) && decide (x2 < ((List.length x0 : Nat) : Int))) then
                  bif (decide (0 ≤ x3) && decide (x3 < ((List.length x0 : Nat) : Int))) then
                    bif ((List.getD x0 (Int.toNat x2) 0) != (List.getD x0 (Int.toNat x3) 0)) then
                      some [tI 1, tI x2, tI x3, tB true]
                    else
                      call i_i_groups__crossing_12 [tLI x0, tI x1, tI x2, tI x3, tI x4, tI (wi64 (x5 + 1)), tI x6, tI x7]
                  else none
                else none
              else
                call i_i_groups__crossing_12 [tLI x0, tI x1, tI x2, tI x3, tI x4, tI (wi64 (x5 + 1)), tI x6, tI x7]
            else none
          else none
        else
          call i_i_groups__crossing_12 [tLI x0, tI x1, tI x2, tI x3, tI x4, tI (wi64 (x5 + 1)), tI x6, tI x7]
      else none
    else none
  else
    some [tI 0, tLI x0, tI x1, tI x2, tI x3, tI x4, tI x6, tI x7]
theorem e_i_groups__crossing_12 (call : Oracle) (x0 : List Int) (x1 : Int) (x2 : Int) (x3 : Int) (x4 : Int) (x5 : Int) (x6 : Int) (x7 : Int) : run1 E call i_i_groups__crossing_12 [tLI x0, tI x1, tI x2, tI x3, tI x4, tI x5, tI x6, tI x7] = b_i_groups__crossing_12 call x0 x1 x2 x3 x4 x5 x6 x7 := by kernel_rfl
theorem v_i_groups__crossing_12 (x0 : List Int) (x1 : Int) (x2 : Int) (x3 : Int) (x4 : Int) (x5 : Int) (x6 : Int) (x7 : Int) {o : List TV} (h : b_i_groups__crossing_12 R x0 x1 x2 x3 x4 x5 x6 x7 = some o) : R i_i_groups__crossing_12 [tLI x0, tI x1, tI x2, tI x3, tI x4, tI x5, tI x6, tI x7] = some o := ev_step ((e_i_groups__crossing_12 R x0 x1 x2 x3 x4 x5 x6 x7).trans h)
/-- (impl.groups).crossing -/
noncomputable def b_i_groups__crossing (call : Oracle) (a0 : List Int) : Option (List TV) :=
  (call i_i_groups__crossing_3 [tLI a0, tI ((List.length a0 : Nat) : Int), tI ((List.length a0 : Nat) : Int), tI 0]).bind fun o7 =>
  bif ((gI o7 0) == 0) then
    some [tI 0, tI 0, tB false]
  else
    some [tI (gI o7 1), tI (gI o7 2), tB (gB o7 3)]
theorem e_i_groups__crossing (call : Oracle) (a0 : List Int) : run1 E call i_i_groups__crossing [tLI a0] = b_i_groups__crossing call a0 := by kernel_rfl
theorem v_i_groups__crossing (a0 : List Int) {o : List TV} (h : b_i_groups__crossing R a0 = some o) : R i_i_groups__crossing [tLI a0] = some o := ev_step ((e_i_groups__crossing R a0).trans h)
/-- (impl.groups).part loop 3 -/
noncomputable def b_i_groups__part_3 (call : Oracle) (x0 : List Int) (x1 : List Int) (x2 : List Int) (x3 : Int) (x4 : Int) : Option (List TV) :=
  bif decide (x4 < x3) then
    bif (decide (0 ≤ x4) && decide (x4 < ((List.length x0 : Nat) : Int))) then
      bif (decide (0 ≤ x4) && decide (x4 < 8)) then
        (call i_i_groups__part_7 [tLI x0, tA8 x1, tA8 (List.set x2 (Int.toNat x4) (wu8 ((List.getD x0 (Int.toNat x4) 0)))), tI x4, tI (List.getD x0 (Int.toNat x4) 0), tI (wi64 (x4 + 1)), tI x3, tI x4]).bind fun o2 =>
        call i_i_groups__part_3 [tLI (gLI o2 1), tA8 (gA8 o2 2), tA8 (gA8 o2 3), tI (gI o2 4), tI (wi64 ((gI o2 5) + 1))]
      else none
    else none
  else
    some [tI 0, tA8 x1, tA8 x2]
theorem e_i_groups__part_3 (call : Oracle) (x0 : List Int) (x1 : List Int) (x2 : List Int) (x3 : Int) (x4 : Int) : run1 E call i_i_groups__part_3 [tLI x0, tA8 x1, tA8 x2, tI x3, tI x4] = b_i_groups__part_3 call x0 x1 x2 x3 x4 := by kernel_rfl
theorem v_i_groups__part_3 (x0 : List Int) (x1 : List Int) (x2 : List Int) (x3 : Int) (x4 : Int) {o : List TV} (h : b_i_groups__part_3 R x0 x1 x2 x3 x4 = some o) : R i_i_groups__part_3 [tLI x0, tA8 x1, tA8 x2, tI x3, tI x4] = some o := ev_step ((e_i_groups__part_3 R x0 x1 x2 x3 x4).trans h)
/-- (impl.groups).part loop 7 -/
noncomputable def b_i_groups__part_7 (call : Oracle) (x0 : List Int) (x1 : List Int) (x2 : List Int) (x3 : Int) (x4 : Int) (x5 : Int) (x6 : Int) (x7 : Int) : Option (List TV) :=
  bif decide (x5 < ((List.length x0 : Nat) : Int)) then
    bif (decide (0 ≤ x5) && decide (x5 < ((List.length x0 : Nat) : Int))) then
      bif ((List.getD x0 (Int.toNat x5) 0) == x4) then
        bif (decide (0 ≤ x3) && decide (x3 < 8)) then
          some [tI 0, tLI x0, tA8 x1, tA8 (List.set x2 (Int.toNat x3) (wu8 (x5))), tI x6, tI x7]
        else none
      else
        call i_i_groups__part_7 [tLI x0, tA8 x1, tA8 x2, tI x3, tI x4, tI (wi64 (x5 + 1)), tI x6, tI x7]
    else none
  else
    some [tI 0, tLI x0, tA8 x1, tA8 x2, tI x6, tI x7]
theorem e_i_groups__part_7 (call : Oracle) (x0 : List Int) (x1 : List Int) (x2 : List Int) (x3 : Int) (x4 : Int) (x5 : Int) (x6 : Int) (x7 : Int) : run1 E call i_i_groups__part_7 [tLI x0, tA8 x1, tA8 x2, tI x3, tI x4, tI x5, tI x6, tI x7] = b_i_groups__part_7 call x0 x1 x2 x3 x4 x5 x6 x7 := by kernel_rfl
theorem v_i_groups__part_7 (x0 : List Int) (x1 : List Int) (x2 : List Int) (x3 : Int) (x4 : Int) (x5 : Int) (x6 : Int) (x7 : Int) {o : List TV} (h : b_i_groups__part_7 R x0 x1 x2 x3 x4 x5 x6 x7 = some o) : R i_i_groups__part_7 [tLI x0, tA8 x1, tA8 x2, tI x3, tI x4, tI x5, tI x6, tI x7] = some o := ev_step ((e_i_groups__part_7 R x0 x1 x2 x3 x4 x5 x6 x7).trans h)
/-- (impl.groups).part -/
noncomputable def b_i_groups__part (call : Oracle) (a0 : List Int) : Option (List TV) :=
  (call i_i_groups__part_3 [tLI a0, tA8 (List.replicate 8 0), tA8 (List.replicate 8 0), tI ((List.length a0 : Nat) : Int), tI 0]).bind fun o3 =>
  some [tA8 (gA8 o3 2)]
theorem e_i_groups__part (call : Oracle) (a0 : List Int) : run1 E call i_i_groups__part [tLI a0] = b_i_groups__part call a0 := by kernel_rfl
theorem v_i_groups__part (a0 : List Int) {o : List TV} (h : b_i_groups__part R a0 = some o) : R i_i_groups__part [tLI a0] = some o := ev_step ((e_i_groups__part R a0).trans h)
/-- impl.AllParts$1 -/
noncomputable def bi_AllPartsK1 (call : Oracle) (a0 : List Int) (a1 : List (List Int)) : Option (List TV) :=
  (call i_i_groups__crossing [tLI a0]).bind fun o1 =>
  bif (!(gB o1 2)) then
    (call i_i_groups__part [tLI a0]).bind fun o2 =>
    bif (apOk a1 [(gA8 o2 0)]) then
      some [tLA8 (a1 ++ [(gA8 o2 0)])]
    else none
  else
    some [tLA8 a1]
theorem ei_AllPartsK1 (call : Oracle) (a0 : List Int) (a1 : List (List Int)) : run1 E call ii_AllPartsK1 [tLI a0, tLA8 a1] = bi_AllPartsK1 call a0 a1 := by kernel_rfl
theorem vi_AllPartsK1 (a0 : List Int) (a1 : List (List Int)) {o : List TV} (h : bi_AllPartsK1 R a0 a1 = some o) : R ii_AllPartsK1 [tLI a0, tLA8 a1] = some o := ev_step ((ei_AllPartsK1 R a0 a1).trans h)
/-- impl.eachGroups loop 3 -/
noncomputable def bi_eachGroups_3 (call : Oracle) (x0 : List Int) (x1 : List (List Int)) (x2 : Int) (x3 : Int) (x4 : Int) : Option (List TV) :=
  bif decide (x4 < x3) then
    bif decide (x4 < x2) then
      bif (decide (0 ≤ x4) && decide (x4 < ((List.length x0 : Nat) : Int))) then
        bif ((List.getD x0 (Int.toNat x4) 0) != x4) then
          call ii_eachGroups_3 [tLI x0, tLA8 x1, tI x2, tI x3, tI (wi64 (x4 + 1))]
        else
          bif (decide (0 ≤ x2) && decide (x2 < ((List.length x0 : Nat) : Int))) then
            (call ii_eachGroups [tLI (List.set x0 (Int.toNat x2) x4), tI (wi64 (x2 + 1)), tLA8 x1]).bind fun o4 =>
            call ii_eachGroups_3 [tLI (gLI o4 0), tLA8 (gLA8 o4 1), tI x2, tI x3, tI (wi64 (x4 + 1))]
          else none
      else none
    else
      bif (decide (0 ≤ x2) && decide (x2 < ((List.length x0 : Nat) : Int))) then
        (call ii_eachGroups [tLI (List.set x0 (Int.toNat x2) x4), tI (wi64 (x2 + 1)), tLA8 x1]).bind fun o5 =>
        call ii_eachGroups_3 [tLI (gLI o5 0), tLA8 (gLA8 o5 1), tI x2, tI x3, tI (wi64 (x4 + 1))]
      else none
  else
    some [tI 0, tLI x0, tLA8 x1]
theorem ei_eachGroups_3 (call : Oracle) (x0 : List Int) (x1 : List (List Int)) (x2 : Int) (x3 : Int) (x4 : Int) : run1 E call ii_eachGroups_3 [tLI x0, tLA8 x1, tI x2, tI x3, tI x4] = bi_eachGroups_3 call x0 x1 x2 x3 x4 := by kernel_rfl
theorem vi_eachGroups_3 (x0 : List Int) (x1 : List (List Int)) (x2 : Int) (x3 : Int) (x4 : Int) {o : List TV} (h : bi_eachGroups_3 R x0 x1 x2 x3 x4 = some o) : R ii_eachGroups_3 [tLI x0, tLA8 x1, tI x2, tI x3, tI x4] = some o := ev_step ((ei_eachGroups_3 R x0 x1 x2 x3 x4).trans h)
/-- impl.eachGroups -/
noncomputable def bi_eachGroups (call : Oracle) (a0 : List Int) (a1 : Int) (a2 : List (List Int)) : Option (List TV) :=
  bif (a1 == ((List.length a0 : Nat) : Int)) then
    (call ii_AllPartsK1 [tLI a0, tLA8 a2]).bind fun o1 =>
    some [tLI a0, tLA8 (gLA8 o1 0)]
  else
    (call ii_eachGroups_3 [tLI a0, tLA8 a2, tI a1, tI (wi64 (a1 + 1)), tI 0]).bind fun o6 =>
    some [tLI (gLI o6 1), tLA8 (gLA8 o6 2)]
theorem ei_eachGroups (call : Oracle) (a0 : List Int) (a1 : Int) (a2 : List (List Int)) : run1 E call ii_eachGroups [tLI a0, tI a1, tLA8 a2] = bi_eachGroups call a0 a1 a2 := by kernel_rfl
theorem vi_eachGroups (a0 : List Int) (a1 : Int) (a2 : List (List Int)) {o : List TV} (h : bi_eachGroups R a0 a1 a2 = some o) : R ii_eachGroups [tLI a0, tI a1, tLA8 a2] = some o := ev_step ((ei_eachGroups R a0 a1 a2).trans h)
/-- cmp.isNaN[byte] -/
noncomputable def bcmp_isNaN_byte_ (call : Oracle) (a0 : Int) : Option (List TV) :=
  some [tB (a0 != a0)]
theorem ecmp_isNaN_byte_ (call : Oracle) (a0 : Int) : run1 E call icmp_isNaN_byte_ [tU8 a0] = bcmp_isNaN_byte_ call a0 := by kernel_rfl
theorem vcmp_isNaN_byte_ (a0 : Int) {o : List TV} (h : bcmp_isNaN_byte_ R a0 = some o) : R icmp_isNaN_byte_ [tU8 a0] = some o := ev_step ((ecmp_isNaN_byte_ R a0).trans h)
/-- cmp.Compare[byte] -/
noncomputable def bcmp_Compare_byte_ (call : Oracle) (a0 : Int) (a1 : Int) : Option (List TV) :=
  (call icmp_isNaN_byte_ [tU8 a0]).bind fun o1 =>
  (call icmp_isNaN_byte_ [tU8 a1]).bind fun o2 =>
  bif (gB o1 0) then
    bif (gB o2 0) then
      some [tI 0]
    else
      some [tI (-1)]
  else
    bif (gB o2 0) then
      some [tI 1]
    else
      bif decide (a0 < a1) then
        some [tI (-1)]
      else
        bif decide (a1 < a0) then
          some [tI 1]
        else
          some [tI 0]
theorem ecmp_Compare_byte_ (call : Oracle) (a0 : Int) (a1 : Int) : run1 E call icmp_Compare_byte_ [tU8 a0, tU8 a1] = bcmp_Compare_byte_ call a0 a1 := by kernel_rfl
theorem vcmp_Compare_byte_ (a0 : Int) (a1 : Int) {o : List TV} (h : bcmp_Compare_byte_ R a0 a1 = some o) : R icmp_Compare_byte_ [tU8 a0, tU8 a1] = some o := ev_step ((ecmp_Compare_byte_ R a0 a1).trans h)
/-- slices.Compare[[]byte,byte] loop 2 -/
noncomputable def bg_Compare___byte_byte__2 (call : Oracle) (x0 : List Int) (x1 : List Int) (x2 : Int) (x3 : Int) : Option (List TV) :=
  bif decide (x3 < x2) then
    bif (decide (0 ≤ x3) && decide (x3 < ((List.length x0 : Nat) : Int))) then
      bif decide (((List.length x1 : Nat) : Int) ≤ x3) then
        some [tI 1, tI 1]
      else
        bif (decide (0 ≤ x3) && decide (x3 < ((List.length x1 : Nat) : Int))) then
          (call icmp_Compare_byte_ [tU8 (List.getD x0 (Int.toNat x3) 0), tU8 (List.getD x1 (Int.toNat x3) 0)]).bind fun o2 =>
          bif ((gI o2 0) != 0) then
            some [tI 1, tI (gI o2 0)]
          else
            call ig_Compare___byte_byte__2 [tLU8 x0, tLU8 x1, tI x2, tI (wi64 (x3 + 1))]
        else none
    else none
  else
    some [tI 0, tLU8 x0, tLU8 x1]
theorem eg_Compare___byte_byte__2 (call : Oracle) (x0 : List Int) (x1 : List Int) (x2 : Int) (x3 : Int) : run1 E call ig_Compare___byte_byte__2 [tLU8 x0, tLU8 x1, tI x2, tI x3] = bg_Compare___byte_byte__2 call x0 x1 x2 x3 := by kernel_rfl
theorem vg_Compare___byte_byte__2 (x0 : List Int) (x1 : List Int) (x2 : Int) (x3 : Int) {o : List TV} (h : bg_Compare___byte_byte__2 R x0 x1 x2 x3 = some o) : R ig_Compare___byte_byte__2 [tLU8 x0, tLU8 x1, tI x2, tI x3] = some o := ev_step ((eg_Compare___byte_byte__2 R x0 x1 x2 x3).trans h)
/-- slices.Compare[[]byte,byte] -/
noncomputable def bg_Compare___byte_byte_ (call : Oracle) (a0 : List Int) (a1 : List Int) : Option (List TV) :=
  (call ig_Compare___byte_byte__2 [tLU8 a0, tLU8 a1, tI ((List.length a0 : Nat) : Int), tI 0]).bind fun o3 =>
  bif ((gI o3 0) == 0) then
    bif decide (((List.length (gLU8 o3 1) : Nat) : Int) < ((List.length (gLU8 o3 2) : Nat) : Int)) then
      some [tI (-1)]
    else
      some [tI 0]
  else
    some [tI (gI o3 1)]
theorem eg_Compare___byte_byte_ (call : Oracle) (a0 : List Int) (a1 : List Int) : run1 E call ig_Compare___byte_byte_ [tLU8 a0, tLU8 a1] = bg_Compare___byte_byte_ call a0 a1 := by kernel_rfl
theorem vg_Compare___byte_byte_ (a0 : List Int) (a1 : List Int) {o : List TV} (h : bg_Compare___byte_byte_ R a0 a1 = some o) : R ig_Compare___byte_byte_ [tLU8 a0, tLU8 a1] = some o := ev_step ((eg_Compare___byte_byte_ R a0 a1).trans h)
/-- impl.AllParts$2 -/
noncomputable def bi_AllPartsK2 (call : Oracle) (a0 : List Int) (a1 : List Int) : Option (List TV) :=
  (call ig_Compare___byte_byte_ [tLU8 a0, tLU8 a1]).bind fun o1 =>
  some [tI (gI o1 0)]
theorem ei_AllPartsK2 (call : Oracle) (a0 : List Int) (a1 : List Int) : run1 E call ii_AllPartsK2 [tA8 a0, tA8 a1] = bi_AllPartsK2 call a0 a1 := by kernel_rfl
theorem vi_AllPartsK2 (a0 : List Int) (a1 : List Int) {o : List TV} (h : bi_AllPartsK2 R a0 a1 = some o) : R ii_AllPartsK2 [tA8 a0, tA8 a1] = some o := ev_step ((ei_AllPartsK2 R a0 a1).trans h)
/-- slices.SortFunc[[]impl.Part,impl.Part] -/
noncomputable def bg_SortFunc___i_Part_i_Part_ (call : Oracle) (x0 : List (List Int)) : Option (List TV) :=
  sortE call 109 (.arr .u8 8) x0
theorem eg_SortFunc___i_Part_i_Part_ (call : Oracle) (x0 : List (List Int)) : run1 E call ig_SortFunc___i_Part_i_Part_ [tLA8 x0] = bg_SortFunc___i_Part_i_Part_ call x0 := by kernel_rfl
theorem vg_SortFunc___i_Part_i_Part_ (x0 : List (List Int)) {o : List TV} (h : bg_SortFunc___i_Part_i_Part_ R x0 = some o) : R ig_SortFunc___i_Part_i_Part_ [tLA8 x0] = some o := ev_step ((eg_SortFunc___i_Part_i_Part_ R x0).trans h)
/-- impl.AllParts -/
noncomputable def bi_AllParts (call : Oracle) (a0 : Int) : Option (List TV) :=
  (call ii_within [tI a0, tI 1, tI 7]).bind fun o1 =>
  bif (!(gB o1 0)) then
    some [tLA8 [], tI 2]
  else
    (call ii_fineGroups [tI a0]).bind fun o2 =>
    (call ii_eachGroups [tLI (gLI o2 0), tI 0, tLA8 []]).bind fun o3 =>
    (call ig_SortFunc___i_Part_i_Part_ [tLA8 (gLA8 o3 1)]).bind fun o4 =>
    some [tLA8 (gLA8 o4 0), tI 0]
theorem ei_AllParts (call : Oracle) (a0 : Int) : run1 E call ii_AllParts [tI a0] = bi_AllParts call a0 := by kernel_rfl
theorem vi_AllParts (a0 : Int) {o : List TV} (h : bi_AllParts R a0 = some o) : R ii_AllParts [tI a0] = some o := ev_step ((ei_AllParts R a0).trans h)
/-- laws.eqPart loop 2 -/
noncomputable def bw_eqPart_2 (call : Oracle) (x0 : List Int) (x1 : List Int) (x2 : Int) : Option (List TV) :=
  bif decide (x2 < 8) then
    bif (decide (0 ≤ x2) && decide (x2 < 8)) then
      bif (decide (0 ≤ x2) && decide (x2 < 8)) then
        bif ((List.getD x0 (Int.toNat x2) 0) != (List.getD x1 (Int.toNat x2) 0)) then
          some [tI 1, tB false]
        else
          call iw_eqPart_2 [tA8 x0, tA8 x1, tI (wi64 (x2 + 1))]
      else none
    else none
  else
    some [tI 0]
theorem ew_eqPart_2 (call : Oracle) (x0 : List Int) (x1 : List Int) (x2 : Int) : run1 E call iw_eqPart_2 [tA8 x0, tA8 x1, tI x2] = bw_eqPart_2 call x0 x1 x2 := by kernel_rfl
theorem vw_eqPart_2 (x0 : List Int) (x1 : List Int) (x2 : Int) {o : List TV} (h : bw_eqPart_2 R x0 x1 x2 = some o) : R iw_eqPart_2 [tA8 x0, tA8 x1, tI x2] = some o := ev_step ((ew_eqPart_2 R x0 x1 x2).trans h)
/-- laws.eqPart -/
noncomputable def bw_eqPart (call : Oracle) (a0 : List Int) (a1 : List Int) : Option (List TV) :=
  (call iw_eqPart_2 [tA8 a0, tA8 a1, tI 0]).bind fun o1 =>
  bif ((gI o1 0) == 0) then
    some [tB true]
  else
    some [tB (gB o1 1)]
theorem ew_eqPart (call : Oracle) (a0 : List Int) (a1 : List Int) : run1 E call iw_eqPart [tA8 a0, tA8 a1] = bw_eqPart call a0 a1 := by kernel_rfl
theorem vw_eqPart (a0 : List Int) (a1 : List Int) {o : List TV} (h : bw_eqPart R a0 a1 = some o) : R iw_eqPart [tA8 a0, tA8 a1] = some o := ev_step ((ew_eqPart R a0 a1).trans h)
/-- laws.eqPartS loop 4 -/
noncomputable def bw_eqPartS_4 (call : Oracle) (x0 : List (List Int)) (x1 : List (List Int)) (x2 : Int) : Option (List TV) :=
  bif decide (x2 < ((List.length x0 : Nat) : Int)) then
    bif (decide (0 ≤ x2) && decide (x2 < ((List.length x0 : Nat) : Int))) then
      bif (decide (0 ≤ x2) && decide (x2 < ((List.length x1 : Nat) : Int))) then
        (call iw_eqPart [tA8 (List.getD x0 (Int.toNat x2) (List.replicate 8 0)), tA8 (List.getD x1 (Int.toNat x2) (List.replicate 8 0))]).bind fun o2 =>
        bif (!(gB o2 0)) then
          some [tI 1, tB false]
        else
          call iw_eqPartS_4 [tLA8 x0, tLA8 x1, tI (wi64 (x2 + 1))]
      else none
    else none
  else
    some [tI 0]
theorem ew_eqPartS_4 (call : Oracle) (x0 : List (List Int)) (x1 : List (List Int)) (x2 : Int) : run1 E call iw_eqPartS_4 [tLA8 x0, tLA8 x1, tI x2] = bw_eqPartS_4 call x0 x1 x2 := by kernel_rfl
theorem vw_eqPartS_4 (x0 : List (List Int)) (x1 : List (List Int)) (x2 : Int) {o : List TV} (h : bw_eqPartS_4 R x0 x1 x2 = some o) : R iw_eqPartS_4 [tLA8 x0, tLA8 x1, tI x2] = some o := ev_step ((ew_eqPartS_4 R x0 x1 x2).trans h)
/-- laws.eqPartS -/
noncomputable def bw_eqPartS (call : Oracle) (a0 : List (List Int)) (a1 : List (List Int)) : Option (List TV) :=
  bif (((List.length a0 : Nat) : Int) != ((List.length a1 : Nat) : Int)) then
    some [tB false]
  else
    (call iw_eqPartS_4 [tLA8 a0, tLA8 a1, tI 0]).bind fun o3 =>
    bif ((gI o3 0) == 0) then
      some [tB true]
    else
      some [tB (gB o3 1)]
theorem ew_eqPartS (call : Oracle) (a0 : List (List Int)) (a1 : List (List Int)) : run1 E call iw_eqPartS [tLA8 a0, tLA8 a1] = bw_eqPartS call a0 a1 := by kernel_rfl
theorem vw_eqPartS (a0 : List (List Int)) (a1 : List (List Int)) {o : List TV} (h : bw_eqPartS R a0 a1 = some o) : R iw_eqPartS [tLA8 a0, tLA8 a1] = some o := ev_step ((ew_eqPartS R a0 a1).trans h)
/-- laws.markPartS loop 2 -/
noncomputable def bw_markPartS_2 (call : Oracle) (x0 : List (List Int)) (x1 : Int) (x2 : Int) : Option (List TV) :=
  bif decide (x2 < ((List.length x0 : Nat) : Int)) then
    (call iw_markPartS_5 [tLA8 x0, tI x1, tI x2, tI 0]).bind fun o2 =>
    call iw_markPartS_2 [tLA8 (gLA8 o2 1), tI (gI o2 2), tI (wi64 ((gI o2 3) + 1))]
  else
    some [tI 0, tLA8 x0, tI x1]
theorem ew_markPartS_2 (call : Oracle) (x0 : List (List Int)) (x1 : Int) (x2 : Int) : run1 E call iw_markPartS_2 [tLA8 x0, tI x1, tI x2] = bw_markPartS_2 call x0 x1 x2 := by kernel_rfl
theorem vw_markPartS_2 (x0 : List (List Int)) (x1 : Int) (x2 : Int) {o : List TV} (h : bw_markPartS_2 R x0 x1 x2 = some o) : R iw_markPartS_2 [tLA8 x0, tI x1, tI x2] = some o := ev_step ((ew_markPartS_2 R x0 x1 x2).trans h)
/-- laws.markPartS loop 5 -/
noncomputable def bw_markPartS_5 (call : Oracle) (x0 : List (List Int)) (x1 : Int) (x2 : Int) (x3 : Int) : Option (List TV) :=
  bif decide (x3 < 8) then
    bif (decide (0 ≤ x2) && decide (x2 < ((List.length x0 : Nat) : Int))) then
      bif (decide (0 ≤ x3) && decide (x3 < 8)) then
        call iw_markPartS_5 [tLA8 (List.set x0 (Int.toNat x2) (List.set (List.getD x0 (Int.toNat x2) []) (Int.toNat x3) (wu8 (x1)))), tI (wi64 (x1 + 1)), tI x2, tI (wi64 (x3 + 1))]
      else none
    else none
  else
    some [tI 0, tLA8 x0, tI x1, tI x2]
theorem ew_markPartS_5 (call : Oracle) (x0 : List (List Int)) (x1 : Int) (x2 : Int) (x3 : Int) : run1 E call iw_markPartS_5 [tLA8 x0, tI x1, tI x2, tI x3] = bw_markPartS_5 call x0 x1 x2 x3 := by kernel_rfl
theorem vw_markPartS_5 (x0 : List (List Int)) (x1 : Int) (x2 : Int) (x3 : Int) {o : List TV} (h : bw_markPartS_5 R x0 x1 x2 x3 = some o) : R iw_markPartS_5 [tLA8 x0, tI x1, tI x2, tI x3] = some o := ev_step ((ew_markPartS_5 R x0 x1 x2 x3).trans h)
/-- laws.markPartS -/
noncomputable def bw_markPartS (call : Oracle) (a0 : List (List Int)) (a1 : Int) : Option (List TV) :=
  (call iw_markPartS_2 [tLA8 a0, tI a1, tI 0]).bind fun o3 =>
  some [tI (gI o3 2), tLA8 (gLA8 o3 1)]
theorem ew_markPartS (call : Oracle) (a0 : List (List Int)) (a1 : Int) : run1 E call iw_markPartS [tLA8 a0, tI a1] = bw_markPartS call a0 a1 := by kernel_rfl
theorem vw_markPartS (a0 : List (List Int)) (a1 : Int) {o : List TV} (h : bw_markPartS R a0 a1 = some o) : R iw_markPartS [tLA8 a0, tI a1] = some o := ev_step ((ew_markPartS R a0 a1).trans h)
/-- laws.heldPartS loop 2 -/
noncomputable def bw_heldPartS_2 (call : Oracle) (x0 : List (List Int)) (x1 : Int) (x2 : Int) : Option (List TV) :=
  bif decide (x2 < ((List.length x0 : Nat) : Int)) then
    (call iw_heldPartS_5 [tLA8 x0, tI x1, tI x2, tI 0]).bind fun o2 =>
    bif ((gI o2 0) == 0) then
      call iw_heldPartS_2 [tLA8 (gLA8 o2 1), tI (gI o2 2), tI (wi64 ((gI o2 3) + 1))]
    else
      some [tI 1, tI (gI o2 1)]
  else
    some [tI 0, tI x1]
theorem ew_heldPartS_2 (call : Oracle) (x0 : List (List Int)) (x1 : Int) (x2 : Int) : run1 E call iw_heldPartS_2 [tLA8 x0, tI x1, tI x2] = bw_heldPartS_2 call x0 x1 x2 := by kernel_rfl
theorem vw_heldPartS_2 (x0 : List (List Int)) (x1 : Int) (x2 : Int) {o : List TV} (h : bw_heldPartS_2 R x0 x1 x2 = some o) : R iw_heldPartS_2 [tLA8 x0, tI x1, tI x2] = some o := ev_step ((ew_heldPartS_2 R x0 x1 x2).trans h)
/-- laws.heldPartS loop 5 -/
noncomputable def bw_heldPartS_5 (call : Oracle) (x0 : List (List Int)) (x1 : Int) (x2 : Int) (x3 : Int) : Option (List TV) :=
  bif decide (x3 < 8) then
    bif (decide (0 ≤ x2) && decide (x2 < ((List.length x0 : Nat) : Int))) then
      bif (decide (0 ≤ x3) && decide (x3 < 8)) then
        bif ((List.getD (List.getD x0 (Int.toNat x2) []) (Int.toNat x3) 0) != (wu8 (x1))) then
          some [tI 1, tI (-1)]
        else
          call iw_heldPartS_5 [tLA8 x0, tI (wi64 (x1 + 1)), tI x2, tI (wi64 (x3 + 1))]
      else none
    else none
  else
    some [tI 0, tLA8 x0, tI x1, tI x2]
theorem ew_heldPartS_5 (call : Oracle) (x0 : List (List Int)) (x1 : Int) (x2 : Int) (x3 : Int) : run1 E call iw_heldPartS_5 [tLA8 x0, tI x1, tI x2, tI x3] = bw_heldPartS_5 call x0 x1 x2 x3 := by kernel_rfl
theorem vw_heldPartS_5 (x0 : List (List Int)) (x1 : Int) (x2 : Int) (x3 : Int) {o : List TV} (h : bw_heldPartS_5 R x0 x1 x2 x3 = some o) : R iw_heldPartS_5 [tLA8 x0, tI x1, tI x2, tI x3] = some o := ev_step ((ew_heldPartS_5 R x0 x1 x2 x3).trans h)
/-- laws.heldPartS -/
noncomputable def bw_heldPartS (call : Oracle) (a0 : List (List Int)) (a1 : Int) : Option (List TV) :=
  (call iw_heldPartS_2 [tLA8 a0, tI a1, tI 0]).bind fun o3 =>
  bif ((gI o3 0) == 0) then
    some [tI (gI o3 1)]
  else
    some [tI (gI o3 1)]
theorem ew_heldPartS (call : Oracle) (a0 : List (List Int)) (a1 : Int) : run1 E call iw_heldPartS [tLA8 a0, tI a1] = bw_heldPartS call a0 a1 := by kernel_rfl
theorem vw_heldPartS (a0 : List (List Int)) (a1 : Int) {o : List TV} (h : bw_heldPartS R a0 a1 = some o) : R iw_heldPartS [tLA8 a0, tI a1] = some o := ev_step ((ew_heldPartS R a0 a1).trans h)
/-- laws.FnExactAllParts -/
noncomputable def bw_FnExactAllParts (call : Oracle) (a0 : Int) : Option (List TV) :=
  (call is_AllParts [tI a0]).bind fun o1 =>
  (call ii_AllParts [tI a0]).bind fun o2 =>
  (call iw_eqPartS [tLA8 (gLA8 o2 0), tLA8 (gLA8 o1 0)]).bind fun o3 =>
  bif (!(gB o3 0)) then
    some [tB false]
  else
    bif ((gI o2 1) != (gI o1 1)) then
      some [tB false]
    else
      (call iw_markPartS [tLA8 (gLA8 o2 0), tI 1]).bind fun o4 =>
      (call iw_heldPartS [tLA8 (gLA8 o4 1), tI 1]).bind fun o5 =>
      bif decide ((gI o5 0) < 0) then
        some [tB false]
      else
        bif ((gI o5 0) != (gI o4 0)) then
          some [tB false]
        else
          (call ii_AllParts [tI a0]).bind fun o6 =>
          (call iw_eqPartS [tLA8 (gLA8 o6 0), tLA8 (gLA8 o1 0)]).bind fun o7 =>
          bif (!(gB o7 0)) then
            some [tB false]
          else
            bif ((gI o6 1) != (gI o1 1)) then
              some [tB false]
            else
              (call iw_heldPartS [tLA8 (gLA8 o4 1), tI 1]).bind fun o8 =>
              bif decide ((gI o8 0) < 0) then
                some [tB false]
              else
                bif ((gI o8 0) != (gI o4 0)) then
                  some [tB false]
                else
                  some [tB true]
theorem ew_FnExactAllParts (call : Oracle) (a0 : Int) : run1 E call iw_FnExactAllParts [tI a0] = bw_FnExactAllParts call a0 := by kernel_rfl
theorem vw_FnExactAllParts (a0 : Int) {o : List TV} (h : bw_FnExactAllParts R a0 = some o) : R iw_FnExactAllParts [tI a0] = some o := ev_step ((ew_FnExactAllParts R a0).trans h)
end Go.Ev.Ytadjhggdddbicaa
