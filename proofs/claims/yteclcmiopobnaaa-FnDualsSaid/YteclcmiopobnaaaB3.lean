/- Bodies, part 3. -/
import Derived.KernelRfl
import Derived.Test.YteclcmiopobnaaaEnv
set_option linter.unusedVariables false
namespace Go.Ev.Yteclcmiopobnaaa
open Go.Ev
noncomputable section
def bs_l07Draw_8 (call : Oracle) (x0 x1 : Int) (x2 x3 : List Int) (x4 x5 : List Int) (x6 x7 : Int) (x8 x9 x10 : Int) : Option (List TV) :=
  bif decide (x10 < x6) then
    bif (decide (0 ≤ x10) && decide (x10 < 8)) then
      bif (decide (0 ≤ x8) && decide (x8 < 8)) then
        bif (decide (0 ≤ x9) && decide (x9 < 8)) then
          bif ((List.getD x5 (Int.toNat x10) 0) == (mx (List.getD x4 (Int.toNat x8) 0) (List.getD x4 (Int.toNat x9) 0))) then
            bif (decide (0 ≤ x8) && decide (x8 < 8)) then
              bif (decide (0 ≤ x9) && decide (x9 < 8)) then
                bif (decide (0 ≤ x10) && decide (x10 < 8)) then
                  call is_l07Draw_8 [tI x0, tU64 x1, tLU8 x2, tA8 x3, tAi8 x4, tAi8 (List.set x5 (Int.toNat x10) (mn (List.getD x4 (Int.toNat x8) 0) (List.getD x4 (Int.toNat x9) 0))), tI x6, tI x7, tI x8, tI x9, tI (wi64 (x10 + 1))]
                else none
              else none
            else none
          else
            call is_l07Draw_8 [tI x0, tU64 x1, tLU8 x2, tA8 x3, tAi8 x4, tAi8 x5, tI x6, tI x7, tI x8, tI x9, tI (wi64 (x10 + 1))]
        else none
      else none
    else none
  else
    some [tI 0, tI x0, tU64 x1, tLU8 x2, tA8 x3, tAi8 x4, tAi8 x5, tI x6, tI x7]
theorem es_l07Draw_8 (call : Oracle) (x0 x1 : Int) (x2 x3 : List Int) (x4 x5 : List Int) (x6 x7 : Int) (x8 x9 x10 : Int) : run1 E call is_l07Draw_8 [tI x0, tU64 x1, tLU8 x2, tA8 x3, tAi8 x4, tAi8 x5, tI x6, tI x7, tI x8, tI x9, tI x10] = bs_l07Draw_8 call x0 x1 x2 x3 x4 x5 x6 x7 x8 x9 x10 := by kernel_rfl
theorem vs_l07Draw_8 (x0 x1 : Int) (x2 x3 : List Int) (x4 x5 : List Int) (x6 x7 : Int) (x8 x9 x10 : Int) {o : List TV} (h : bs_l07Draw_8 R x0 x1 x2 x3 x4 x5 x6 x7 x8 x9 x10 = some o) : R is_l07Draw_8 [tI x0, tU64 x1, tLU8 x2, tA8 x3, tAi8 x4, tAi8 x5, tI x6, tI x7, tI x8, tI x9, tI x10] = some o := ev_step ((es_l07Draw_8 R x0 x1 x2 x3 x4 x5 x6 x7 x8 x9 x10).trans h)
def bs_l07Draw (call : Oracle) (a0 : List Int × Int × Int) (a1 : Int) : Option (List TV) :=
  (call is_l01Next [tPLU8PIU64 (a0.1, (a0.2.1, a0.2.2)), tI 8]).bind fun o1 =>
  (call is_l07Draw_3 [tI (((gPLU8PIU64 o1 1).2).1), tU64 (((gPLU8PIU64 o1 1).2).2), tLU8 ((gPLU8PIU64 o1 1).1), tA8 (List.replicate 8 0), tAi8 [0, 1, 2, 3, 4, 5, 6, 7], tI a1, tI (gI o1 0)]).bind fun o10 =>
  (call is_l07Made [tAi8 (gAi8 o10 5), tI (gI o10 6)]).bind fun o11 =>
  some [tA8 (gA8 o11 0), tPLU8PIU64 ((gLU8 o10 3), ((gI o10 1), (gU64 o10 2)))]
theorem es_l07Draw (call : Oracle) (a0 : List Int × Int × Int) (a1 : Int) : run1 E call is_l07Draw [tPLU8PIU64 a0, tI a1] = bs_l07Draw call a0 a1 := by kernel_rfl
theorem vs_l07Draw (a0 : List Int × Int × Int) (a1 : Int) {o : List TV} (h : bs_l07Draw R a0 a1 = some o) : R is_l07Draw [tPLU8PIU64 a0, tI a1] = some o := ev_step ((es_l07Draw R a0 a1).trans h)
def bs_l07DrawDual (call : Oracle) (a0 : List Int × Int × Int) : Option (List TV) :=
  (call is_l01DrawBraid [tPLU8PIU64 (a0.1, (a0.2.1, a0.2.2))]).bind fun o1 =>
  (call is_l07Form [tI ((gPILI o1 0).1), tLI ((gPILI o1 0).2)]).bind fun o2 =>
  (call is_l01Next [tPLU8PIU64 ((gPLU8PIU64 o1 1).1, (((gPLU8PIU64 o1 1).2).1, ((gPLU8PIU64 o1 1).2).2)), tI 20]).bind fun o3 =>
  bif ((gI o3 0) == 0) then
    bif (apOk [] (((gPIPILA8 o2 0).2).2)) then
      (call is_l07Draw [tPLU8PIU64 ((gPLU8PIU64 o3 1).1, (((gPLU8PIU64 o3 1).2).1, ((gPLU8PIU64 o3 1).2).2)), tI ((gPIPILA8 o2 0).1)]).bind fun o4 =>
      bif (apOk (((gPIPILA8 o2 0).2).2) [(gA8 o4 0)]) then
        some [tPIPILA8 ((gPIPILA8 o2 0).1, (((gPIPILA8 o2 0).2).1, (((gPIPILA8 o2 0).2).2 ++ [(gA8 o4 0)]))), tPLU8PIU64 ((gPLU8PIU64 o4 1).1, (((gPLU8PIU64 o4 1).2).1, ((gPLU8PIU64 o4 1).2).2))]
      else none
    else none
  else
    bif ((gI o3 0) == 1) then
      (call is_l01Pick [tPLU8PIU64 ((gPLU8PIU64 o3 1).1, (((gPLU8PIU64 o3 1).2).1, ((gPLU8PIU64 o3 1).2).2)), tLI [401, (-401), 60, (-60)]]).bind fun o5 =>
      some [tPIPILA8 ((gPIPILA8 o2 0).1, ((gI o5 0), ((gPIPILA8 o2 0).2).2)), tPLU8PIU64 ((gPLU8PIU64 o5 1).1, (((gPLU8PIU64 o5 1).2).1, ((gPLU8PIU64 o5 1).2).2))]
    else
      bif ((gI o3 0) == 2) then
        (call is_l01Pick [tPLU8PIU64 ((gPLU8PIU64 o3 1).1, (((gPLU8PIU64 o3 1).2).1, ((gPLU8PIU64 o3 1).2).2)), tLI [0, 9, (wi64 (((gPIPILA8 o2 0).1) + 1))]]).bind fun o6 =>
        some [tPIPILA8 ((gI o6 0), (((gPIPILA8 o2 0).2).1, ((gPIPILA8 o2 0).2).2)), tPLU8PIU64 ((gPLU8PIU64 o6 1).1, (((gPLU8PIU64 o6 1).2).1, ((gPLU8PIU64 o6 1).2).2))]
      else
        some [tPIPILA8 ((gPIPILA8 o2 0).1, (((gPIPILA8 o2 0).2).1, ((gPIPILA8 o2 0).2).2)), tPLU8PIU64 ((gPLU8PIU64 o3 1).1, (((gPLU8PIU64 o3 1).2).1, ((gPLU8PIU64 o3 1).2).2))]
theorem es_l07DrawDual (call : Oracle) (a0 : List Int × Int × Int) : run1 E call is_l07DrawDual [tPLU8PIU64 a0] = bs_l07DrawDual call a0 := by kernel_rfl
theorem vs_l07DrawDual (a0 : List Int × Int × Int) {o : List TV} (h : bs_l07DrawDual R a0 = some o) : R is_l07DrawDual [tPLU8PIU64 a0] = some o := ev_step ((es_l07DrawDual R a0).trans h)
def bs_DrawWordOfDual (call : Oracle) (a0 : List Int) : Option (List TV) :=
  (call is_l01From [tLU8 a0]).bind fun o1 =>
  (call is_l07DrawDual [tPLU8PIU64 ((gPLU8PIU64 o1 0).1, (((gPLU8PIU64 o1 0).2).1, ((gPLU8PIU64 o1 0).2).2))]).bind fun o2 =>
  some [tPIPILA8 ((gPIPILA8 o2 0).1, (((gPIPILA8 o2 0).2).1, ((gPIPILA8 o2 0).2).2))]
theorem es_DrawWordOfDual (call : Oracle) (a0 : List Int) : run1 E call is_DrawWordOfDual [tLU8 a0] = bs_DrawWordOfDual call a0 := by kernel_rfl
theorem vs_DrawWordOfDual (a0 : List Int) {o : List TV} (h : bs_DrawWordOfDual R a0 = some o) : R is_DrawWordOfDual [tLU8 a0] = some o := ev_step ((es_DrawWordOfDual R a0).trans h)
def bs_l07Is (call : Oracle) (a0 : List Int) (a1 : Int) : Option (List TV) :=
  (call is_l01In [tI a1, tI 1, tI 8]).bind fun o1 =>
  bif (!(gB o1 0)) then
    some [tB false]
  else
    (call is_l07Least [tA8 a0, tI a1]).bind fun o2 =>
    bif (gB o2 1) then
      (call is_l07Made [tAi8 (gAi8 o2 0), tI a1]).bind fun o3 =>
      bif ((gA8 o3 0) == a0) then
        (call is_l07Crossing [tAi8 (gAi8 o2 0), tI a1]).bind fun o4 =>
        some [tB (!(gB o4 0))]
      else
        some [tB false]
    else
      some [tB false]
theorem es_l07Is (call : Oracle) (a0 : List Int) (a1 : Int) : run1 E call is_l07Is [tA8 a0, tI a1] = bs_l07Is call a0 a1 := by kernel_rfl
theorem vs_l07Is (a0 : List Int) (a1 : Int) {o : List TV} (h : bs_l07Is R a0 a1 = some o) : R is_l07Is [tA8 a0, tI a1] = some o := ev_step ((es_l07Is R a0 a1).trans h)
def bs_l07Dual_5 (call : Oracle) (x0 x1 : Int) (x2 : List (List Int)) (x3 x4 : Int) : Option (List TV) :=
  bif decide (x4 < ((List.length x2 : Nat) : Int)) then
    bif (decide (0 ≤ x4) && decide (x4 < ((List.length x2 : Nat) : Int))) then
      (call is_l07Is [tA8 (List.getD x2 (Int.toNat x4) (List.replicate 8 0)), tI x3]).bind fun o9 =>
      bif (!(gB o9 0)) then
        some [tI 1, tB false]
      else
        (call is_l07Fine [tI x3]).bind fun o10 =>
        bif ((List.getD x2 (Int.toNat x4) (List.replicate 8 0)) == (gA8 o10 0)) then
          some [tI 1, tB false]
        else
          (call is_l07Whole [tI x3]).bind fun o11 =>
          bif ((List.getD x2 (Int.toNat x4) (List.replicate 8 0)) == (gA8 o11 0)) then
            some [tI 1, tB false]
          else
            bif decide (0 < x4) then
              bif (decide (0 ≤ (wi64 (x4 - 1))) && decide ((wi64 (x4 - 1)) < ((List.length x2 : Nat) : Int))) then
                (call is_l07Complement [tA8 (List.getD x2 (Int.toNat (wi64 (x4 - 1))) (List.replicate 8 0)), tI x3]).bind fun o12 =>
                (call is_l07Meet [tA8 (gA8 o12 0), tA8 (List.getD x2 (Int.toNat x4) (List.replicate 8 0)), tI x3]).bind fun o13 =>
                (call is_l07Fine [tI x3]).bind fun o14 =>
                bif ((gA8 o13 0) != (gA8 o14 0)) then
                  some [tI 1, tB false]
                else
                  call is_l07Dual_5 [tI x0, tI x1, tLA8 x2, tI x3, tI (wi64 (x4 + 1))]
              else none
            else
              call is_l07Dual_5 [tI x0, tI x1, tLA8 x2, tI x3, tI (wi64 (x4 + 1))]
    else none
  else
    some [tI 0]
theorem es_l07Dual_5 (call : Oracle) (x0 x1 : Int) (x2 : List (List Int)) (x3 x4 : Int) : run1 E call is_l07Dual_5 [tI x0, tI x1, tLA8 x2, tI x3, tI x4] = bs_l07Dual_5 call x0 x1 x2 x3 x4 := by kernel_rfl
theorem vs_l07Dual_5 (x0 x1 : Int) (x2 : List (List Int)) (x3 x4 : Int) {o : List TV} (h : bs_l07Dual_5 R x0 x1 x2 x3 x4 = some o) : R is_l07Dual_5 [tI x0, tI x1, tLA8 x2, tI x3, tI x4] = some o := ev_step ((es_l07Dual_5 R x0 x1 x2 x3 x4).trans h)
def bs_l07Dual (call : Oracle) (a0 : Int × Int × List (List Int)) : Option (List TV) :=
  (call is_l01In [tI a0.1, tI 1, tI 8]).bind fun o1 =>
  bif (!(gB o1 0)) then
    some [tB false]
  else
    (call is_l01In [tI a0.2.1, tI (-400), tI 400]).bind fun o2 =>
    bif (!(gB o2 0)) then
      some [tB false]
    else
      bif decide (400 < ((List.length a0.2.2 : Nat) : Int)) then
        some [tB false]
      else
        bif decide (a0.1 < 2) then
          bif (a0.2.1 != 0) then
            some [tB false]
          else
            (call is_l07Dual_5 [tI a0.1, tI a0.2.1, tLA8 a0.2.2, tI a0.1, tI 0]).bind fun o15 =>
            bif ((gI o15 0) == 0) then
              some [tB true]
            else
              some [tB (gB o15 1)]
        else
          (call is_l07Dual_5 [tI a0.1, tI a0.2.1, tLA8 a0.2.2, tI a0.1, tI 0]).bind fun o16 =>
          bif ((gI o16 0) == 0) then
            some [tB true]
          else
            some [tB (gB o16 1)]
theorem es_l07Dual (call : Oracle) (a0 : Int × Int × List (List Int)) : run1 E call is_l07Dual [tPIPILA8 a0] = bs_l07Dual call a0 := by kernel_rfl
theorem vs_l07Dual (a0 : Int × Int × List (List Int)) {o : List TV} (h : bs_l07Dual R a0 = some o) : R is_l07Dual [tPIPILA8 a0] = some o := ev_step ((es_l07Dual R a0).trans h)
def bs_l07Blocks_4 (call : Oracle) (x0 : List Int) (x1 : List (List Int)) (x2 x3 : Int) : Option (List TV) :=
  bif decide (x3 < x2) then
    bif (decide (0 ≤ x3) && decide (x3 < 8)) then
      bif ((List.getD x0 (Int.toNat x3) 0) != x3) then
        call is_l07Blocks_4 [tAi8 x0, tLLI x1, tI x2, tI (wi64 (x3 + 1))]
      else
        (call is_l07Blocks_9 [tAi8 x0, tLLI x1, tLI [], tI x2, tI x3, tI x3]).bind fun o3 =>
        bif (apOk (gLLI o3 2) [(gLI o3 3)]) then
          call is_l07Blocks_4 [tAi8 (gAi8 o3 1), tLLI ((gLLI o3 2) ++ [(gLI o3 3)]), tI (gI o3 4), tI (wi64 ((gI o3 5) + 1))]
        else none
    else none
  else
    some [tI 0, tLLI x1]
theorem es_l07Blocks_4 (call : Oracle) (x0 : List Int) (x1 : List (List Int)) (x2 x3 : Int) : run1 E call is_l07Blocks_4 [tAi8 x0, tLLI x1, tI x2, tI x3] = bs_l07Blocks_4 call x0 x1 x2 x3 := by kernel_rfl
theorem vs_l07Blocks_4 (x0 : List Int) (x1 : List (List Int)) (x2 x3 : Int) {o : List TV} (h : bs_l07Blocks_4 R x0 x1 x2 x3 = some o) : R is_l07Blocks_4 [tAi8 x0, tLLI x1, tI x2, tI x3] = some o := ev_step ((es_l07Blocks_4 R x0 x1 x2 x3).trans h)
def bs_l07Blocks_9 (call : Oracle) (x0 : List Int) (x1 : List (List Int)) (x2 : List Int) (x3 x4 x5 : Int) : Option (List TV) :=
  bif decide (x5 < x3) then
    bif (decide (0 ≤ x5) && decide (x5 < 8)) then
      bif ((List.getD x0 (Int.toNat x5) 0) == x4) then
        bif (apOk x2 [x5]) then
          call is_l07Blocks_9 [tAi8 x0, tLLI x1, tLI (x2 ++ [x5]), tI x3, tI x4, tI (wi64 (x5 + 1))]
        else none
      else
        call is_l07Blocks_9 [tAi8 x0, tLLI x1, tLI x2, tI x3, tI x4, tI (wi64 (x5 + 1))]
    else none
  else
    some [tI 0, tAi8 x0, tLLI x1, tLI x2, tI x3, tI x4]
theorem es_l07Blocks_9 (call : Oracle) (x0 : List Int) (x1 : List (List Int)) (x2 : List Int) (x3 x4 x5 : Int) : run1 E call is_l07Blocks_9 [tAi8 x0, tLLI x1, tLI x2, tI x3, tI x4, tI x5] = bs_l07Blocks_9 call x0 x1 x2 x3 x4 x5 := by kernel_rfl
theorem vs_l07Blocks_9 (x0 : List Int) (x1 : List (List Int)) (x2 : List Int) (x3 x4 x5 : Int) {o : List TV} (h : bs_l07Blocks_9 R x0 x1 x2 x3 x4 x5 = some o) : R is_l07Blocks_9 [tAi8 x0, tLLI x1, tLI x2, tI x3, tI x4, tI x5] = some o := ev_step ((es_l07Blocks_9 R x0 x1 x2 x3 x4 x5).trans h)
def bs_l07Blocks (call : Oracle) (a0 : List Int) (a1 : Int) : Option (List TV) :=
  (call is_l07Least [tA8 a0, tI a1]).bind fun o1 =>
  (call is_l07Blocks_4 [tAi8 (gAi8 o1 0), tLLI [], tI a1, tI 0]).bind fun o4 =>
  some [tLLI (gLLI o4 1)]
theorem es_l07Blocks (call : Oracle) (a0 : List Int) (a1 : Int) : run1 E call is_l07Blocks [tA8 a0, tI a1] = bs_l07Blocks call a0 a1 := by kernel_rfl
theorem vs_l07Blocks (a0 : List Int) (a1 : Int) {o : List TV} (h : bs_l07Blocks R a0 a1 = some o) : R is_l07Blocks [tA8 a0, tI a1] = some o := ev_step ((es_l07Blocks R a0 a1).trans h)
def bs_l07Band_3 (call : Oracle) (x0 : List Int) (x1 x2 x3 : Int) : Option (List TV) :=
  bif decide ((wi64 (x2 + 1)) < x3) then
    bif (apOk x0 [x3]) then
      call is_l07Band_3 [tLI (x0 ++ [x3]), tI x1, tI x2, tI (wi64 (x3 - 1))]
    else none
  else
    some [tI 0, tLI x0, tI x1, tI x2]
theorem es_l07Band_3 (call : Oracle) (x0 : List Int) (x1 x2 x3 : Int) : run1 E call is_l07Band_3 [tLI x0, tI x1, tI x2, tI x3] = bs_l07Band_3 call x0 x1 x2 x3 := by kernel_rfl
theorem vs_l07Band_3 (x0 : List Int) (x1 x2 x3 : Int) {o : List TV} (h : bs_l07Band_3 R x0 x1 x2 x3 = some o) : R is_l07Band_3 [tLI x0, tI x1, tI x2, tI x3] = some o := ev_step ((es_l07Band_3 R x0 x1 x2 x3).trans h)
def bs_l07Band_8 (call : Oracle) (x0 : List Int) (x1 x2 : Int) : Option (List TV) :=
  bif decide (x2 ≤ x1) then
    bif (apOk x0 [(wi64 (0 - x2))]) then
      call is_l07Band_8 [tLI (x0 ++ [(wi64 (0 - x2))]), tI x1, tI (wi64 (x2 + 1))]
    else none
  else
    some [tI 0, tLI x0]
theorem es_l07Band_8 (call : Oracle) (x0 : List Int) (x1 x2 : Int) : run1 E call is_l07Band_8 [tLI x0, tI x1, tI x2] = bs_l07Band_8 call x0 x1 x2 := by kernel_rfl
theorem vs_l07Band_8 (x0 : List Int) (x1 x2 : Int) {o : List TV} (h : bs_l07Band_8 R x0 x1 x2 = some o) : R is_l07Band_8 [tLI x0, tI x1, tI x2] = some o := ev_step ((es_l07Band_8 R x0 x1 x2).trans h)
def bs_l07Band (call : Oracle) (a0 a1 : Int) : Option (List TV) :=
  (call is_l07Band_3 [tLI [], tI a0, tI a1, tI a0]).bind fun o1 =>
  bif (apOk (gLI o1 1) [(wi64 ((gI o1 3) + 1))]) then
    (call is_l07Band_8 [tLI ((gLI o1 1) ++ [(wi64 ((gI o1 3) + 1))]), tI (gI o1 2), tI (wi64 ((gI o1 3) + 2))]).bind fun o2 =>
    some [tLI (gLI o2 1)]
  else none
theorem es_l07Band (call : Oracle) (a0 a1 : Int) : run1 E call is_l07Band [tI a0, tI a1] = bs_l07Band call a0 a1 := by kernel_rfl
theorem vs_l07Band (a0 a1 : Int) {o : List TV} (h : bs_l07Band R a0 a1 = some o) : R is_l07Band [tI a0, tI a1] = some o := ev_step ((es_l07Band R a0 a1).trans h)
def bs_l07Word_3 (call : Oracle) (x0 : List Int) (x1 : List (List Int)) (x2 : Int) : Option (List TV) :=
  bif decide (x2 < ((List.length x1 : Nat) : Int)) then
    bif (decide (0 ≤ x2) && decide (x2 < ((List.length x1 : Nat) : Int))) then
      (call is_l07Word_6 [tLI x0, tLLI x1, tI x2, tI (wi64 (((List.length (List.getD x1 (Int.toNat x2) []) : Nat) : Int) - 1))]).bind fun o5 =>
      call is_l07Word_3 [tLI (gLI o5 1), tLLI (gLLI o5 2), tI (wi64 ((gI o5 3) + 1))]
    else none
  else
    some [tI 0, tLI x0]
theorem es_l07Word_3 (call : Oracle) (x0 : List Int) (x1 : List (List Int)) (x2 : Int) : run1 E call is_l07Word_3 [tLI x0, tLLI x1, tI x2] = bs_l07Word_3 call x0 x1 x2 := by kernel_rfl
theorem vs_l07Word_3 (x0 : List Int) (x1 : List (List Int)) (x2 : Int) {o : List TV} (h : bs_l07Word_3 R x0 x1 x2 = some o) : R is_l07Word_3 [tLI x0, tLLI x1, tI x2] = some o := ev_step ((es_l07Word_3 R x0 x1 x2).trans h)
def bs_l07Word_6 (call : Oracle) (x0 : List Int) (x1 : List (List Int)) (x2 x3 : Int) : Option (List TV) :=
  bif decide (0 < x3) then
    bif (decide (0 ≤ x2) && decide (x2 < ((List.length x1 : Nat) : Int))) then
      bif (decide (0 ≤ x3) && decide (x3 < ((List.length (List.getD x1 (Int.toNat x2) []) : Nat) : Int))) then
        bif (decide (0 ≤ x2) && decide (x2 < ((List.length x1 : Nat) : Int))) then
          bif (decide (0 ≤ (wi64 (x3 - 1))) && decide ((wi64 (x3 - 1)) < ((List.length (List.getD x1 (Int.toNat x2) []) : Nat) : Int))) then
            (call is_l07Band [tI (List.getD (List.getD x1 (Int.toNat x2) []) (Int.toNat x3) 0), tI (List.getD (List.getD x1 (Int.toNat x2) []) (Int.toNat (wi64 (x3 - 1))) 0)]).bind fun o3 =>
            bif (apOk x0 (gLI o3 0)) then
              call is_l07Word_6 [tLI (x0 ++ (gLI o3 0)), tLLI x1, tI x2, tI (wi64 (x3 - 1))]
            else none
          else none
        else none
      else none
    else none
  else
    some [tI 0, tLI x0, tLLI x1, tI x2]
theorem es_l07Word_6 (call : Oracle) (x0 : List Int) (x1 : List (List Int)) (x2 x3 : Int) : run1 E call is_l07Word_6 [tLI x0, tLLI x1, tI x2, tI x3] = bs_l07Word_6 call x0 x1 x2 x3 := by kernel_rfl
theorem vs_l07Word_6 (x0 : List Int) (x1 : List (List Int)) (x2 x3 : Int) {o : List TV} (h : bs_l07Word_6 R x0 x1 x2 x3 = some o) : R is_l07Word_6 [tLI x0, tLLI x1, tI x2, tI x3] = some o := ev_step ((es_l07Word_6 R x0 x1 x2 x3).trans h)
def bs_l07Word (call : Oracle) (a0 : List Int) (a1 : Int) : Option (List TV) :=
  (call is_l07Blocks [tA8 a0, tI a1]).bind fun o1 =>
  (call is_l07Word_3 [tLI [], tLLI (gLLI o1 0), tI 0]).bind fun o6 =>
  some [tLI (gLI o6 1)]
theorem es_l07Word (call : Oracle) (a0 : List Int) (a1 : Int) : run1 E call is_l07Word [tA8 a0, tI a1] = bs_l07Word call a0 a1 := by kernel_rfl
theorem vs_l07Word (a0 : List Int) (a1 : Int) {o : List TV} (h : bs_l07Word R a0 a1 = some o) : R is_l07Word [tA8 a0, tI a1] = some o := ev_step ((es_l07Word R a0 a1).trans h)
def bs_WordOfDual_8 (call : Oracle) (x0 x1 : Int) (x2 : List (List Int)) (x3 : Int) (x4 x5 x6 : List Int) (x7 x8 : Int) : Option (List TV) :=
  bif decide (0 < x8) then
    bif (apOk x5 x6) then
      call is_WordOfDual_8 [tI x0, tI x1, tLA8 x2, tI x3, tLI x4, tLI (x5 ++ x6), tLI x6, tI x7, tI (wi64 (x8 - 1))]
    else none
  else
    some [tI 0, tI x0, tI x1, tLA8 x2, tI x3, tLI x4, tLI x5, tI x7]
theorem es_WordOfDual_8 (call : Oracle) (x0 x1 : Int) (x2 : List (List Int)) (x3 : Int) (x4 x5 x6 : List Int) (x7 x8 : Int) : run1 E call is_WordOfDual_8 [tI x0, tI x1, tLA8 x2, tI x3, tLI x4, tLI x5, tLI x6, tI x7, tI x8] = bs_WordOfDual_8 call x0 x1 x2 x3 x4 x5 x6 x7 x8 := by kernel_rfl
theorem vs_WordOfDual_8 (x0 x1 : Int) (x2 : List (List Int)) (x3 : Int) (x4 x5 x6 : List Int) (x7 x8 : Int) {o : List TV} (h : bs_WordOfDual_8 R x0 x1 x2 x3 x4 x5 x6 x7 x8 = some o) : R is_WordOfDual_8 [tI x0, tI x1, tLA8 x2, tI x3, tLI x4, tLI x5, tLI x6, tI x7, tI x8] = some o := ev_step ((es_WordOfDual_8 R x0 x1 x2 x3 x4 x5 x6 x7 x8).trans h)
def bs_WordOfDual_12 (call : Oracle) (x0 x1 : Int) (x2 : List (List Int)) (x3 : Int) (x4 x5 : List Int) (x6 x7 : Int) : Option (List TV) :=
  bif decide (x7 < ((List.length x2 : Nat) : Int)) then
    bif (decide (0 ≤ x7) && decide (x7 < ((List.length x2 : Nat) : Int))) then
      (call is_l07Word [tA8 (List.getD x2 (Int.toNat x7) (List.replicate 8 0)), tI x6]).bind fun o7 =>
      bif (apOk x5 (gLI o7 0)) then
        call is_WordOfDual_12 [tI x0, tI x1, tLA8 x2, tI x3, tLI x4, tLI (x5 ++ (gLI o7 0)), tI x6, tI (wi64 (x7 + 1))]
      else none
    else none
  else
    some [tI 0, tI x3, tLI x4, tLI x5, tI x6]
theorem es_WordOfDual_12 (call : Oracle) (x0 x1 : Int) (x2 : List (List Int)) (x3 : Int) (x4 x5 : List Int) (x6 x7 : Int) : run1 E call is_WordOfDual_12 [tI x0, tI x1, tLA8 x2, tI x3, tLI x4, tLI x5, tI x6, tI x7] = bs_WordOfDual_12 call x0 x1 x2 x3 x4 x5 x6 x7 := by kernel_rfl
theorem vs_WordOfDual_12 (x0 x1 : Int) (x2 : List (List Int)) (x3 : Int) (x4 x5 : List Int) (x6 x7 : Int) {o : List TV} (h : bs_WordOfDual_12 R x0 x1 x2 x3 x4 x5 x6 x7 = some o) : R is_WordOfDual_12 [tI x0, tI x1, tLA8 x2, tI x3, tLI x4, tLI x5, tI x6, tI x7] = some o := ev_step ((es_WordOfDual_12 R x0 x1 x2 x3 x4 x5 x6 x7).trans h)
def bs_WordOfDual (call : Oracle) (a0 : Int × Int × List (List Int)) : Option (List TV) :=
  (call is_l07Dual [tPIPILA8 (a0.1, (a0.2.1, a0.2.2))]).bind fun o1 =>
  bif (!(gB o1 0)) then
    some [tPILI (0, []), tI 1]
  else
    (call is_l07Whole [tI a0.1]).bind fun o2 =>
    (call is_l07Word [tA8 (gA8 o2 0), tI a0.1]).bind fun o3 =>
    bif decide (a0.2.1 < 0) then
      (call is_l01Inverse [tLI (gLI o3 0)]).bind fun o4 =>
      (call is_WordOfDual_8 [tI a0.1, tI a0.2.1, tLA8 a0.2.2, tI 0, tLI [], tLI [], tLI (gLI o4 0), tI a0.1, tI (mx a0.2.1 (wi64 (0 - a0.2.1)))]).bind fun o5 =>
      (call is_WordOfDual_12 [tI (gI o5 1), tI (gI o5 2), tLA8 (gLA8 o5 3), tI (gI o5 4), tLI (gLI o5 5), tLI (gLI o5 6), tI (gI o5 7), tI 0]).bind fun o8 =>
      bif decide (200 < ((List.length (gLI o8 3) : Nat) : Int)) then
        some [tPILI (0, []), tI 3]
      else
        some [tPILI ((gI o8 4), (gLI o8 3)), tI 0]
    else
      (call is_WordOfDual_8 [tI a0.1, tI a0.2.1, tLA8 a0.2.2, tI 0, tLI [], tLI [], tLI (gLI o3 0), tI a0.1, tI (mx a0.2.1 (wi64 (0 - a0.2.1)))]).bind fun o9 =>
      (call is_WordOfDual_12 [tI (gI o9 1), tI (gI o9 2), tLA8 (gLA8 o9 3), tI (gI o9 4), tLI (gLI o9 5), tLI (gLI o9 6), tI (gI o9 7), tI 0]).bind fun o10 =>
      bif decide (200 < ((List.length (gLI o10 3) : Nat) : Int)) then
        some [tPILI (0, []), tI 3]
      else
        some [tPILI ((gI o10 4), (gLI o10 3)), tI 0]
theorem es_WordOfDual (call : Oracle) (a0 : Int × Int × List (List Int)) : run1 E call is_WordOfDual [tPIPILA8 a0] = bs_WordOfDual call a0 := by kernel_rfl
theorem vs_WordOfDual (a0 : Int × Int × List (List Int)) {o : List TV} (h : bs_WordOfDual R a0 = some o) : R is_WordOfDual [tPIPILA8 a0] = some o := ev_step ((es_WordOfDual R a0).trans h)
def bw_likeInts_4 (call : Oracle) (x0 x1 : List Int) (x2 : Int) : Option (List TV) :=
  bif decide (x2 < ((List.length x0 : Nat) : Int)) then
    bif (decide (0 ≤ x2) && decide (x2 < ((List.length x0 : Nat) : Int))) then
      bif (decide (0 ≤ x2) && decide (x2 < ((List.length x1 : Nat) : Int))) then
        bif ((List.getD x0 (Int.toNat x2) 0) != (List.getD x1 (Int.toNat x2) 0)) then
          some [tI 1, tB false]
        else
          call iw_likeInts_4 [tLI x0, tLI x1, tI (wi64 (x2 + 1))]
      else none
    else none
  else
    some [tI 0]
theorem ew_likeInts_4 (call : Oracle) (x0 x1 : List Int) (x2 : Int) : run1 E call iw_likeInts_4 [tLI x0, tLI x1, tI x2] = bw_likeInts_4 call x0 x1 x2 := by kernel_rfl
theorem vw_likeInts_4 (x0 x1 : List Int) (x2 : Int) {o : List TV} (h : bw_likeInts_4 R x0 x1 x2 = some o) : R iw_likeInts_4 [tLI x0, tLI x1, tI x2] = some o := ev_step ((ew_likeInts_4 R x0 x1 x2).trans h)
def bw_likeInts (call : Oracle) (a0 a1 : List Int) : Option (List TV) :=
  bif (((List.length a0 : Nat) : Int) != ((List.length a1 : Nat) : Int)) then
    some [tB false]
  else
    (call iw_likeInts_4 [tLI a0, tLI a1, tI 0]).bind fun o1 =>
    bif ((gI o1 0) == 0) then
      some [tB true]
    else
      some [tB (gB o1 1)]
theorem ew_likeInts (call : Oracle) (a0 a1 : List Int) : run1 E call iw_likeInts [tLI a0, tLI a1] = bw_likeInts call a0 a1 := by kernel_rfl
theorem vw_likeInts (a0 a1 : List Int) {o : List TV} (h : bw_likeInts R a0 a1 = some o) : R iw_likeInts [tLI a0, tLI a1] = some o := ev_step ((ew_likeInts R a0 a1).trans h)
def bw_braid5 (call : Oracle) (a0 a1 : Int × List Int) : Option (List TV) :=
  bif (a0.1 == a1.1) then
    (call iw_likeInts [tLI a0.2, tLI a1.2]).bind fun o1 =>
    some [tB (gB o1 0)]
  else
    some [tB false]
theorem ew_braid5 (call : Oracle) (a0 a1 : Int × List Int) : run1 E call iw_braid5 [tPILI a0, tPILI a1] = bw_braid5 call a0 a1 := by kernel_rfl
theorem vw_braid5 (a0 a1 : Int × List Int) {o : List TV} (h : bw_braid5 R a0 a1 = some o) : R iw_braid5 [tPILI a0, tPILI a1] = some o := ev_step ((ew_braid5 R a0 a1).trans h)
def bs_IsDual (call : Oracle) (a0 : Int × Int × List (List Int)) : Option (List TV) :=
  (call is_l07Dual [tPIPILA8 (a0.1, (a0.2.1, a0.2.2))]).bind fun o1 =>
  some [tB (gB o1 0)]
theorem es_IsDual (call : Oracle) (a0 : Int × Int × List (List Int)) : run1 E call is_IsDual [tPIPILA8 a0] = bs_IsDual call a0 := by kernel_rfl
theorem vs_IsDual (a0 : Int × Int × List (List Int)) {o : List TV} (h : bs_IsDual R a0 = some o) : R is_IsDual [tPIPILA8 a0] = some o := ev_step ((es_IsDual R a0).trans h)
def bw_FnDuals_j17 (call : Oracle) (x0 : List Int) : Option (List TV) :=
  (call is_DrawEqualByBands [tLU8 x0]).bind fun o29 =>
  (call ii_EqualByBands [tPILI ((gPILI o29 0).1, (gPILI o29 0).2), tPILI ((gPILI o29 1).1, (gPILI o29 1).2)]).bind fun o30 =>
  (call is_EqualByBands [tPILI ((gPILI o29 0).1, (gPILI o29 0).2), tPILI ((gPILI o29 1).1, (gPILI o29 1).2)]).bind fun o31 =>
  bif ((gI o30 1) != (gI o31 1)) then
    some [tI 0, tB false]
  else
    bif ((gB o30 0) != (gB o31 0)) then
      some [tI 0, tB false]
    else
      bif ((gI o30 1) == 0) then
        (call ii_SameBraid [tPILI ((gPILI o29 0).1, (gPILI o29 0).2), tPILI ((gPILI o29 1).1, (gPILI o29 1).2)]).bind fun o32 =>
        bif ((gI o32 1) != 0) then
          some [tI 0, tB false]
        else
          bif ((gB o32 0) != (gB o30 0)) then
            some [tI 0, tB false]
          else
            (call iw_FnDuals_j26 [tLU8 x0]).bind fun o33 =>
            some [tI 0, tB (gB o33 1)]
      else
        (call iw_FnDuals_j26 [tLU8 x0]).bind fun o34 =>
        some [tI 0, tB (gB o34 1)]
theorem ew_FnDuals_j17 (call : Oracle) (x0 : List Int) : run1 E call iw_FnDuals_j17 [tLU8 x0] = bw_FnDuals_j17 call x0 := by kernel_rfl
theorem vw_FnDuals_j17 (x0 : List Int) {o : List TV} (h : bw_FnDuals_j17 R x0 = some o) : R iw_FnDuals_j17 [tLU8 x0] = some o := ev_step ((ew_FnDuals_j17 R x0).trans h)
def bw_FnDuals_j26 (call : Oracle) (x0 : List Int) : Option (List TV) :=
  (call is_DrawWordOfDual [tLU8 x0]).bind fun o21 =>
  (call ii_WordOfDual [tPIPILA8 ((gPIPILA8 o21 0).1, (((gPIPILA8 o21 0).2).1, ((gPIPILA8 o21 0).2).2))]).bind fun o22 =>
  (call is_WordOfDual [tPIPILA8 ((gPIPILA8 o21 0).1, (((gPIPILA8 o21 0).2).1, ((gPIPILA8 o21 0).2).2))]).bind fun o23 =>
  bif ((gI o22 1) == (gI o23 1)) then
    (call iw_braid5 [tPILI ((gPILI o22 0).1, (gPILI o22 0).2), tPILI ((gPILI o23 0).1, (gPILI o23 0).2)]).bind fun o24 =>
    bif (gB o24 0) then
      (call ii_IsDual [tPIPILA8 ((gPIPILA8 o21 0).1, (((gPIPILA8 o21 0).2).1, ((gPIPILA8 o21 0).2).2))]).bind fun o25 =>
      (call is_IsDual [tPIPILA8 ((gPIPILA8 o21 0).1, (((gPIPILA8 o21 0).2).1, ((gPIPILA8 o21 0).2).2))]).bind fun o26 =>
      some [tI 0, tB ((gB o25 0) == (gB o26 0))]
    else
      some [tI 0, tB false]
  else
    some [tI 0, tB false]
theorem ew_FnDuals_j26 (call : Oracle) (x0 : List Int) : run1 E call iw_FnDuals_j26 [tLU8 x0] = bw_FnDuals_j26 call x0 := by kernel_rfl
theorem vw_FnDuals_j26 (x0 : List Int) {o : List TV} (h : bw_FnDuals_j26 R x0 = some o) : R iw_FnDuals_j26 [tLU8 x0] = some o := ev_step ((ew_FnDuals_j26 R x0).trans h)
def bw_FnDuals (call : Oracle) (a0 : List Int) : Option (List TV) :=
  (call iw_big [tLU8 a0]).bind fun o1 =>
  bif (gB o1 0) then
    some [tB true]
  else
    (call is_DrawDualForm [tLU8 a0]).bind fun o2 =>
    (call ii_DualForm [tPILI ((gPILI o2 0).1, (gPILI o2 0).2)]).bind fun o3 =>
    (call is_DualForm [tPILI ((gPILI o2 0).1, (gPILI o2 0).2)]).bind fun o4 =>
    bif ((gI o3 1) != (gI o4 1)) then
      some [tB false]
    else
      (call iw_dual5 [tPIPILA8 ((gPIPILA8 o3 0).1, (((gPIPILA8 o3 0).2).1, ((gPIPILA8 o3 0).2).2)), tPIPILA8 ((gPIPILA8 o4 0).1, (((gPIPILA8 o4 0).2).1, ((gPIPILA8 o4 0).2).2))]).bind fun o5 =>
      bif (!(gB o5 0)) then
        some [tB false]
      else
        bif ((gI o3 1) == 0) then
          (call ii_WordOfDual [tPIPILA8 ((gPIPILA8 o3 0).1, (((gPIPILA8 o3 0).2).1, ((gPIPILA8 o3 0).2).2))]).bind fun o6 =>
          (call ii_IsDual [tPIPILA8 ((gPIPILA8 o3 0).1, (((gPIPILA8 o3 0).2).1, ((gPIPILA8 o3 0).2).2))]).bind fun o7 =>
          bif (!(gB o7 0)) then
            some [tB false]
          else
            bif ((gI o6 1) != 0) then
              bif ((gI o6 1) != 3) then
                some [tB false]
              else
                bif ((gI o6 1) == 0) then
                  (call ii_DualForm [tPILI ((gPILI o6 0).1, (gPILI o6 0).2)]).bind fun o8 =>
                  (call ii_SameBraid [tPILI ((gPILI o2 0).1, (gPILI o2 0).2), tPILI ((gPILI o6 0).1, (gPILI o6 0).2)]).bind fun o9 =>
                  bif ((gI o8 1) != 0) then
                    some [tB false]
                  else
                    bif ((gI o9 1) != 0) then
                      some [tB false]
                    else
                      (call iw_dual5 [tPIPILA8 ((gPIPILA8 o8 0).1, (((gPIPILA8 o8 0).2).1, ((gPIPILA8 o8 0).2).2)), tPIPILA8 ((gPIPILA8 o3 0).1, (((gPIPILA8 o3 0).2).1, ((gPIPILA8 o3 0).2).2))]).bind fun o10 =>
                      bif (!(gB o10 0)) then
                        some [tB false]
                      else
                        bif (!(gB o9 0)) then
                          some [tB false]
                        else
                          (call iw_FnDuals_j17 [tLU8 a0]).bind fun o35 =>
                          some [tB (gB o35 1)]
                else
                  (call iw_FnDuals_j17 [tLU8 a0]).bind fun o36 =>
                  some [tB (gB o36 1)]
            else
              bif ((gI o6 1) == 0) then
                (call ii_DualForm [tPILI ((gPILI o6 0).1, (gPILI o6 0).2)]).bind fun o37 =>
                (call ii_SameBraid [tPILI ((gPILI o2 0).1, (gPILI o2 0).2), tPILI ((gPILI o6 0).1, (gPILI o6 0).2)]).bind fun o38 =>
                bif ((gI o37 1) != 0) then
                  some [tB false]
                else
                  bif ((gI o38 1) != 0) then
                    some [tB false]
                  else
                    (call iw_dual5 [tPIPILA8 ((gPIPILA8 o37 0).1, (((gPIPILA8 o37 0).2).1, ((gPIPILA8 o37 0).2).2)), tPIPILA8 ((gPIPILA8 o3 0).1, (((gPIPILA8 o3 0).2).1, ((gPIPILA8 o3 0).2).2))]).bind fun o39 =>
                    bif (!(gB o39 0)) then
                      some [tB false]
                    else
                      bif (!(gB o38 0)) then
                        some [tB false]
                      else
                        (call iw_FnDuals_j17 [tLU8 a0]).bind fun o40 =>
                        some [tB (gB o40 1)]
              else
                (call iw_FnDuals_j17 [tLU8 a0]).bind fun o41 =>
                some [tB (gB o41 1)]
        else
          (call iw_FnDuals_j17 [tLU8 a0]).bind fun o42 =>
          some [tB (gB o42 1)]
theorem ew_FnDuals (call : Oracle) (a0 : List Int) : run1 E call iw_FnDuals [tLU8 a0] = bw_FnDuals call a0 := by kernel_rfl
theorem vw_FnDuals (a0 : List Int) {o : List TV} (h : bw_FnDuals R a0 = some o) : R iw_FnDuals [tLU8 a0] = some o := ev_step ((ew_FnDuals R a0).trans h)
end
end Go.Ev.Yteclcmiopobnaaa
