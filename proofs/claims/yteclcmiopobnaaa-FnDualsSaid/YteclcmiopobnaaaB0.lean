/- Bodies, part 0. -/
import Derived.KernelRfl
import Derived.Test.YteclcmiopobnaaaEnv
set_option linter.unusedVariables false
namespace Go.Ev.Yteclcmiopobnaaa
open Go.Ev
noncomputable section
def bw_big (call : Oracle) (a0 : List Int) : Option (List TV) :=
  some [tB (decide (4096 < ((List.length a0 : Nat) : Int)))]
theorem ew_big (call : Oracle) (a0 : List Int) : run1 E call iw_big [tLU8 a0] = bw_big call a0 := by kernel_rfl
theorem vw_big (a0 : List Int) {o : List TV} (h : bw_big R a0 = some o) : R iw_big [tLU8 a0] = some o := ev_step ((ew_big R a0).trans h)
def bs_l01From_3 (call : Oracle) (x0 : List Int) (x1 x2 x3 : Int) : Option (List TV) :=
  bif decide (x3 < ((List.length x0 : Nat) : Int)) then
    bif decide (x3 < 4096) then
      bif (decide (0 ≤ x3) && decide (x3 < ((List.length x0 : Nat) : Int))) then
        call is_l01From_3 [tLU8 x0, tI x1, tU64 (wu64 ((wu64 ((wu64 (x2 * 1099511628211)) + (wu64 ((List.getD x0 (Int.toNat x3) 0))))) + 29)), tI (wi64 (x3 + 1))]
      else none
    else
      some [tI 0, tI x1, tU64 x2, tLU8 x0]
  else
    some [tI 0, tI x1, tU64 x2, tLU8 x0]
theorem es_l01From_3 (call : Oracle) (x0 : List Int) (x1 x2 x3 : Int) : run1 E call is_l01From_3 [tLU8 x0, tI x1, tU64 x2, tI x3] = bs_l01From_3 call x0 x1 x2 x3 := by kernel_rfl
theorem vs_l01From_3 (x0 : List Int) (x1 x2 x3 : Int) {o : List TV} (h : bs_l01From_3 R x0 x1 x2 x3 = some o) : R is_l01From_3 [tLU8 x0, tI x1, tU64 x2, tI x3] = some o := ev_step ((es_l01From_3 R x0 x1 x2 x3).trans h)
def bs_l01From (call : Oracle) (a0 : List Int) : Option (List TV) :=
  (call is_l01From_3 [tLU8 a0, tI 0, tU64 (wu64 (9049 + (wu64 (((List.length a0 : Nat) : Int))))), tI 0]).bind fun o1 =>
  some [tPLU8PIU64 ((gLU8 o1 3), ((gI o1 1), (gU64 o1 2)))]
theorem es_l01From (call : Oracle) (a0 : List Int) : run1 E call is_l01From [tLU8 a0] = bs_l01From call a0 := by kernel_rfl
theorem vs_l01From (a0 : List Int) {o : List TV} (h : bs_l01From R a0 = some o) : R is_l01From [tLU8 a0] = some o := ev_step ((es_l01From R a0).trans h)
def bs_l01Next (call : Oracle) (a0 : List Int × Int × Int) (a1 : Int) : Option (List TV) :=
  bif decide (a1 < 1) then
    some [tI 0, tPLU8PIU64 (a0.1, (a0.2.1, a0.2.2))]
  else
    bif decide (a0.2.1 < ((List.length a0.1 : Nat) : Int)) then
      bif (decide (0 ≤ a0.2.1) && decide (a0.2.1 < ((List.length a0.1 : Nat) : Int))) then
        bif (a1 != 0) then
          some [tI (Int.tmod (wi64 ((wi64 ((bitsAnd .u64 (shr .u64 (wu64 ((wu64 (a0.2.2 * 6364136223846793005)) + 1442695040888963407)) 33) 16777215))) + (wi64 ((List.getD a0.1 (Int.toNat a0.2.1) 0))))) a1), tPLU8PIU64 (a0.1, ((wi64 (a0.2.1 + 1)), (wu64 ((wu64 (a0.2.2 * 6364136223846793005)) + 1442695040888963407))))]
        else none
      else none
    else
      bif (a1 != 0) then
        some [tI (Int.tmod (wi64 ((bitsAnd .u64 (shr .u64 (wu64 ((wu64 (a0.2.2 * 6364136223846793005)) + 1442695040888963407)) 33) 16777215))) a1), tPLU8PIU64 (a0.1, (a0.2.1, (wu64 ((wu64 (a0.2.2 * 6364136223846793005)) + 1442695040888963407))))]
      else none
theorem es_l01Next (call : Oracle) (a0 : List Int × Int × Int) (a1 : Int) : run1 E call is_l01Next [tPLU8PIU64 a0, tI a1] = bs_l01Next call a0 a1 := by kernel_rfl
theorem vs_l01Next (a0 : List Int × Int × Int) (a1 : Int) {o : List TV} (h : bs_l01Next R a0 a1 = some o) : R is_l01Next [tPLU8PIU64 a0, tI a1] = some o := ev_step ((es_l01Next R a0 a1).trans h)
def bs_l01Pick (call : Oracle) (a0 : List Int × Int × Int) (a1 : List Int) : Option (List TV) :=
  (call is_l01Next [tPLU8PIU64 (a0.1, (a0.2.1, a0.2.2)), tI ((List.length a1 : Nat) : Int)]).bind fun o1 =>
  bif (decide (0 ≤ (gI o1 0)) && decide ((gI o1 0) < ((List.length a1 : Nat) : Int))) then
    some [tI (List.getD a1 (Int.toNat (gI o1 0)) 0), tPLU8PIU64 ((gPLU8PIU64 o1 1).1, (((gPLU8PIU64 o1 1).2).1, ((gPLU8PIU64 o1 1).2).2))]
  else none
theorem es_l01Pick (call : Oracle) (a0 : List Int × Int × Int) (a1 : List Int) : run1 E call is_l01Pick [tPLU8PIU64 a0, tLI a1] = bs_l01Pick call a0 a1 := by kernel_rfl
theorem vs_l01Pick (a0 : List Int × Int × Int) (a1 : List Int) {o : List TV} (h : bs_l01Pick R a0 a1 = some o) : R is_l01Pick [tPLU8PIU64 a0, tLI a1] = some o := ev_step ((es_l01Pick R a0 a1).trans h)
def bs_l01Draw_6 (call : Oracle) (x0 x1 : Int) (x2 x3 : List Int) (x4 x5 x6 : Int) : Option (List TV) :=
  bif decide (0 < x6) then
    (call is_l01Next [tPLU8PIU64 (x2, (x0, x1)), tI (wi64 (x4 - 1))]).bind fun o9 =>
    bif (x5 == 1) then
      bif (apOk x3 [(wi64 (0 - (wi64 (1 + (gI o9 0)))))]) then
        (call is_l01Next [tPLU8PIU64 ((gPLU8PIU64 o9 1).1, (((gPLU8PIU64 o9 1).2).1, ((gPLU8PIU64 o9 1).2).2)), tI 12]).bind fun o10 =>
        bif ((gI o10 0) == 0) then
          bif decide (1 < x6) then
            bif (apOk (x3 ++ [(wi64 (0 - (wi64 (1 + (gI o9 0)))))]) [(wi64 (0 - (wi64 (0 - (wi64 (1 + (gI o9 0)))))))]) then
              call is_l01Draw_6 [tI (((gPLU8PIU64 o10 1).2).1), tU64 (((gPLU8PIU64 o10 1).2).2), tLU8 ((gPLU8PIU64 o10 1).1), tLI ((x3 ++ [(wi64 (0 - (wi64 (1 + (gI o9 0)))))]) ++ [(wi64 (0 - (wi64 (0 - (wi64 (1 + (gI o9 0)))))))]), tI x4, tI x5, tI (wi64 ((wi64 (x6 - 1)) - 1))]
            else none
          else
            call is_l01Draw_6 [tI (((gPLU8PIU64 o10 1).2).1), tU64 (((gPLU8PIU64 o10 1).2).2), tLU8 ((gPLU8PIU64 o10 1).1), tLI (x3 ++ [(wi64 (0 - (wi64 (1 + (gI o9 0)))))]), tI x4, tI x5, tI (wi64 (x6 - 1))]
        else
          call is_l01Draw_6 [tI (((gPLU8PIU64 o10 1).2).1), tU64 (((gPLU8PIU64 o10 1).2).2), tLU8 ((gPLU8PIU64 o10 1).1), tLI (x3 ++ [(wi64 (0 - (wi64 (1 + (gI o9 0)))))]), tI x4, tI x5, tI (wi64 (x6 - 1))]
      else none
    else
      bif decide (1 < x5) then
        (call is_l01Next [tPLU8PIU64 ((gPLU8PIU64 o9 1).1, (((gPLU8PIU64 o9 1).2).1, ((gPLU8PIU64 o9 1).2).2)), tI 2]).bind fun o11 =>
        bif ((gI o11 0) == 0) then
          bif (apOk x3 [(wi64 (0 - (wi64 (1 + (gI o9 0)))))]) then
            (call is_l01Next [tPLU8PIU64 ((gPLU8PIU64 o11 1).1, (((gPLU8PIU64 o11 1).2).1, ((gPLU8PIU64 o11 1).2).2)), tI 12]).bind fun o12 =>
            bif ((gI o12 0) == 0) then
              bif decide (1 < x6) then
                bif (apOk (x3 ++ [(wi64 (0 - (wi64 (1 + (gI o9 0)))))]) [(wi64 (0 - (wi64 (0 - (wi64 (1 + (gI o9 0)))))))]) then
                  call is_l01Draw_6 [tI (((gPLU8PIU64 o12 1).2).1), tU64 (((gPLU8PIU64 o12 1).2).2), tLU8 ((gPLU8PIU64 o12 1).1), tLI ((x3 ++ [(wi64 (0 - (wi64 (1 + (gI o9 0)))))]) ++ [(wi64 (0 - (wi64 (0 - (wi64 (1 + (gI o9 0)))))))]), tI x4, tI x5, tI (wi64 ((wi64 (x6 - 1)) - 1))]
                else none
              else
                call is_l01Draw_6 [tI (((gPLU8PIU64 o12 1).2).1), tU64 (((gPLU8PIU64 o12 1).2).2), tLU8 ((gPLU8PIU64 o12 1).1), tLI (x3 ++ [(wi64 (0 - (wi64 (1 + (gI o9 0)))))]), tI x4, tI x5, tI (wi64 (x6 - 1))]
            else
              call is_l01Draw_6 [tI (((gPLU8PIU64 o12 1).2).1), tU64 (((gPLU8PIU64 o12 1).2).2), tLU8 ((gPLU8PIU64 o12 1).1), tLI (x3 ++ [(wi64 (0 - (wi64 (1 + (gI o9 0)))))]), tI x4, tI x5, tI (wi64 (x6 - 1))]
          else none
        else
          bif (apOk x3 [(wi64 (1 + (gI o9 0)))]) then
            (call is_l01Next [tPLU8PIU64 ((gPLU8PIU64 o11 1).1, (((gPLU8PIU64 o11 1).2).1, ((gPLU8PIU64 o11 1).2).2)), tI 12]).bind fun o13 =>
            bif ((gI o13 0) == 0) then
              bif decide (1 < x6) then
                bif (apOk (x3 ++ [(wi64 (1 + (gI o9 0)))]) [(wi64 (0 - (wi64 (1 + (gI o9 0)))))]) then
                  call is_l01Draw_6 [tI (((gPLU8PIU64 o13 1).2).1), tU64 (((gPLU8PIU64 o13 1).2).2), tLU8 ((gPLU8PIU64 o13 1).1), tLI ((x3 ++ [(wi64 (1 + (gI o9 0)))]) ++ [(wi64 (0 - (wi64 (1 + (gI o9 0)))))]), tI x4, tI x5, tI (wi64 ((wi64 (x6 - 1)) - 1))]
                else none
              else
                call is_l01Draw_6 [tI (((gPLU8PIU64 o13 1).2).1), tU64 (((gPLU8PIU64 o13 1).2).2), tLU8 ((gPLU8PIU64 o13 1).1), tLI (x3 ++ [(wi64 (1 + (gI o9 0)))]), tI x4, tI x5, tI (wi64 (x6 - 1))]
            else
              call is_l01Draw_6 [tI (((gPLU8PIU64 o13 1).2).1), tU64 (((gPLU8PIU64 o13 1).2).2), tLU8 ((gPLU8PIU64 o13 1).1), tLI (x3 ++ [(wi64 (1 + (gI o9 0)))]), tI x4, tI x5, tI (wi64 (x6 - 1))]
          else none
      else
        bif (apOk x3 [(wi64 (1 + (gI o9 0)))]) then
          (call is_l01Next [tPLU8PIU64 ((gPLU8PIU64 o9 1).1, (((gPLU8PIU64 o9 1).2).1, ((gPLU8PIU64 o9 1).2).2)), tI 12]).bind fun o14 =>
          bif ((gI o14 0) == 0) then
            bif decide (1 < x6) then
              bif (apOk (x3 ++ [(wi64 (1 + (gI o9 0)))]) [(wi64 (0 - (wi64 (1 + (gI o9 0)))))]) then
                call is_l01Draw_6 [tI (((gPLU8PIU64 o14 1).2).1), tU64 (((gPLU8PIU64 o14 1).2).2), tLU8 ((gPLU8PIU64 o14 1).1), tLI ((x3 ++ [(wi64 (1 + (gI o9 0)))]) ++ [(wi64 (0 - (wi64 (1 + (gI o9 0)))))]), tI x4, tI x5, tI (wi64 ((wi64 (x6 - 1)) - 1))]
              else none
            else
              call is_l01Draw_6 [tI (((gPLU8PIU64 o14 1).2).1), tU64 (((gPLU8PIU64 o14 1).2).2), tLU8 ((gPLU8PIU64 o14 1).1), tLI (x3 ++ [(wi64 (1 + (gI o9 0)))]), tI x4, tI x5, tI (wi64 (x6 - 1))]
          else
            call is_l01Draw_6 [tI (((gPLU8PIU64 o14 1).2).1), tU64 (((gPLU8PIU64 o14 1).2).2), tLU8 ((gPLU8PIU64 o14 1).1), tLI (x3 ++ [(wi64 (1 + (gI o9 0)))]), tI x4, tI x5, tI (wi64 (x6 - 1))]
        else none
  else
    some [tI 0, tI x0, tU64 x1, tLU8 x2, tLI x3]
theorem es_l01Draw_6 (call : Oracle) (x0 x1 : Int) (x2 x3 : List Int) (x4 x5 x6 : Int) : run1 E call is_l01Draw_6 [tI x0, tU64 x1, tLU8 x2, tLI x3, tI x4, tI x5, tI x6] = bs_l01Draw_6 call x0 x1 x2 x3 x4 x5 x6 := by kernel_rfl
theorem vs_l01Draw_6 (x0 x1 : Int) (x2 x3 : List Int) (x4 x5 x6 : Int) {o : List TV} (h : bs_l01Draw_6 R x0 x1 x2 x3 x4 x5 x6 = some o) : R is_l01Draw_6 [tI x0, tU64 x1, tLU8 x2, tLI x3, tI x4, tI x5, tI x6] = some o := ev_step ((es_l01Draw_6 R x0 x1 x2 x3 x4 x5 x6).trans h)
def bs_l01Draw (call : Oracle) (a0 : List Int × Int × Int) (a1 a2 : Int) : Option (List TV) :=
  bif decide (a1 < 2) then
    some [tLI [], tPLU8PIU64 (a0.1, (a0.2.1, a0.2.2))]
  else
    (call is_l01Next [tPLU8PIU64 (a0.1, (a0.2.1, a0.2.2)), tI 4]).bind fun o1 =>
    (call is_l01Next [tPLU8PIU64 ((gPLU8PIU64 o1 1).1, (((gPLU8PIU64 o1 1).2).1, ((gPLU8PIU64 o1 1).2).2)), tI (wi64 (a2 + 1))]).bind fun o2 =>
    (call is_l01Draw_6 [tI (((gPLU8PIU64 o2 1).2).1), tU64 (((gPLU8PIU64 o2 1).2).2), tLU8 ((gPLU8PIU64 o2 1).1), tLI [], tI a1, tI (gI o1 0), tI (gI o2 0)]).bind fun o15 =>
    some [tLI (gLI o15 4), tPLU8PIU64 ((gLU8 o15 3), ((gI o15 1), (gU64 o15 2)))]
theorem es_l01Draw (call : Oracle) (a0 : List Int × Int × Int) (a1 a2 : Int) : run1 E call is_l01Draw [tPLU8PIU64 a0, tI a1, tI a2] = bs_l01Draw call a0 a1 a2 := by kernel_rfl
theorem vs_l01Draw (a0 : List Int × Int × Int) (a1 a2 : Int) {o : List TV} (h : bs_l01Draw R a0 a1 a2 = some o) : R is_l01Draw [tPLU8PIU64 a0, tI a1, tI a2] = some o := ev_step ((es_l01Draw R a0 a1 a2).trans h)
def bs_l01Own (call : Oracle) (a0 : List Int) : Option (List TV) :=
  bif (apOk [] a0) then
    some [tLI a0]
  else none
theorem es_l01Own (call : Oracle) (a0 : List Int) : run1 E call is_l01Own [tLI a0] = bs_l01Own call a0 := by kernel_rfl
theorem vs_l01Own (a0 : List Int) {o : List TV} (h : bs_l01Own R a0 = some o) : R is_l01Own [tLI a0] = some o := ev_step ((es_l01Own R a0).trans h)
def bs_l01Broken (call : Oracle) (a0 : List Int × Int × Int) (a1 : Int × List Int) : Option (List TV) :=
  (call is_l01Next [tPLU8PIU64 (a0.1, (a0.2.1, a0.2.2)), tI 30]).bind fun o1 =>
  bif ((gI o1 0) == 0) then
    (call is_l01Pick [tPLU8PIU64 ((gPLU8PIU64 o1 1).1, (((gPLU8PIU64 o1 1).2).1, ((gPLU8PIU64 o1 1).2).2)), tLI [0, 9, 1, (-1)]]).bind fun o2 =>
    some [tPILI ((gI o2 0), a1.2), tPLU8PIU64 ((gPLU8PIU64 o2 1).1, (((gPLU8PIU64 o2 1).2).1, ((gPLU8PIU64 o2 1).2).2))]
  else
    bif ((gI o1 0) == 1) then
      (call is_l01Own [tLI a1.2]).bind fun o3 =>
      (call is_l01Pick [tPLU8PIU64 ((gPLU8PIU64 o1 1).1, (((gPLU8PIU64 o1 1).2).1, ((gPLU8PIU64 o1 1).2).2)), tLI [0, a1.1, (wi64 (0 - a1.1))]]).bind fun o4 =>
      bif (apOk (gLI o3 0) [(gI o4 0)]) then
        some [tPILI (a1.1, ((gLI o3 0) ++ [(gI o4 0)])), tPLU8PIU64 ((gPLU8PIU64 o4 1).1, (((gPLU8PIU64 o4 1).2).1, ((gPLU8PIU64 o4 1).2).2))]
      else none
    else
      some [tPILI (a1.1, a1.2), tPLU8PIU64 ((gPLU8PIU64 o1 1).1, (((gPLU8PIU64 o1 1).2).1, ((gPLU8PIU64 o1 1).2).2))]
theorem es_l01Broken (call : Oracle) (a0 : List Int × Int × Int) (a1 : Int × List Int) : run1 E call is_l01Broken [tPLU8PIU64 a0, tPILI a1] = bs_l01Broken call a0 a1 := by kernel_rfl
theorem vs_l01Broken (a0 : List Int × Int × Int) (a1 : Int × List Int) {o : List TV} (h : bs_l01Broken R a0 a1 = some o) : R is_l01Broken [tPLU8PIU64 a0, tPILI a1] = some o := ev_step ((es_l01Broken R a0 a1).trans h)
def bs_l01DrawBraid (call : Oracle) (a0 : List Int × Int × Int) : Option (List TV) :=
  (call is_l01Pick [tPLU8PIU64 (a0.1, (a0.2.1, a0.2.2)), tLI [2, 3, 5]]).bind fun o1 =>
  (call is_l01Next [tPLU8PIU64 ((gPLU8PIU64 o1 1).1, (((gPLU8PIU64 o1 1).2).1, ((gPLU8PIU64 o1 1).2).2)), tI (gI o1 0)]).bind fun o2 =>
  (call is_l01Pick [tPLU8PIU64 ((gPLU8PIU64 o2 1).1, (((gPLU8PIU64 o2 1).2).1, ((gPLU8PIU64 o2 1).2).2)), tLI [4, 10, 20]]).bind fun o3 =>
  (call is_l01Draw [tPLU8PIU64 ((gPLU8PIU64 o3 1).1, (((gPLU8PIU64 o3 1).2).1, ((gPLU8PIU64 o3 1).2).2)), tI (wi64 (2 + (gI o2 0))), tI (gI o3 0)]).bind fun o4 =>
  some [tPILI ((wi64 (2 + (gI o2 0))), (gLI o4 0)), tPLU8PIU64 ((gPLU8PIU64 o4 1).1, (((gPLU8PIU64 o4 1).2).1, ((gPLU8PIU64 o4 1).2).2))]
theorem es_l01DrawBraid (call : Oracle) (a0 : List Int × Int × Int) : run1 E call is_l01DrawBraid [tPLU8PIU64 a0] = bs_l01DrawBraid call a0 := by kernel_rfl
theorem vs_l01DrawBraid (a0 : List Int × Int × Int) {o : List TV} (h : bs_l01DrawBraid R a0 = some o) : R is_l01DrawBraid [tPLU8PIU64 a0] = some o := ev_step ((es_l01DrawBraid R a0).trans h)
def bs_l01Spoil (call : Oracle) (a0 : List Int × Int × Int) : Option (List TV) :=
  (call is_l01Next [tPLU8PIU64 (a0.1, (a0.2.1, a0.2.2)), tI 12]).bind fun o1 =>
  bif ((gI o1 0) == 0) then
    (call is_l01Pick [tPLU8PIU64 ((gPLU8PIU64 o1 1).1, (((gPLU8PIU64 o1 1).2).1, ((gPLU8PIU64 o1 1).2).2)), tLI [1, 7, 8]]).bind fun o2 =>
    (call is_l01Draw [tPLU8PIU64 ((gPLU8PIU64 o2 1).1, (((gPLU8PIU64 o2 1).2).1, ((gPLU8PIU64 o2 1).2).2)), tI (gI o2 0), tI 40]).bind fun o3 =>
    (call is_l01Broken [tPLU8PIU64 ((gPLU8PIU64 o3 1).1, (((gPLU8PIU64 o3 1).2).1, ((gPLU8PIU64 o3 1).2).2)), tPILI ((gI o2 0), (gLI o3 0))]).bind fun o4 =>
    some [tPILI ((gPILI o4 0).1, (gPILI o4 0).2), tPLU8PIU64 ((gPLU8PIU64 o4 1).1, (((gPLU8PIU64 o4 1).2).1, ((gPLU8PIU64 o4 1).2).2))]
  else
    (call is_l01DrawBraid [tPLU8PIU64 ((gPLU8PIU64 o1 1).1, (((gPLU8PIU64 o1 1).2).1, ((gPLU8PIU64 o1 1).2).2))]).bind fun o5 =>
    (call is_l01Broken [tPLU8PIU64 ((gPLU8PIU64 o5 1).1, (((gPLU8PIU64 o5 1).2).1, ((gPLU8PIU64 o5 1).2).2)), tPILI ((gPILI o5 0).1, (gPILI o5 0).2)]).bind fun o6 =>
    some [tPILI ((gPILI o6 0).1, (gPILI o6 0).2), tPLU8PIU64 ((gPLU8PIU64 o6 1).1, (((gPLU8PIU64 o6 1).2).1, ((gPLU8PIU64 o6 1).2).2))]
theorem es_l01Spoil (call : Oracle) (a0 : List Int × Int × Int) : run1 E call is_l01Spoil [tPLU8PIU64 a0] = bs_l01Spoil call a0 := by kernel_rfl
theorem vs_l01Spoil (a0 : List Int × Int × Int) {o : List TV} (h : bs_l01Spoil R a0 = some o) : R is_l01Spoil [tPLU8PIU64 a0] = some o := ev_step ((es_l01Spoil R a0).trans h)
def bs_DrawDualForm (call : Oracle) (a0 : List Int) : Option (List TV) :=
  (call is_l01From [tLU8 a0]).bind fun o1 =>
  (call is_l01Spoil [tPLU8PIU64 ((gPLU8PIU64 o1 0).1, (((gPLU8PIU64 o1 0).2).1, ((gPLU8PIU64 o1 0).2).2))]).bind fun o2 =>
  some [tPILI ((gPILI o2 0).1, (gPILI o2 0).2)]
theorem es_DrawDualForm (call : Oracle) (a0 : List Int) : run1 E call is_DrawDualForm [tLU8 a0] = bs_DrawDualForm call a0 := by kernel_rfl
theorem vs_DrawDualForm (a0 : List Int) {o : List TV} (h : bs_DrawDualForm R a0 = some o) : R is_DrawDualForm [tLU8 a0] = some o := ev_step ((es_DrawDualForm R a0).trans h)
def bi_within (call : Oracle) (a0 a1 a2 : Int) : Option (List TV) :=
  bif decide (a1 ≤ a0) then
    some [tB (decide (a0 ≤ a2))]
  else
    some [tB false]
theorem ei_within (call : Oracle) (a0 a1 a2 : Int) : run1 E call ii_within [tI a0, tI a1, tI a2] = bi_within call a0 a1 a2 := by kernel_rfl
theorem vi_within (a0 a1 a2 : Int) {o : List TV} (h : bi_within R a0 a1 a2 = some o) : R ii_within [tI a0, tI a1, tI a2] = some o := ev_step ((ei_within R a0 a1 a2).trans h)
def bi_isCount (call : Oracle) (a0 : Int) : Option (List TV) :=
  (call ii_within [tI a0, tI 1, tI 8]).bind fun o1 =>
  some [tB (gB o1 0)]
theorem ei_isCount (call : Oracle) (a0 : Int) : run1 E call ii_isCount [tI a0] = bi_isCount call a0 := by kernel_rfl
theorem vi_isCount (a0 : Int) {o : List TV} (h : bi_isCount R a0 = some o) : R ii_isCount [tI a0] = some o := ev_step ((ei_isCount R a0).trans h)
def bi_isLetter (call : Oracle) (a0 a1 : Int) : Option (List TV) :=
  bif (a0 != 0) then
    (call ii_within [tI a0, tI (wi64 (1 - a1)), tI (wi64 (a1 - 1))]).bind fun o1 =>
    some [tB (gB o1 0)]
  else
    some [tB false]
theorem ei_isLetter (call : Oracle) (a0 a1 : Int) : run1 E call ii_isLetter [tI a0, tI a1] = bi_isLetter call a0 a1 := by kernel_rfl
theorem vi_isLetter (a0 a1 : Int) {o : List TV} (h : bi_isLetter R a0 a1 = some o) : R ii_isLetter [tI a0, tI a1] = some o := ev_step ((ei_isLetter R a0 a1).trans h)
def bi_IsBraid_4 (call : Oracle) (x0 : Int) (x1 : List Int) (x2 x3 : Int) : Option (List TV) :=
  bif decide (x3 < x2) then
    bif (decide (0 ≤ x3) && decide (x3 < ((List.length x1 : Nat) : Int))) then
      (call ii_isLetter [tI (List.getD x1 (Int.toNat x3) 0), tI x0]).bind fun o3 =>
      bif (!(gB o3 0)) then
        some [tI 1, tB false]
      else
        call ii_IsBraid_4 [tI x0, tLI x1, tI x2, tI (wi64 (x3 + 1))]
    else none
  else
    some [tI 0]
theorem ei_IsBraid_4 (call : Oracle) (x0 : Int) (x1 : List Int) (x2 x3 : Int) : run1 E call ii_IsBraid_4 [tI x0, tLI x1, tI x2, tI x3] = bi_IsBraid_4 call x0 x1 x2 x3 := by kernel_rfl
theorem vi_IsBraid_4 (x0 : Int) (x1 : List Int) (x2 x3 : Int) {o : List TV} (h : bi_IsBraid_4 R x0 x1 x2 x3 = some o) : R ii_IsBraid_4 [tI x0, tLI x1, tI x2, tI x3] = some o := ev_step ((ei_IsBraid_4 R x0 x1 x2 x3).trans h)
def bi_IsBraid (call : Oracle) (a0 : Int × List Int) : Option (List TV) :=
  (call ii_isCount [tI a0.1]).bind fun o1 =>
  bif (!(gB o1 0)) then
    some [tB false]
  else
    bif decide (200 < ((List.length a0.2 : Nat) : Int)) then
      some [tB false]
    else
      (call ii_IsBraid_4 [tI a0.1, tLI a0.2, tI ((List.length a0.2 : Nat) : Int), tI 0]).bind fun o4 =>
      bif ((gI o4 0) == 0) then
        some [tB true]
      else
        some [tB (gB o4 1)]
theorem ei_IsBraid (call : Oracle) (a0 : Int × List Int) : run1 E call ii_IsBraid [tPILI a0] = bi_IsBraid call a0 := by kernel_rfl
theorem vi_IsBraid (a0 : Int × List Int) {o : List TV} (h : bi_IsBraid R a0 = some o) : R ii_IsBraid [tPILI a0] = some o := ev_step ((ei_IsBraid R a0).trans h)
def bi_size (call : Oracle) (a0 : Int) : Option (List TV) :=
  some [tI (mx a0 (wi64 (0 - a0)))]
theorem ei_size (call : Oracle) (a0 : Int) : run1 E call ii_size [tI a0] = bi_size call a0 := by kernel_rfl
theorem vi_size (a0 : Int) {o : List TV} (h : bi_size R a0 = some o) : R ii_size [tI a0] = some o := ev_step ((ei_size R a0).trans h)
def bi_nothing_3 (call : Oracle) (x0 x1 : List Int) (x2 x3 : Int) : Option (List TV) :=
  bif decide (x3 < x2) then
    bif (decide (0 ≤ x3) && decide (x3 < 8)) then
      call ii_nothing_3 [tA8 x0, tA8 (List.set x1 (Int.toNat x3) (wu8 (x3))), tI x2, tI (wi64 (x3 + 1))]
    else none
  else
    some [tI 0, tA8 x0, tA8 x1]
theorem ei_nothing_3 (call : Oracle) (x0 x1 : List Int) (x2 x3 : Int) : run1 E call ii_nothing_3 [tA8 x0, tA8 x1, tI x2, tI x3] = bi_nothing_3 call x0 x1 x2 x3 := by kernel_rfl
theorem vi_nothing_3 (x0 x1 : List Int) (x2 x3 : Int) {o : List TV} (h : bi_nothing_3 R x0 x1 x2 x3 = some o) : R ii_nothing_3 [tA8 x0, tA8 x1, tI x2, tI x3] = some o := ev_step ((ei_nothing_3 R x0 x1 x2 x3).trans h)
def bi_nothing (call : Oracle) (a0 : Int) : Option (List TV) :=
  (call ii_nothing_3 [tA8 (List.replicate 8 0), tA8 (List.replicate 8 0), tI a0, tI 0]).bind fun o1 =>
  some [tA8 (gA8 o1 2)]
theorem ei_nothing (call : Oracle) (a0 : Int) : run1 E call ii_nothing [tI a0] = bi_nothing call a0 := by kernel_rfl
theorem vi_nothing (a0 : Int) {o : List TV} (h : bi_nothing R a0 = some o) : R ii_nothing [tI a0] = some o := ev_step ((ei_nothing R a0).trans h)
def bi_exchange (call : Oracle) (a0 a1 : Int) : Option (List TV) :=
  (call ii_nothing [tI a1]).bind fun o1 =>
  bif (decide (0 ≤ a0) && decide (a0 < 8)) then
    bif (decide (0 ≤ (wi64 (a0 - 1))) && decide ((wi64 (a0 - 1)) < 8)) then
      bif (decide (0 ≤ (wi64 (a0 - 1))) && decide ((wi64 (a0 - 1)) < 8)) then
        bif (decide (0 ≤ a0) && decide (a0 < 8)) then
          some [tA8 (List.set (List.set (gA8 o1 0) (Int.toNat (wi64 (a0 - 1))) (List.getD (gA8 o1 0) (Int.toNat a0) 0)) (Int.toNat a0) (List.getD (gA8 o1 0) (Int.toNat (wi64 (a0 - 1))) 0))]
        else none
      else none
    else none
  else none
theorem ei_exchange (call : Oracle) (a0 a1 : Int) : run1 E call ii_exchange [tI a0, tI a1] = bi_exchange call a0 a1 := by kernel_rfl
theorem vi_exchange (a0 a1 : Int) {o : List TV} (h : bi_exchange R a0 a1 = some o) : R ii_exchange [tI a0, tI a1] = some o := ev_step ((ei_exchange R a0 a1).trans h)
def bi_finePart (call : Oracle) (a0 : Int) : Option (List TV) :=
  (call ii_nothing [tI a0]).bind fun o1 =>
  some [tA8 (gA8 o1 0)]
theorem ei_finePart (call : Oracle) (a0 : Int) : run1 E call ii_finePart [tI a0] = bi_finePart call a0 := by kernel_rfl
theorem vi_finePart (a0 : Int) {o : List TV} (h : bi_finePart R a0 = some o) : R ii_finePart [tI a0] = some o := ev_step ((ei_finePart R a0).trans h)
def bi_backOf_3 (call : Oracle) (x0 x1 x2 : List Int) (x3 x4 : Int) : Option (List TV) :=
  bif decide (x4 < x3) then
    bif (decide (0 ≤ x4) && decide (x4 < 8)) then
      bif (decide (0 ≤ (List.getD x0 (Int.toNat x4) 0)) && decide ((List.getD x0 (Int.toNat x4) 0) < 8)) then
        call ii_backOf_3 [tA8 x0, tA8 x1, tA8 (List.set x2 (Int.toNat (List.getD x0 (Int.toNat x4) 0)) (wu8 (x4))), tI x3, tI (wi64 (x4 + 1))]
      else none
    else none
  else
    some [tI 0, tA8 x1, tA8 x2]
theorem ei_backOf_3 (call : Oracle) (x0 x1 x2 : List Int) (x3 x4 : Int) : run1 E call ii_backOf_3 [tA8 x0, tA8 x1, tA8 x2, tI x3, tI x4] = bi_backOf_3 call x0 x1 x2 x3 x4 := by kernel_rfl
theorem vi_backOf_3 (x0 x1 x2 : List Int) (x3 x4 : Int) {o : List TV} (h : bi_backOf_3 R x0 x1 x2 x3 x4 = some o) : R ii_backOf_3 [tA8 x0, tA8 x1, tA8 x2, tI x3, tI x4] = some o := ev_step ((ei_backOf_3 R x0 x1 x2 x3 x4).trans h)
def bi_backOf (call : Oracle) (a0 : List Int) (a1 : Int) : Option (List TV) :=
  (call ii_backOf_3 [tA8 a0, tA8 (List.replicate 8 0), tA8 (List.replicate 8 0), tI a1, tI 0]).bind fun o1 =>
  some [tA8 (gA8 o1 2)]
theorem ei_backOf (call : Oracle) (a0 : List Int) (a1 : Int) : run1 E call ii_backOf [tA8 a0, tI a1] = bi_backOf call a0 a1 := by kernel_rfl
theorem vi_backOf (a0 : List Int) (a1 : Int) {o : List TV} (h : bi_backOf R a0 a1 = some o) : R ii_backOf [tA8 a0, tI a1] = some o := ev_step ((ei_backOf R a0 a1).trans h)
def bi_backPart (call : Oracle) (a0 : List Int) (a1 : Int) : Option (List TV) :=
  (call ii_backOf [tA8 a0, tI a1]).bind fun o1 =>
  some [tA8 (gA8 o1 0)]
theorem ei_backPart (call : Oracle) (a0 : List Int) (a1 : Int) : run1 E call ii_backPart [tA8 a0, tI a1] = bi_backPart call a0 a1 := by kernel_rfl
theorem vi_backPart (a0 : List Int) (a1 : Int) {o : List TV} (h : bi_backPart R a0 a1 = some o) : R ii_backPart [tA8 a0, tI a1] = some o := ev_step ((ei_backPart R a0 a1).trans h)
def bi_wholePart_3 (call : Oracle) (x0 x1 : List Int) (x2 x3 x4 : Int) : Option (List TV) :=
  bif decide (x4 < x3) then
    bif (x2 != 0) then
      bif (decide (0 ≤ x4) && decide (x4 < 8)) then
        call ii_wholePart_3 [tA8 x0, tA8 (List.set x1 (Int.toNat x4) (wu8 ((Int.tmod (wi64 (x4 + 1)) x2)))), tI x2, tI x3, tI (wi64 (x4 + 1))]
      else none
    else none
  else
    some [tI 0, tA8 x0, tA8 x1]
theorem ei_wholePart_3 (call : Oracle) (x0 x1 : List Int) (x2 x3 x4 : Int) : run1 E call ii_wholePart_3 [tA8 x0, tA8 x1, tI x2, tI x3, tI x4] = bi_wholePart_3 call x0 x1 x2 x3 x4 := by kernel_rfl
theorem vi_wholePart_3 (x0 x1 : List Int) (x2 x3 x4 : Int) {o : List TV} (h : bi_wholePart_3 R x0 x1 x2 x3 x4 = some o) : R ii_wholePart_3 [tA8 x0, tA8 x1, tI x2, tI x3, tI x4] = some o := ev_step ((ei_wholePart_3 R x0 x1 x2 x3 x4).trans h)
def bi_wholePart (call : Oracle) (a0 : Int) : Option (List TV) :=
  (call ii_wholePart_3 [tA8 (List.replicate 8 0), tA8 (List.replicate 8 0), tI a0, tI a0, tI 0]).bind fun o1 =>
  some [tA8 (gA8 o1 2)]
theorem ei_wholePart (call : Oracle) (a0 : Int) : run1 E call ii_wholePart [tI a0] = bi_wholePart call a0 := by kernel_rfl
theorem vi_wholePart (a0 : Int) {o : List TV} (h : bi_wholePart R a0 = some o) : R ii_wholePart [tI a0] = some o := ev_step ((ei_wholePart R a0).trans h)
def bi_then_3 (call : Oracle) (x0 x1 : List Int) (x2 x3 : List Int) (x4 x5 : Int) : Option (List TV) :=
  bif decide (x5 < x4) then
    bif (decide (0 ≤ x5) && decide (x5 < 8)) then
      bif (decide (0 ≤ (List.getD x0 (Int.toNat x5) 0)) && decide ((List.getD x0 (Int.toNat x5) 0) < 8)) then
        bif (decide (0 ≤ x5) && decide (x5 < 8)) then
          call ii_then_3 [tA8 x0, tA8 x1, tA8 x2, tA8 (List.set x3 (Int.toNat x5) (List.getD x1 (Int.toNat (List.getD x0 (Int.toNat x5) 0)) 0)), tI x4, tI (wi64 (x5 + 1))]
        else none
      else none
    else none
  else
    some [tI 0, tA8 x2, tA8 x3]
theorem ei_then_3 (call : Oracle) (x0 x1 : List Int) (x2 x3 : List Int) (x4 x5 : Int) : run1 E call ii_then_3 [tA8 x0, tA8 x1, tA8 x2, tA8 x3, tI x4, tI x5] = bi_then_3 call x0 x1 x2 x3 x4 x5 := by kernel_rfl
theorem vi_then_3 (x0 x1 : List Int) (x2 x3 : List Int) (x4 x5 : Int) {o : List TV} (h : bi_then_3 R x0 x1 x2 x3 x4 x5 = some o) : R ii_then_3 [tA8 x0, tA8 x1, tA8 x2, tA8 x3, tI x4, tI x5] = some o := ev_step ((ei_then_3 R x0 x1 x2 x3 x4 x5).trans h)
def bi_then (call : Oracle) (a0 a1 : List Int) (a2 : Int) : Option (List TV) :=
  (call ii_then_3 [tA8 a0, tA8 a1, tA8 (List.replicate 8 0), tA8 (List.replicate 8 0), tI a2, tI 0]).bind fun o1 =>
  some [tA8 (gA8 o1 2)]
theorem ei_then (call : Oracle) (a0 a1 : List Int) (a2 : Int) : run1 E call ii_then [tA8 a0, tA8 a1, tI a2] = bi_then call a0 a1 a2 := by kernel_rfl
theorem vi_then (a0 a1 : List Int) (a2 : Int) {o : List TV} (h : bi_then R a0 a1 a2 = some o) : R ii_then [tA8 a0, tA8 a1, tI a2] = some o := ev_step ((ei_then R a0 a1 a2).trans h)
def bi_thenPart (call : Oracle) (a0 a1 : List Int) (a2 : Int) : Option (List TV) :=
  (call ii_then [tA8 a0, tA8 a1, tI a2]).bind fun o1 =>
  some [tA8 (gA8 o1 0)]
theorem ei_thenPart (call : Oracle) (a0 a1 : List Int) (a2 : Int) : run1 E call ii_thenPart [tA8 a0, tA8 a1, tI a2] = bi_thenPart call a0 a1 a2 := by kernel_rfl
theorem vi_thenPart (a0 a1 : List Int) (a2 : Int) {o : List TV} (h : bi_thenPart R a0 a1 a2 = some o) : R ii_thenPart [tA8 a0, tA8 a1, tI a2] = some o := ev_step ((ei_thenPart R a0 a1 a2).trans h)
def bi_complementPart (call : Oracle) (a0 : List Int) (a1 : Int) : Option (List TV) :=
  (call ii_backPart [tA8 a0, tI a1]).bind fun o1 =>
  (call ii_wholePart [tI a1]).bind fun o2 =>
  (call ii_thenPart [tA8 (gA8 o1 0), tA8 (gA8 o2 0), tI a1]).bind fun o3 =>
  some [tA8 (gA8 o3 0)]
theorem ei_complementPart (call : Oracle) (a0 : List Int) (a1 : Int) : run1 E call ii_complementPart [tA8 a0, tI a1] = bi_complementPart call a0 a1 := by kernel_rfl
theorem vi_complementPart (a0 : List Int) (a1 : Int) {o : List TV} (h : bi_complementPart R a0 a1 = some o) : R ii_complementPart [tA8 a0, tI a1] = some o := ev_step ((ei_complementPart R a0 a1).trans h)
def bi_strandsOf_3 (call : Oracle) (x0 : List Int) (x1 x2 : Int) : Option (List TV) :=
  bif decide (x2 < x1) then
    bif (apOk x0 [x2]) then
      call ii_strandsOf_3 [tLI (x0 ++ [x2]), tI x1, tI (wi64 (x2 + 1))]
    else none
  else
    some [tI 0, tLI x0]
theorem ei_strandsOf_3 (call : Oracle) (x0 : List Int) (x1 x2 : Int) : run1 E call ii_strandsOf_3 [tLI x0, tI x1, tI x2] = bi_strandsOf_3 call x0 x1 x2 := by kernel_rfl
theorem vi_strandsOf_3 (x0 : List Int) (x1 x2 : Int) {o : List TV} (h : bi_strandsOf_3 R x0 x1 x2 = some o) : R ii_strandsOf_3 [tLI x0, tI x1, tI x2] = some o := ev_step ((ei_strandsOf_3 R x0 x1 x2).trans h)
def bi_strandsOf (call : Oracle) (a0 : Int) : Option (List TV) :=
  (call ii_strandsOf_3 [tLI [], tI a0, tI 0]).bind fun o1 =>
  some [tLI (gLI o1 1)]
theorem ei_strandsOf (call : Oracle) (a0 : Int) : run1 E call ii_strandsOf [tI a0] = bi_strandsOf call a0 := by kernel_rfl
theorem vi_strandsOf (a0 : Int) {o : List TV} (h : bi_strandsOf R a0 = some o) : R ii_strandsOf [tI a0] = some o := ev_step ((ei_strandsOf R a0).trans h)
def bi_fineGroups (call : Oracle) (a0 : Int) : Option (List TV) :=
  (call ii_strandsOf [tI a0]).bind fun o1 =>
  some [tLI (gLI o1 0)]
theorem ei_fineGroups (call : Oracle) (a0 : Int) : run1 E call ii_fineGroups [tI a0] = bi_fineGroups call a0 := by kernel_rfl
theorem vi_fineGroups (a0 : Int) {o : List TV} (h : bi_fineGroups R a0 = some o) : R ii_fineGroups [tI a0] = some o := ev_step ((ei_fineGroups R a0).trans h)
def b_i_groups__merge_2 (call : Oracle) (x0 : List Int) (x1 x2 : Int) (x3 x4 : Int) : Option (List TV) :=
  bif decide (x4 < x3) then
    bif (decide (0 ≤ x4) && decide (x4 < ((List.length x0 : Nat) : Int))) then
      bif ((List.getD x0 (Int.toNat x4) 0) == x2) then
        bif (decide (0 ≤ x4) && decide (x4 < ((List.length x0 : Nat) : Int))) then
          call i_i_groups__merge_2 [tLI (List.set x0 (Int.toNat x4) x1), tI x1, tI x2, tI x3, tI (wi64 (x4 + 1))]
        else none
      else
        call i_i_groups__merge_2 [tLI x0, tI x1, tI x2, tI x3, tI (wi64 (x4 + 1))]
    else none
  else
    some [tI 0, tLI x0]
theorem e_i_groups__merge_2 (call : Oracle) (x0 : List Int) (x1 x2 : Int) (x3 x4 : Int) : run1 E call i_i_groups__merge_2 [tLI x0, tI x1, tI x2, tI x3, tI x4] = b_i_groups__merge_2 call x0 x1 x2 x3 x4 := by kernel_rfl
theorem v_i_groups__merge_2 (x0 : List Int) (x1 x2 : Int) (x3 x4 : Int) {o : List TV} (h : b_i_groups__merge_2 R x0 x1 x2 x3 x4 = some o) : R i_i_groups__merge_2 [tLI x0, tI x1, tI x2, tI x3, tI x4] = some o := ev_step ((e_i_groups__merge_2 R x0 x1 x2 x3 x4).trans h)
def b_i_groups__merge (call : Oracle) (a0 : List Int) (a1 a2 : Int) : Option (List TV) :=
  bif (decide (0 ≤ a1) && decide (a1 < ((List.length a0 : Nat) : Int))) then
    bif (decide (0 ≤ a2) && decide (a2 < ((List.length a0 : Nat) : Int))) then
      bif (decide (0 ≤ a1) && decide (a1 < ((List.length a0 : Nat) : Int))) then
        bif (decide (0 ≤ a2) && decide (a2 < ((List.length a0 : Nat) : Int))) then
          (call i_i_groups__merge_2 [tLI a0, tI (mn (List.getD a0 (Int.toNat a1) 0) (List.getD a0 (Int.toNat a2) 0)), tI (mx (List.getD a0 (Int.toNat a1) 0) (List.getD a0 (Int.toNat a2) 0)), tI ((List.length a0 : Nat) : Int), tI 0]).bind fun o1 =>
          some [tLI (gLI o1 1)]
        else none
      else none
    else none
  else none
theorem e_i_groups__merge (call : Oracle) (a0 : List Int) (a1 a2 : Int) : run1 E call i_i_groups__merge [tLI a0, tI a1, tI a2] = b_i_groups__merge call a0 a1 a2 := by kernel_rfl
theorem v_i_groups__merge (a0 : List Int) (a1 a2 : Int) {o : List TV} (h : b_i_groups__merge R a0 a1 a2 = some o) : R i_i_groups__merge [tLI a0, tI a1, tI a2] = some o := ev_step ((e_i_groups__merge R a0 a1 a2).trans h)
def b_i_groups__part_3 (call : Oracle) (x0 x1 x2 : List Int) (x3 x4 : Int) : Option (List TV) :=
  bif decide (x4 < x3) then
    bif (decide (0 ≤ x4) && decide (x4 < ((List.length x0 : Nat) : Int))) then
      bif (decide (0 ≤ x4) && decide (x4 < 8)) then
        (call i_i_groups__part_7 [tLI x0, tA8 x1, tA8 (List.set x2 (Int.toNat x4) (wu8 ((List.getD x0 (Int.toNat x4) 0)))), tI x4, tI (List.getD x0 (Int.toNat x4) 0), tI (wi64 (x4 + 1)), tI x3, tI x4]).bind fun o2 =>
        call i_i_groups__part_3 [tLI (gLI o2 1), tA8 (gA8 o2 2), tA8 (gA8 o2 3), tI (gI o2 4), tI (wi64 ((gI o2 5) + 1))]
      else none
    else none
  else
    some [tI 0, tA8 x1, tA8 x2]
theorem e_i_groups__part_3 (call : Oracle) (x0 x1 x2 : List Int) (x3 x4 : Int) : run1 E call i_i_groups__part_3 [tLI x0, tA8 x1, tA8 x2, tI x3, tI x4] = b_i_groups__part_3 call x0 x1 x2 x3 x4 := by kernel_rfl
theorem v_i_groups__part_3 (x0 x1 x2 : List Int) (x3 x4 : Int) {o : List TV} (h : b_i_groups__part_3 R x0 x1 x2 x3 x4 = some o) : R i_i_groups__part_3 [tLI x0, tA8 x1, tA8 x2, tI x3, tI x4] = some o := ev_step ((e_i_groups__part_3 R x0 x1 x2 x3 x4).trans h)
def b_i_groups__part_7 (call : Oracle) (x0 x1 x2 : List Int) (x3 x4 : Int) (x5 x6 x7 : Int) : Option (List TV) :=
  bif decide (x5 < ((List.length x0 : Nat) : Int)) then
    bif (decide (0 ≤ x5) && decide (x5 < ((List.length x0 : Nat) : Int))) then
      bif ((List.getD x0 (Int.toNat x5) 0) == x4) then
        bif (decide (0 ≤ x3) && decide (x3 < 8)) then
          some [tI 0, tLI x0, tA8 x1, tA8 (List.set x2 (Int.toNat x3) (wu8 (x5))), tI x6, tI x7]
        else none
      else
        call i_i_groups__part_7 [tLI x0, tA8 x1, tA8 x2, tI x3, tI x4, tI (wi64 (x5 + 1)), tI x6, tI x7]
    else none
  else
    some [tI 0, tLI x0, tA8 x1, tA8 x2, tI x6, tI x7]
theorem e_i_groups__part_7 (call : Oracle) (x0 x1 x2 : List Int) (x3 x4 : Int) (x5 x6 x7 : Int) : run1 E call i_i_groups__part_7 [tLI x0, tA8 x1, tA8 x2, tI x3, tI x4, tI x5, tI x6, tI x7] = b_i_groups__part_7 call x0 x1 x2 x3 x4 x5 x6 x7 := by kernel_rfl
theorem v_i_groups__part_7 (x0 x1 x2 : List Int) (x3 x4 : Int) (x5 x6 x7 : Int) {o : List TV} (h : b_i_groups__part_7 R x0 x1 x2 x3 x4 x5 x6 x7 = some o) : R i_i_groups__part_7 [tLI x0, tA8 x1, tA8 x2, tI x3, tI x4, tI x5, tI x6, tI x7] = some o := ev_step ((e_i_groups__part_7 R x0 x1 x2 x3 x4 x5 x6 x7).trans h)
def b_i_groups__part (call : Oracle) (a0 : List Int) : Option (List TV) :=
  (call i_i_groups__part_3 [tLI a0, tA8 (List.replicate 8 0), tA8 (List.replicate 8 0), tI ((List.length a0 : Nat) : Int), tI 0]).bind fun o3 =>
  some [tA8 (gA8 o3 2)]
theorem e_i_groups__part (call : Oracle) (a0 : List Int) : run1 E call i_i_groups__part [tLI a0] = b_i_groups__part call a0 := by kernel_rfl
theorem v_i_groups__part (a0 : List Int) {o : List TV} (h : b_i_groups__part R a0 = some o) : R i_i_groups__part [tLI a0] = some o := ev_step ((e_i_groups__part R a0).trans h)
def bi_groupsOf_3 (call : Oracle) (x0 x1 : List Int) (x2 x3 x4 : Int) : Option (List TV) :=
  bif decide (x4 < x3) then
    bif (decide (0 ≤ x4) && decide (x4 < 8)) then
      bif decide (x2 ≤ (wi64 ((List.getD x0 (Int.toNat x4) 0)))) then
        some [tI 1, tLI [], tB false]
      else
        (call i_i_groups__merge [tLI x1, tI x4, tI (wi64 ((List.getD x0 (Int.toNat x4) 0)))]).bind fun o3 =>
        call ii_groupsOf_3 [tA8 x0, tLI (gLI o3 0), tI x2, tI x3, tI (wi64 (x4 + 1))]
    else none
  else
    some [tI 0, tA8 x0, tLI x1]
theorem ei_groupsOf_3 (call : Oracle) (x0 x1 : List Int) (x2 x3 x4 : Int) : run1 E call ii_groupsOf_3 [tA8 x0, tLI x1, tI x2, tI x3, tI x4] = bi_groupsOf_3 call x0 x1 x2 x3 x4 := by kernel_rfl
theorem vi_groupsOf_3 (x0 x1 : List Int) (x2 x3 x4 : Int) {o : List TV} (h : bi_groupsOf_3 R x0 x1 x2 x3 x4 = some o) : R ii_groupsOf_3 [tA8 x0, tLI x1, tI x2, tI x3, tI x4] = some o := ev_step ((ei_groupsOf_3 R x0 x1 x2 x3 x4).trans h)
def bi_groupsOf (call : Oracle) (a0 : List Int) (a1 : Int) : Option (List TV) :=
  (call ii_fineGroups [tI a1]).bind fun o1 =>
  (call ii_groupsOf_3 [tA8 a0, tLI (gLI o1 0), tI a1, tI a1, tI 0]).bind fun o4 =>
  bif ((gI o4 0) == 0) then
    (call i_i_groups__part [tLI (gLI o4 2)]).bind fun o5 =>
    some [tLI (gLI o4 2), tB ((gA8 o5 0) == (gA8 o4 1))]
  else
    some [tLI (gLI o4 1), tB (gB o4 2)]
theorem ei_groupsOf (call : Oracle) (a0 : List Int) (a1 : Int) : run1 E call ii_groupsOf [tA8 a0, tI a1] = bi_groupsOf call a0 a1 := by kernel_rfl
theorem vi_groupsOf (a0 : List Int) (a1 : Int) {o : List TV} (h : bi_groupsOf R a0 a1 = some o) : R ii_groupsOf [tA8 a0, tI a1] = some o := ev_step ((ei_groupsOf R a0 a1).trans h)
def bi_meetParts_5 (call : Oracle) (x0 x1 : List Int) (x2 x3 : List Int) (x4 x5 : Int) : Option (List TV) :=
  bif decide (x5 < x4) then
    (call ii_meetParts_8 [tA8 x0, tLI x1, tLI x2, tLI x3, tI x5, tI x4, tI x5, tI x5, tI 0]).bind fun o7 =>
    call ii_meetParts_5 [tA8 (gA8 o7 1), tLI (gLI o7 2), tLI (gLI o7 3), tLI (gLI o7 4), tI (gI o7 5), tI (wi64 ((gI o7 6) + 1))]
  else
    some [tI 0, tA8 x0, tLI x3]
theorem ei_meetParts_5 (call : Oracle) (x0 x1 : List Int) (x2 x3 : List Int) (x4 x5 : Int) : run1 E call ii_meetParts_5 [tA8 x0, tLI x1, tLI x2, tLI x3, tI x4, tI x5] = bi_meetParts_5 call x0 x1 x2 x3 x4 x5 := by kernel_rfl
theorem vi_meetParts_5 (x0 x1 : List Int) (x2 x3 : List Int) (x4 x5 : Int) {o : List TV} (h : bi_meetParts_5 R x0 x1 x2 x3 x4 x5 = some o) : R ii_meetParts_5 [tA8 x0, tLI x1, tLI x2, tLI x3, tI x4, tI x5] = some o := ev_step ((ei_meetParts_5 R x0 x1 x2 x3 x4 x5).trans h)
def bi_meetParts_8 (call : Oracle) (x0 x1 : List Int) (x2 x3 : List Int) (x4 x5 : Int) (x6 x7 x8 : Int) : Option (List TV) :=
  bif decide (x8 < x7) then
    bif (decide (0 ≤ x8) && decide (x8 < ((List.length x1 : Nat) : Int))) then
      bif (decide (0 ≤ x4) && decide (x4 < ((List.length x1 : Nat) : Int))) then
        bif ((List.getD x1 (Int.toNat x8) 0) == (List.getD x1 (Int.toNat x4) 0)) then
          bif (decide (0 ≤ x8) && decide (x8 < ((List.length x2 : Nat) : Int))) then
            bif (decide (0 ≤ x4) && decide (x4 < ((List.length x2 : Nat) : Int))) then
              bif ((List.getD x2 (Int.toNat x8) 0) == (List.getD x2 (Int.toNat x4) 0)) then
                (call i_i_groups__merge [tLI x3, tI x8, tI x4]).bind fun o5 =>
                call ii_meetParts_8 [tA8 x0, tLI x1, tLI x2, tLI (gLI o5 0), tI x4, tI x5, tI x6, tI x7, tI (wi64 (x8 + 1))]
              else
                call ii_meetParts_8 [tA8 x0, tLI x1, tLI x2, tLI x3, tI x4, tI x5, tI x6, tI x7, tI (wi64 (x8 + 1))]
            else none
          else none
        else
          call ii_meetParts_8 [tA8 x0, tLI x1, tLI x2, tLI x3, tI x4, tI x5, tI x6, tI x7, tI (wi64 (x8 + 1))]
      else none
    else none
  else
    some [tI 0, tA8 x0, tLI x1, tLI x2, tLI x3, tI x5, tI x6]
theorem ei_meetParts_8 (call : Oracle) (x0 x1 : List Int) (x2 x3 : List Int) (x4 x5 : Int) (x6 x7 x8 : Int) : run1 E call ii_meetParts_8 [tA8 x0, tLI x1, tLI x2, tLI x3, tI x4, tI x5, tI x6, tI x7, tI x8] = bi_meetParts_8 call x0 x1 x2 x3 x4 x5 x6 x7 x8 := by kernel_rfl
theorem vi_meetParts_8 (x0 x1 : List Int) (x2 x3 : List Int) (x4 x5 : Int) (x6 x7 x8 : Int) {o : List TV} (h : bi_meetParts_8 R x0 x1 x2 x3 x4 x5 x6 x7 x8 = some o) : R ii_meetParts_8 [tA8 x0, tLI x1, tLI x2, tLI x3, tI x4, tI x5, tI x6, tI x7, tI x8] = some o := ev_step ((ei_meetParts_8 R x0 x1 x2 x3 x4 x5 x6 x7 x8).trans h)
def bi_meetParts (call : Oracle) (a0 a1 : List Int) (a2 : Int) : Option (List TV) :=
  (call ii_groupsOf [tA8 a0, tI a2]).bind fun o1 =>
  (call ii_groupsOf [tA8 a1, tI a2]).bind fun o2 =>
  (call ii_fineGroups [tI a2]).bind fun o3 =>
  (call ii_meetParts_5 [tA8 (List.replicate 8 0), tLI (gLI o1 0), tLI (gLI o2 0), tLI (gLI o3 0), tI a2, tI 0]).bind fun o8 =>
  (call i_i_groups__part [tLI (gLI o8 2)]).bind fun o9 =>
  some [tA8 (gA8 o9 0)]
theorem ei_meetParts (call : Oracle) (a0 a1 : List Int) (a2 : Int) : run1 E call ii_meetParts [tA8 a0, tA8 a1, tI a2] = bi_meetParts call a0 a1 a2 := by kernel_rfl
theorem vi_meetParts (a0 a1 : List Int) (a2 : Int) {o : List TV} (h : bi_meetParts R a0 a1 a2 = some o) : R ii_meetParts [tA8 a0, tA8 a1, tI a2] = some o := ev_step ((ei_meetParts R a0 a1 a2).trans h)
def b__i_Dual__put_5 (call : Oracle) (x0 x1 : Int) (x2 : List (List Int)) (x3 x4 : Int) : Option (List TV) :=
  bif decide (0 < x4) then
    bif (decide (0 ≤ (wi64 (x4 - 1))) && decide ((wi64 (x4 - 1)) < ((List.length x2 : Nat) : Int))) then
      (call ii_complementPart [tA8 (List.getD x2 (Int.toNat (wi64 (x4 - 1))) (List.replicate 8 0)), tI x3]).bind fun o8 =>
      bif (decide (0 ≤ x4) && decide (x4 < ((List.length x2 : Nat) : Int))) then
        (call ii_meetParts [tA8 (gA8 o8 0), tA8 (List.getD x2 (Int.toNat x4) (List.replicate 8 0)), tI x3]).bind fun o9 =>
        (call ii_finePart [tI x3]).bind fun o10 =>
        bif ((gA8 o9 0) == (gA8 o10 0)) then
          some [tI 0, tI x0, tI x1, tLA8 x2, tI x3]
        else
          bif (decide (0 ≤ (wi64 (x4 - 1))) && decide ((wi64 (x4 - 1)) < ((List.length x2 : Nat) : Int))) then
            (call ii_thenPart [tA8 (List.getD x2 (Int.toNat (wi64 (x4 - 1))) (List.replicate 8 0)), tA8 (gA8 o9 0), tI x3]).bind fun o11 =>
            bif (decide (0 ≤ (wi64 (x4 - 1))) && decide ((wi64 (x4 - 1)) < ((List.length x2 : Nat) : Int))) then
              (call ii_backPart [tA8 (gA8 o9 0), tI x3]).bind fun o12 =>
              bif (decide (0 ≤ x4) && decide (x4 < ((List.length (List.set x2 (Int.toNat (wi64 (x4 - 1))) (gA8 o11 0)) : Nat) : Int))) then
                (call ii_thenPart [tA8 (gA8 o12 0), tA8 (List.getD (List.set x2 (Int.toNat (wi64 (x4 - 1))) (gA8 o11 0)) (Int.toNat x4) (List.replicate 8 0)), tI x3]).bind fun o13 =>
                bif (decide (0 ≤ x4) && decide (x4 < ((List.length (List.set x2 (Int.toNat (wi64 (x4 - 1))) (gA8 o11 0)) : Nat) : Int))) then
                  call i__i_Dual__put_5 [tI x0, tI x1, tLA8 (List.set (List.set x2 (Int.toNat (wi64 (x4 - 1))) (gA8 o11 0)) (Int.toNat x4) (gA8 o13 0)), tI x3, tI (wi64 (x4 - 1))]
                else none
              else none
            else none
          else none
      else none
    else none
  else
    some [tI 0, tI x0, tI x1, tLA8 x2, tI x3]
theorem e__i_Dual__put_5 (call : Oracle) (x0 x1 : Int) (x2 : List (List Int)) (x3 x4 : Int) : run1 E call i__i_Dual__put_5 [tI x0, tI x1, tLA8 x2, tI x3, tI x4] = b__i_Dual__put_5 call x0 x1 x2 x3 x4 := by kernel_rfl
theorem v__i_Dual__put_5 (x0 x1 : Int) (x2 : List (List Int)) (x3 x4 : Int) {o : List TV} (h : b__i_Dual__put_5 R x0 x1 x2 x3 x4 = some o) : R i__i_Dual__put_5 [tI x0, tI x1, tLA8 x2, tI x3, tI x4] = some o := ev_step ((e__i_Dual__put_5 R x0 x1 x2 x3 x4).trans h)
def b__i_Dual__put_11 (call : Oracle) (x0 x1 : Int) (x2 : List (List Int)) (x3 : Int) : Option (List TV) :=
  bif decide (0 < ((List.length x2 : Nat) : Int)) then
    bif decide (0 < ((List.length x2 : Nat) : Int)) then
      (call ii_wholePart [tI x3]).bind fun o16 =>
      bif ((List.getD x2 0 (List.replicate 8 0)) == (gA8 o16 0)) then
        bif decide (1 ≤ ((List.length x2 : Nat) : Int)) then
          call i__i_Dual__put_11 [tI x0, tI (wi64 (x1 + 1)), tLA8 (List.drop 1 x2), tI x3]
        else none
      else
        some [tI 0, tI x0, tI x1, tLA8 x2, tI x3]
    else none
  else
    some [tI 0, tI x0, tI x1, tLA8 x2, tI x3]
theorem e__i_Dual__put_11 (call : Oracle) (x0 x1 : Int) (x2 : List (List Int)) (x3 : Int) : run1 E call i__i_Dual__put_11 [tI x0, tI x1, tLA8 x2, tI x3] = b__i_Dual__put_11 call x0 x1 x2 x3 := by kernel_rfl
theorem v__i_Dual__put_11 (x0 x1 : Int) (x2 : List (List Int)) (x3 : Int) {o : List TV} (h : b__i_Dual__put_11 R x0 x1 x2 x3 = some o) : R i__i_Dual__put_11 [tI x0, tI x1, tLA8 x2, tI x3] = some o := ev_step ((e__i_Dual__put_11 R x0 x1 x2 x3).trans h)
def b__i_Dual__put_14 (call : Oracle) (x0 x1 : Int) (x2 : List (List Int)) (x3 : Int) : Option (List TV) :=
  bif decide (0 < ((List.length x2 : Nat) : Int)) then
    bif (decide (0 ≤ (wi64 (((List.length x2 : Nat) : Int) - 1))) && decide ((wi64 (((List.length x2 : Nat) : Int) - 1)) < ((List.length x2 : Nat) : Int))) then
      (call ii_finePart [tI x3]).bind fun o19 =>
      bif ((List.getD x2 (Int.toNat (wi64 (((List.length x2 : Nat) : Int) - 1))) (List.replicate 8 0)) == (gA8 o19 0)) then
        bif (decide (0 ≤ (wi64 (((List.length x2 : Nat) : Int) - 1))) && decide ((wi64 (((List.length x2 : Nat) : Int) - 1)) ≤ ((List.length x2 : Nat) : Int))) then
          call i__i_Dual__put_14 [tI x0, tI x1, tLA8 (List.take (Int.toNat (wi64 (((List.length x2 : Nat) : Int) - 1))) x2), tI x3]
        else none
      else
        some [tI 0, tI x0, tI x1, tLA8 x2]
    else none
  else
    some [tI 0, tI x0, tI x1, tLA8 x2]
theorem e__i_Dual__put_14 (call : Oracle) (x0 x1 : Int) (x2 : List (List Int)) (x3 : Int) : run1 E call i__i_Dual__put_14 [tI x0, tI x1, tLA8 x2, tI x3] = b__i_Dual__put_14 call x0 x1 x2 x3 := by kernel_rfl
theorem v__i_Dual__put_14 (x0 x1 : Int) (x2 : List (List Int)) (x3 : Int) {o : List TV} (h : b__i_Dual__put_14 R x0 x1 x2 x3 = some o) : R i__i_Dual__put_14 [tI x0, tI x1, tLA8 x2, tI x3] = some o := ev_step ((e__i_Dual__put_14 R x0 x1 x2 x3).trans h)
def b__i_Dual__put (call : Oracle) (a0 : Int × Int × List (List Int)) (a1 : List Int) : Option (List TV) :=
  (call ii_finePart [tI a0.1]).bind fun o1 =>
  bif (a1 == (gA8 o1 0)) then
    some [tPIPILA8 (a0.1, (a0.2.1, a0.2.2))]
  else
    bif (apOk a0.2.2 [a1]) then
      (call i__i_Dual__put_5 [tI a0.1, tI a0.2.1, tLA8 (a0.2.2 ++ [a1]), tI a0.1, tI (wi64 (((List.length (a0.2.2 ++ [a1]) : Nat) : Int) - 1))]).bind fun o14 =>
      (call i__i_Dual__put_11 [tI (gI o14 1), tI (gI o14 2), tLA8 (gLA8 o14 3), tI (gI o14 4)]).bind fun o17 =>
      (call i__i_Dual__put_14 [tI (gI o17 1), tI (gI o17 2), tLA8 (gLA8 o17 3), tI (gI o17 4)]).bind fun o20 =>
      some [tPIPILA8 ((gI o20 1), ((gI o20 2), (gLA8 o20 3)))]
    else none
theorem e__i_Dual__put (call : Oracle) (a0 : Int × Int × List (List Int)) (a1 : List Int) : run1 E call i__i_Dual__put [tPIPILA8 a0, tA8 a1] = b__i_Dual__put call a0 a1 := by kernel_rfl
theorem v__i_Dual__put (a0 : Int × Int × List (List Int)) (a1 : List Int) {o : List TV} (h : b__i_Dual__put R a0 a1 = some o) : R i__i_Dual__put [tPIPILA8 a0, tA8 a1] = some o := ev_step ((e__i_Dual__put R a0 a1).trans h)
def bi_turnPart_4 (call : Oracle) (x0 x1 x2 : List Int) (x3 x4 : Int) (x5 x6 : Int) : Option (List TV) :=
  bif decide (x6 < x5) then
    bif (x3 != 0) then
      bif (decide (0 ≤ x6) && decide (x6 < 8)) then
        bif (x3 != 0) then
          bif (decide (0 ≤ (Int.tmod (wi64 (x6 + x4)) x3)) && decide ((Int.tmod (wi64 (x6 + x4)) x3) < 8)) then
            call ii_turnPart_4 [tA8 x0, tA8 x1, tA8 (List.set x2 (Int.toNat (Int.tmod (wi64 (x6 + x4)) x3)) (wu8 ((Int.tmod (wi64 ((wi64 ((List.getD x0 (Int.toNat x6) 0))) + x4)) x3)))), tI x3, tI x4, tI x5, tI (wi64 (x6 + 1))]
          else none
        else none
      else none
    else none
  else
    some [tI 0, tA8 x1, tA8 x2]
theorem ei_turnPart_4 (call : Oracle) (x0 x1 x2 : List Int) (x3 x4 : Int) (x5 x6 : Int) : run1 E call ii_turnPart_4 [tA8 x0, tA8 x1, tA8 x2, tI x3, tI x4, tI x5, tI x6] = bi_turnPart_4 call x0 x1 x2 x3 x4 x5 x6 := by kernel_rfl
theorem vi_turnPart_4 (x0 x1 x2 : List Int) (x3 x4 : Int) (x5 x6 : Int) {o : List TV} (h : bi_turnPart_4 R x0 x1 x2 x3 x4 x5 x6 = some o) : R ii_turnPart_4 [tA8 x0, tA8 x1, tA8 x2, tI x3, tI x4, tI x5, tI x6] = some o := ev_step ((ei_turnPart_4 R x0 x1 x2 x3 x4 x5 x6).trans h)
def bi_turnPart (call : Oracle) (a0 : List Int) (a1 a2 : Int) : Option (List TV) :=
  bif (a1 != 0) then
    bif (a1 != 0) then
      (call ii_turnPart_4 [tA8 a0, tA8 (List.replicate 8 0), tA8 (List.replicate 8 0), tI a1, tI (Int.tmod (wi64 ((Int.tmod a2 a1) + a1)) a1), tI a1, tI 0]).bind fun o1 =>
      some [tA8 (gA8 o1 2)]
    else none
  else none
theorem ei_turnPart (call : Oracle) (a0 : List Int) (a1 a2 : Int) : run1 E call ii_turnPart [tA8 a0, tI a1, tI a2] = bi_turnPart call a0 a1 a2 := by kernel_rfl
theorem vi_turnPart (a0 : List Int) (a1 a2 : Int) {o : List TV} (h : bi_turnPart R a0 a1 a2 = some o) : R ii_turnPart [tA8 a0, tI a1, tI a2] = some o := ev_step ((ei_turnPart R a0 a1 a2).trans h)
def b__i_Dual__putInverse_4 (call : Oracle) (x0 x1 : Int) (x2 : List (List Int)) (x3 : List Int) (x4 x5 x6 : Int) : Option (List TV) :=
  bif decide (x6 < x5) then
    bif (decide (0 ≤ x6) && decide (x6 < ((List.length x2 : Nat) : Int))) then
      (call ii_turnPart [tA8 (List.getD x2 (Int.toNat x6) (List.replicate 8 0)), tI x4, tI (-1)]).bind fun o2 =>
      bif (decide (0 ≤ x6) && decide (x6 < ((List.length x2 : Nat) : Int))) then
        call i__i_Dual__putInverse_4 [tI x0, tI x1, tLA8 (List.set x2 (Int.toNat x6) (gA8 o2 0)), tA8 x3, tI x4, tI x5, tI (wi64 (x6 + 1))]
      else none
    else none
  else
    some [tI 0, tI x0, tI x1, tLA8 x2, tA8 x3, tI x4]
theorem e__i_Dual__putInverse_4 (call : Oracle) (x0 x1 : Int) (x2 : List (List Int)) (x3 : List Int) (x4 x5 x6 : Int) : run1 E call i__i_Dual__putInverse_4 [tI x0, tI x1, tLA8 x2, tA8 x3, tI x4, tI x5, tI x6] = b__i_Dual__putInverse_4 call x0 x1 x2 x3 x4 x5 x6 := by kernel_rfl
theorem v__i_Dual__putInverse_4 (x0 x1 : Int) (x2 : List (List Int)) (x3 : List Int) (x4 x5 x6 : Int) {o : List TV} (h : b__i_Dual__putInverse_4 R x0 x1 x2 x3 x4 x5 x6 = some o) : R i__i_Dual__putInverse_4 [tI x0, tI x1, tLA8 x2, tA8 x3, tI x4, tI x5, tI x6] = some o := ev_step ((e__i_Dual__putInverse_4 R x0 x1 x2 x3 x4 x5 x6).trans h)
def b__i_Dual__putInverse (call : Oracle) (a0 : Int × Int × List (List Int)) (a1 : List Int) : Option (List TV) :=
  (call i__i_Dual__putInverse_4 [tI a0.1, tI (wi64 (a0.2.1 - 1)), tLA8 a0.2.2, tA8 a1, tI a0.1, tI ((List.length a0.2.2 : Nat) : Int), tI 0]).bind fun o3 =>
  (call ii_wholePart [tI (gI o3 5)]).bind fun o4 =>
  (call ii_backPart [tA8 (gA8 o3 4), tI (gI o3 5)]).bind fun o5 =>
  (call ii_thenPart [tA8 (gA8 o4 0), tA8 (gA8 o5 0), tI (gI o3 5)]).bind fun o6 =>
  (call i__i_Dual__put [tPIPILA8 ((gI o3 1), ((gI o3 2), (gLA8 o3 3))), tA8 (gA8 o6 0)]).bind fun o7 =>
  some [tPIPILA8 ((gPIPILA8 o7 0).1, (((gPIPILA8 o7 0).2).1, ((gPIPILA8 o7 0).2).2))]
theorem e__i_Dual__putInverse (call : Oracle) (a0 : Int × Int × List (List Int)) (a1 : List Int) : run1 E call i__i_Dual__putInverse [tPIPILA8 a0, tA8 a1] = b__i_Dual__putInverse call a0 a1 := by kernel_rfl
theorem v__i_Dual__putInverse (a0 : Int × Int × List (List Int)) (a1 : List Int) {o : List TV} (h : b__i_Dual__putInverse R a0 a1 = some o) : R i__i_Dual__putInverse [tPIPILA8 a0, tA8 a1] = some o := ev_step ((e__i_Dual__putInverse R a0 a1).trans h)
def bi_dualOf_3 (call : Oracle) (x0 : Int) (x1 : List Int) (x2 x3 : Int) (x4 : List (List Int)) (x5 x6 : Int) (x7 : List (List Int)) (x8 x9 : Int) : Option (List TV) :=
  bif decide (x9 < x8) then
    bif (decide (0 ≤ x9) && decide (x9 < ((List.length x1 : Nat) : Int))) then
      (call ii_size [tI (List.getD x1 (Int.toNat x9) 0)]).bind fun o5 =>
      (call ii_exchange [tI (gI o5 0), tI x0]).bind fun o6 =>
      bif decide (0 < (List.getD x1 (Int.toNat x9) 0)) then
        (call i__i_Dual__put [tPIPILA8 (x5, (x6, x7)), tA8 (gA8 o6 0)]).bind fun o7 =>
        call ii_dualOf_3 [tI x0, tLI x1, tI x2, tI x3, tLA8 x4, tI ((gPIPILA8 o7 0).1), tI (((gPIPILA8 o7 0).2).1), tLA8 (((gPIPILA8 o7 0).2).2), tI x8, tI (wi64 (x9 + 1))]
      else
        (call i__i_Dual__putInverse [tPIPILA8 (x5, (x6, x7)), tA8 (gA8 o6 0)]).bind fun o8 =>
        call ii_dualOf_3 [tI x0, tLI x1, tI x2, tI x3, tLA8 x4, tI ((gPIPILA8 o8 0).1), tI (((gPIPILA8 o8 0).2).1), tLA8 (((gPIPILA8 o8 0).2).2), tI x8, tI (wi64 (x9 + 1))]
    else none
  else
    some [tI 0, tI x2, tI x3, tLA8 x4, tI x5, tI x6, tLA8 x7]
theorem ei_dualOf_3 (call : Oracle) (x0 : Int) (x1 : List Int) (x2 x3 : Int) (x4 : List (List Int)) (x5 x6 : Int) (x7 : List (List Int)) (x8 x9 : Int) : run1 E call ii_dualOf_3 [tI x0, tLI x1, tI x2, tI x3, tLA8 x4, tI x5, tI x6, tLA8 x7, tI x8, tI x9] = bi_dualOf_3 call x0 x1 x2 x3 x4 x5 x6 x7 x8 x9 := by kernel_rfl
theorem vi_dualOf_3 (x0 : Int) (x1 : List Int) (x2 x3 : Int) (x4 : List (List Int)) (x5 x6 : Int) (x7 : List (List Int)) (x8 x9 : Int) {o : List TV} (h : bi_dualOf_3 R x0 x1 x2 x3 x4 x5 x6 x7 x8 x9 = some o) : R ii_dualOf_3 [tI x0, tLI x1, tI x2, tI x3, tLA8 x4, tI x5, tI x6, tLA8 x7, tI x8, tI x9] = some o := ev_step ((ei_dualOf_3 R x0 x1 x2 x3 x4 x5 x6 x7 x8 x9).trans h)
def bi_dualOf (call : Oracle) (a0 : Int × List Int) : Option (List TV) :=
  (call ii_dualOf_3 [tI a0.1, tLI a0.2, tI 0, tI 0, tLA8 [], tI a0.1, tI 0, tLA8 [], tI ((List.length a0.2 : Nat) : Int), tI 0]).bind fun o9 =>
  some [tPIPILA8 ((gI o9 4), ((gI o9 5), (gLA8 o9 6)))]
theorem ei_dualOf (call : Oracle) (a0 : Int × List Int) : run1 E call ii_dualOf [tPILI a0] = bi_dualOf call a0 := by kernel_rfl
theorem vi_dualOf (a0 : Int × List Int) {o : List TV} (h : bi_dualOf R a0 = some o) : R ii_dualOf [tPILI a0] = some o := ev_step ((ei_dualOf R a0).trans h)
def bi_DualForm (call : Oracle) (a0 : Int × List Int) : Option (List TV) :=
  (call ii_IsBraid [tPILI (a0.1, a0.2)]).bind fun o1 =>
  bif (!(gB o1 0)) then
    some [tPIPILA8 (0, (0, [])), tI 1]
  else
    (call ii_dualOf [tPILI (a0.1, a0.2)]).bind fun o2 =>
    some [tPIPILA8 ((gPIPILA8 o2 0).1, (((gPIPILA8 o2 0).2).1, ((gPIPILA8 o2 0).2).2)), tI 0]
theorem ei_DualForm (call : Oracle) (a0 : Int × List Int) : run1 E call ii_DualForm [tPILI a0] = bi_DualForm call a0 := by kernel_rfl
theorem vi_DualForm (a0 : Int × List Int) {o : List TV} (h : bi_DualForm R a0 = some o) : R ii_DualForm [tPILI a0] = some o := ev_step ((ei_DualForm R a0).trans h)
def bs_l01In (call : Oracle) (a0 a1 a2 : Int) : Option (List TV) :=
  bif decide (a1 ≤ a0) then
    some [tB (decide (a0 ≤ a2))]
  else
    some [tB false]
theorem es_l01In (call : Oracle) (a0 a1 a2 : Int) : run1 E call is_l01In [tI a0, tI a1, tI a2] = bs_l01In call a0 a1 a2 := by kernel_rfl
theorem vs_l01In (a0 a1 a2 : Int) {o : List TV} (h : bs_l01In R a0 a1 a2 = some o) : R is_l01In [tI a0, tI a1, tI a2] = some o := ev_step ((es_l01In R a0 a1 a2).trans h)
def bs_l01Is_4 (call : Oracle) (x0 : Int) (x1 : List Int) (x2 : Int) : Option (List TV) :=
  bif decide (x2 < ((List.length x1 : Nat) : Int)) then
    bif (decide (0 ≤ x2) && decide (x2 < ((List.length x1 : Nat) : Int))) then
      (call is_l01In [tI (List.getD x1 (Int.toNat x2) 0), tI 1, tI (wi64 (x0 - 1))]).bind fun o4 =>
      bif (!(gB o4 0)) then
        (call is_l01In [tI (wi64 (0 - (List.getD x1 (Int.toNat x2) 0))), tI 1, tI (wi64 (x0 - 1))]).bind fun o5 =>
        bif (!(gB o5 0)) then
          some [tI 1, tB false]
        else
          call is_l01Is_4 [tI x0, tLI x1, tI (wi64 (x2 + 1))]
      else
        call is_l01Is_4 [tI x0, tLI x1, tI (wi64 (x2 + 1))]
    else none
  else
    some [tI 0]
theorem es_l01Is_4 (call : Oracle) (x0 : Int) (x1 : List Int) (x2 : Int) : run1 E call is_l01Is_4 [tI x0, tLI x1, tI x2] = bs_l01Is_4 call x0 x1 x2 := by kernel_rfl
theorem vs_l01Is_4 (x0 : Int) (x1 : List Int) (x2 : Int) {o : List TV} (h : bs_l01Is_4 R x0 x1 x2 = some o) : R is_l01Is_4 [tI x0, tLI x1, tI x2] = some o := ev_step ((es_l01Is_4 R x0 x1 x2).trans h)
def bs_l01Is (call : Oracle) (a0 : Int × List Int) : Option (List TV) :=
  (call is_l01In [tI a0.1, tI 1, tI 8]).bind fun o1 =>
  bif (!(gB o1 0)) then
    some [tB false]
  else
    bif decide (200 < ((List.length a0.2 : Nat) : Int)) then
      some [tB false]
    else
      (call is_l01Is_4 [tI a0.1, tLI a0.2, tI 0]).bind fun o6 =>
      bif ((gI o6 0) == 0) then
        some [tB true]
      else
        some [tB (gB o6 1)]
theorem es_l01Is (call : Oracle) (a0 : Int × List Int) : run1 E call is_l01Is [tPILI a0] = bs_l01Is call a0 := by kernel_rfl
theorem vs_l01Is (a0 : Int × List Int) {o : List TV} (h : bs_l01Is R a0 = some o) : R is_l01Is [tPILI a0] = some o := ev_step ((es_l01Is R a0).trans h)
def bs_l01Strands_3 (call : Oracle) (x0 x1 x2 : List Int) (x3 x4 : Int) : Option (List TV) :=
  bif decide (x4 < x3) then
    bif (decide (0 ≤ x4) && decide (x4 < 8)) then
      call is_l01Strands_3 [tLI x0, tA8 x1, tA8 (List.set x2 (Int.toNat x4) (wu8 (x4))), tI x3, tI (wi64 (x4 + 1))]
    else none
  else
    some [tI 0, tLI x0, tA8 x1, tA8 x2]
theorem es_l01Strands_3 (call : Oracle) (x0 x1 x2 : List Int) (x3 x4 : Int) : run1 E call is_l01Strands_3 [tLI x0, tA8 x1, tA8 x2, tI x3, tI x4] = bs_l01Strands_3 call x0 x1 x2 x3 x4 := by kernel_rfl
theorem vs_l01Strands_3 (x0 x1 x2 : List Int) (x3 x4 : Int) {o : List TV} (h : bs_l01Strands_3 R x0 x1 x2 x3 x4 = some o) : R is_l01Strands_3 [tLI x0, tA8 x1, tA8 x2, tI x3, tI x4] = some o := ev_step ((es_l01Strands_3 R x0 x1 x2 x3 x4).trans h)
end
end Go.Ev.Yteclcmiopobnaaa
