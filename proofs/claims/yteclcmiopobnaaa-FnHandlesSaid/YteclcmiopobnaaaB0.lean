/- Bodies, part 0. -/
import Derived.KernelRfl
import Derived.Test.YteclcmiopobnaaaEnv
set_option linter.unusedVariables false
namespace Go.Ev.Yteclcmiopobnaaa
open Go.Ev
/-- laws.big -/
noncomputable def bw_big (call : Oracle) (a0 : List Int) : Option (List TV) :=
  some [tB (decide (4096 < ((List.length a0 : Nat) : Int)))]
theorem ew_big (call : Oracle) (a0 : List Int) : run1 E call iw_big [tLU8 a0] = bw_big call a0 := by kernel_rfl
theorem vw_big (a0 : List Int) {o : List TV} (h : bw_big R a0 = some o) : R iw_big [tLU8 a0] = some o := ev_step ((ew_big R a0).trans h)
/-- spec.l01From loop 3 -/
noncomputable def bs_l01From_3 (call : Oracle) (x0 : List Int) (x1 : Int) (x2 : Int) (x3 : Int) : Option (List TV) :=
  bif decide (x3 < ((List.length x0 : Nat) : Int)) then
    bif decide (x3 < 4096) then
      bif (decide (0 ≤ x3) && decide (x3 < ((List.length x0 : Nat) : Int))) then
        call is_l01From_3 [tLU8 x0, tI x1, tU64 (wu64 ((wu64 ((wu64 (x2 * 1099511628211)) + (wu64 ((List.getD x0 (Int.toNat x3) 0))))) + 29)), tI (wi64 (x3 + 1))]
      else none
    else
      some [tI 0, tI x1, tU64 x2, tLU8 x0]
  else
    some [tI 0, tI x1, tU64 x2, tLU8 x0]
theorem es_l01From_3 (call : Oracle) (x0 : List Int) (x1 : Int) (x2 : Int) (x3 : Int) : run1 E call is_l01From_3 [tLU8 x0, tI x1, tU64 x2, tI x3] = bs_l01From_3 call x0 x1 x2 x3 := by kernel_rfl
theorem vs_l01From_3 (x0 : List Int) (x1 : Int) (x2 : Int) (x3 : Int) {o : List TV} (h : bs_l01From_3 R x0 x1 x2 x3 = some o) : R is_l01From_3 [tLU8 x0, tI x1, tU64 x2, tI x3] = some o := ev_step ((es_l01From_3 R x0 x1 x2 x3).trans h)
/-- spec.l01From -/
noncomputable def bs_l01From (call : Oracle) (a0 : List Int) : Option (List TV) :=
  (call is_l01From_3 [tLU8 a0, tI 0, tU64 (wu64 (9049 + (wu64 (((List.length a0 : Nat) : Int))))), tI 0]).bind fun o1 =>
  some [tPLU8PIU64 ((gLU8 o1 3), ((gI o1 1), (gU64 o1 2)))]
theorem es_l01From (call : Oracle) (a0 : List Int) : run1 E call is_l01From [tLU8 a0] = bs_l01From call a0 := by kernel_rfl
theorem vs_l01From (a0 : List Int) {o : List TV} (h : bs_l01From R a0 = some o) : R is_l01From [tLU8 a0] = some o := ev_step ((es_l01From R a0).trans h)
/-- spec.l01Next -/
noncomputable def bs_l01Next (call : Oracle) (a0 : List Int × Int × Int) (a1 : Int) : Option (List TV) :=
  bif decide (a1 < 1) then
    some [tI 0, tPLU8PIU64 (a0.1, (a0.2.1, a0.2.2))]
  else
    bif decide (a0.2.1 < ((List.length a0.1 : Nat) : Int)) then
      bif (decide (0 ≤ a0.2.1) && decide (a0.2.1 < ((List.length a0.1 : Nat) : Int))) then
        bif (a1 != 0) then
          some [tI (Int.tmod (wi64 ((wi64 ((bitsAnd .u64 (shr .u64 (wu64 ((wu64 (a0.2.2 * 6364136223846793005)) + 1442695040888963407)) 33) 16777215))) + (wi64 ((List.getD a0.1 (Int.toNat a0.2.1) 0))))) a1), tPLU8PIU64 (a0.1, ((wi64 (a0.2.1 + 1)), (wu64 ((wu64 (a0.2.2 * 6364136223846793005)) + 1442695040888963407))))]
        else none
      else none
    else
      bif (a1 != 0) then
        some [tI (Int.tmod (wi64 ((bitsAnd .u64 (shr .u64 (wu64 ((wu64 (a0.2.2 * 6364136223846793005)) + 1442695040888963407)) 33) 16777215))) a1), tPLU8PIU64 (a0.1, (a0.2.1, (wu64 ((wu64 (a0.2.2 * 6364136223846793005)) + 1442695040888963407))))]
      else none
theorem es_l01Next (call : Oracle) (a0 : List Int × Int × Int) (a1 : Int) : run1 E call is_l01Next [tPLU8PIU64 a0, tI a1] = bs_l01Next call a0 a1 := by kernel_rfl
theorem vs_l01Next (a0 : List Int × Int × Int) (a1 : Int) {o : List TV} (h : bs_l01Next R a0 a1 = some o) : R is_l01Next [tPLU8PIU64 a0, tI a1] = some o := ev_step ((es_l01Next R a0 a1).trans h)
/-- spec.l01Pick -/
noncomputable def bs_l01Pick (call : Oracle) (a0 : List Int × Int × Int) (a1 : List Int) : Option (List TV) :=
  (call is_l01Next [tPLU8PIU64 (a0.1, (a0.2.1, a0.2.2)), tI ((List.length a1 : Nat) : Int)]).bind fun o1 =>
  bif (decide (0 ≤ (gI o1 0)) && decide ((gI o1 0) < ((List.length a1 : Nat) : Int))) then
    some [tI (List.getD a1 (Int.toNat (gI o1 0)) 0), tPLU8PIU64 ((gPLU8PIU64 o1 1).1, (((gPLU8PIU64 o1 1).2).1, ((gPLU8PIU64 o1 1).2).2))]
  else none
theorem es_l01Pick (call : Oracle) (a0 : List Int × Int × Int) (a1 : List Int) : run1 E call is_l01Pick [tPLU8PIU64 a0, tLI a1] = bs_l01Pick call a0 a1 := by kernel_rfl
theorem vs_l01Pick (a0 : List Int × Int × Int) (a1 : List Int) {o : List TV} (h : bs_l01Pick R a0 a1 = some o) : R is_l01Pick [tPLU8PIU64 a0, tLI a1] = some o := ev_step ((es_l01Pick R a0 a1).trans h)
/-- spec.l01Draw loop 6 -/
noncomputable def bs_l01Draw_6 (call : Oracle) (x0 : Int) (x1 : Int) (x2 : List Int) (x3 : List Int) (x4 : Int) (x5 : Int) (x6 : Int) : Option (List TV) :=
  bif decide (0 < x6) then
    (call is_l01Next [tPLU8PIU64 (x2, (x0, x1)), tI (wi64 (x4 - 1))]).bind fun o9 =>
    bif (x5 == 1) then
      bif (apOk x3 [(wi64 (0 - (wi64 (1 + (gI o9 0)))))]) then
        (call is_l01Next [tPLU8PIU64 ((gPLU8PIU64 o9 1).1, (((gPLU8PIU64 o9 1).2).1, ((gPLU8PIU64 o9 1).2).2)), tI 12]).bind fun o10 =>
        bif ((gI o10 0) == 0) then
          bif decide (1 < x6) then
            bif (apOk (x3 ++ [(wi64 (0 - (wi64 (1 + (gI o9 0)))))]) [(wi64 (0 - (wi64 (0 - (wi64 (1 + (gI o9 0)))))))]) then
              call is_l01Draw_6 [tI (((gPLU8PIU64 o10 1).2).1), tU64 (((gPLU8PIU64 o10 1).2).2), tLU8 ((gPLU8PIU64 o10 1).1), tLI ((x3 ++ [(wi64 (0 - (wi64 (1 + (gI o9 0)))))]) ++ [(wi64 (0 - (wi64 (0 - (wi64 (1 + (gI o9 0)))))))]), tI x4, tI x5, tI (wi64 ((wi64 (x6 - 1)) - 1))]
            else none
          else
            call is_l01Draw_6 [tI (((gPLU8PIU64 o10 1).2).1), tU64 (((gPLU8PIU64 o10 1).2).2), tLU8 ((gPLU8PIU64 o10 1).1), tLI (x3 ++ [(wi64 (0 - (wi64 (1 + (gI o9 0)))))]), tI x4, tI x5, tI (wi64 (x6 - 1))]
        else
          call is_l01Draw_6 [tI (((gPLU8PIU64 o10 1).2).1), tU64 (((gPLU8PIU64 o10 1).2).2), tLU8 ((gPLU8PIU64 o10 1).1), tLI (x3 ++ [(wi64 (0 - (wi64 (1 + (gI o9 0)))))]), tI x4, tI x5, tI (wi64 (x6 - 1))]
      else none
    else
      bif decide (1 < x5) then
        (call is_l01Next [tPLU8PIU64 ((gPLU8PIU64 o9 1).1, (((gPLU8PIU64 o9 1).2).1, ((gPLU8PIU64 o9 1).2).2)), tI 2]).bind fun o11 =>
        bif ((gI o11 0) == 0) then
          bif (apOk x3 [(wi64 (0 - (wi64 (1 + (gI o9 0)))))]) then
            (call is_l01Next [tPLU8PIU64 ((gPLU8PIU64 o11 1).1, (((gPLU8PIU64 o11 1).2).1, ((gPLU8PIU64 o11 1).2).2)), tI 12]).bind fun o12 =>
            bif ((gI o12 0) == 0) then
              bif decide (1 < x6) then
                bif (apOk (x3 ++ [(wi64 (0 - (wi64 (1 + (gI o9 0)))))]) [(wi64 (0 - (wi64 (0 - (wi64 (1 + (gI o9 0)))))))]) then
                  call is_l01Draw_6 [tI (((gPLU8PIU64 o12 1).2).1), tU64 (((gPLU8PIU64 o12 1).2).2), tLU8 ((gPLU8PIU64 o12 1).1), tLI ((x3 ++ [(wi64 (0 - (wi64 (1 + (gI o9 0)))))]) ++ [(wi64 (0 - (wi64 (0 - (wi64 (1 + (gI o9 0)))))))]), tI x4, tI x5, tI (wi64 ((wi64 (x6 - 1)) - 1))]
                else none
              else
                call is_l01Draw_6 [tI (((gPLU8PIU64 o12 1).2).1), tU64 (((gPLU8PIU64 o12 1).2).2), tLU8 ((gPLU8PIU64 o12 1).1), tLI (x3 ++ [(wi64 (0 - (wi64 (1 + (gI o9 0)))))]), tI x4, tI x5, tI (wi64 (x6 - 1))]
            else
              call is_l01Draw_6 [tI (((gPLU8PIU64 o12 1).2).1), tU64 (((gPLU8PIU64 o12 1).2).2), tLU8 ((gPLU8PIU64 o12 1).1), tLI (x3 ++ [(wi64 (0 - (wi64 (1 + (gI o9 0)))))]), tI x4, tI x5, tI (wi64 (x6 - 1))]
          else none
        else
          bif (apOk x3 [(wi64 (1 + (gI o9 0)))]) then
            (call is_l01Next [tPLU8PIU64 ((gPLU8PIU64 o11 1).1, (((gPLU8PIU64 o11 1).2).1, ((gPLU8PIU64 o11 1).2).2)), tI 12]).bind fun o13 =>
            bif ((gI o13 0) == 0) then
              bif decide (1 < x6) then
                bif (apOk (x3 ++ [(wi64 (1 + (gI o9 0)))]) [(wi64 (0 - (wi64 (1 + (gI o9 0)))))]) then
                  call is_l01Draw_6 [tI (((gPLU8PIU64 o13 1).2).1), tU64 (((gPLU8PIU64 o13 1).2).2), tLU8 ((gPLU8PIU64 o13 1).1), tLI ((x3 ++ [(wi64 (1 + (gI o9 0)))]) ++ [(wi64 (0 - (wi64 (1 + (gI o9 0)))))]), tI x4, tI x5, tI (wi64 ((wi64 (x6 - 1)) - 1))]
                else none
              else
                call is_l01Draw_6 [tI (((gPLU8PIU64 o13 1).2).1), tU64 (((gPLU8PIU64 o13 1).2).2), tLU8 ((gPLU8PIU64 o13 1).1), tLI (x3 ++ [(wi64 (1 + (gI o9 0)))]), tI x4, tI x5, tI (wi64 (x6 - 1))]
            else
              call is_l01Draw_6 [tI (((gPLU8PIU64 o13 1).2).1), tU64 (((gPLU8PIU64 o13 1).2).2), tLU8 ((gPLU8PIU64 o13 1).1), tLI (x3 ++ [(wi64 (1 + (gI o9 0)))]), tI x4, tI x5, tI (wi64 (x6 - 1))]
          else none
      else
        bif (apOk x3 [(wi64 (1 + (gI o9 0)))]) then
          (call is_l01Next [tPLU8PIU64 ((gPLU8PIU64 o9 1).1, (((gPLU8PIU64 o9 1).2).1, ((gPLU8PIU64 o9 1).2).2)), tI 12]).bind fun o14 =>
          bif ((gI o14 0) == 0) then
            bif decide (1 < x6) then
              bif (apOk (x3 ++ [(wi64 (1 + (gI o9 0)))]) [(wi64 (0 - (wi64 (1 + (gI o9 0)))))]) then
                call is_l01Draw_6 [tI (((gPLU8PIU64 o14 1).2).1), tU64 (((gPLU8PIU64 o14 1).2).2), tLU8 ((gPLU8PIU64 o14 1).1), tLI ((x3 ++ [(wi64 (1 + (gI o9 0)))]) ++ [(wi64 (0 - (wi64 (1 + (gI o9 0)))))]), tI x4, tI x5, tI (wi64 ((wi64 (x6 - 1)) - 1))]
              else none
            else
              call is_l01Draw_6 [tI (((gPLU8PIU64 o14 1).2).1), tU64 (((gPLU8PIU64 o14 1).2).2), tLU8 ((gPLU8PIU64 o14 1).1), tLI (x3 ++ [(wi64 (1 + (gI o9 0)))]), tI x4, tI x5, tI (wi64 (x6 - 1))]
          else
            call is_l01Draw_6 [tI (((gPLU8PIU64 o14 1).2).1), tU64 (((gPLU8PIU64 o14 1).2).2), tLU8 ((gPLU8PIU64 o14 1).1), tLI (x3 ++ [(wi64 (1 + (gI o9 0)))]), tI x4, tI x5, tI (wi64 (x6 - 1))]
        else none
  else
    some [tI 0, tI x0, tU64 x1, tLU8 x2, tLI x3]
theorem es_l01Draw_6 (call : Oracle) (x0 : Int) (x1 : Int) (x2 : List Int) (x3 : List Int) (x4 : Int) (x5 : Int) (x6 : Int) : run1 E call is_l01Draw_6 [tI x0, tU64 x1, tLU8 x2, tLI x3, tI x4, tI x5, tI x6] = bs_l01Draw_6 call x0 x1 x2 x3 x4 x5 x6 := by kernel_rfl
theorem vs_l01Draw_6 (x0 : Int) (x1 : Int) (x2 : List Int) (x3 : List Int) (x4 : Int) (x5 : Int) (x6 : Int) {o : List TV} (h : bs_l01Draw_6 R x0 x1 x2 x3 x4 x5 x6 = some o) : R is_l01Draw_6 [tI x0, tU64 x1, tLU8 x2, tLI x3, tI x4, tI x5, tI x6] = some o := ev_step ((es_l01Draw_6 R x0 x1 x2 x3 x4 x5 x6).trans h)
/-- spec.l01Draw -/
noncomputable def bs_l01Draw (call : Oracle) (a0 : List Int × Int × Int) (a1 : Int) (a2 : Int) : Option (List TV) :=
  bif decide (a1 < 2) then
    some [tLI [], tPLU8PIU64 (a0.1, (a0.2.1, a0.2.2))]
  else
    (call is_l01Next [tPLU8PIU64 (a0.1, (a0.2.1, a0.2.2)), tI 4]).bind fun o1 =>
    (call is_l01Next [tPLU8PIU64 ((gPLU8PIU64 o1 1).1, (((gPLU8PIU64 o1 1).2).1, ((gPLU8PIU64 o1 1).2).2)), tI (wi64 (a2 + 1))]).bind fun o2 =>
    (call is_l01Draw_6 [tI (((gPLU8PIU64 o2 1).2).1), tU64 (((gPLU8PIU64 o2 1).2).2), tLU8 ((gPLU8PIU64 o2 1).1), tLI [], tI a1, tI (gI o1 0), tI (gI o2 0)]).bind fun o15 =>
    some [tLI (gLI o15 4), tPLU8PIU64 ((gLU8 o15 3), ((gI o15 1), (gU64 o15 2)))]
theorem es_l01Draw (call : Oracle) (a0 : List Int × Int × Int) (a1 : Int) (a2 : Int) : run1 E call is_l01Draw [tPLU8PIU64 a0, tI a1, tI a2] = bs_l01Draw call a0 a1 a2 := by kernel_rfl
theorem vs_l01Draw (a0 : List Int × Int × Int) (a1 : Int) (a2 : Int) {o : List TV} (h : bs_l01Draw R a0 a1 a2 = some o) : R is_l01Draw [tPLU8PIU64 a0, tI a1, tI a2] = some o := ev_step ((es_l01Draw R a0 a1 a2).trans h)
/-- spec.l01Own -/
noncomputable def bs_l01Own (call : Oracle) (a0 : List Int) : Option (List TV) :=
  bif (apOk [] a0) then
    some [tLI a0]
  else none
theorem es_l01Own (call : Oracle) (a0 : List Int) : run1 E call is_l01Own [tLI a0] = bs_l01Own call a0 := by kernel_rfl
theorem vs_l01Own (a0 : List Int) {o : List TV} (h : bs_l01Own R a0 = some o) : R is_l01Own [tLI a0] = some o := ev_step ((es_l01Own R a0).trans h)
/-- spec.l01Broken -/
noncomputable def bs_l01Broken (call : Oracle) (a0 : List Int × Int × Int) (a1 : Int × List Int) : Option (List TV) :=
  (call is_l01Next [tPLU8PIU64 (a0.1, (a0.2.1, a0.2.2)), tI 30]).bind fun o1 =>
  bif ((gI o1 0) == 0) then
    (call is_l01Pick [tPLU8PIU64 ((gPLU8PIU64 o1 1).1, (((gPLU8PIU64 o1 1).2).1, ((gPLU8PIU64 o1 1).2).2)), tLI [0, 9, 1, (-1)]]).bind fun o2 =>
    some [tPILI ((gI o2 0), a1.2), tPLU8PIU64 ((gPLU8PIU64 o2 1).1, (((gPLU8PIU64 o2 1).2).1, ((gPLU8PIU64 o2 1).2).2))]
  else
    bif ((gI o1 0) == 1) then
      (call is_l01Own [tLI a1.2]).bind fun o3 =>
      (call is_l01Pick [tPLU8PIU64 ((gPLU8PIU64 o1 1).1, (((gPLU8PIU64 o1 1).2).1, ((gPLU8PIU64 o1 1).2).2)), tLI [0, a1.1, (wi64 (0 - a1.1))]]).bind fun o4 =>
      bif (apOk (gLI o3 0) [(gI o4 0)]) then
        some [tPILI (a1.1, ((gLI o3 0) ++ [(gI o4 0)])), tPLU8PIU64 ((gPLU8PIU64 o4 1).1, (((gPLU8PIU64 o4 1).2).1, ((gPLU8PIU64 o4 1).2).2))]
      else none
    else
      some [tPILI (a1.1, a1.2), tPLU8PIU64 ((gPLU8PIU64 o1 1).1, (((gPLU8PIU64 o1 1).2).1, ((gPLU8PIU64 o1 1).2).2))]
theorem es_l01Broken (call : Oracle) (a0 : List Int × Int × Int) (a1 : Int × List Int) : run1 E call is_l01Broken [tPLU8PIU64 a0, tPILI a1] = bs_l01Broken call a0 a1 := by kernel_rfl
theorem vs_l01Broken (a0 : List Int × Int × Int) (a1 : Int × List Int) {o : List TV} (h : bs_l01Broken R a0 a1 = some o) : R is_l01Broken [tPLU8PIU64 a0, tPILI a1] = some o := ev_step ((es_l01Broken R a0 a1).trans h)
/-- spec.l01DrawBraid -/
noncomputable def bs_l01DrawBraid (call : Oracle) (a0 : List Int × Int × Int) : Option (List TV) :=
  (call is_l01Pick [tPLU8PIU64 (a0.1, (a0.2.1, a0.2.2)), tLI [2, 3, 5]]).bind fun o1 =>
  (call is_l01Next [tPLU8PIU64 ((gPLU8PIU64 o1 1).1, (((gPLU8PIU64 o1 1).2).1, ((gPLU8PIU64 o1 1).2).2)), tI (gI o1 0)]).bind fun o2 =>
  (call is_l01Pick [tPLU8PIU64 ((gPLU8PIU64 o2 1).1, (((gPLU8PIU64 o2 1).2).1, ((gPLU8PIU64 o2 1).2).2)), tLI [4, 10, 20]]).bind fun o3 =>
  (call is_l01Draw [tPLU8PIU64 ((gPLU8PIU64 o3 1).1, (((gPLU8PIU64 o3 1).2).1, ((gPLU8PIU64 o3 1).2).2)), tI (wi64 (2 + (gI o2 0))), tI (gI o3 0)]).bind fun o4 =>
  some [tPILI ((wi64 (2 + (gI o2 0))), (gLI o4 0)), tPLU8PIU64 ((gPLU8PIU64 o4 1).1, (((gPLU8PIU64 o4 1).2).1, ((gPLU8PIU64 o4 1).2).2))]
theorem es_l01DrawBraid (call : Oracle) (a0 : List Int × Int × Int) : run1 E call is_l01DrawBraid [tPLU8PIU64 a0] = bs_l01DrawBraid call a0 := by kernel_rfl
theorem vs_l01DrawBraid (a0 : List Int × Int × Int) {o : List TV} (h : bs_l01DrawBraid R a0 = some o) : R is_l01DrawBraid [tPLU8PIU64 a0] = some o := ev_step ((es_l01DrawBraid R a0).trans h)
/-- spec.l01Spoil -/
noncomputable def bs_l01Spoil (call : Oracle) (a0 : List Int × Int × Int) : Option (List TV) :=
  (call is_l01Next [tPLU8PIU64 (a0.1, (a0.2.1, a0.2.2)), tI 12]).bind fun o1 =>
  bif ((gI o1 0) == 0) then
    (call is_l01Pick [tPLU8PIU64 ((gPLU8PIU64 o1 1).1, (((gPLU8PIU64 o1 1).2).1, ((gPLU8PIU64 o1 1).2).2)), tLI [1, 7, 8]]).bind fun o2 =>
    (call is_l01Draw [tPLU8PIU64 ((gPLU8PIU64 o2 1).1, (((gPLU8PIU64 o2 1).2).1, ((gPLU8PIU64 o2 1).2).2)), tI (gI o2 0), tI 40]).bind fun o3 =>
    (call is_l01Broken [tPLU8PIU64 ((gPLU8PIU64 o3 1).1, (((gPLU8PIU64 o3 1).2).1, ((gPLU8PIU64 o3 1).2).2)), tPILI ((gI o2 0), (gLI o3 0))]).bind fun o4 =>
    some [tPILI ((gPILI o4 0).1, (gPILI o4 0).2), tPLU8PIU64 ((gPLU8PIU64 o4 1).1, (((gPLU8PIU64 o4 1).2).1, ((gPLU8PIU64 o4 1).2).2))]
  else
    (call is_l01DrawBraid [tPLU8PIU64 ((gPLU8PIU64 o1 1).1, (((gPLU8PIU64 o1 1).2).1, ((gPLU8PIU64 o1 1).2).2))]).bind fun o5 =>
    (call is_l01Broken [tPLU8PIU64 ((gPLU8PIU64 o5 1).1, (((gPLU8PIU64 o5 1).2).1, ((gPLU8PIU64 o5 1).2).2)), tPILI ((gPILI o5 0).1, (gPILI o5 0).2)]).bind fun o6 =>
    some [tPILI ((gPILI o6 0).1, (gPILI o6 0).2), tPLU8PIU64 ((gPLU8PIU64 o6 1).1, (((gPLU8PIU64 o6 1).2).1, ((gPLU8PIU64 o6 1).2).2))]
theorem es_l01Spoil (call : Oracle) (a0 : List Int × Int × Int) : run1 E call is_l01Spoil [tPLU8PIU64 a0] = bs_l01Spoil call a0 := by kernel_rfl
theorem vs_l01Spoil (a0 : List Int × Int × Int) {o : List TV} (h : bs_l01Spoil R a0 = some o) : R is_l01Spoil [tPLU8PIU64 a0] = some o := ev_step ((es_l01Spoil R a0).trans h)
/-- spec.DrawFirstHandle -/
noncomputable def bs_DrawFirstHandle (call : Oracle) (a0 : List Int) : Option (List TV) :=
  (call is_l01From [tLU8 a0]).bind fun o1 =>
  (call is_l01Spoil [tPLU8PIU64 ((gPLU8PIU64 o1 0).1, (((gPLU8PIU64 o1 0).2).1, ((gPLU8PIU64 o1 0).2).2))]).bind fun o2 =>
  some [tPILI ((gPILI o2 0).1, (gPILI o2 0).2)]
theorem es_DrawFirstHandle (call : Oracle) (a0 : List Int) : run1 E call is_DrawFirstHandle [tLU8 a0] = bs_DrawFirstHandle call a0 := by kernel_rfl
theorem vs_DrawFirstHandle (a0 : List Int) {o : List TV} (h : bs_DrawFirstHandle R a0 = some o) : R is_DrawFirstHandle [tLU8 a0] = some o := ev_step ((es_DrawFirstHandle R a0).trans h)
/-- impl.within -/
noncomputable def bi_within (call : Oracle) (a0 : Int) (a1 : Int) (a2 : Int) : Option (List TV) :=
  bif decide (a1 ≤ a0) then
    some [tB (decide (a0 ≤ a2))]
  else
    some [tB false]
theorem ei_within (call : Oracle) (a0 : Int) (a1 : Int) (a2 : Int) : run1 E call ii_within [tI a0, tI a1, tI a2] = bi_within call a0 a1 a2 := by kernel_rfl
theorem vi_within (a0 : Int) (a1 : Int) (a2 : Int) {o : List TV} (h : bi_within R a0 a1 a2 = some o) : R ii_within [tI a0, tI a1, tI a2] = some o := ev_step ((ei_within R a0 a1 a2).trans h)
/-- impl.isCount -/
noncomputable def bi_isCount (call : Oracle) (a0 : Int) : Option (List TV) :=
  (call ii_within [tI a0, tI 1, tI 8]).bind fun o1 =>
  some [tB (gB o1 0)]
theorem ei_isCount (call : Oracle) (a0 : Int) : run1 E call ii_isCount [tI a0] = bi_isCount call a0 := by kernel_rfl
theorem vi_isCount (a0 : Int) {o : List TV} (h : bi_isCount R a0 = some o) : R ii_isCount [tI a0] = some o := ev_step ((ei_isCount R a0).trans h)
/-- impl.isLetter -/
noncomputable def bi_isLetter (call : Oracle) (a0 : Int) (a1 : Int) : Option (List TV) :=
  bif (a0 != 0) then
    (call ii_within [tI a0, tI (wi64 (1 - a1)), tI (wi64 (a1 - 1))]).bind fun o1 =>
    some [tB (gB o1 0)]
  else
    some [tB false]
theorem ei_isLetter (call : Oracle) (a0 : Int) (a1 : Int) : run1 E call ii_isLetter [tI a0, tI a1] = bi_isLetter call a0 a1 := by kernel_rfl
theorem vi_isLetter (a0 : Int) (a1 : Int) {o : List TV} (h : bi_isLetter R a0 a1 = some o) : R ii_isLetter [tI a0, tI a1] = some o := ev_step ((ei_isLetter R a0 a1).trans h)
/-- impl.IsBraid loop 4 -/
noncomputable def bi_IsBraid_4 (call : Oracle) (x0 : Int) (x1 : List Int) (x2 : Int) (x3 : Int) : Option (List TV) :=
  bif decide (x3 < x2) then
    bif (decide (0 ≤ x3) && decide (x3 < ((List.length x1 : Nat) : Int))) then
      (call ii_isLetter [tI (List.getD x1 (Int.toNat x3) 0), tI x0]).bind fun o3 =>
      bif (!(gB o3 0)) then
        some [tI 1, tB false]
      else
        call ii_IsBraid_4 [tI x0, tLI x1, tI x2, tI (wi64 (x3 + 1))]
    else none
  else
    some [tI 0]
theorem ei_IsBraid_4 (call : Oracle) (x0 : Int) (x1 : List Int) (x2 : Int) (x3 : Int) : run1 E call ii_IsBraid_4 [tI x0, tLI x1, tI x2, tI x3] = bi_IsBraid_4 call x0 x1 x2 x3 := by kernel_rfl
theorem vi_IsBraid_4 (x0 : Int) (x1 : List Int) (x2 : Int) (x3 : Int) {o : List TV} (h : bi_IsBraid_4 R x0 x1 x2 x3 = some o) : R ii_IsBraid_4 [tI x0, tLI x1, tI x2, tI x3] = some o := ev_step ((ei_IsBraid_4 R x0 x1 x2 x3).trans h)
/-- impl.IsBraid -/
noncomputable def bi_IsBraid (call : Oracle) (a0 : Int × List Int) : Option (List TV) :=
  (call ii_isCount [tI a0.1]).bind fun o1 =>
  bif (!(gB o1 0)) then
    some [tB false]
  else
    bif decide (200 < ((List.length a0.2 : Nat) : Int)) then
      some [tB false]
    else
      (call ii_IsBraid_4 [tI a0.1, tLI a0.2, tI ((List.length a0.2 : Nat) : Int), tI 0]).bind fun o4 =>
      bif ((gI o4 0) == 0) then
        some [tB true]
      else
        some [tB (gB o4 1)]
theorem ei_IsBraid (call : Oracle) (a0 : Int × List Int) : run1 E call ii_IsBraid [tPILI a0] = bi_IsBraid call a0 := by kernel_rfl
theorem vi_IsBraid (a0 : Int × List Int) {o : List TV} (h : bi_IsBraid R a0 = some o) : R ii_IsBraid [tPILI a0] = some o := ev_step ((ei_IsBraid R a0).trans h)
/-- impl.size -/
noncomputable def bi_size (call : Oracle) (a0 : Int) : Option (List TV) :=
  some [tI (mx a0 (wi64 (0 - a0)))]
theorem ei_size (call : Oracle) (a0 : Int) : run1 E call ii_size [tI a0] = bi_size call a0 := by kernel_rfl
theorem vi_size (a0 : Int) {o : List TV} (h : bi_size R a0 = some o) : R ii_size [tI a0] = some o := ev_step ((ei_size R a0).trans h)
/-- impl.beginOf loop 3 -/
noncomputable def bi_beginOf_3 (call : Oracle) (x0 : List Int) (x1 : Int) (x2 : Int) (x3 : Int) : Option (List TV) :=
  bif decide (0 ≤ x3) then
    bif (decide (0 ≤ x3) && decide (x3 < ((List.length x0 : Nat) : Int))) then
      (call ii_size [tI (List.getD x0 (Int.toNat x3) 0)]).bind fun o3 =>
      bif ((gI o3 0) == x2) then
        bif (decide (0 ≤ x3) && decide (x3 < ((List.length x0 : Nat) : Int))) then
          bif (decide (0 ≤ x1) && decide (x1 < ((List.length x0 : Nat) : Int))) then
            some [tI 1, tI x3, tB ((List.getD x0 (Int.toNat x3) 0) == (wi64 (0 - (List.getD x0 (Int.toNat x1) 0))))]
          else none
        else none
      else
        bif ((gI o3 0) == (wi64 (x2 - 1))) then
          some [tI 1, tI 0, tB false]
        else
          call ii_beginOf_3 [tLI x0, tI x1, tI x2, tI (wi64 (x3 - 1))]
    else none
  else
    some [tI 0]
theorem ei_beginOf_3 (call : Oracle) (x0 : List Int) (x1 : Int) (x2 : Int) (x3 : Int) : run1 E call ii_beginOf_3 [tLI x0, tI x1, tI x2, tI x3] = bi_beginOf_3 call x0 x1 x2 x3 := by kernel_rfl
theorem vi_beginOf_3 (x0 : List Int) (x1 : Int) (x2 : Int) (x3 : Int) {o : List TV} (h : bi_beginOf_3 R x0 x1 x2 x3 = some o) : R ii_beginOf_3 [tLI x0, tI x1, tI x2, tI x3] = some o := ev_step ((ei_beginOf_3 R x0 x1 x2 x3).trans h)
/-- impl.beginOf -/
noncomputable def bi_beginOf (call : Oracle) (a0 : List Int) (a1 : Int) : Option (List TV) :=
  bif (decide (0 ≤ a1) && decide (a1 < ((List.length a0 : Nat) : Int))) then
    (call ii_size [tI (List.getD a0 (Int.toNat a1) 0)]).bind fun o1 =>
    (call ii_beginOf_3 [tLI a0, tI a1, tI (gI o1 0), tI (wi64 (a1 - 1))]).bind fun o4 =>
    bif ((gI o4 0) == 0) then
      some [tI 0, tB false]
    else
      some [tI (gI o4 1), tB (gB o4 2)]
  else none
theorem ei_beginOf (call : Oracle) (a0 : List Int) (a1 : Int) : run1 E call ii_beginOf [tLI a0, tI a1] = bi_beginOf call a0 a1 := by kernel_rfl
theorem vi_beginOf (a0 : List Int) (a1 : Int) {o : List TV} (h : bi_beginOf R a0 a1 = some o) : R ii_beginOf [tLI a0, tI a1] = some o := ev_step ((ei_beginOf R a0 a1).trans h)
/-- impl.firstHandle loop 2 -/
noncomputable def bi_firstHandle_2 (call : Oracle) (x0 : List Int) (x1 : Int) (x2 : Int) : Option (List TV) :=
  bif decide (x2 < x1) then
    (call ii_beginOf [tLI x0, tI x2]).bind fun o2 =>
    bif (gB o2 1) then
      some [tI 1, tI (gI o2 0), tI x2, tB true]
    else
      call ii_firstHandle_2 [tLI x0, tI x1, tI (wi64 (x2 + 1))]
  else
    some [tI 0]
theorem ei_firstHandle_2 (call : Oracle) (x0 : List Int) (x1 : Int) (x2 : Int) : run1 E call ii_firstHandle_2 [tLI x0, tI x1, tI x2] = bi_firstHandle_2 call x0 x1 x2 := by kernel_rfl
theorem vi_firstHandle_2 (x0 : List Int) (x1 : Int) (x2 : Int) {o : List TV} (h : bi_firstHandle_2 R x0 x1 x2 = some o) : R ii_firstHandle_2 [tLI x0, tI x1, tI x2] = some o := ev_step ((ei_firstHandle_2 R x0 x1 x2).trans h)
/-- impl.firstHandle -/
noncomputable def bi_firstHandle (call : Oracle) (a0 : List Int) : Option (List TV) :=
  (call ii_firstHandle_2 [tLI a0, tI ((List.length a0 : Nat) : Int), tI 0]).bind fun o3 =>
  bif ((gI o3 0) == 0) then
    some [tI 0, tI 0, tB false]
  else
    some [tI (gI o3 1), tI (gI o3 2), tB (gB o3 3)]
theorem ei_firstHandle (call : Oracle) (a0 : List Int) : run1 E call ii_firstHandle [tLI a0] = bi_firstHandle call a0 := by kernel_rfl
theorem vi_firstHandle (a0 : List Int) {o : List TV} (h : bi_firstHandle R a0 = some o) : R ii_firstHandle [tLI a0] = some o := ev_step ((ei_firstHandle R a0).trans h)
/-- impl.FirstHandle -/
noncomputable def bi_FirstHandle (call : Oracle) (a0 : Int × List Int) : Option (List TV) :=
  (call ii_IsBraid [tPILI (a0.1, a0.2)]).bind fun o1 =>
  bif (!(gB o1 0)) then
    some [tLI [], tI 1]
  else
    (call ii_firstHandle [tLI a0.2]).bind fun o2 =>
    bif (!(gB o2 2)) then
      some [tLI [], tI 4]
    else
      some [tLI [(gI o2 0), (gI o2 1)], tI 0]
theorem ei_FirstHandle (call : Oracle) (a0 : Int × List Int) : run1 E call ii_FirstHandle [tPILI a0] = bi_FirstHandle call a0 := by kernel_rfl
theorem vi_FirstHandle (a0 : Int × List Int) {o : List TV} (h : bi_FirstHandle R a0 = some o) : R ii_FirstHandle [tPILI a0] = some o := ev_step ((ei_FirstHandle R a0).trans h)
/-- spec.l01In -/
noncomputable def bs_l01In (call : Oracle) (a0 : Int) (a1 : Int) (a2 : Int) : Option (List TV) :=
  bif decide (a1 ≤ a0) then
    some [tB (decide (a0 ≤ a2))]
  else
    some [tB false]
theorem es_l01In (call : Oracle) (a0 : Int) (a1 : Int) (a2 : Int) : run1 E call is_l01In [tI a0, tI a1, tI a2] = bs_l01In call a0 a1 a2 := by kernel_rfl
theorem vs_l01In (a0 : Int) (a1 : Int) (a2 : Int) {o : List TV} (h : bs_l01In R a0 a1 a2 = some o) : R is_l01In [tI a0, tI a1, tI a2] = some o := ev_step ((es_l01In R a0 a1 a2).trans h)
/-- spec.l01Is loop 4 -/
noncomputable def bs_l01Is_4 (call : Oracle) (x0 : Int) (x1 : List Int) (x2 : Int) : Option (List TV) :=
  bif decide (x2 < ((List.length x1 : Nat) : Int)) then
    bif (decide (0 ≤ x2) && decide (x2 < ((List.length x1 : Nat) : Int))) then
      (call is_l01In [tI (List.getD x1 (Int.toNat x2) 0), tI 1, tI (wi64 (x0 - 1))]).bind fun o4 =>
      bif (!(gB o4 0)) then
        (call is_l01In [tI (wi64 (0 - (List.getD x1 (Int.toNat x2) 0))), tI 1, tI (wi64 (x0 - 1))]).bind fun o5 =>
        bif (!(gB o5 0)) then
          some [tI 1, tB false]
        else
          call is_l01Is_4 [tI x0, tLI x1, tI (wi64 (x2 + 1))]
      else
        call is_l01Is_4 [tI x0, tLI x1, tI (wi64 (x2 + 1))]
    else none
  else
    some [tI 0]
theorem es_l01Is_4 (call : Oracle) (x0 : Int) (x1 : List Int) (x2 : Int) : run1 E call is_l01Is_4 [tI x0, tLI x1, tI x2] = bs_l01Is_4 call x0 x1 x2 := by kernel_rfl
theorem vs_l01Is_4 (x0 : Int) (x1 : List Int) (x2 : Int) {o : List TV} (h : bs_l01Is_4 R x0 x1 x2 = some o) : R is_l01Is_4 [tI x0, tLI x1, tI x2] = some o := ev_step ((es_l01Is_4 R x0 x1 x2).trans h)
/-- spec.l01Is -/
noncomputable def bs_l01Is (call : Oracle) (a0 : Int × List Int) : Option (List TV) :=
  (call is_l01In [tI a0.1, tI 1, tI 8]).bind fun o1 =>
  bif (!(gB o1 0)) then
    some [tB false]
  else
    bif decide (200 < ((List.length a0.2 : Nat) : Int)) then
      some [tB false]
    else
      (call is_l01Is_4 [tI a0.1, tLI a0.2, tI 0]).bind fun o6 =>
      bif ((gI o6 0) == 0) then
        some [tB true]
      else
        some [tB (gB o6 1)]
theorem es_l01Is (call : Oracle) (a0 : Int × List Int) : run1 E call is_l01Is [tPILI a0] = bs_l01Is call a0 := by kernel_rfl
theorem vs_l01Is (a0 : Int × List Int) {o : List TV} (h : bs_l01Is R a0 = some o) : R is_l01Is [tPILI a0] = some o := ev_step ((es_l01Is R a0).trans h)
/-- spec.l06Index -/
noncomputable def bs_l06Index (call : Oracle) (a0 : Int) : Option (List TV) :=
  some [tI (mx a0 (wi64 (0 - a0)))]
theorem es_l06Index (call : Oracle) (a0 : Int) : run1 E call is_l06Index [tI a0] = bs_l06Index call a0 := by kernel_rfl
theorem vs_l06Index (a0 : Int) {o : List TV} (h : bs_l06Index R a0 = some o) : R is_l06Index [tI a0] = some o := ev_step ((es_l06Index R a0).trans h)
/-- spec.l06Handle loop 2 -/
noncomputable def bs_l06Handle_2 (call : Oracle) (x0 : List Int) (x1 : Int) : Option (List TV) :=
  bif decide (x1 < ((List.length x0 : Nat) : Int)) then
    bif (decide (0 ≤ x1) && decide (x1 < ((List.length x0 : Nat) : Int))) then
      (call is_l06Index [tI (List.getD x0 (Int.toNat x1) 0)]).bind fun o5 =>
      (call is_l06Handle_6 [tLI x0, tI x1, tI (gI o5 0), tI (wi64 (x1 - 1))]).bind fun o6 =>
      bif ((gI o6 0) == 0) then
        call is_l06Handle_2 [tLI (gLI o6 1), tI (wi64 ((gI o6 2) + 1))]
      else
        some [tI 1, tI (gI o6 1), tI (gI o6 2), tB (gB o6 3)]
    else none
  else
    some [tI 0]
theorem es_l06Handle_2 (call : Oracle) (x0 : List Int) (x1 : Int) : run1 E call is_l06Handle_2 [tLI x0, tI x1] = bs_l06Handle_2 call x0 x1 := by kernel_rfl
theorem vs_l06Handle_2 (x0 : List Int) (x1 : Int) {o : List TV} (h : bs_l06Handle_2 R x0 x1 = some o) : R is_l06Handle_2 [tLI x0, tI x1] = some o := ev_step ((es_l06Handle_2 R x0 x1).trans h)
/-- spec.l06Handle loop 6 -/
noncomputable def bs_l06Handle_6 (call : Oracle) (x0 : List Int) (x1 : Int) (x2 : Int) (x3 : Int) : Option (List TV) :=
  bif decide (0 ≤ x3) then
    bif (decide (0 ≤ x3) && decide (x3 < ((List.length x0 : Nat) : Int))) then
      (call is_l06Index [tI (List.getD x0 (Int.toNat x3) 0)]).bind fun o3 =>
      bif (decide (0 ≤ x3) && decide (x3 < ((List.length x0 : Nat) : Int))) then
        bif (decide (0 ≤ x1) && decide (x1 < ((List.length x0 : Nat) : Int))) then
          bif ((List.getD x0 (Int.toNat x3) 0) == (wi64 (0 - (List.getD x0 (Int.toNat x1) 0)))) then
            some [tI 1, tI x3, tI x1, tB true]
          else
            bif ((gI o3 0) == x2) then
              some [tI 0, tLI x0, tI x1]
            else
              bif ((gI o3 0) == (wi64 (x2 - 1))) then
                some [tI 0, tLI x0, tI x1]
              else
                call is_l06Handle_6 [tLI x0, tI x1, tI x2, tI (wi64 (x3 - 1))]
        else none
      else none
    else none
  else
    some [tI 0, tLI x0, tI x1]
theorem es_l06Handle_6 (call : Oracle) (x0 : List Int) (x1 : Int) (x2 : Int) (x3 : Int) : run1 E call is_l06Handle_6 [tLI x0, tI x1, tI x2, tI x3] = bs_l06Handle_6 call x0 x1 x2 x3 := by kernel_rfl
theorem vs_l06Handle_6 (x0 : List Int) (x1 : Int) (x2 : Int) (x3 : Int) {o : List TV} (h : bs_l06Handle_6 R x0 x1 x2 x3 = some o) : R is_l06Handle_6 [tLI x0, tI x1, tI x2, tI x3] = some o := ev_step ((es_l06Handle_6 R x0 x1 x2 x3).trans h)
/-- spec.l06Handle -/
noncomputable def bs_l06Handle (call : Oracle) (a0 : List Int) : Option (List TV) :=
  (call is_l06Handle_2 [tLI a0, tI 0]).bind fun o7 =>
  bif ((gI o7 0) == 0) then
    some [tI 0, tI 0, tB false]
  else
    some [tI (gI o7 1), tI (gI o7 2), tB (gB o7 3)]
theorem es_l06Handle (call : Oracle) (a0 : List Int) : run1 E call is_l06Handle [tLI a0] = bs_l06Handle call a0 := by kernel_rfl
theorem vs_l06Handle (a0 : List Int) {o : List TV} (h : bs_l06Handle R a0 = some o) : R is_l06Handle [tLI a0] = some o := ev_step ((es_l06Handle R a0).trans h)
/-- spec.FirstHandle -/
noncomputable def bs_FirstHandle (call : Oracle) (a0 : Int × List Int) : Option (List TV) :=
  (call is_l01Is [tPILI (a0.1, a0.2)]).bind fun o1 =>
  bif (!(gB o1 0)) then
    some [tLI [], tI 1]
  else
    (call is_l06Handle [tLI a0.2]).bind fun o2 =>
    bif (!(gB o2 2)) then
      some [tLI [], tI 4]
    else
      some [tLI [(gI o2 0), (gI o2 1)], tI 0]
theorem es_FirstHandle (call : Oracle) (a0 : Int × List Int) : run1 E call is_FirstHandle [tPILI a0] = bs_FirstHandle call a0 := by kernel_rfl
theorem vs_FirstHandle (a0 : Int × List Int) {o : List TV} (h : bs_FirstHandle R a0 = some o) : R is_FirstHandle [tPILI a0] = some o := ev_step ((es_FirstHandle R a0).trans h)
/-- spec.DrawReduceHandle loop 5 -/
noncomputable def bs_DrawReduceHandle_5 (call : Oracle) (x0 : Int) (x1 : List Int) (x2 : Int) (x3 : List Int) (x4 : Int) : Option (List TV) :=
  bif decide (0 < x4) then
    bif (apOk x3 [2]) then
      call is_DrawReduceHandle_5 [tI x0, tLI x1, tI x2, tLI (x3 ++ [2]), tI (wi64 (x4 - 1))]
    else none
  else
    some [tI 0, tI x0, tLI x1, tI x2, tLI x3]
theorem es_DrawReduceHandle_5 (call : Oracle) (x0 : Int) (x1 : List Int) (x2 : Int) (x3 : List Int) (x4 : Int) : run1 E call is_DrawReduceHandle_5 [tI x0, tLI x1, tI x2, tLI x3, tI x4] = bs_DrawReduceHandle_5 call x0 x1 x2 x3 x4 := by kernel_rfl
theorem vs_DrawReduceHandle_5 (x0 : Int) (x1 : List Int) (x2 : Int) (x3 : List Int) (x4 : Int) {o : List TV} (h : bs_DrawReduceHandle_5 R x0 x1 x2 x3 x4 = some o) : R is_DrawReduceHandle_5 [tI x0, tLI x1, tI x2, tLI x3, tI x4] = some o := ev_step ((es_DrawReduceHandle_5 R x0 x1 x2 x3 x4).trans h)
/-- spec.DrawReduceHandle -/
noncomputable def bs_DrawReduceHandle (call : Oracle) (a0 : List Int) : Option (List TV) :=
  (call is_l01From [tLU8 a0]).bind fun o1 =>
  (call is_l01Next [tPLU8PIU64 ((gPLU8PIU64 o1 0).1, (((gPLU8PIU64 o1 0).2).1, ((gPLU8PIU64 o1 0).2).2)), tI 24]).bind fun o2 =>
  bif ((gI o2 0) == 0) then
    (call is_l01Pick [tPLU8PIU64 ((gPLU8PIU64 o2 1).1, (((gPLU8PIU64 o2 1).2).1, ((gPLU8PIU64 o2 1).2).2)), tLI [66, 67, 80, 198]]).bind fun o3 =>
    (call is_DrawReduceHandle_5 [tI 0, tLI [], tI 3, tLI [1], tI (gI o3 0)]).bind fun o4 =>
    bif (apOk (gLI o4 4) [(-1)]) then
      some [tPILI ((gI o4 3), ((gLI o4 4) ++ [(-1)]))]
    else none
  else
    (call is_l01Spoil [tPLU8PIU64 ((gPLU8PIU64 o2 1).1, (((gPLU8PIU64 o2 1).2).1, ((gPLU8PIU64 o2 1).2).2))]).bind fun o5 =>
    some [tPILI ((gPILI o5 0).1, (gPILI o5 0).2)]
theorem es_DrawReduceHandle (call : Oracle) (a0 : List Int) : run1 E call is_DrawReduceHandle [tLU8 a0] = bs_DrawReduceHandle call a0 := by kernel_rfl
theorem vs_DrawReduceHandle (a0 : List Int) {o : List TV} (h : bs_DrawReduceHandle R a0 = some o) : R is_DrawReduceHandle [tLU8 a0] = some o := ev_step ((es_DrawReduceHandle R a0).trans h)
/-- impl.sign -/
noncomputable def bi_sign (call : Oracle) (a0 : Int) : Option (List TV) :=
  bif decide (0 < a0) then
    some [tI 1]
  else
    some [tI (-1)]
theorem ei_sign (call : Oracle) (a0 : Int) : run1 E call ii_sign [tI a0] = bi_sign call a0 := by kernel_rfl
theorem vi_sign (a0 : Int) {o : List TV} (h : bi_sign R a0 = some o) : R ii_sign [tI a0] = some o := ev_step ((ei_sign R a0).trans h)
/-- impl.reduced loop 5 -/
noncomputable def bi_reduced_5 (call : Oracle) (x0 : List Int) (x1 : List Int) (x2 : List Int) (x3 : Int) (x4 : Int) (x5 : Int) (x6 : Int) (x7 : Int) : Option (List TV) :=
  bif decide (x7 < x6) then
    bif (decide (0 ≤ x7) && decide (x7 < ((List.length x2 : Nat) : Int))) then
      (call ii_size [tI (List.getD x2 (Int.toNat x7) 0)]).bind fun o5 =>
      bif ((gI o5 0) == (wi64 (x4 + 1))) then
        (call ii_sign [tI (List.getD x2 (Int.toNat x7) 0)]).bind fun o6 =>
        bif (apOk x1 [x5, (wi64 (x4 * (gI o6 0))), (wi64 (0 - x5))]) then
          call ii_reduced_5 [tLI x0, tLI (x1 ++ [x5, (wi64 (x4 * (gI o6 0))), (wi64 (0 - x5))]), tLI x2, tI x3, tI x4, tI x5, tI x6, tI (wi64 (x7 + 1))]
        else none
      else
        bif (apOk x1 [(List.getD x2 (Int.toNat x7) 0)]) then
          call ii_reduced_5 [tLI x0, tLI (x1 ++ [(List.getD x2 (Int.toNat x7) 0)]), tLI x2, tI x3, tI x4, tI x5, tI x6, tI (wi64 (x7 + 1))]
        else none
    else none
  else
    some [tI 0, tLI x0, tLI x1, tI x3]
theorem ei_reduced_5 (call : Oracle) (x0 : List Int) (x1 : List Int) (x2 : List Int) (x3 : Int) (x4 : Int) (x5 : Int) (x6 : Int) (x7 : Int) : run1 E call ii_reduced_5 [tLI x0, tLI x1, tLI x2, tI x3, tI x4, tI x5, tI x6, tI x7] = bi_reduced_5 call x0 x1 x2 x3 x4 x5 x6 x7 := by kernel_rfl
theorem vi_reduced_5 (x0 : List Int) (x1 : List Int) (x2 : List Int) (x3 : Int) (x4 : Int) (x5 : Int) (x6 : Int) (x7 : Int) {o : List TV} (h : bi_reduced_5 R x0 x1 x2 x3 x4 x5 x6 x7 = some o) : R ii_reduced_5 [tLI x0, tLI x1, tLI x2, tI x3, tI x4, tI x5, tI x6, tI x7] = some o := ev_step ((ei_reduced_5 R x0 x1 x2 x3 x4 x5 x6 x7).trans h)
/-- impl.reduced -/
noncomputable def bi_reduced (call : Oracle) (a0 : List Int) (a1 : Int) (a2 : Int) : Option (List TV) :=
  bif (decide (0 ≤ a2) && decide (a2 < ((List.length a0 : Nat) : Int))) then
    (call ii_size [tI (List.getD a0 (Int.toNat a2) 0)]).bind fun o1 =>
    bif (decide (0 ≤ a2) && decide (a2 < ((List.length a0 : Nat) : Int))) then
      (call ii_sign [tI (List.getD a0 (Int.toNat a2) 0)]).bind fun o2 =>
      bif (decide (0 ≤ a1) && decide (a1 ≤ ((List.length a0 : Nat) : Int))) then
        bif (apOk [] (List.take (Int.toNat a1) a0)) then
          bif ((decide (0 ≤ (wi64 (a1 + 1))) && decide ((wi64 (a1 + 1)) ≤ a2)) && decide (a2 ≤ ((List.length a0 : Nat) : Int))) then
            (call ii_reduced_5 [tLI a0, tLI (List.take (Int.toNat a1) a0), tLI (List.drop (Int.toNat (wi64 (a1 + 1))) (List.take (Int.toNat a2) a0)), tI a2, tI (gI o1 0), tI (wi64 ((wi64 ((gI o1 0) + 1)) * (gI o2 0))), tI ((List.length (List.drop (Int.toNat (wi64 (a1 + 1))) (List.take (Int.toNat a2) a0)) : Nat) : Int), tI 0]).bind fun o7 =>
            bif (decide (0 ≤ (wi64 ((gI o7 3) + 1))) && decide ((wi64 ((gI o7 3) + 1)) ≤ ((List.length (gLI o7 1) : Nat) : Int))) then
              bif (apOk (gLI o7 2) (List.drop (Int.toNat (wi64 ((gI o7 3) + 1))) (gLI o7 1))) then
                some [tLI ((gLI o7 2) ++ (List.drop (Int.toNat (wi64 ((gI o7 3) + 1))) (gLI o7 1)))]
              else none
            else none
          else none
        else none
      else none
    else none
  else none
theorem ei_reduced (call : Oracle) (a0 : List Int) (a1 : Int) (a2 : Int) : run1 E call ii_reduced [tLI a0, tI a1, tI a2] = bi_reduced call a0 a1 a2 := by kernel_rfl
theorem vi_reduced (a0 : List Int) (a1 : Int) (a2 : Int) {o : List TV} (h : bi_reduced R a0 a1 a2 = some o) : R ii_reduced [tLI a0, tI a1, tI a2] = some o := ev_step ((ei_reduced R a0 a1 a2).trans h)
/-- impl.ReduceHandle -/
noncomputable def bi_ReduceHandle (call : Oracle) (a0 : Int × List Int) : Option (List TV) :=
  (call ii_IsBraid [tPILI (a0.1, a0.2)]).bind fun o1 =>
  bif (!(gB o1 0)) then
    some [tPILI (0, []), tI 1]
  else
    (call ii_firstHandle [tLI a0.2]).bind fun o2 =>
    bif (!(gB o2 2)) then
      some [tPILI (0, []), tI 4]
    else
      (call ii_reduced [tLI a0.2, tI (gI o2 0), tI (gI o2 1)]).bind fun o3 =>
      bif decide (200 < ((List.length (gLI o3 0) : Nat) : Int)) then
        some [tPILI (0, []), tI 3]
      else
        some [tPILI (a0.1, (gLI o3 0)), tI 0]
theorem ei_ReduceHandle (call : Oracle) (a0 : Int × List Int) : run1 E call ii_ReduceHandle [tPILI a0] = bi_ReduceHandle call a0 := by kernel_rfl
theorem vi_ReduceHandle (a0 : Int × List Int) {o : List TV} (h : bi_ReduceHandle R a0 = some o) : R ii_ReduceHandle [tPILI a0] = some o := ev_step ((ei_ReduceHandle R a0).trans h)
/-- spec.l06Step loop 5 -/
noncomputable def bs_l06Step_5 (call : Oracle) (x0 : List Int) (x1 : List Int) (x2 : Int) (x3 : Int) (x4 : Int) (x5 : Int) : Option (List TV) :=
  bif decide (x5 < x2) then
    bif (decide (0 ≤ x5) && decide (x5 < ((List.length x0 : Nat) : Int))) then
      (call is_l06Index [tI (List.getD x0 (Int.toNat x5) 0)]).bind fun o4 =>
      bif ((gI o4 0) != (wi64 (x3 + 1))) then
        bif (apOk x1 [(List.getD x0 (Int.toNat x5) 0)]) then
          call is_l06Step_5 [tLI x0, tLI (x1 ++ [(List.getD x0 (Int.toNat x5) 0)]), tI x2, tI x3, tI x4, tI (wi64 (x5 + 1))]
        else none
      else
        bif decide ((List.getD x0 (Int.toNat x5) 0) < 0) then
          bif (apOk x1 [(wi64 (x4 * (wi64 (x3 + 1)))), (wi64 (0 - x3)), (wi64 ((wi64 (0 - x4)) * (wi64 (x3 + 1))))]) then
            call is_l06Step_5 [tLI x0, tLI (x1 ++ [(wi64 (x4 * (wi64 (x3 + 1)))), (wi64 (0 - x3)), (wi64 ((wi64 (0 - x4)) * (wi64 (x3 + 1))))]), tI x2, tI x3, tI x4, tI (wi64 (x5 + 1))]
          else none
        else
          bif (apOk x1 [(wi64 (x4 * (wi64 (x3 + 1)))), x3, (wi64 ((wi64 (0 - x4)) * (wi64 (x3 + 1))))]) then
            call is_l06Step_5 [tLI x0, tLI (x1 ++ [(wi64 (x4 * (wi64 (x3 + 1)))), x3, (wi64 ((wi64 (0 - x4)) * (wi64 (x3 + 1))))]), tI x2, tI x3, tI x4, tI (wi64 (x5 + 1))]
          else none
    else none
  else
    some [tI 0, tLI x0, tLI x1, tI x2]
theorem es_l06Step_5 (call : Oracle) (x0 : List Int) (x1 : List Int) (x2 : Int) (x3 : Int) (x4 : Int) (x5 : Int) : run1 E call is_l06Step_5 [tLI x0, tLI x1, tI x2, tI x3, tI x4, tI x5] = bs_l06Step_5 call x0 x1 x2 x3 x4 x5 := by kernel_rfl
theorem vs_l06Step_5 (x0 : List Int) (x1 : List Int) (x2 : Int) (x3 : Int) (x4 : Int) (x5 : Int) {o : List TV} (h : bs_l06Step_5 R x0 x1 x2 x3 x4 x5 = some o) : R is_l06Step_5 [tLI x0, tLI x1, tI x2, tI x3, tI x4, tI x5] = some o := ev_step ((es_l06Step_5 R x0 x1 x2 x3 x4 x5).trans h)
/-- spec.l06Step -/
noncomputable def bs_l06Step (call : Oracle) (a0 : List Int) (a1 : Int) (a2 : Int) : Option (List TV) :=
  bif (decide (0 ≤ a1) && decide (a1 ≤ ((List.length a0 : Nat) : Int))) then
    (call is_l01Own [tLI (List.take (Int.toNat a1) a0)]).bind fun o1 =>
    bif (decide (0 ≤ a1) && decide (a1 < ((List.length a0 : Nat) : Int))) then
      (call is_l06Index [tI (List.getD a0 (Int.toNat a1) 0)]).bind fun o2 =>
      bif (decide (0 ≤ a2) && decide (a2 < ((List.length a0 : Nat) : Int))) then
        bif decide ((List.getD a0 (Int.toNat a2) 0) < 0) then
          (call is_l06Step_5 [tLI a0, tLI (gLI o1 0), tI a2, tI (gI o2 0), tI (-1), tI (wi64 (a1 + 1))]).bind fun o5 =>
          bif (decide (0 ≤ (wi64 ((gI o5 3) + 1))) && decide ((wi64 ((gI o5 3) + 1)) ≤ ((List.length (gLI o5 1) : Nat) : Int))) then
            bif (apOk (gLI o5 2) (List.drop (Int.toNat (wi64 ((gI o5 3) + 1))) (gLI o5 1))) then
              some [tLI ((gLI o5 2) ++ (List.drop (Int.toNat (wi64 ((gI o5 3) + 1))) (gLI o5 1)))]
            else none
          else none
        else
          (call is_l06Step_5 [tLI a0, tLI (gLI o1 0), tI a2, tI (gI o2 0), tI 1, tI (wi64 (a1 + 1))]).bind fun o6 =>
          bif (decide (0 ≤ (wi64 ((gI o6 3) + 1))) && decide ((wi64 ((gI o6 3) + 1)) ≤ ((List.length (gLI o6 1) : Nat) : Int))) then
            bif (apOk (gLI o6 2) (List.drop (Int.toNat (wi64 ((gI o6 3) + 1))) (gLI o6 1))) then
              some [tLI ((gLI o6 2) ++ (List.drop (Int.toNat (wi64 ((gI o6 3) + 1))) (gLI o6 1)))]
            else none
          else none
      else none
    else none
  else none
theorem es_l06Step (call : Oracle) (a0 : List Int) (a1 : Int) (a2 : Int) : run1 E call is_l06Step [tLI a0, tI a1, tI a2] = bs_l06Step call a0 a1 a2 := by kernel_rfl
theorem vs_l06Step (a0 : List Int) (a1 : Int) (a2 : Int) {o : List TV} (h : bs_l06Step R a0 a1 a2 = some o) : R is_l06Step [tLI a0, tI a1, tI a2] = some o := ev_step ((es_l06Step R a0 a1 a2).trans h)
/-- spec.ReduceHandle -/
noncomputable def bs_ReduceHandle (call : Oracle) (a0 : Int × List Int) : Option (List TV) :=
  (call is_l01Is [tPILI (a0.1, a0.2)]).bind fun o1 =>
  bif (!(gB o1 0)) then
    some [tPILI (0, []), tI 1]
  else
    (call is_l06Handle [tLI a0.2]).bind fun o2 =>
    bif (!(gB o2 2)) then
      some [tPILI (0, []), tI 4]
    else
      (call is_l06Step [tLI a0.2, tI (gI o2 0), tI (gI o2 1)]).bind fun o3 =>
      bif decide (200 < ((List.length (gLI o3 0) : Nat) : Int)) then
        some [tPILI (0, []), tI 3]
      else
        some [tPILI (a0.1, (gLI o3 0)), tI 0]
theorem es_ReduceHandle (call : Oracle) (a0 : Int × List Int) : run1 E call is_ReduceHandle [tPILI a0] = bs_ReduceHandle call a0 := by kernel_rfl
theorem vs_ReduceHandle (a0 : Int × List Int) {o : List TV} (h : bs_ReduceHandle R a0 = some o) : R is_ReduceHandle [tPILI a0] = some o := ev_step ((es_ReduceHandle R a0).trans h)
/-- laws.likeInts loop 4 -/
noncomputable def bw_likeInts_4 (call : Oracle) (x0 : List Int) (x1 : List Int) (x2 : Int) : Option (List TV) :=
  bif decide (x2 < ((List.length x0 : Nat) : Int)) then
    bif (decide (0 ≤ x2) && decide (x2 < ((List.length x0 : Nat) : Int))) then
      bif (decide (0 ≤ x2) && decide (x2 < ((List.length x1 : Nat) : Int))) then
        bif ((List.getD x0 (Int.toNat x2) 0) != (List.getD x1 (Int.toNat x2) 0)) then
          some [tI 1, tB false]
        else
          call iw_likeInts_4 [tLI x0, tLI x1, tI (wi64 (x2 + 1))]
      else none
    else none
  else
    some [tI 0]
theorem ew_likeInts_4 (call : Oracle) (x0 : List Int) (x1 : List Int) (x2 : Int) : run1 E call iw_likeInts_4 [tLI x0, tLI x1, tI x2] = bw_likeInts_4 call x0 x1 x2 := by kernel_rfl
theorem vw_likeInts_4 (x0 : List Int) (x1 : List Int) (x2 : Int) {o : List TV} (h : bw_likeInts_4 R x0 x1 x2 = some o) : R iw_likeInts_4 [tLI x0, tLI x1, tI x2] = some o := ev_step ((ew_likeInts_4 R x0 x1 x2).trans h)
/-- laws.likeInts -/
noncomputable def bw_likeInts (call : Oracle) (a0 : List Int) (a1 : List Int) : Option (List TV) :=
  bif (((List.length a0 : Nat) : Int) != ((List.length a1 : Nat) : Int)) then
    some [tB false]
  else
    (call iw_likeInts_4 [tLI a0, tLI a1, tI 0]).bind fun o1 =>
    bif ((gI o1 0) == 0) then
      some [tB true]
    else
      some [tB (gB o1 1)]
theorem ew_likeInts (call : Oracle) (a0 : List Int) (a1 : List Int) : run1 E call iw_likeInts [tLI a0, tLI a1] = bw_likeInts call a0 a1 := by kernel_rfl
theorem vw_likeInts (a0 : List Int) (a1 : List Int) {o : List TV} (h : bw_likeInts R a0 a1 = some o) : R iw_likeInts [tLI a0, tLI a1] = some o := ev_step ((ew_likeInts R a0 a1).trans h)
/-- laws.braid5 -/
noncomputable def bw_braid5 (call : Oracle) (a0 : Int × List Int) (a1 : Int × List Int) : Option (List TV) :=
  bif (a0.1 == a1.1) then
    (call iw_likeInts [tLI a0.2, tLI a1.2]).bind fun o1 =>
    some [tB (gB o1 0)]
  else
    some [tB false]
theorem ew_braid5 (call : Oracle) (a0 : Int × List Int) (a1 : Int × List Int) : run1 E call iw_braid5 [tPILI a0, tPILI a1] = bw_braid5 call a0 a1 := by kernel_rfl
theorem vw_braid5 (a0 : Int × List Int) (a1 : Int × List Int) {o : List TV} (h : bw_braid5 R a0 a1 = some o) : R iw_braid5 [tPILI a0, tPILI a1] = some o := ev_step ((ew_braid5 R a0 a1).trans h)
/-- impl.strandsOf loop 3 -/
noncomputable def bi_strandsOf_3 (call : Oracle) (x0 : List Int) (x1 : Int) (x2 : Int) : Option (List TV) :=
  bif decide (x2 < x1) then
    bif (apOk x0 [x2]) then
      call ii_strandsOf_3 [tLI (x0 ++ [x2]), tI x1, tI (wi64 (x2 + 1))]
    else none
  else
    some [tI 0, tLI x0]
theorem ei_strandsOf_3 (call : Oracle) (x0 : List Int) (x1 : Int) (x2 : Int) : run1 E call ii_strandsOf_3 [tLI x0, tI x1, tI x2] = bi_strandsOf_3 call x0 x1 x2 := by kernel_rfl
theorem vi_strandsOf_3 (x0 : List Int) (x1 : Int) (x2 : Int) {o : List TV} (h : bi_strandsOf_3 R x0 x1 x2 = some o) : R ii_strandsOf_3 [tLI x0, tI x1, tI x2] = some o := ev_step ((ei_strandsOf_3 R x0 x1 x2).trans h)
/-- impl.strandsOf -/
noncomputable def bi_strandsOf (call : Oracle) (a0 : Int) : Option (List TV) :=
  (call ii_strandsOf_3 [tLI [], tI a0, tI 0]).bind fun o1 =>
  some [tLI (gLI o1 1)]
theorem ei_strandsOf (call : Oracle) (a0 : Int) : run1 E call ii_strandsOf [tI a0] = bi_strandsOf call a0 := by kernel_rfl
theorem vi_strandsOf (a0 : Int) {o : List TV} (h : bi_strandsOf R a0 = some o) : R ii_strandsOf [tI a0] = some o := ev_step ((ei_strandsOf R a0).trans h)
/-- impl.endsOf$1 -/
noncomputable def bi_endsOfK1 (call : Oracle) (a0 : Int) (a1 : Int) (a2 : Int) : Option (List TV) :=
  some []
theorem ei_endsOfK1 (call : Oracle) (a0 : Int) (a1 : Int) (a2 : Int) : run1 E call ii_endsOfK1 [tI a0, tI a1, tI a2] = bi_endsOfK1 call a0 a1 a2 := by kernel_rfl
theorem vi_endsOfK1 (a0 : Int) (a1 : Int) (a2 : Int) {o : List TV} (h : bi_endsOfK1 R a0 a1 a2 = some o) : R ii_endsOfK1 [tI a0, tI a1, tI a2] = some o := ev_step ((ei_endsOfK1 R a0 a1 a2).trans h)
/-- impl.follow loop 3 -/
noncomputable def bi_follow_3 (call : Oracle) (x0 : List Int) (x1 : List Int) (x2 : Int) (x3 : Int) : Option (List TV) :=
  bif decide (x3 < x2) then
    bif (decide (0 ≤ x3) && decide (x3 < ((List.length x1 : Nat) : Int))) then
      (call ii_size [tI (List.getD x1 (Int.toNat x3) 0)]).bind fun o4 =>
      bif (decide (0 ≤ (wi64 ((gI o4 0) - 1))) && decide ((wi64 ((gI o4 0) - 1)) < ((List.length x0 : Nat) : Int))) then
        bif (decide (0 ≤ (gI o4 0)) && decide ((gI o4 0) < ((List.length x0 : Nat) : Int))) then
          (call ii_endsOfK1 [tI (List.getD x0 (Int.toNat (wi64 ((gI o4 0) - 1))) 0), tI (List.getD x0 (Int.toNat (gI o4 0)) 0), tI (List.getD x1 (Int.toNat x3) 0)]).bind fun o5 =>
          bif (decide (0 ≤ (gI o4 0)) && decide ((gI o4 0) < ((List.length x0 : Nat) : Int))) then
            bif (decide (0 ≤ (wi64 ((gI o4 0) - 1))) && decide ((wi64 ((gI o4 0) - 1)) < ((List.length x0 : Nat) : Int))) then
              bif (decide (0 ≤ (wi64 ((gI o4 0) - 1))) && decide ((wi64 ((gI o4 0) - 1)) < ((List.length x0 : Nat) : Int))) then
                bif (decide (0 ≤ (gI o4 0)) && decide ((gI o4 0) < ((List.length (List.set x0 (Int.toNat (wi64 ((gI o4 0) - 1))) (List.getD x0 (Int.toNat (gI o4 0)) 0)) : Nat) : Int))) then
                  call ii_follow_3 [tLI (List.set (List.set x0 (Int.toNat (wi64 ((gI o4 0) - 1))) (List.getD x0 (Int.toNat (gI o4 0)) 0)) (Int.toNat (gI o4 0)) (List.getD x0 (Int.toNat (wi64 ((gI o4 0) - 1))) 0)), tLI x1, tI x2, tI (wi64 (x3 + 1))]
                else none
              else none
            else none
          else none
        else none
      else none
    else none
  else
    some [tI 0, tLI x0]
theorem ei_follow_3 (call : Oracle) (x0 : List Int) (x1 : List Int) (x2 : Int) (x3 : Int) : run1 E call ii_follow_3 [tLI x0, tLI x1, tI x2, tI x3] = bi_follow_3 call x0 x1 x2 x3 := by kernel_rfl
theorem vi_follow_3 (x0 : List Int) (x1 : List Int) (x2 : Int) (x3 : Int) {o : List TV} (h : bi_follow_3 R x0 x1 x2 x3 = some o) : R ii_follow_3 [tLI x0, tLI x1, tI x2, tI x3] = some o := ev_step ((ei_follow_3 R x0 x1 x2 x3).trans h)
/-- impl.follow -/
noncomputable def bi_follow (call : Oracle) (a0 : Int × List Int) : Option (List TV) :=
  (call ii_strandsOf [tI a0.1]).bind fun o1 =>
  (call ii_follow_3 [tLI (gLI o1 0), tLI a0.2, tI ((List.length a0.2 : Nat) : Int), tI 0]).bind fun o6 =>
  some [tLI (gLI o6 1)]
theorem ei_follow (call : Oracle) (a0 : Int × List Int) : run1 E call ii_follow [tPILI a0] = bi_follow call a0 := by kernel_rfl
theorem vi_follow (a0 : Int × List Int) {o : List TV} (h : bi_follow R a0 = some o) : R ii_follow [tPILI a0] = some o := ev_step ((ei_follow R a0).trans h)
/-- impl.endsOf loop 3 -/
noncomputable def bi_endsOf_3 (call : Oracle) (x0 : List Int) (x1 : List Int) (x2 : Int) (x3 : Int) : Option (List TV) :=
  bif decide (x3 < x2) then
    bif (decide (0 ≤ x3) && decide (x3 < ((List.length x1 : Nat) : Int))) then
      bif (decide (0 ≤ (List.getD x1 (Int.toNat x3) 0)) && decide ((List.getD x1 (Int.toNat x3) 0) < ((List.length x0 : Nat) : Int))) then
        call ii_endsOf_3 [tLI (List.set x0 (Int.toNat (List.getD x1 (Int.toNat x3) 0)) x3), tLI x1, tI x2, tI (wi64 (x3 + 1))]
      else none
    else none
  else
    some [tI 0, tLI x0]
theorem ei_endsOf_3 (call : Oracle) (x0 : List Int) (x1 : List Int) (x2 : Int) (x3 : Int) : run1 E call ii_endsOf_3 [tLI x0, tLI x1, tI x2, tI x3] = bi_endsOf_3 call x0 x1 x2 x3 := by kernel_rfl
theorem vi_endsOf_3 (x0 : List Int) (x1 : List Int) (x2 : Int) (x3 : Int) {o : List TV} (h : bi_endsOf_3 R x0 x1 x2 x3 = some o) : R ii_endsOf_3 [tLI x0, tLI x1, tI x2, tI x3] = some o := ev_step ((ei_endsOf_3 R x0 x1 x2 x3).trans h)
/-- impl.endsOf -/
noncomputable def bi_endsOf (call : Oracle) (a0 : Int × List Int) : Option (List TV) :=
  bif (mkOk a0.1) then
    (call ii_follow [tPILI (a0.1, a0.2)]).bind fun o1 =>
    (call ii_endsOf_3 [tLI (List.replicate (Int.toNat a0.1) 0), tLI (gLI o1 0), tI ((List.length (gLI o1 0) : Nat) : Int), tI 0]).bind fun o2 =>
    some [tLI (gLI o2 1)]
  else none
theorem ei_endsOf (call : Oracle) (a0 : Int × List Int) : run1 E call ii_endsOf [tPILI a0] = bi_endsOf call a0 := by kernel_rfl
theorem vi_endsOf (a0 : Int × List Int) {o : List TV} (h : bi_endsOf R a0 = some o) : R ii_endsOf [tPILI a0] = some o := ev_step ((ei_endsOf R a0).trans h)
/-- impl.EndsOf -/
noncomputable def bi_EndsOf (call : Oracle) (a0 : Int × List Int) : Option (List TV) :=
  (call ii_IsBraid [tPILI (a0.1, a0.2)]).bind fun o1 =>
  bif (!(gB o1 0)) then
    some [tLI [], tI 1]
  else
    (call ii_endsOf [tPILI (a0.1, a0.2)]).bind fun o2 =>
    some [tLI (gLI o2 0), tI 0]
theorem ei_EndsOf (call : Oracle) (a0 : Int × List Int) : run1 E call ii_EndsOf [tPILI a0] = bi_EndsOf call a0 := by kernel_rfl
theorem vi_EndsOf (a0 : Int × List Int) {o : List TV} (h : bi_EndsOf R a0 = some o) : R ii_EndsOf [tPILI a0] = some o := ev_step ((ei_EndsOf R a0).trans h)
/-- impl.SumOf loop 5 -/
noncomputable def bi_SumOf_5 (call : Oracle) (x0 : List Int) (x1 : Int) (x2 : Int) (x3 : Int) : Option (List TV) :=
  bif decide (x3 < x2) then
    bif (decide (0 ≤ x3) && decide (x3 < ((List.length x0 : Nat) : Int))) then
      (call ii_sign [tI (List.getD x0 (Int.toNat x3) 0)]).bind fun o3 =>
      call ii_SumOf_5 [tLI x0, tI (wi64 (x1 + (gI o3 0))), tI x2, tI (wi64 (x3 + 1))]
    else none
  else
    some [tI 0, tI x1]
theorem ei_SumOf_5 (call : Oracle) (x0 : List Int) (x1 : Int) (x2 : Int) (x3 : Int) : run1 E call ii_SumOf_5 [tLI x0, tI x1, tI x2, tI x3] = bi_SumOf_5 call x0 x1 x2 x3 := by kernel_rfl
theorem vi_SumOf_5 (x0 : List Int) (x1 : Int) (x2 : Int) (x3 : Int) {o : List TV} (h : bi_SumOf_5 R x0 x1 x2 x3 = some o) : R ii_SumOf_5 [tLI x0, tI x1, tI x2, tI x3] = some o := ev_step ((ei_SumOf_5 R x0 x1 x2 x3).trans h)
/-- impl.SumOf -/
noncomputable def bi_SumOf (call : Oracle) (a0 : Int × List Int) : Option (List TV) :=
  (call ii_IsBraid [tPILI (a0.1, a0.2)]).bind fun o1 =>
  bif (!(gB o1 0)) then
    some [tI 0, tI 1]
  else
    (call ii_SumOf_5 [tLI a0.2, tI 0, tI ((List.length a0.2 : Nat) : Int), tI 0]).bind fun o4 =>
    some [tI (gI o4 1), tI 0]
theorem ei_SumOf (call : Oracle) (a0 : Int × List Int) : run1 E call ii_SumOf [tPILI a0] = bi_SumOf call a0 := by kernel_rfl
theorem vi_SumOf (a0 : Int × List Int) {o : List TV} (h : bi_SumOf R a0 = some o) : R ii_SumOf [tPILI a0] = some o := ev_step ((ei_SumOf R a0).trans h)
/-- spec.l06Draw -/
noncomputable def bs_l06Draw (call : Oracle) (a0 : List Int × Int × Int) : Option (List TV) :=
  (call is_l01Spoil [tPLU8PIU64 (a0.1, (a0.2.1, a0.2.2))]).bind fun o1 =>
  bif decide (24 < ((List.length ((gPILI o1 0).2) : Nat) : Int)) then
    (call is_l01Next [tPLU8PIU64 ((gPLU8PIU64 o1 1).1, (((gPLU8PIU64 o1 1).2).1, ((gPLU8PIU64 o1 1).2).2)), tI 3]).bind fun o2 =>
    bif decide (0 < (gI o2 0)) then
      bif decide (24 ≤ ((List.length ((gPILI o1 0).2) : Nat) : Int)) then
        (call is_l01Own [tLI (List.take 24 ((gPILI o1 0).2))]).bind fun o3 =>
        some [tPILI ((gPILI o1 0).1, (gLI o3 0)), tPLU8PIU64 ((gPLU8PIU64 o2 1).1, (((gPLU8PIU64 o2 1).2).1, ((gPLU8PIU64 o2 1).2).2))]
      else none
    else
      some [tPILI ((gPILI o1 0).1, (gPILI o1 0).2), tPLU8PIU64 ((gPLU8PIU64 o2 1).1, (((gPLU8PIU64 o2 1).2).1, ((gPLU8PIU64 o2 1).2).2))]
  else
    some [tPILI ((gPILI o1 0).1, (gPILI o1 0).2), tPLU8PIU64 ((gPLU8PIU64 o1 1).1, (((gPLU8PIU64 o1 1).2).1, ((gPLU8PIU64 o1 1).2).2))]
theorem es_l06Draw (call : Oracle) (a0 : List Int × Int × Int) : run1 E call is_l06Draw [tPLU8PIU64 a0] = bs_l06Draw call a0 := by kernel_rfl
theorem vs_l06Draw (a0 : List Int × Int × Int) {o : List TV} (h : bs_l06Draw R a0 = some o) : R is_l06Draw [tPLU8PIU64 a0] = some o := ev_step ((es_l06Draw R a0).trans h)
/-- spec.DrawHandleFree -/
noncomputable def bs_DrawHandleFree (call : Oracle) (a0 : List Int) : Option (List TV) :=
  (call is_l01From [tLU8 a0]).bind fun o1 =>
  (call is_l06Draw [tPLU8PIU64 ((gPLU8PIU64 o1 0).1, (((gPLU8PIU64 o1 0).2).1, ((gPLU8PIU64 o1 0).2).2))]).bind fun o2 =>
  some [tPILI ((gPILI o2 0).1, (gPILI o2 0).2)]
theorem es_DrawHandleFree (call : Oracle) (a0 : List Int) : run1 E call is_DrawHandleFree [tLU8 a0] = bs_DrawHandleFree call a0 := by kernel_rfl
theorem vs_DrawHandleFree (a0 : List Int) {o : List TV} (h : bs_DrawHandleFree R a0 = some o) : R is_DrawHandleFree [tLU8 a0] = some o := ev_step ((es_DrawHandleFree R a0).trans h)
/-- impl.reduction loop 3 -/
noncomputable def bi_reduction_3 (call : Oracle) (x0 : List Int) (x1 : Int) : Option (List TV) :=
  bif decide (2000 < ((List.length x0 : Nat) : Int)) then
    some [tI 0, tLI [], tI 3]
  else
    (call ii_firstHandle [tLI x0]).bind fun o3 =>
    bif (!(gB o3 2)) then
      some [tI 0, tLI x0, tI 0]
    else
      bif (x1 == 3000) then
        some [tI 0, tLI [], tI 3]
      else
        (call ii_reduced [tLI x0, tI (gI o3 0), tI (gI o3 1)]).bind fun o4 =>
        call ii_reduction_3 [tLI (gLI o4 0), tI (wi64 (x1 + 1))]
theorem ei_reduction_3 (call : Oracle) (x0 : List Int) (x1 : Int) : run1 E call ii_reduction_3 [tLI x0, tI x1] = bi_reduction_3 call x0 x1 := by kernel_rfl
theorem vi_reduction_3 (x0 : List Int) (x1 : Int) {o : List TV} (h : bi_reduction_3 R x0 x1 = some o) : R ii_reduction_3 [tLI x0, tI x1] = some o := ev_step ((ei_reduction_3 R x0 x1).trans h)
/-- impl.reduction -/
noncomputable def bi_reduction (call : Oracle) (a0 : List Int) : Option (List TV) :=
  (call ii_reduction_3 [tLI a0, tI 0]).bind fun o5 =>
  some [tLI (gLI o5 1), tI (gI o5 2)]
theorem ei_reduction (call : Oracle) (a0 : List Int) : run1 E call ii_reduction [tLI a0] = bi_reduction call a0 := by kernel_rfl
theorem vi_reduction (a0 : List Int) {o : List TV} (h : bi_reduction R a0 = some o) : R ii_reduction [tLI a0] = some o := ev_step ((ei_reduction R a0).trans h)
/-- impl.HandleFree -/
noncomputable def bi_HandleFree (call : Oracle) (a0 : Int × List Int) : Option (List TV) :=
  (call ii_IsBraid [tPILI (a0.1, a0.2)]).bind fun o1 =>
  bif (!(gB o1 0)) then
    some [tPILI (0, []), tI 1]
  else
    (call ii_reduction [tLI a0.2]).bind fun o2 =>
    bif ((gI o2 1) != 0) then
      some [tPILI (0, []), tI (gI o2 1)]
    else
      bif decide (200 < ((List.length (gLI o2 0) : Nat) : Int)) then
        some [tPILI (0, []), tI 3]
      else
        bif (apOk [] (gLI o2 0)) then
          some [tPILI (a0.1, (gLI o2 0)), tI 0]
        else none
theorem ei_HandleFree (call : Oracle) (a0 : Int × List Int) : run1 E call ii_HandleFree [tPILI a0] = bi_HandleFree call a0 := by kernel_rfl
theorem vi_HandleFree (a0 : Int × List Int) {o : List TV} (h : bi_HandleFree R a0 = some o) : R ii_HandleFree [tPILI a0] = some o := ev_step ((ei_HandleFree R a0).trans h)
/-- spec.l06Reduce loop 3 -/
noncomputable def bs_l06Reduce_3 (call : Oracle) (x0 : List Int) (x1 : Int) : Option (List TV) :=
  bif decide (2000 < ((List.length x0 : Nat) : Int)) then
    some [tI 0, tLI [], tB false]
  else
    (call is_l06Handle [tLI x0]).bind fun o3 =>
    bif (!(gB o3 2)) then
      some [tI 0, tLI x0, tB true]
    else
      bif (x1 == 3000) then
        some [tI 0, tLI [], tB false]
      else
        (call is_l06Step [tLI x0, tI (gI o3 0), tI (gI o3 1)]).bind fun o4 =>
        call is_l06Reduce_3 [tLI (gLI o4 0), tI (wi64 (x1 + 1))]
theorem es_l06Reduce_3 (call : Oracle) (x0 : List Int) (x1 : Int) : run1 E call is_l06Reduce_3 [tLI x0, tI x1] = bs_l06Reduce_3 call x0 x1 := by kernel_rfl
theorem vs_l06Reduce_3 (x0 : List Int) (x1 : Int) {o : List TV} (h : bs_l06Reduce_3 R x0 x1 = some o) : R is_l06Reduce_3 [tLI x0, tI x1] = some o := ev_step ((es_l06Reduce_3 R x0 x1).trans h)
/-- spec.l06Reduce -/
noncomputable def bs_l06Reduce (call : Oracle) (a0 : List Int) : Option (List TV) :=
  (call is_l06Reduce_3 [tLI a0, tI 0]).bind fun o5 =>
  some [tLI (gLI o5 1), tB (gB o5 2)]
theorem es_l06Reduce (call : Oracle) (a0 : List Int) : run1 E call is_l06Reduce [tLI a0] = bs_l06Reduce call a0 := by kernel_rfl
theorem vs_l06Reduce (a0 : List Int) {o : List TV} (h : bs_l06Reduce R a0 = some o) : R is_l06Reduce [tLI a0] = some o := ev_step ((es_l06Reduce R a0).trans h)
/-- spec.HandleFree -/
noncomputable def bs_HandleFree (call : Oracle) (a0 : Int × List Int) : Option (List TV) :=
  (call is_l01Is [tPILI (a0.1, a0.2)]).bind fun o1 =>
  bif (!(gB o1 0)) then
    some [tPILI (0, []), tI 1]
  else
    (call is_l06Reduce [tLI a0.2]).bind fun o2 =>
    bif (!(gB o2 1)) then
      some [tPILI (0, []), tI 3]
    else
      bif decide (200 < ((List.length (gLI o2 0) : Nat) : Int)) then
        some [tPILI (0, []), tI 3]
      else
        (call is_l01Own [tLI (gLI o2 0)]).bind fun o3 =>
        some [tPILI (a0.1, (gLI o3 0)), tI 0]
theorem es_HandleFree (call : Oracle) (a0 : Int × List Int) : run1 E call is_HandleFree [tPILI a0] = bs_HandleFree call a0 := by kernel_rfl
theorem vs_HandleFree (a0 : Int × List Int) {o : List TV} (h : bs_HandleFree R a0 = some o) : R is_HandleFree [tPILI a0] = some o := ev_step ((es_HandleFree R a0).trans h)
/-- impl.mainOf loop 3 -/
noncomputable def bi_mainOf_3 (call : Oracle) (x0 : List Int) (x1 : Int) (x2 : Bool) (x3 : Int) (x4 : Int) : Option (List TV) :=
  bif decide (x4 < x3) then
    bif (decide (0 ≤ x4) && decide (x4 < ((List.length x0 : Nat) : Int))) then
      bif (x1 == 0) then
        call ii_mainOf_3 [tLI x0, tI (List.getD x0 (Int.toNat x4) 0), tB false, tI x3, tI (wi64 (x4 + 1))]
      else
        (call ii_size [tI (List.getD x0 (Int.toNat x4) 0)]).bind fun o3 =>
        (call ii_size [tI x1]).bind fun o4 =>
        bif decide ((gI o3 0) < (gI o4 0)) then
          call ii_mainOf_3 [tLI x0, tI (List.getD x0 (Int.toNat x4) 0), tB false, tI x3, tI (wi64 (x4 + 1))]
        else
          bif ((List.getD x0 (Int.toNat x4) 0) == (wi64 (0 - x1))) then
            call ii_mainOf_3 [tLI x0, tI x1, tB true, tI x3, tI (wi64 (x4 + 1))]
          else
            call ii_mainOf_3 [tLI x0, tI x1, tB x2, tI x3, tI (wi64 (x4 + 1))]
    else none
  else
    some [tI 0, tI x1, tB x2]
theorem ei_mainOf_3 (call : Oracle) (x0 : List Int) (x1 : Int) (x2 : Bool) (x3 : Int) (x4 : Int) : run1 E call ii_mainOf_3 [tLI x0, tI x1, tB x2, tI x3, tI x4] = bi_mainOf_3 call x0 x1 x2 x3 x4 := by kernel_rfl
theorem vi_mainOf_3 (x0 : List Int) (x1 : Int) (x2 : Bool) (x3 : Int) (x4 : Int) {o : List TV} (h : bi_mainOf_3 R x0 x1 x2 x3 x4 = some o) : R ii_mainOf_3 [tLI x0, tI x1, tB x2, tI x3, tI x4] = some o := ev_step ((ei_mainOf_3 R x0 x1 x2 x3 x4).trans h)
end Go.Ev.Yteclcmiopobnaaa
