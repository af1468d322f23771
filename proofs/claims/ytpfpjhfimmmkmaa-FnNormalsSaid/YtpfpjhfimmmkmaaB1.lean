/- Bodies, part 1. -/
import Derived.KernelRfl
import Derived.Test.YtpfpjhfimmmkmaaEnv
set_option linter.unusedVariables false
namespace Go.Ev.Ytpfpjhfimmmkmaa
open Go.Ev
/-- spec.l02Back -/
noncomputable def bs_l02Back (call : Oracle) (a0 : List Int) (a1 : Int) : Option (List TV) :=
  (call is_l02Back_3 [tA8 a0, tA8 (List.replicate 8 0), tA8 (List.replicate 8 0), tI a1, tI 0]).bind fun o1 =>
  some [tA8 (gA8 o1 2)]
theorem es_l02Back (call : Oracle) (a0 : List Int) (a1 : Int) : run1 E call is_l02Back [tA8 a0, tI a1] = bs_l02Back call a0 a1 := by kernel_rfl
theorem vs_l02Back (a0 : List Int) (a1 : Int) {o : List TV} (h : bs_l02Back R a0 a1 = some o) : R is_l02Back [tA8 a0, tI a1] = some o := ev_step ((es_l02Back R a0 a1).trans h)
/-- spec.l02Left -/
noncomputable def bs_l02Left (call : Oracle) (a0 : List Int) (a1 : Int) : Option (List TV) :=
  (call is_l02Half [tI a1]).bind fun o1 =>
  (call is_l02Back [tA8 a0, tI a1]).bind fun o2 =>
  (call is_l02Then [tA8 (gA8 o1 0), tA8 (gA8 o2 0), tI a1]).bind fun o3 =>
  some [tA8 (gA8 o3 0)]
theorem es_l02Left (call : Oracle) (a0 : List Int) (a1 : Int) : run1 E call is_l02Left [tA8 a0, tI a1] = bs_l02Left call a0 a1 := by kernel_rfl
theorem vs_l02Left (a0 : List Int) (a1 : Int) {o : List TV} (h : bs_l02Left R a0 a1 = some o) : R is_l02Left [tA8 a0, tI a1] = some o := ev_step ((es_l02Left R a0 a1).trans h)
/-- spec.l02Complement -/
noncomputable def bs_l02Complement (call : Oracle) (a0 : List Int) (a1 : Int) : Option (List TV) :=
  (call is_l02Back [tA8 a0, tI a1]).bind fun o1 =>
  (call is_l02Half [tI a1]).bind fun o2 =>
  (call is_l02Then [tA8 (gA8 o1 0), tA8 (gA8 o2 0), tI a1]).bind fun o3 =>
  some [tA8 (gA8 o3 0)]
theorem es_l02Complement (call : Oracle) (a0 : List Int) (a1 : Int) : run1 E call is_l02Complement [tA8 a0, tI a1] = bs_l02Complement call a0 a1 := by kernel_rfl
theorem vs_l02Complement (a0 : List Int) (a1 : Int) {o : List TV} (h : bs_l02Complement R a0 a1 = some o) : R is_l02Complement [tA8 a0, tI a1] = some o := ev_step ((es_l02Complement R a0 a1).trans h)
/-- spec.l02Meet loop 3 -/
noncomputable def bs_l02Meet_3 (call : Oracle) (x0 : List Int) (x1 : List Int) (x2 : List Int) (x3 : List Int) (x4 : Int) (x5 : Int) : Option (List TV) :=
  bif decide (x5 < x4) then
    bif (decide (0 ≤ (wi64 (x5 - 1))) && decide ((wi64 (x5 - 1)) < 8)) then
      bif (decide (0 ≤ x5) && decide (x5 < 8)) then
        bif decide ((List.getD x0 (Int.toNat x5) 0) < (List.getD x0 (Int.toNat (wi64 (x5 - 1))) 0)) then
          bif (decide (0 ≤ (wi64 (x5 - 1))) && decide ((wi64 (x5 - 1)) < 8)) then
            bif (decide (0 ≤ x5) && decide (x5 < 8)) then
              bif decide ((List.getD x1 (Int.toNat x5) 0) < (List.getD x1 (Int.toNat (wi64 (x5 - 1))) 0)) then
                (call is_l02Exchange [tI x4, tI x5]).bind fun o6 =>
                (call is_l02Then [tA8 x3, tA8 (gA8 o6 0), tI x4]).bind fun o7 =>
                (call is_l02Then [tA8 (gA8 o6 0), tA8 x0, tI x4]).bind fun o8 =>
                (call is_l02Then [tA8 (gA8 o6 0), tA8 x1, tI x4]).bind fun o9 =>
                call is_l02Meet_3 [tA8 (gA8 o8 0), tA8 (gA8 o9 0), tA8 x2, tA8 (gA8 o7 0), tI x4, tI 1]
              else
                call is_l02Meet_3 [tA8 x0, tA8 x1, tA8 x2, tA8 x3, tI x4, tI (wi64 (x5 + 1))]
            else none
          else none
        else
          call is_l02Meet_3 [tA8 x0, tA8 x1, tA8 x2, tA8 x3, tI x4, tI (wi64 (x5 + 1))]
      else none
    else none
  else
    some [tI 0, tA8 x2, tA8 x3]
theorem es_l02Meet_3 (call : Oracle) (x0 : List Int) (x1 : List Int) (x2 : List Int) (x3 : List Int) (x4 : Int) (x5 : Int) : run1 E call is_l02Meet_3 [tA8 x0, tA8 x1, tA8 x2, tA8 x3, tI x4, tI x5] = bs_l02Meet_3 call x0 x1 x2 x3 x4 x5 := by kernel_rfl
theorem vs_l02Meet_3 (x0 : List Int) (x1 : List Int) (x2 : List Int) (x3 : List Int) (x4 : Int) (x5 : Int) {o : List TV} (h : bs_l02Meet_3 R x0 x1 x2 x3 x4 x5 = some o) : R is_l02Meet_3 [tA8 x0, tA8 x1, tA8 x2, tA8 x3, tI x4, tI x5] = some o := ev_step ((es_l02Meet_3 R x0 x1 x2 x3 x4 x5).trans h)
/-- spec.l02Meet -/
noncomputable def bs_l02Meet (call : Oracle) (a0 : List Int) (a1 : List Int) (a2 : Int) : Option (List TV) :=
  (call is_l02Same [tI a2]).bind fun o1 =>
  (call is_l02Meet_3 [tA8 a0, tA8 a1, tA8 (List.replicate 8 0), tA8 (gA8 o1 0), tI a2, tI 1]).bind fun o10 =>
  some [tA8 (gA8 o10 2)]
theorem es_l02Meet (call : Oracle) (a0 : List Int) (a1 : List Int) (a2 : Int) : run1 E call is_l02Meet [tA8 a0, tA8 a1, tI a2] = bs_l02Meet call a0 a1 a2 := by kernel_rfl
theorem vs_l02Meet (a0 : List Int) (a1 : List Int) (a2 : Int) {o : List TV} (h : bs_l02Meet R a0 a1 a2 = some o) : R is_l02Meet [tA8 a0, tA8 a1, tI a2] = some o := ev_step ((es_l02Meet R a0 a1 a2).trans h)
/-- spec.l03Weigh loop 3 -/
noncomputable def bs_l03Weigh_3 (call : Oracle) (x0 : List (List Int)) (x1 : Int) (x2 : Bool) : Option (List TV) :=
  bif x2 then
    (call is_l03Weigh_6 [tLA8 x0, tI x1, tB false, tI (wi64 (((List.length x0 : Nat) : Int) - 2))]).bind fun o14 =>
    call is_l03Weigh_3 [tLA8 (gLA8 o14 1), tI (gI o14 2), tB (gB o14 3)]
  else
    some [tI 0, tLA8 x0]
theorem es_l03Weigh_3 (call : Oracle) (x0 : List (List Int)) (x1 : Int) (x2 : Bool) : run1 E call is_l03Weigh_3 [tLA8 x0, tI x1, tB x2] = bs_l03Weigh_3 call x0 x1 x2 := by kernel_rfl
theorem vs_l03Weigh_3 (x0 : List (List Int)) (x1 : Int) (x2 : Bool) {o : List TV} (h : bs_l03Weigh_3 R x0 x1 x2 = some o) : R is_l03Weigh_3 [tLA8 x0, tI x1, tB x2] = some o := ev_step ((es_l03Weigh_3 R x0 x1 x2).trans h)
/-- spec.l03Weigh loop 6 -/
noncomputable def bs_l03Weigh_6 (call : Oracle) (x0 : List (List Int)) (x1 : Int) (x2 : Bool) (x3 : Int) : Option (List TV) :=
  bif decide (0 ≤ x3) then
    bif (decide (0 ≤ x3) && decide (x3 < ((List.length x0 : Nat) : Int))) then
      (call is_l02Complement [tA8 (List.getD x0 (Int.toNat x3) (List.replicate 8 0)), tI x1]).bind fun o7 =>
      bif (decide (0 ≤ (wi64 (x3 + 1))) && decide ((wi64 (x3 + 1)) < ((List.length x0 : Nat) : Int))) then
        (call is_l02Meet [tA8 (gA8 o7 0), tA8 (List.getD x0 (Int.toNat (wi64 (x3 + 1))) (List.replicate 8 0)), tI x1]).bind fun o8 =>
        (call is_l02Same [tI x1]).bind fun o9 =>
        bif ((gA8 o8 0) == (gA8 o9 0)) then
          call is_l03Weigh_6 [tLA8 x0, tI x1, tB x2, tI (wi64 (x3 - 1))]
        else
          bif (decide (0 ≤ x3) && decide (x3 < ((List.length x0 : Nat) : Int))) then
            (call is_l02Then [tA8 (List.getD x0 (Int.toNat x3) (List.replicate 8 0)), tA8 (gA8 o8 0), tI x1]).bind fun o10 =>
            bif (decide (0 ≤ x3) && decide (x3 < ((List.length x0 : Nat) : Int))) then
              (call is_l02Back [tA8 (gA8 o8 0), tI x1]).bind fun o11 =>
              bif (decide (0 ≤ (wi64 (x3 + 1))) && decide ((wi64 (x3 + 1)) < ((List.length (List.set x0 (Int.toNat x3) (gA8 o10 0)) : Nat) : Int))) then
                (call is_l02Then [tA8 (gA8 o11 0), tA8 (List.getD (List.set x0 (Int.toNat x3) (gA8 o10 0)) (Int.toNat (wi64 (x3 + 1))) (List.replicate 8 0)), tI x1]).bind fun o12 =>
                bif (decide (0 ≤ (wi64 (x3 + 1))) && decide ((wi64 (x3 + 1)) < ((List.length (List.set x0 (Int.toNat x3) (gA8 o10 0)) : Nat) : Int))) then
                  call is_l03Weigh_6 [tLA8 (List.set (List.set x0 (Int.toNat x3) (gA8 o10 0)) (Int.toNat (wi64 (x3 + 1))) (gA8 o12 0)), tI x1, tB true, tI (wi64 (x3 - 1))]
                else none
              else none
            else none
          else none
      else none
    else none
  else
    some [tI 0, tLA8 x0, tI x1, tB x2]
theorem es_l03Weigh_6 (call : Oracle) (x0 : List (List Int)) (x1 : Int) (x2 : Bool) (x3 : Int) : run1 E call is_l03Weigh_6 [tLA8 x0, tI x1, tB x2, tI x3] = bs_l03Weigh_6 call x0 x1 x2 x3 := by kernel_rfl
theorem vs_l03Weigh_6 (x0 : List (List Int)) (x1 : Int) (x2 : Bool) (x3 : Int) {o : List TV} (h : bs_l03Weigh_6 R x0 x1 x2 x3 = some o) : R is_l03Weigh_6 [tLA8 x0, tI x1, tB x2, tI x3] = some o := ev_step ((es_l03Weigh_6 R x0 x1 x2 x3).trans h)
/-- spec.l03Weigh -/
noncomputable def bs_l03Weigh (call : Oracle) (a0 : List (List Int)) (a1 : Int) : Option (List TV) :=
  bif (apOk [] a0) then
    (call is_l03Weigh_3 [tLA8 a0, tI a1, tB true]).bind fun o15 =>
    some [tLA8 (gLA8 o15 1)]
  else none
theorem es_l03Weigh (call : Oracle) (a0 : List (List Int)) (a1 : Int) : run1 E call is_l03Weigh [tLA8 a0, tI a1] = bs_l03Weigh call a0 a1 := by kernel_rfl
theorem vs_l03Weigh (a0 : List (List Int)) (a1 : Int) {o : List TV} (h : bs_l03Weigh R a0 a1 = some o) : R is_l03Weigh [tLA8 a0, tI a1] = some o := ev_step ((es_l03Weigh R a0 a1).trans h)
/-- spec.l03Make loop 4 -/
noncomputable def bs_l03Make_4 (call : Oracle) (x0 : List (List Int)) (x1 : Int) (x2 : Int) (x3 : List (List Int)) (x4 : Int) (x5 : Int) (x6 : Int) (x7 : Int) : Option (List TV) :=
  bif decide (x6 < x7) then
    bif (decide (0 ≤ x6) && decide (x6 < ((List.length x0 : Nat) : Int))) then
      (call is_l02Half [tI x4]).bind fun o3 =>
      bif ((List.getD x0 (Int.toNat x6) (List.replicate 8 0)) == (gA8 o3 0)) then
        call is_l03Make_4 [tLA8 x0, tI x1, tI x2, tLA8 x3, tI x4, tI (wi64 (x5 + 1)), tI (wi64 (x6 + 1)), tI x7]
      else
        some [tI 0, tLA8 x0, tI x1, tI x2, tLA8 x3, tI x4, tI x5, tI x6, tI x7]
    else none
  else
    some [tI 0, tLA8 x0, tI x1, tI x2, tLA8 x3, tI x4, tI x5, tI x6, tI x7]
theorem es_l03Make_4 (call : Oracle) (x0 : List (List Int)) (x1 : Int) (x2 : Int) (x3 : List (List Int)) (x4 : Int) (x5 : Int) (x6 : Int) (x7 : Int) : run1 E call is_l03Make_4 [tLA8 x0, tI x1, tI x2, tLA8 x3, tI x4, tI x5, tI x6, tI x7] = bs_l03Make_4 call x0 x1 x2 x3 x4 x5 x6 x7 := by kernel_rfl
theorem vs_l03Make_4 (x0 : List (List Int)) (x1 : Int) (x2 : Int) (x3 : List (List Int)) (x4 : Int) (x5 : Int) (x6 : Int) (x7 : Int) {o : List TV} (h : bs_l03Make_4 R x0 x1 x2 x3 x4 x5 x6 x7 = some o) : R is_l03Make_4 [tLA8 x0, tI x1, tI x2, tLA8 x3, tI x4, tI x5, tI x6, tI x7] = some o := ev_step ((es_l03Make_4 R x0 x1 x2 x3 x4 x5 x6 x7).trans h)
/-- spec.l03Make loop 7 -/
noncomputable def bs_l03Make_7 (call : Oracle) (x0 : List (List Int)) (x1 : Int) (x2 : Int) (x3 : List (List Int)) (x4 : Int) (x5 : Int) (x6 : Int) (x7 : Int) : Option (List TV) :=
  bif decide (x6 < x7) then
    bif (decide (0 ≤ (wi64 (x7 - 1))) && decide ((wi64 (x7 - 1)) < ((List.length x0 : Nat) : Int))) then
      (call is_l02Same [tI x4]).bind fun o6 =>
      bif ((List.getD x0 (Int.toNat (wi64 (x7 - 1))) (List.replicate 8 0)) == (gA8 o6 0)) then
        call is_l03Make_7 [tLA8 x0, tI x1, tI x2, tLA8 x3, tI x4, tI x5, tI x6, tI (wi64 (x7 - 1))]
      else
        some [tI 0, tLA8 x0, tI x1, tI x2, tLA8 x3, tI x4, tI x5, tI x6, tI x7]
    else none
  else
    some [tI 0, tLA8 x0, tI x1, tI x2, tLA8 x3, tI x4, tI x5, tI x6, tI x7]
theorem es_l03Make_7 (call : Oracle) (x0 : List (List Int)) (x1 : Int) (x2 : Int) (x3 : List (List Int)) (x4 : Int) (x5 : Int) (x6 : Int) (x7 : Int) : run1 E call is_l03Make_7 [tLA8 x0, tI x1, tI x2, tLA8 x3, tI x4, tI x5, tI x6, tI x7] = bs_l03Make_7 call x0 x1 x2 x3 x4 x5 x6 x7 := by kernel_rfl
theorem vs_l03Make_7 (x0 : List (List Int)) (x1 : Int) (x2 : Int) (x3 : List (List Int)) (x4 : Int) (x5 : Int) (x6 : Int) (x7 : Int) {o : List TV} (h : bs_l03Make_7 R x0 x1 x2 x3 x4 x5 x6 x7 = some o) : R is_l03Make_7 [tLA8 x0, tI x1, tI x2, tLA8 x3, tI x4, tI x5, tI x6, tI x7] = some o := ev_step ((es_l03Make_7 R x0 x1 x2 x3 x4 x5 x6 x7).trans h)
/-- spec.l03Make -/
noncomputable def bs_l03Make (call : Oracle) (a0 : Int) (a1 : Int) (a2 : List (List Int)) : Option (List TV) :=
  (call is_l03Weigh [tLA8 a2, tI a0]).bind fun o1 =>
  bif decide (1 < a0) then
    (call is_l03Make_4 [tLA8 (gLA8 o1 0), tI 0, tI 0, tLA8 [], tI a0, tI a1, tI 0, tI ((List.length (gLA8 o1 0) : Nat) : Int)]).bind fun o4 =>
    (call is_l03Make_7 [tLA8 (gLA8 o4 1), tI (gI o4 2), tI (gI o4 3), tLA8 (gLA8 o4 4), tI (gI o4 5), tI (gI o4 6), tI (gI o4 7), tI (gI o4 8)]).bind fun o7 =>
    bif ((decide (0 ≤ (gI o7 7)) && decide ((gI o7 7) ≤ (gI o7 8))) && decide ((gI o7 8) ≤ ((List.length (gLA8 o7 1) : Nat) : Int))) then
      bif (apOk [] (List.drop (Int.toNat (gI o7 7)) (List.take (Int.toNat (gI o7 8)) (gLA8 o7 1)))) then
        some [tPIPILA8 ((gI o7 5), ((gI o7 6), (List.drop (Int.toNat (gI o7 7)) (List.take (Int.toNat (gI o7 8)) (gLA8 o7 1)))))]
      else none
    else none
  else
    (call is_l03Make_7 [tLA8 (gLA8 o1 0), tI 0, tI 0, tLA8 [], tI a0, tI a1, tI 0, tI ((List.length (gLA8 o1 0) : Nat) : Int)]).bind fun o8 =>
    bif ((decide (0 ≤ (gI o8 7)) && decide ((gI o8 7) ≤ (gI o8 8))) && decide ((gI o8 8) ≤ ((List.length (gLA8 o8 1) : Nat) : Int))) then
      bif (apOk [] (List.drop (Int.toNat (gI o8 7)) (List.take (Int.toNat (gI o8 8)) (gLA8 o8 1)))) then
        some [tPIPILA8 ((gI o8 5), ((gI o8 6), (List.drop (Int.toNat (gI o8 7)) (List.take (Int.toNat (gI o8 8)) (gLA8 o8 1)))))]
      else none
    else none
theorem es_l03Make (call : Oracle) (a0 : Int) (a1 : Int) (a2 : List (List Int)) : run1 E call is_l03Make [tI a0, tI a1, tLA8 a2] = bs_l03Make call a0 a1 a2 := by kernel_rfl
theorem vs_l03Make (a0 : Int) (a1 : Int) (a2 : List (List Int)) {o : List TV} (h : bs_l03Make R a0 a1 a2 = some o) : R is_l03Make [tI a0, tI a1, tLA8 a2] = some o := ev_step ((es_l03Make R a0 a1 a2).trans h)
/-- spec.l03Times -/
noncomputable def bs_l03Times (call : Oracle) (a0 : Int × Int × List (List Int)) (a1 : List Int) (a2 : Bool) : Option (List TV) :=
  bif a2 then
    (call is_l03Turned [tLA8 a0.2.2, tI a0.1, tI 1]).bind fun o1 =>
    (call is_l02Left [tA8 a1, tI a0.1]).bind fun o2 =>
    bif (apOk (gLA8 o1 0) [(gA8 o2 0)]) then
      (call is_l03Make [tI a0.1, tI (wi64 (a0.2.1 - 1)), tLA8 ((gLA8 o1 0) ++ [(gA8 o2 0)])]).bind fun o3 =>
      some [tPIPILA8 ((gPIPILA8 o3 0).1, (((gPIPILA8 o3 0).2).1, ((gPIPILA8 o3 0).2).2))]
    else none
  else
    bif (apOk [] a0.2.2) then
      bif (apOk a0.2.2 [a1]) then
        (call is_l03Make [tI a0.1, tI a0.2.1, tLA8 (a0.2.2 ++ [a1])]).bind fun o4 =>
        some [tPIPILA8 ((gPIPILA8 o4 0).1, (((gPIPILA8 o4 0).2).1, ((gPIPILA8 o4 0).2).2))]
      else none
    else none
theorem es_l03Times (call : Oracle) (a0 : Int × Int × List (List Int)) (a1 : List Int) (a2 : Bool) : run1 E call is_l03Times [tPIPILA8 a0, tA8 a1, tB a2] = bs_l03Times call a0 a1 a2 := by kernel_rfl
theorem vs_l03Times (a0 : Int × Int × List (List Int)) (a1 : List Int) (a2 : Bool) {o : List TV} (h : bs_l03Times R a0 a1 a2 = some o) : R is_l03Times [tPIPILA8 a0, tA8 a1, tB a2] = some o := ev_step ((es_l03Times R a0 a1 a2).trans h)
/-- spec.l03Of loop 3 -/
noncomputable def bs_l03Of_3 (call : Oracle) (x0 : List Int) (x1 : Int) (x2 : Int) (x3 : List (List Int)) (x4 : Int) (x5 : Int) (x6 : List (List Int)) (x7 : Int) (x8 : Int) : Option (List TV) :=
  bif decide (x8 < ((List.length x0 : Nat) : Int)) then
    bif (decide (0 ≤ x8) && decide (x8 < ((List.length x0 : Nat) : Int))) then
      bif decide (0 < (List.getD x0 (Int.toNat x8) 0)) then
        bif (decide (0 ≤ x8) && decide (x8 < ((List.length x0 : Nat) : Int))) then
          (call is_l02Exchange [tI x7, tI (List.getD x0 (Int.toNat x8) 0)]).bind fun o5 =>
          (call is_l03Times [tPIPILA8 (x4, (x5, x6)), tA8 (gA8 o5 0), tB false]).bind fun o6 =>
          call is_l03Of_3 [tLI x0, tI x1, tI x2, tLA8 x3, tI ((gPIPILA8 o6 0).1), tI (((gPIPILA8 o6 0).2).1), tLA8 (((gPIPILA8 o6 0).2).2), tI x7, tI (wi64 (x8 + 1))]
        else none
      else
        bif (decide (0 ≤ x8) && decide (x8 < ((List.length x0 : Nat) : Int))) then
          (call is_l02Exchange [tI x7, tI (wi64 (0 - (List.getD x0 (Int.toNat x8) 0)))]).bind fun o7 =>
          (call is_l03Times [tPIPILA8 (x4, (x5, x6)), tA8 (gA8 o7 0), tB true]).bind fun o8 =>
          call is_l03Of_3 [tLI x0, tI x1, tI x2, tLA8 x3, tI ((gPIPILA8 o8 0).1), tI (((gPIPILA8 o8 0).2).1), tLA8 (((gPIPILA8 o8 0).2).2), tI x7, tI (wi64 (x8 + 1))]
        else none
    else none
  else
    some [tI 0, tI x1, tI x2, tLA8 x3, tI x4, tI x5, tLA8 x6]
theorem es_l03Of_3 (call : Oracle) (x0 : List Int) (x1 : Int) (x2 : Int) (x3 : List (List Int)) (x4 : Int) (x5 : Int) (x6 : List (List Int)) (x7 : Int) (x8 : Int) : run1 E call is_l03Of_3 [tLI x0, tI x1, tI x2, tLA8 x3, tI x4, tI x5, tLA8 x6, tI x7, tI x8] = bs_l03Of_3 call x0 x1 x2 x3 x4 x5 x6 x7 x8 := by kernel_rfl
theorem vs_l03Of_3 (x0 : List Int) (x1 : Int) (x2 : Int) (x3 : List (List Int)) (x4 : Int) (x5 : Int) (x6 : List (List Int)) (x7 : Int) (x8 : Int) {o : List TV} (h : bs_l03Of_3 R x0 x1 x2 x3 x4 x5 x6 x7 x8 = some o) : R is_l03Of_3 [tLI x0, tI x1, tI x2, tLA8 x3, tI x4, tI x5, tLA8 x6, tI x7, tI x8] = some o := ev_step ((es_l03Of_3 R x0 x1 x2 x3 x4 x5 x6 x7 x8).trans h)
/-- spec.l03Of -/
noncomputable def bs_l03Of (call : Oracle) (a0 : Int) (a1 : List Int) : Option (List TV) :=
  (call is_l03Of_3 [tLI a1, tI 0, tI 0, tLA8 [], tI a0, tI 0, tLA8 [], tI a0, tI 0]).bind fun o9 =>
  some [tPIPILA8 ((gI o9 4), ((gI o9 5), (gLA8 o9 6)))]
theorem es_l03Of (call : Oracle) (a0 : Int) (a1 : List Int) : run1 E call is_l03Of [tI a0, tLI a1] = bs_l03Of call a0 a1 := by kernel_rfl
theorem vs_l03Of (a0 : Int) (a1 : List Int) {o : List TV} (h : bs_l03Of R a0 a1 = some o) : R is_l03Of [tI a0, tLI a1] = some o := ev_step ((es_l03Of R a0 a1).trans h)
/-- spec.l03Fit -/
noncomputable def bs_l03Fit (call : Oracle) (a0 : Int × Int × List (List Int)) : Option (List TV) :=
  (call is_l01In [tI a0.2.1, tI (-200), tI 200]).bind fun o1 =>
  bif (!(gB o1 0)) then
    some [tPIPILA8 (0, (0, [])), tI 3]
  else
    bif decide (200 < ((List.length a0.2.2 : Nat) : Int)) then
      some [tPIPILA8 (0, (0, [])), tI 3]
    else
      some [tPIPILA8 (a0.1, (a0.2.1, a0.2.2)), tI 0]
theorem es_l03Fit (call : Oracle) (a0 : Int × Int × List (List Int)) : run1 E call is_l03Fit [tPIPILA8 a0] = bs_l03Fit call a0 := by kernel_rfl
theorem vs_l03Fit (a0 : Int × Int × List (List Int)) {o : List TV} (h : bs_l03Fit R a0 = some o) : R is_l03Fit [tPIPILA8 a0] = some o := ev_step ((es_l03Fit R a0).trans h)
/-- spec.NormalOf -/
noncomputable def bs_NormalOf (call : Oracle) (a0 : Int × List Int) : Option (List TV) :=
  (call is_l01Is [tPILI (a0.1, a0.2)]).bind fun o1 =>
  bif (!(gB o1 0)) then
    some [tPIPILA8 (0, (0, [])), tI 1]
  else
    (call is_l03Of [tI a0.1, tLI a0.2]).bind fun o2 =>
    (call is_l03Fit [tPIPILA8 ((gPIPILA8 o2 0).1, (((gPIPILA8 o2 0).2).1, ((gPIPILA8 o2 0).2).2))]).bind fun o3 =>
    some [tPIPILA8 ((gPIPILA8 o3 0).1, (((gPIPILA8 o3 0).2).1, ((gPIPILA8 o3 0).2).2)), tI (gI o3 1)]
theorem es_NormalOf (call : Oracle) (a0 : Int × List Int) : run1 E call is_NormalOf [tPILI a0] = bs_NormalOf call a0 := by kernel_rfl
theorem vs_NormalOf (a0 : Int × List Int) {o : List TV} (h : bs_NormalOf R a0 = some o) : R is_NormalOf [tPILI a0] = some o := ev_step ((es_NormalOf R a0).trans h)
/-- laws.normal9 loop 4 -/
noncomputable def bw_normal9_4 (call : Oracle) (x0 : Int) (x1 : Int) (x2 : List (List Int)) (x3 : Int) (x4 : Int) (x5 : List (List Int)) (x6 : Int) : Option (List TV) :=
  bif decide (x6 < ((List.length x2 : Nat) : Int)) then
    bif (decide (0 ≤ x6) && decide (x6 < ((List.length x2 : Nat) : Int))) then
      bif (decide (0 ≤ x6) && decide (x6 < ((List.length x5 : Nat) : Int))) then
        bif ((List.getD x2 (Int.toNat x6) (List.replicate 8 0)) != (List.getD x5 (Int.toNat x6) (List.replicate 8 0))) then
          some [tI 1, tB false]
        else
          call iw_normal9_4 [tI x0, tI x1, tLA8 x2, tI x3, tI x4, tLA8 x5, tI (wi64 (x6 + 1))]
      else none
    else none
  else
    some [tI 0]
theorem ew_normal9_4 (call : Oracle) (x0 : Int) (x1 : Int) (x2 : List (List Int)) (x3 : Int) (x4 : Int) (x5 : List (List Int)) (x6 : Int) : run1 E call iw_normal9_4 [tI x0, tI x1, tLA8 x2, tI x3, tI x4, tLA8 x5, tI x6] = bw_normal9_4 call x0 x1 x2 x3 x4 x5 x6 := by kernel_rfl
theorem vw_normal9_4 (x0 : Int) (x1 : Int) (x2 : List (List Int)) (x3 : Int) (x4 : Int) (x5 : List (List Int)) (x6 : Int) {o : List TV} (h : bw_normal9_4 R x0 x1 x2 x3 x4 x5 x6 = some o) : R iw_normal9_4 [tI x0, tI x1, tLA8 x2, tI x3, tI x4, tLA8 x5, tI x6] = some o := ev_step ((ew_normal9_4 R x0 x1 x2 x3 x4 x5 x6).trans h)
/-- laws.normal9 -/
noncomputable def bw_normal9 (call : Oracle) (a0 : Int × Int × List (List Int)) (a1 : Int × Int × List (List Int)) : Option (List TV) :=
  bif (a0.1 != a1.1) then
    some [tB false]
  else
    bif (a0.2.1 != a1.2.1) then
      some [tB false]
    else
      bif (((List.length a0.2.2 : Nat) : Int) != ((List.length a1.2.2 : Nat) : Int)) then
        some [tB false]
      else
        (call iw_normal9_4 [tI a0.1, tI a0.2.1, tLA8 a0.2.2, tI a1.1, tI a1.2.1, tLA8 a1.2.2, tI 0]).bind fun o1 =>
        bif ((gI o1 0) == 0) then
          some [tB true]
        else
          some [tB (gB o1 1)]
theorem ew_normal9 (call : Oracle) (a0 : Int × Int × List (List Int)) (a1 : Int × Int × List (List Int)) : run1 E call iw_normal9 [tPIPILA8 a0, tPIPILA8 a1] = bw_normal9 call a0 a1 := by kernel_rfl
theorem vw_normal9 (a0 : Int × Int × List (List Int)) (a1 : Int × Int × List (List Int)) {o : List TV} (h : bw_normal9 R a0 a1 = some o) : R iw_normal9 [tPIPILA8 a0, tPIPILA8 a1] = some o := ev_step ((ew_normal9 R a0 a1).trans h)
/-- spec.DrawRightNormalOf -/
noncomputable def bs_DrawRightNormalOf (call : Oracle) (a0 : List Int) : Option (List TV) :=
  (call is_l01From [tLU8 a0]).bind fun o1 =>
  (call is_l01Spoil [tPLU8PIU64 ((gPLU8PIU64 o1 0).1, (((gPLU8PIU64 o1 0).2).1, ((gPLU8PIU64 o1 0).2).2))]).bind fun o2 =>
  some [tPILI ((gPILI o2 0).1, (gPILI o2 0).2)]
theorem es_DrawRightNormalOf (call : Oracle) (a0 : List Int) : run1 E call is_DrawRightNormalOf [tLU8 a0] = bs_DrawRightNormalOf call a0 := by kernel_rfl
theorem vs_DrawRightNormalOf (a0 : List Int) {o : List TV} (h : bs_DrawRightNormalOf R a0 = some o) : R is_DrawRightNormalOf [tLU8 a0] = some o := ev_step ((es_DrawRightNormalOf R a0).trans h)
/-- impl.reversed loop 3 -/
noncomputable def bi_reversed_3 (call : Oracle) (x0 : Int) (x1 : List Int) (x2 : Int) (x3 : List Int) (x4 : Int) (x5 : List Int) (x6 : Int) : Option (List TV) :=
  bif decide (0 ≤ x6) then
    bif (decide (0 ≤ x6) && decide (x6 < ((List.length x1 : Nat) : Int))) then
      bif (apOk x5 [(List.getD x1 (Int.toNat x6) 0)]) then
        call ii_reversed_3 [tI x0, tLI x1, tI x2, tLI x3, tI x4, tLI (x5 ++ [(List.getD x1 (Int.toNat x6) 0)]), tI (wi64 (x6 - 1))]
      else none
    else none
  else
    some [tI 0, tI x2, tLI x3, tI x4, tLI x5]
theorem ei_reversed_3 (call : Oracle) (x0 : Int) (x1 : List Int) (x2 : Int) (x3 : List Int) (x4 : Int) (x5 : List Int) (x6 : Int) : run1 E call ii_reversed_3 [tI x0, tLI x1, tI x2, tLI x3, tI x4, tLI x5, tI x6] = bi_reversed_3 call x0 x1 x2 x3 x4 x5 x6 := by kernel_rfl
theorem vi_reversed_3 (x0 : Int) (x1 : List Int) (x2 : Int) (x3 : List Int) (x4 : Int) (x5 : List Int) (x6 : Int) {o : List TV} (h : bi_reversed_3 R x0 x1 x2 x3 x4 x5 x6 = some o) : R ii_reversed_3 [tI x0, tLI x1, tI x2, tLI x3, tI x4, tLI x5, tI x6] = some o := ev_step ((ei_reversed_3 R x0 x1 x2 x3 x4 x5 x6).trans h)
/-- impl.reversed -/
noncomputable def bi_reversed (call : Oracle) (a0 : Int × List Int) : Option (List TV) :=
  (call ii_reversed_3 [tI a0.1, tLI a0.2, tI 0, tLI [], tI a0.1, tLI [], tI (wi64 (((List.length a0.2 : Nat) : Int) - 1))]).bind fun o1 =>
  some [tPILI ((gI o1 3), (gLI o1 4))]
theorem ei_reversed (call : Oracle) (a0 : Int × List Int) : run1 E call ii_reversed [tPILI a0] = bi_reversed call a0 := by kernel_rfl
theorem vi_reversed (a0 : Int × List Int) {o : List TV} (h : bi_reversed R a0 = some o) : R ii_reversed [tPILI a0] = some o := ev_step ((ei_reversed R a0).trans h)
/-- impl.RightNormalOf loop 6 -/
noncomputable def bi_RightNormalOf_6 (call : Oracle) (x0 : Int) (x1 : Int) (x2 : List (List Int)) (x3 : Int) (x4 : Int) (x5 : List (List Int)) (x6 : Int) (x7 : Int) (x8 : List (List Int)) (x9 : Int) : Option (List TV) :=
  bif decide (0 ≤ x9) then
    bif (decide (0 ≤ x9) && decide (x9 < ((List.length x5 : Nat) : Int))) then
      (call ii_backOf [tA8 (List.getD x5 (Int.toNat x9) (List.replicate 8 0)), tI x3]).bind fun o5 =>
      bif (apOk x8 [(gA8 o5 0)]) then
        call ii_RightNormalOf_6 [tI x0, tI x1, tLA8 x2, tI x3, tI x4, tLA8 x5, tI x6, tI x7, tLA8 (x8 ++ [(gA8 o5 0)]), tI (wi64 (x9 - 1))]
      else none
    else none
  else
    some [tI 0, tI x0, tI x1, tLA8 x2, tI x6, tI x7, tLA8 x8]
theorem ei_RightNormalOf_6 (call : Oracle) (x0 : Int) (x1 : Int) (x2 : List (List Int)) (x3 : Int) (x4 : Int) (x5 : List (List Int)) (x6 : Int) (x7 : Int) (x8 : List (List Int)) (x9 : Int) : run1 E call ii_RightNormalOf_6 [tI x0, tI x1, tLA8 x2, tI x3, tI x4, tLA8 x5, tI x6, tI x7, tLA8 x8, tI x9] = bi_RightNormalOf_6 call x0 x1 x2 x3 x4 x5 x6 x7 x8 x9 := by kernel_rfl
theorem vi_RightNormalOf_6 (x0 : Int) (x1 : Int) (x2 : List (List Int)) (x3 : Int) (x4 : Int) (x5 : List (List Int)) (x6 : Int) (x7 : Int) (x8 : List (List Int)) (x9 : Int) {o : List TV} (h : bi_RightNormalOf_6 R x0 x1 x2 x3 x4 x5 x6 x7 x8 x9 = some o) : R ii_RightNormalOf_6 [tI x0, tI x1, tLA8 x2, tI x3, tI x4, tLA8 x5, tI x6, tI x7, tLA8 x8, tI x9] = some o := ev_step ((ei_RightNormalOf_6 R x0 x1 x2 x3 x4 x5 x6 x7 x8 x9).trans h)
/-- impl.RightNormalOf -/
noncomputable def bi_RightNormalOf (call : Oracle) (a0 : Int × List Int) : Option (List TV) :=
  (call ii_IsBraid [tPILI (a0.1, a0.2)]).bind fun o1 =>
  bif (!(gB o1 0)) then
    some [tPIPILA8 (0, (0, [])), tI 1]
  else
    (call ii_reversed [tPILI (a0.1, a0.2)]).bind fun o2 =>
    (call ii_normalOf [tPILI ((gPILI o2 0).1, (gPILI o2 0).2)]).bind fun o3 =>
    (call ii_RightNormalOf_6 [tI 0, tI 0, tLA8 [], tI ((gPIPILA8 o3 0).1), tI (((gPIPILA8 o3 0).2).1), tLA8 (((gPIPILA8 o3 0).2).2), tI ((gPIPILA8 o3 0).1), tI (((gPIPILA8 o3 0).2).1), tLA8 [], tI (wi64 (((List.length (((gPIPILA8 o3 0).2).2) : Nat) : Int) - 1))]).bind fun o6 =>
    (call ii_limited [tPIPILA8 ((gI o6 4), ((gI o6 5), (gLA8 o6 6)))]).bind fun o7 =>
    some [tPIPILA8 ((gPIPILA8 o7 0).1, (((gPIPILA8 o7 0).2).1, ((gPIPILA8 o7 0).2).2)), tI (gI o7 1)]
theorem ei_RightNormalOf (call : Oracle) (a0 : Int × List Int) : run1 E call ii_RightNormalOf [tPILI a0] = bi_RightNormalOf call a0 := by kernel_rfl
theorem vi_RightNormalOf (a0 : Int × List Int) {o : List TV} (h : bi_RightNormalOf R a0 = some o) : R ii_RightNormalOf [tPILI a0] = some o := ev_step ((ei_RightNormalOf R a0).trans h)
/-- spec.RightNormalOf loop 5 -/
noncomputable def bs_RightNormalOf_5 (call : Oracle) (x0 : Int) (x1 : List Int) (x2 : Int) (x3 : Int) (x4 : List (List Int)) (x5 : List Int) (x6 : Int) : Option (List TV) :=
  bif decide (0 ≤ x6) then
    bif (decide (0 ≤ x6) && decide (x6 < ((List.length x1 : Nat) : Int))) then
      bif (apOk x5 [(List.getD x1 (Int.toNat x6) 0)]) then
        call is_RightNormalOf_5 [tI x0, tLI x1, tI x2, tI x3, tLA8 x4, tLI (x5 ++ [(List.getD x1 (Int.toNat x6) 0)]), tI (wi64 (x6 - 1))]
      else none
    else none
  else
    some [tI 0, tI x0, tLI x1, tI x2, tI x3, tLA8 x4, tLI x5]
theorem es_RightNormalOf_5 (call : Oracle) (x0 : Int) (x1 : List Int) (x2 : Int) (x3 : Int) (x4 : List (List Int)) (x5 : List Int) (x6 : Int) : run1 E call is_RightNormalOf_5 [tI x0, tLI x1, tI x2, tI x3, tLA8 x4, tLI x5, tI x6] = bs_RightNormalOf_5 call x0 x1 x2 x3 x4 x5 x6 := by kernel_rfl
theorem vs_RightNormalOf_5 (x0 : Int) (x1 : List Int) (x2 : Int) (x3 : Int) (x4 : List (List Int)) (x5 : List Int) (x6 : Int) {o : List TV} (h : bs_RightNormalOf_5 R x0 x1 x2 x3 x4 x5 x6 = some o) : R is_RightNormalOf_5 [tI x0, tLI x1, tI x2, tI x3, tLA8 x4, tLI x5, tI x6] = some o := ev_step ((es_RightNormalOf_5 R x0 x1 x2 x3 x4 x5 x6).trans h)
/-- spec.RightNormalOf loop 11 -/
noncomputable def bs_RightNormalOf_11 (call : Oracle) (x0 : Int) (x1 : Int) (x2 : List (List Int)) (x3 : Int) (x4 : Int) (x5 : List (List Int)) (x6 : Int) (x7 : Int) (x8 : List (List Int)) (x9 : Int) : Option (List TV) :=
  bif decide (0 ≤ x9) then
    bif (decide (0 ≤ x9) && decide (x9 < ((List.length x5 : Nat) : Int))) then
      (call is_l02Back [tA8 (List.getD x5 (Int.toNat x9) (List.replicate 8 0)), tI x3]).bind fun o5 =>
      bif (apOk x8 [(gA8 o5 0)]) then
        call is_RightNormalOf_11 [tI x0, tI x1, tLA8 x2, tI x3, tI x4, tLA8 x5, tI x6, tI x7, tLA8 (x8 ++ [(gA8 o5 0)]), tI (wi64 (x9 - 1))]
      else none
    else none
  else
    some [tI 0, tI x0, tI x1, tLA8 x2, tI x6, tI x7, tLA8 x8]
theorem es_RightNormalOf_11 (call : Oracle) (x0 : Int) (x1 : Int) (x2 : List (List Int)) (x3 : Int) (x4 : Int) (x5 : List (List Int)) (x6 : Int) (x7 : Int) (x8 : List (List Int)) (x9 : Int) : run1 E call is_RightNormalOf_11 [tI x0, tI x1, tLA8 x2, tI x3, tI x4, tLA8 x5, tI x6, tI x7, tLA8 x8, tI x9] = bs_RightNormalOf_11 call x0 x1 x2 x3 x4 x5 x6 x7 x8 x9 := by kernel_rfl
theorem vs_RightNormalOf_11 (x0 : Int) (x1 : Int) (x2 : List (List Int)) (x3 : Int) (x4 : Int) (x5 : List (List Int)) (x6 : Int) (x7 : Int) (x8 : List (List Int)) (x9 : Int) {o : List TV} (h : bs_RightNormalOf_11 R x0 x1 x2 x3 x4 x5 x6 x7 x8 x9 = some o) : R is_RightNormalOf_11 [tI x0, tI x1, tLA8 x2, tI x3, tI x4, tLA8 x5, tI x6, tI x7, tLA8 x8, tI x9] = some o := ev_step ((es_RightNormalOf_11 R x0 x1 x2 x3 x4 x5 x6 x7 x8 x9).trans h)
/-- spec.RightNormalOf -/
noncomputable def bs_RightNormalOf (call : Oracle) (a0 : Int × List Int) : Option (List TV) :=
  (call is_l01Is [tPILI (a0.1, a0.2)]).bind fun o1 =>
  bif (!(gB o1 0)) then
    some [tPIPILA8 (0, (0, [])), tI 1]
  else
    (call is_RightNormalOf_5 [tI a0.1, tLI a0.2, tI 0, tI 0, tLA8 [], tLI [], tI (wi64 (((List.length a0.2 : Nat) : Int) - 1))]).bind fun o2 =>
    (call is_l03Of [tI (gI o2 1), tLI (gLI o2 6)]).bind fun o3 =>
    (call is_RightNormalOf_11 [tI (gI o2 3), tI (gI o2 4), tLA8 (gLA8 o2 5), tI ((gPIPILA8 o3 0).1), tI (((gPIPILA8 o3 0).2).1), tLA8 (((gPIPILA8 o3 0).2).2), tI ((gPIPILA8 o3 0).1), tI (((gPIPILA8 o3 0).2).1), tLA8 [], tI (wi64 (((List.length (((gPIPILA8 o3 0).2).2) : Nat) : Int) - 1))]).bind fun o6 =>
    (call is_l03Fit [tPIPILA8 ((gI o6 4), ((gI o6 5), (gLA8 o6 6)))]).bind fun o7 =>
    some [tPIPILA8 ((gPIPILA8 o7 0).1, (((gPIPILA8 o7 0).2).1, ((gPIPILA8 o7 0).2).2)), tI (gI o7 1)]
theorem es_RightNormalOf (call : Oracle) (a0 : Int × List Int) : run1 E call is_RightNormalOf [tPILI a0] = bs_RightNormalOf call a0 := by kernel_rfl
theorem vs_RightNormalOf (a0 : Int × List Int) {o : List TV} (h : bs_RightNormalOf R a0 = some o) : R is_RightNormalOf [tPILI a0] = some o := ev_step ((es_RightNormalOf R a0).trans h)
/-- spec.l03Draw -/
noncomputable def bs_l03Draw (call : Oracle) (a0 : List Int × Int × Int) (a1 : Int) : Option (List TV) :=
  (call is_l01Draw [tPLU8PIU64 (a0.1, (a0.2.1, a0.2.2)), tI a1, tI 14]).bind fun o1 =>
  (call is_l03Of [tI a1, tLI (gLI o1 0)]).bind fun o2 =>
  some [tPIPILA8 ((gPIPILA8 o2 0).1, (((gPIPILA8 o2 0).2).1, ((gPIPILA8 o2 0).2).2)), tPLU8PIU64 ((gPLU8PIU64 o1 1).1, (((gPLU8PIU64 o1 1).2).1, ((gPLU8PIU64 o1 1).2).2))]
theorem es_l03Draw (call : Oracle) (a0 : List Int × Int × Int) (a1 : Int) : run1 E call is_l03Draw [tPLU8PIU64 a0, tI a1] = bs_l03Draw call a0 a1 := by kernel_rfl
theorem vs_l03Draw (a0 : List Int × Int × Int) (a1 : Int) {o : List TV} (h : bs_l03Draw R a0 a1 = some o) : R is_l03Draw [tPLU8PIU64 a0, tI a1] = some o := ev_step ((es_l03Draw R a0 a1).trans h)
/-- spec.l03Some -/
noncomputable def bs_l03Some (call : Oracle) (a0 : List Int × Int × Int) : Option (List TV) :=
  (call is_l01Pick [tPLU8PIU64 (a0.1, (a0.2.1, a0.2.2)), tLI [1, 2, 3, 3, 4, 4, 5, 6]]).bind fun o1 =>
  (call is_l03Draw [tPLU8PIU64 ((gPLU8PIU64 o1 1).1, (((gPLU8PIU64 o1 1).2).1, ((gPLU8PIU64 o1 1).2).2)), tI (gI o1 0)]).bind fun o2 =>
  (call is_l01Next [tPLU8PIU64 ((gPLU8PIU64 o2 1).1, (((gPLU8PIU64 o2 1).2).1, ((gPLU8PIU64 o2 1).2).2)), tI 40]).bind fun o3 =>
  bif ((gI o3 0) == 0) then
    (call is_l01Pick [tPLU8PIU64 ((gPLU8PIU64 o3 1).1, (((gPLU8PIU64 o3 1).2).1, ((gPLU8PIU64 o3 1).2).2)), tLI [201, (-201), 200]]).bind fun o4 =>
    some [tPIPILA8 ((gPIPILA8 o2 0).1, ((gI o4 0), ((gPIPILA8 o2 0).2).2)), tPLU8PIU64 ((gPLU8PIU64 o4 1).1, (((gPLU8PIU64 o4 1).2).1, ((gPLU8PIU64 o4 1).2).2))]
  else
    bif ((gI o3 0) == 1) then
      (call is_l02Same [tI (gI o1 0)]).bind fun o5 =>
      bif (apOk (((gPIPILA8 o2 0).2).2) [(gA8 o5 0)]) then
        some [tPIPILA8 ((gPIPILA8 o2 0).1, (((gPIPILA8 o2 0).2).1, (((gPIPILA8 o2 0).2).2 ++ [(gA8 o5 0)]))), tPLU8PIU64 ((gPLU8PIU64 o3 1).1, (((gPLU8PIU64 o3 1).2).1, ((gPLU8PIU64 o3 1).2).2))]
      else none
    else
      bif ((gI o3 0) == 2) then
        (call is_l02Half [tI (gI o1 0)]).bind fun o6 =>
        bif (apOk [(gA8 o6 0)] (((gPIPILA8 o2 0).2).2)) then
          some [tPIPILA8 ((gPIPILA8 o2 0).1, (((gPIPILA8 o2 0).2).1, ([(gA8 o6 0)] ++ ((gPIPILA8 o2 0).2).2))), tPLU8PIU64 ((gPLU8PIU64 o3 1).1, (((gPLU8PIU64 o3 1).2).1, ((gPLU8PIU64 o3 1).2).2))]
        else none
      else
        bif ((gI o3 0) == 3) then
          bif decide (1 < ((List.length (((gPIPILA8 o2 0).2).2) : Nat) : Int)) then
            bif decide (1 < ((List.length (((gPIPILA8 o2 0).2).2) : Nat) : Int)) then
              bif (apOk [(List.getD (((gPIPILA8 o2 0).2).2) 1 (List.replicate 8 0))] (((gPIPILA8 o2 0).2).2)) then
                some [tPIPILA8 ((gPIPILA8 o2 0).1, (((gPIPILA8 o2 0).2).1, ([(List.getD (((gPIPILA8 o2 0).2).2) 1 (List.replicate 8 0))] ++ ((gPIPILA8 o2 0).2).2))), tPLU8PIU64 ((gPLU8PIU64 o3 1).1, (((gPLU8PIU64 o3 1).2).1, ((gPLU8PIU64 o3 1).2).2))]
              else none
            else none
          else
            some [tPIPILA8 ((gPIPILA8 o2 0).1, (((gPIPILA8 o2 0).2).1, ((gPIPILA8 o2 0).2).2)), tPLU8PIU64 ((gPLU8PIU64 o3 1).1, (((gPLU8PIU64 o3 1).2).1, ((gPLU8PIU64 o3 1).2).2))]
        else
          some [tPIPILA8 ((gPIPILA8 o2 0).1, (((gPIPILA8 o2 0).2).1, ((gPIPILA8 o2 0).2).2)), tPLU8PIU64 ((gPLU8PIU64 o3 1).1, (((gPLU8PIU64 o3 1).2).1, ((gPLU8PIU64 o3 1).2).2))]
theorem es_l03Some (call : Oracle) (a0 : List Int × Int × Int) : run1 E call is_l03Some [tPLU8PIU64 a0] = bs_l03Some call a0 := by kernel_rfl
theorem vs_l03Some (a0 : List Int × Int × Int) {o : List TV} (h : bs_l03Some R a0 = some o) : R is_l03Some [tPLU8PIU64 a0] = some o := ev_step ((es_l03Some R a0).trans h)
/-- spec.DrawWordOfNormal -/
noncomputable def bs_DrawWordOfNormal (call : Oracle) (a0 : List Int) : Option (List TV) :=
  (call is_l01From [tLU8 a0]).bind fun o1 =>
  (call is_l03Some [tPLU8PIU64 ((gPLU8PIU64 o1 0).1, (((gPLU8PIU64 o1 0).2).1, ((gPLU8PIU64 o1 0).2).2))]).bind fun o2 =>
  some [tPIPILA8 ((gPIPILA8 o2 0).1, (((gPIPILA8 o2 0).2).1, ((gPIPILA8 o2 0).2).2))]
theorem es_DrawWordOfNormal (call : Oracle) (a0 : List Int) : run1 E call is_DrawWordOfNormal [tLU8 a0] = bs_DrawWordOfNormal call a0 := by kernel_rfl
theorem vs_DrawWordOfNormal (a0 : List Int) {o : List TV} (h : bs_DrawWordOfNormal R a0 = some o) : R is_DrawWordOfNormal [tLU8 a0] = some o := ev_step ((es_DrawWordOfNormal R a0).trans h)
/-- impl.IsSimple loop 5 -/
noncomputable def bi_IsSimple_5 (call : Oracle) (x0 : List Bool) (x1 : Int) (x2 : List Int) (x3 : Int) : Option (List TV) :=
  bif decide (x3 < 8) then
    bif (decide (0 ≤ x3) && decide (x3 < 8)) then
      bif decide (x1 ≤ x3) then
        bif ((List.getD x2 (Int.toNat x3) 0) != 0) then
          some [tI 1, tB false]
        else
          call ii_IsSimple_5 [tAB8 x0, tI x1, tA8 x2, tI (wi64 (x3 + 1))]
      else
        bif decide (x1 ≤ (wi64 ((List.getD x2 (Int.toNat x3) 0)))) then
          some [tI 1, tB false]
        else
          bif (decide (0 ≤ (List.getD x2 (Int.toNat x3) 0)) && decide ((List.getD x2 (Int.toNat x3) 0) < 8)) then
            bif (List.getD x0 (Int.toNat (List.getD x2 (Int.toNat x3) 0)) false) then
              some [tI 1, tB false]
            else
              bif (decide (0 ≤ (List.getD x2 (Int.toNat x3) 0)) && decide ((List.getD x2 (Int.toNat x3) 0) < 8)) then
                call ii_IsSimple_5 [tAB8 (List.set x0 (Int.toNat (List.getD x2 (Int.toNat x3) 0)) true), tI x1, tA8 x2, tI (wi64 (x3 + 1))]
              else none
          else none
    else none
  else
    some [tI 0]
theorem ei_IsSimple_5 (call : Oracle) (x0 : List Bool) (x1 : Int) (x2 : List Int) (x3 : Int) : run1 E call ii_IsSimple_5 [tAB8 x0, tI x1, tA8 x2, tI x3] = bi_IsSimple_5 call x0 x1 x2 x3 := by kernel_rfl
theorem vi_IsSimple_5 (x0 : List Bool) (x1 : Int) (x2 : List Int) (x3 : Int) {o : List TV} (h : bi_IsSimple_5 R x0 x1 x2 x3 = some o) : R ii_IsSimple_5 [tAB8 x0, tI x1, tA8 x2, tI x3] = some o := ev_step ((ei_IsSimple_5 R x0 x1 x2 x3).trans h)
/-- impl.IsSimple -/
noncomputable def bi_IsSimple (call : Oracle) (a0 : List Int) (a1 : Int) : Option (List TV) :=
  (call ii_isCount [tI a1]).bind fun o1 =>
  bif (!(gB o1 0)) then
    some [tB false]
  else
    (call ii_IsSimple_5 [tAB8 (List.replicate 8 false), tI a1, tA8 a0, tI 0]).bind fun o2 =>
    bif ((gI o2 0) == 0) then
      some [tB true]
    else
      some [tB (gB o2 1)]
theorem ei_IsSimple (call : Oracle) (a0 : List Int) (a1 : Int) : run1 E call ii_IsSimple [tA8 a0, tI a1] = bi_IsSimple call a0 a1 := by kernel_rfl
theorem vi_IsSimple (a0 : List Int) (a1 : Int) {o : List TV} (h : bi_IsSimple R a0 a1 = some o) : R ii_IsSimple [tA8 a0, tI a1] = some o := ev_step ((ei_IsSimple R a0 a1).trans h)
/-- impl.begins -/
noncomputable def bi_begins (call : Oracle) (a0 : List Int) (a1 : Int) : Option (List TV) :=
  bif (decide (0 ≤ (wi64 (a1 - 1))) && decide ((wi64 (a1 - 1)) < 8)) then
    bif (decide (0 ≤ a1) && decide (a1 < 8)) then
      some [tB (decide ((List.getD a0 (Int.toNat a1) 0) < (List.getD a0 (Int.toNat (wi64 (a1 - 1))) 0)))]
    else none
  else none
theorem ei_begins (call : Oracle) (a0 : List Int) (a1 : Int) : run1 E call ii_begins [tA8 a0, tI a1] = bi_begins call a0 a1 := by kernel_rfl
theorem vi_begins (a0 : List Int) (a1 : Int) {o : List TV} (h : bi_begins R a0 a1 = some o) : R ii_begins [tA8 a0, tI a1] = some o := ev_step ((ei_begins R a0 a1).trans h)
/-- impl.beginning loop 3 -/
noncomputable def bi_beginning_3 (call : Oracle) (x0 : List Int) (x1 : List Int) (x2 : Int) (x3 : Int) : Option (List TV) :=
  bif decide (x3 < x2) then
    (call ii_begins [tA8 x0, tI x3]).bind fun o2 =>
    bif (gB o2 0) then
      bif (apOk x1 [x3]) then
        call ii_beginning_3 [tA8 x0, tLI (x1 ++ [x3]), tI x2, tI (wi64 (x3 + 1))]
      else none
    else
      call ii_beginning_3 [tA8 x0, tLI x1, tI x2, tI (wi64 (x3 + 1))]
  else
    some [tI 0, tLI x1]
theorem ei_beginning_3 (call : Oracle) (x0 : List Int) (x1 : List Int) (x2 : Int) (x3 : Int) : run1 E call ii_beginning_3 [tA8 x0, tLI x1, tI x2, tI x3] = bi_beginning_3 call x0 x1 x2 x3 := by kernel_rfl
theorem vi_beginning_3 (x0 : List Int) (x1 : List Int) (x2 : Int) (x3 : Int) {o : List TV} (h : bi_beginning_3 R x0 x1 x2 x3 = some o) : R ii_beginning_3 [tA8 x0, tLI x1, tI x2, tI x3] = some o := ev_step ((ei_beginning_3 R x0 x1 x2 x3).trans h)
/-- impl.beginning -/
noncomputable def bi_beginning (call : Oracle) (a0 : List Int) (a1 : Int) : Option (List TV) :=
  (call ii_beginning_3 [tA8 a0, tLI [], tI a1, tI 1]).bind fun o3 =>
  some [tLI (gLI o3 1)]
theorem ei_beginning (call : Oracle) (a0 : List Int) (a1 : Int) : run1 E call ii_beginning [tA8 a0, tI a1] = bi_beginning call a0 a1 := by kernel_rfl
theorem vi_beginning (a0 : List Int) (a1 : Int) {o : List TV} (h : bi_beginning R a0 a1 = some o) : R ii_beginning [tA8 a0, tI a1] = some o := ev_step ((ei_beginning R a0 a1).trans h)
/-- impl.endsAll loop 3 -/
noncomputable def bi_endsAll_3 (call : Oracle) (x0 : List Int) (x1 : List Int) (x2 : Int) (x3 : Int) : Option (List TV) :=
  bif decide (x3 < x2) then
    bif (decide (0 ≤ x3) && decide (x3 < ((List.length x1 : Nat) : Int))) then
      (call ii_begins [tA8 x0, tI (List.getD x1 (Int.toNat x3) 0)]).bind fun o4 =>
      bif (!(gB o4 0)) then
        some [tI 1, tB false]
      else
        call ii_endsAll_3 [tA8 x0, tLI x1, tI x2, tI (wi64 (x3 + 1))]
    else none
  else
    some [tI 0]
theorem ei_endsAll_3 (call : Oracle) (x0 : List Int) (x1 : List Int) (x2 : Int) (x3 : Int) : run1 E call ii_endsAll_3 [tA8 x0, tLI x1, tI x2, tI x3] = bi_endsAll_3 call x0 x1 x2 x3 := by kernel_rfl
theorem vi_endsAll_3 (x0 : List Int) (x1 : List Int) (x2 : Int) (x3 : Int) {o : List TV} (h : bi_endsAll_3 R x0 x1 x2 x3 = some o) : R ii_endsAll_3 [tA8 x0, tLI x1, tI x2, tI x3] = some o := ev_step ((ei_endsAll_3 R x0 x1 x2 x3).trans h)
/-- impl.endsAll -/
noncomputable def bi_endsAll (call : Oracle) (a0 : List Int) (a1 : List Int) (a2 : Int) : Option (List TV) :=
  (call ii_backOf [tA8 a0, tI a2]).bind fun o1 =>
  (call ii_beginning [tA8 a1, tI a2]).bind fun o2 =>
  (call ii_endsAll_3 [tA8 (gA8 o1 0), tLI (gLI o2 0), tI ((List.length (gLI o2 0) : Nat) : Int), tI 0]).bind fun o5 =>
  bif ((gI o5 0) == 0) then
    some [tB true]
  else
    some [tB (gB o5 1)]
theorem ei_endsAll (call : Oracle) (a0 : List Int) (a1 : List Int) (a2 : Int) : run1 E call ii_endsAll [tA8 a0, tA8 a1, tI a2] = bi_endsAll call a0 a1 a2 := by kernel_rfl
theorem vi_endsAll (a0 : List Int) (a1 : List Int) (a2 : Int) {o : List TV} (h : bi_endsAll R a0 a1 a2 = some o) : R ii_endsAll [tA8 a0, tA8 a1, tI a2] = some o := ev_step ((ei_endsAll R a0 a1 a2).trans h)
/-- impl.IsNormal loop 5 -/
noncomputable def bi_IsNormal_5 (call : Oracle) (x0 : Int) (x1 : Int) (x2 : List (List Int)) (x3 : Int) (x4 : Int) (x5 : Int) : Option (List TV) :=
  bif decide (x5 < x4) then
    bif (decide (0 ≤ x5) && decide (x5 < ((List.length x2 : Nat) : Int))) then
      (call ii_IsSimple [tA8 (List.getD x2 (Int.toNat x5) (List.replicate 8 0)), tI x3]).bind fun o7 =>
      bif (!(gB o7 0)) then
        some [tI 1, tB false]
      else
        (call ii_nothing [tI x3]).bind fun o8 =>
        bif ((List.getD x2 (Int.toNat x5) (List.replicate 8 0)) == (gA8 o8 0)) then
          some [tI 1, tB false]
        else
          (call ii_halfTurn [tI x3]).bind fun o9 =>
          bif ((List.getD x2 (Int.toNat x5) (List.replicate 8 0)) == (gA8 o9 0)) then
            some [tI 1, tB false]
          else
            bif decide (0 < x5) then
              bif (decide (0 ≤ (wi64 (x5 - 1))) && decide ((wi64 (x5 - 1)) < ((List.length x2 : Nat) : Int))) then
                (call ii_endsAll [tA8 (List.getD x2 (Int.toNat (wi64 (x5 - 1))) (List.replicate 8 0)), tA8 (List.getD x2 (Int.toNat x5) (List.replicate 8 0)), tI x3]).bind fun o10 =>
                bif (!(gB o10 0)) then
                  some [tI 1, tB false]
                else
                  call ii_IsNormal_5 [tI x0, tI x1, tLA8 x2, tI x3, tI x4, tI (wi64 (x5 + 1))]
              else none
            else
              call ii_IsNormal_5 [tI x0, tI x1, tLA8 x2, tI x3, tI x4, tI (wi64 (x5 + 1))]
    else none
  else
    some [tI 0]
theorem ei_IsNormal_5 (call : Oracle) (x0 : Int) (x1 : Int) (x2 : List (List Int)) (x3 : Int) (x4 : Int) (x5 : Int) : run1 E call ii_IsNormal_5 [tI x0, tI x1, tLA8 x2, tI x3, tI x4, tI x5] = bi_IsNormal_5 call x0 x1 x2 x3 x4 x5 := by kernel_rfl
theorem vi_IsNormal_5 (x0 : Int) (x1 : Int) (x2 : List (List Int)) (x3 : Int) (x4 : Int) (x5 : Int) {o : List TV} (h : bi_IsNormal_5 R x0 x1 x2 x3 x4 x5 = some o) : R ii_IsNormal_5 [tI x0, tI x1, tLA8 x2, tI x3, tI x4, tI x5] = some o := ev_step ((ei_IsNormal_5 R x0 x1 x2 x3 x4 x5).trans h)
/-- impl.IsNormal -/
noncomputable def bi_IsNormal (call : Oracle) (a0 : Int × Int × List (List Int)) : Option (List TV) :=
  (call ii_isCount [tI a0.1]).bind fun o1 =>
  bif (!(gB o1 0)) then
    some [tB false]
  else
    (call ii_within [tI a0.2.1, tI (-200), tI 200]).bind fun o2 =>
    bif (!(gB o2 0)) then
      some [tB false]
    else
      bif decide (200 < ((List.length a0.2.2 : Nat) : Int)) then
        some [tB false]
      else
        bif decide (a0.1 < 2) then
          bif (a0.2.1 != 0) then
            some [tB false]
          else
            (call ii_IsNormal_5 [tI a0.1, tI a0.2.1, tLA8 a0.2.2, tI a0.1, tI ((List.length a0.2.2 : Nat) : Int), tI 0]).bind fun o11 =>
            bif ((gI o11 0) == 0) then
              some [tB true]
            else
              some [tB (gB o11 1)]
        else
          (call ii_IsNormal_5 [tI a0.1, tI a0.2.1, tLA8 a0.2.2, tI a0.1, tI ((List.length a0.2.2 : Nat) : Int), tI 0]).bind fun o12 =>
          bif ((gI o12 0) == 0) then
            some [tB true]
          else
            some [tB (gB o12 1)]
theorem ei_IsNormal (call : Oracle) (a0 : Int × Int × List (List Int)) : run1 E call ii_IsNormal [tPIPILA8 a0] = bi_IsNormal call a0 := by kernel_rfl
theorem vi_IsNormal (a0 : Int × Int × List (List Int)) {o : List TV} (h : bi_IsNormal R a0 = some o) : R ii_IsNormal [tPIPILA8 a0] = some o := ev_step ((ei_IsNormal R a0).trans h)
/-- impl.wordOf loop 2 -/
noncomputable def bi_wordOf_2 (call : Oracle) (x0 : List Int) (x1 : List Int) (x2 : Int) : Option (List TV) :=
  (call ii_beginning [tA8 x0, tI x2]).bind fun o2 =>
  bif (((List.length (gLI o2 0) : Nat) : Int) == 0) then
    some [tI 0, tLI x1]
  else
    bif decide (0 < ((List.length (gLI o2 0) : Nat) : Int)) then
      bif (apOk x1 [(List.getD (gLI o2 0) 0 0)]) then
        bif (decide (0 ≤ (List.getD (gLI o2 0) 0 0)) && decide ((List.getD (gLI o2 0) 0 0) < 8)) then
          bif (decide (0 ≤ (wi64 ((List.getD (gLI o2 0) 0 0) - 1))) && decide ((wi64 ((List.getD (gLI o2 0) 0 0) - 1)) < 8)) then
            bif (decide (0 ≤ (wi64 ((List.getD (gLI o2 0) 0 0) - 1))) && decide ((wi64 ((List.getD (gLI o2 0) 0 0) - 1)) < 8)) then
              bif (decide (0 ≤ (List.getD (gLI o2 0) 0 0)) && decide ((List.getD (gLI o2 0) 0 0) < 8)) then
                call ii_wordOf_2 [tA8 (List.set (List.set x0 (Int.toNat (wi64 ((List.getD (gLI o2 0) 0 0) - 1))) (List.getD x0 (Int.toNat (List.getD (gLI o2 0) 0 0)) 0)) (Int.toNat (List.getD (gLI o2 0) 0 0)) (List.getD x0 (Int.toNat (wi64 ((List.getD (gLI o2 0) 0 0) - 1))) 0)), tLI (x1 ++ [(List.getD (gLI o2 0) 0 0)]), tI x2]
              else none
            else none
          else none
        else none
      else none
    else none
theorem ei_wordOf_2 (call : Oracle) (x0 : List Int) (x1 : List Int) (x2 : Int) : run1 E call ii_wordOf_2 [tA8 x0, tLI x1, tI x2] = bi_wordOf_2 call x0 x1 x2 := by kernel_rfl
theorem vi_wordOf_2 (x0 : List Int) (x1 : List Int) (x2 : Int) {o : List TV} (h : bi_wordOf_2 R x0 x1 x2 = some o) : R ii_wordOf_2 [tA8 x0, tLI x1, tI x2] = some o := ev_step ((ei_wordOf_2 R x0 x1 x2).trans h)
/-- impl.wordOf -/
noncomputable def bi_wordOf (call : Oracle) (a0 : List Int) (a1 : Int) : Option (List TV) :=
  (call ii_wordOf_2 [tA8 a0, tLI [], tI a1]).bind fun o3 =>
  some [tLI (gLI o3 1)]
theorem ei_wordOf (call : Oracle) (a0 : List Int) (a1 : Int) : run1 E call ii_wordOf [tA8 a0, tI a1] = bi_wordOf call a0 a1 := by kernel_rfl
theorem vi_wordOf (a0 : List Int) (a1 : Int) {o : List TV} (h : bi_wordOf R a0 a1 = some o) : R ii_wordOf [tA8 a0, tI a1] = some o := ev_step ((ei_wordOf R a0 a1).trans h)
/-- impl.opposite -/
noncomputable def bi_opposite (call : Oracle) (a0 : Int) : Option (List TV) :=
  some [tI (wi64 (0 - a0))]
theorem ei_opposite (call : Oracle) (a0 : Int) : run1 E call ii_opposite [tI a0] = bi_opposite call a0 := by kernel_rfl
theorem vi_opposite (a0 : Int) {o : List TV} (h : bi_opposite R a0 = some o) : R ii_opposite [tI a0] = some o := ev_step ((ei_opposite R a0).trans h)
/-- impl.letterBy loop 3 -/
noncomputable def bi_letterBy_3 (call : Oracle) (x0 : Int) (x1 : List Int) (x2 : Int) (x3 : List Int) (x4 : List Int) (x5 : Int) (x6 : Int) : Option (List TV) :=
  bif decide (x6 < x5) then
    bif (decide (0 ≤ x6) && decide (x6 < ((List.length x4 : Nat) : Int))) then
      (call ii_opposite [tI (List.getD x4 (Int.toNat x6) 0)]).bind fun o2 =>
      bif (apOk x3 [(gI o2 0)]) then
        call ii_letterBy_3 [tI x0, tLI x1, tI x2, tLI (x3 ++ [(gI o2 0)]), tLI x4, tI x5, tI (wi64 (x6 + 1))]
      else none
    else none
  else
    some [tI 0, tI x0, tLI x1, tI x2, tLI x3]
theorem ei_letterBy_3 (call : Oracle) (x0 : Int) (x1 : List Int) (x2 : Int) (x3 : List Int) (x4 : List Int) (x5 : Int) (x6 : Int) : run1 E call ii_letterBy_3 [tI x0, tLI x1, tI x2, tLI x3, tLI x4, tI x5, tI x6] = bi_letterBy_3 call x0 x1 x2 x3 x4 x5 x6 := by kernel_rfl
theorem vi_letterBy_3 (x0 : Int) (x1 : List Int) (x2 : Int) (x3 : List Int) (x4 : List Int) (x5 : Int) (x6 : Int) {o : List TV} (h : bi_letterBy_3 R x0 x1 x2 x3 x4 x5 x6 = some o) : R ii_letterBy_3 [tI x0, tLI x1, tI x2, tLI x3, tLI x4, tI x5, tI x6] = some o := ev_step ((ei_letterBy_3 R x0 x1 x2 x3 x4 x5 x6).trans h)
/-- impl.letterBy -/
noncomputable def bi_letterBy (call : Oracle) (a0 : Int × List Int) : Option (List TV) :=
  (call ii_letterBy_3 [tI 0, tLI [], tI a0.1, tLI [], tLI a0.2, tI ((List.length a0.2 : Nat) : Int), tI 0]).bind fun o3 =>
  some [tPILI ((gI o3 3), (gLI o3 4))]
theorem ei_letterBy (call : Oracle) (a0 : Int × List Int) : run1 E call ii_letterBy [tPILI a0] = bi_letterBy call a0 := by kernel_rfl
theorem vi_letterBy (a0 : Int × List Int) {o : List TV} (h : bi_letterBy R a0 = some o) : R ii_letterBy [tPILI a0] = some o := ev_step ((ei_letterBy R a0).trans h)
/-- impl.size -/
noncomputable def bi_size (call : Oracle) (a0 : Int) : Option (List TV) :=
  some [tI (mx a0 (wi64 (0 - a0)))]
theorem ei_size (call : Oracle) (a0 : Int) : run1 E call ii_size [tI a0] = bi_size call a0 := by kernel_rfl
theorem vi_size (a0 : Int) {o : List TV} (h : bi_size R a0 = some o) : R ii_size [tI a0] = some o := ev_step ((ei_size R a0).trans h)
/-- impl.WordOfNormal loop 8 -/
noncomputable def bi_WordOfNormal_8 (call : Oracle) (x0 : Int) (x1 : Int) (x2 : List (List Int)) (x3 : List Int) (x4 : List Int) (x5 : Int) (x6 : Int) : Option (List TV) :=
  bif decide (x6 < x5) then
    bif (apOk x4 x3) then
      call ii_WordOfNormal_8 [tI x0, tI x1, tLA8 x2, tLI x3, tLI (x4 ++ x3), tI x5, tI (wi64 (x6 + 1))]
    else none
  else
    some [tI 0, tI x0, tI x1, tLA8 x2, tLI x4]
theorem ei_WordOfNormal_8 (call : Oracle) (x0 : Int) (x1 : Int) (x2 : List (List Int)) (x3 : List Int) (x4 : List Int) (x5 : Int) (x6 : Int) : run1 E call ii_WordOfNormal_8 [tI x0, tI x1, tLA8 x2, tLI x3, tLI x4, tI x5, tI x6] = bi_WordOfNormal_8 call x0 x1 x2 x3 x4 x5 x6 := by kernel_rfl
theorem vi_WordOfNormal_8 (x0 : Int) (x1 : Int) (x2 : List (List Int)) (x3 : List Int) (x4 : List Int) (x5 : Int) (x6 : Int) {o : List TV} (h : bi_WordOfNormal_8 R x0 x1 x2 x3 x4 x5 x6 = some o) : R ii_WordOfNormal_8 [tI x0, tI x1, tLA8 x2, tLI x3, tLI x4, tI x5, tI x6] = some o := ev_step ((ei_WordOfNormal_8 R x0 x1 x2 x3 x4 x5 x6).trans h)
/-- impl.WordOfNormal loop 12 -/
noncomputable def bi_WordOfNormal_12 (call : Oracle) (x0 : Int) (x1 : Int) (x2 : List (List Int)) (x3 : List Int) (x4 : Int) (x5 : Int) : Option (List TV) :=
  bif decide (x5 < x4) then
    bif (decide (0 ≤ x5) && decide (x5 < ((List.length x2 : Nat) : Int))) then
      (call ii_wordOf [tA8 (List.getD x2 (Int.toNat x5) (List.replicate 8 0)), tI x0]).bind fun o9 =>
      bif (apOk x3 (gLI o9 0)) then
        call ii_WordOfNormal_12 [tI x0, tI x1, tLA8 x2, tLI (x3 ++ (gLI o9 0)), tI x4, tI (wi64 (x5 + 1))]
      else none
    else none
  else
    some [tI 0, tLI x3]
theorem ei_WordOfNormal_12 (call : Oracle) (x0 : Int) (x1 : Int) (x2 : List (List Int)) (x3 : List Int) (x4 : Int) (x5 : Int) : run1 E call ii_WordOfNormal_12 [tI x0, tI x1, tLA8 x2, tLI x3, tI x4, tI x5] = bi_WordOfNormal_12 call x0 x1 x2 x3 x4 x5 := by kernel_rfl
theorem vi_WordOfNormal_12 (x0 : Int) (x1 : Int) (x2 : List (List Int)) (x3 : List Int) (x4 : Int) (x5 : Int) {o : List TV} (h : bi_WordOfNormal_12 R x0 x1 x2 x3 x4 x5 = some o) : R ii_WordOfNormal_12 [tI x0, tI x1, tLA8 x2, tLI x3, tI x4, tI x5] = some o := ev_step ((ei_WordOfNormal_12 R x0 x1 x2 x3 x4 x5).trans h)
/-- impl.WordOfNormal -/
noncomputable def bi_WordOfNormal (call : Oracle) (a0 : Int × Int × List (List Int)) : Option (List TV) :=
  (call ii_IsNormal [tPIPILA8 (a0.1, (a0.2.1, a0.2.2))]).bind fun o1 =>
  bif (!(gB o1 0)) then
    some [tLI [], tI 1]
  else
    (call ii_halfTurn [tI a0.1]).bind fun o2 =>
    (call ii_wordOf [tA8 (gA8 o2 0), tI a0.1]).bind fun o3 =>
    bif decide (a0.2.1 < 0) then
      (call ii_reversed [tPILI (a0.1, (gLI o3 0))]).bind fun o4 =>
      (call ii_letterBy [tPILI ((gPILI o4 0).1, (gPILI o4 0).2)]).bind fun o5 =>
      (call ii_size [tI a0.2.1]).bind fun o6 =>
      (call ii_WordOfNormal_8 [tI a0.1, tI a0.2.1, tLA8 a0.2.2, tLI ((gPILI o5 0).2), tLI [], tI (gI o6 0), tI 0]).bind fun o7 =>
      (call ii_WordOfNormal_12 [tI (gI o7 1), tI (gI o7 2), tLA8 (gLA8 o7 3), tLI (gLI o7 4), tI ((List.length (gLA8 o7 3) : Nat) : Int), tI 0]).bind fun o10 =>
      bif decide (200 < ((List.length (gLI o10 1) : Nat) : Int)) then
        some [tLI [], tI 3]
      else
        some [tLI (gLI o10 1), tI 0]
    else
      (call ii_size [tI a0.2.1]).bind fun o11 =>
      (call ii_WordOfNormal_8 [tI a0.1, tI a0.2.1, tLA8 a0.2.2, tLI (gLI o3 0), tLI [], tI (gI o11 0), tI 0]).bind fun o12 =>
      (call ii_WordOfNormal_12 [tI (gI o12 1), tI (gI o12 2), tLA8 (gLA8 o12 3), tLI (gLI o12 4), tI ((List.length (gLA8 o12 3) : Nat) : Int), tI 0]).bind fun o13 =>
      bif decide (200 < ((List.length (gLI o13 1) : Nat) : Int)) then
        some [tLI [], tI 3]
      else
        some [tLI (gLI o13 1), tI 0]
theorem ei_WordOfNormal (call : Oracle) (a0 : Int × Int × List (List Int)) : run1 E call ii_WordOfNormal [tPIPILA8 a0] = bi_WordOfNormal call a0 := by kernel_rfl
theorem vi_WordOfNormal (a0 : Int × Int × List (List Int)) {o : List TV} (h : bi_WordOfNormal R a0 = some o) : R ii_WordOfNormal [tPIPILA8 a0] = some o := ev_step ((ei_WordOfNormal R a0).trans h)
/-- spec.l02Is loop 5 -/
noncomputable def bs_l02Is_5 (call : Oracle) (x0 : List Int) (x1 : List Bool) (x2 : Int) (x3 : Int) : Option (List TV) :=
  bif decide (x3 < 8) then
    bif decide (x2 ≤ x3) then
      bif (decide (0 ≤ x3) && decide (x3 < 8)) then
        bif ((List.getD x0 (Int.toNat x3) 0) != 0) then
          some [tI 1, tB false]
        else
          call is_l02Is_5 [tA8 x0, tAB8 x1, tI x2, tI (wi64 (x3 + 1))]
      else none
    else
      bif (decide (0 ≤ x3) && decide (x3 < 8)) then
        bif decide (x2 ≤ (wi64 ((List.getD x0 (Int.toNat x3) 0)))) then
          some [tI 1, tB false]
        else
          bif (decide (0 ≤ x3) && decide (x3 < 8)) then
            bif (decide (0 ≤ (List.getD x0 (Int.toNat x3) 0)) && decide ((List.getD x0 (Int.toNat x3) 0) < 8)) then
              bif (List.getD x1 (Int.toNat (List.getD x0 (Int.toNat x3) 0)) false) then
                some [tI 1, tB false]
              else
                bif (decide (0 ≤ x3) && decide (x3 < 8)) then
                  bif (decide (0 ≤ (List.getD x0 (Int.toNat x3) 0)) && decide ((List.getD x0 (Int.toNat x3) 0) < 8)) then
                    call is_l02Is_5 [tA8 x0, tAB8 (List.set x1 (Int.toNat (List.getD x0 (Int.toNat x3) 0)) true), tI x2, tI (wi64 (x3 + 1))]
                  else none
                else none
            else none
          else none
      else none
  else
    some [tI 0]
theorem es_l02Is_5 (call : Oracle) (x0 : List Int) (x1 : List Bool) (x2 : Int) (x3 : Int) : run1 E call is_l02Is_5 [tA8 x0, tAB8 x1, tI x2, tI x3] = bs_l02Is_5 call x0 x1 x2 x3 := by kernel_rfl
theorem vs_l02Is_5 (x0 : List Int) (x1 : List Bool) (x2 : Int) (x3 : Int) {o : List TV} (h : bs_l02Is_5 R x0 x1 x2 x3 = some o) : R is_l02Is_5 [tA8 x0, tAB8 x1, tI x2, tI x3] = some o := ev_step ((es_l02Is_5 R x0 x1 x2 x3).trans h)
/-- spec.l02Is -/
noncomputable def bs_l02Is (call : Oracle) (a0 : List Int) (a1 : Int) : Option (List TV) :=
  (call is_l01In [tI a1, tI 1, tI 8]).bind fun o1 =>
  bif (!(gB o1 0)) then
    some [tB false]
  else
    (call is_l02Is_5 [tA8 a0, tAB8 (List.replicate 8 false), tI a1, tI 0]).bind fun o2 =>
    bif ((gI o2 0) == 0) then
      some [tB true]
    else
      some [tB (gB o2 1)]
theorem es_l02Is (call : Oracle) (a0 : List Int) (a1 : Int) : run1 E call is_l02Is [tA8 a0, tI a1] = bs_l02Is call a0 a1 := by kernel_rfl
theorem vs_l02Is (a0 : List Int) (a1 : Int) {o : List TV} (h : bs_l02Is R a0 a1 = some o) : R is_l02Is [tA8 a0, tI a1] = some o := ev_step ((es_l02Is R a0 a1).trans h)
/-- spec.l03Weighted loop 3 -/
noncomputable def bs_l03Weighted_3 (call : Oracle) (x0 : List Int) (x1 : List Int) (x2 : Int) (x3 : Int) : Option (List TV) :=
  bif decide (x3 < x2) then
    bif (decide (0 ≤ (wi64 (x3 - 1))) && decide ((wi64 (x3 - 1)) < 8)) then
      bif (decide (0 ≤ x3) && decide (x3 < 8)) then
        bif decide ((List.getD x0 (Int.toNat x3) 0) < (List.getD x0 (Int.toNat (wi64 (x3 - 1))) 0)) then
          bif (decide (0 ≤ (wi64 (x3 - 1))) && decide ((wi64 (x3 - 1)) < 8)) then
            bif (decide (0 ≤ x3) && decide (x3 < 8)) then
              bif decide ((List.getD x1 (Int.toNat (wi64 (x3 - 1))) 0) < (List.getD x1 (Int.toNat x3) 0)) then
                some [tI 1, tB false]
              else
                call is_l03Weighted_3 [tA8 x0, tA8 x1, tI x2, tI (wi64 (x3 + 1))]
            else none
          else none
        else
          call is_l03Weighted_3 [tA8 x0, tA8 x1, tI x2, tI (wi64 (x3 + 1))]
      else none
    else none
  else
    some [tI 0]
theorem es_l03Weighted_3 (call : Oracle) (x0 : List Int) (x1 : List Int) (x2 : Int) (x3 : Int) : run1 E call is_l03Weighted_3 [tA8 x0, tA8 x1, tI x2, tI x3] = bs_l03Weighted_3 call x0 x1 x2 x3 := by kernel_rfl
theorem vs_l03Weighted_3 (x0 : List Int) (x1 : List Int) (x2 : Int) (x3 : Int) {o : List TV} (h : bs_l03Weighted_3 R x0 x1 x2 x3 = some o) : R is_l03Weighted_3 [tA8 x0, tA8 x1, tI x2, tI x3] = some o := ev_step ((es_l03Weighted_3 R x0 x1 x2 x3).trans h)
/-- spec.l03Weighted -/
noncomputable def bs_l03Weighted (call : Oracle) (a0 : List Int) (a1 : List Int) (a2 : Int) : Option (List TV) :=
  (call is_l02Back [tA8 a0, tI a2]).bind fun o1 =>
  (call is_l03Weighted_3 [tA8 a1, tA8 (gA8 o1 0), tI a2, tI 1]).bind fun o2 =>
  bif ((gI o2 0) == 0) then
    some [tB true]
  else
    some [tB (gB o2 1)]
theorem es_l03Weighted (call : Oracle) (a0 : List Int) (a1 : List Int) (a2 : Int) : run1 E call is_l03Weighted [tA8 a0, tA8 a1, tI a2] = bs_l03Weighted call a0 a1 a2 := by kernel_rfl
theorem vs_l03Weighted (a0 : List Int) (a1 : List Int) (a2 : Int) {o : List TV} (h : bs_l03Weighted R a0 a1 a2 = some o) : R is_l03Weighted [tA8 a0, tA8 a1, tI a2] = some o := ev_step ((es_l03Weighted R a0 a1 a2).trans h)
/-- spec.l03Is loop 5 -/
noncomputable def bs_l03Is_5 (call : Oracle) (x0 : Int) (x1 : Int) (x2 : List (List Int)) (x3 : Int) (x4 : Int) : Option (List TV) :=
  bif decide (x4 < ((List.length x2 : Nat) : Int)) then
    bif (decide (0 ≤ x4) && decide (x4 < ((List.length x2 : Nat) : Int))) then
      (call is_l02Is [tA8 (List.getD x2 (Int.toNat x4) (List.replicate 8 0)), tI x3]).bind fun o7 =>
      bif (!(gB o7 0)) then
        some [tI 1, tB false]
      else
        (call is_l02Same [tI x3]).bind fun o8 =>
        bif ((List.getD x2 (Int.toNat x4) (List.replicate 8 0)) == (gA8 o8 0)) then
          some [tI 1, tB false]
        else
          (call is_l02Half [tI x3]).bind fun o9 =>
          bif ((List.getD x2 (Int.toNat x4) (List.replicate 8 0)) == (gA8 o9 0)) then
            some [tI 1, tB false]
          else
            bif decide (0 < x4) then
              bif (decide (0 ≤ (wi64 (x4 - 1))) && decide ((wi64 (x4 - 1)) < ((List.length x2 : Nat) : Int))) then
                (call is_l03Weighted [tA8 (List.getD x2 (Int.toNat (wi64 (x4 - 1))) (List.replicate 8 0)), tA8 (List.getD x2 (Int.toNat x4) (List.replicate 8 0)), tI x3]).bind fun o10 =>
                bif (!(gB o10 0)) then
                  some [tI 1, tB false]
                else
                  call is_l03Is_5 [tI x0, tI x1, tLA8 x2, tI x3, tI (wi64 (x4 + 1))]
              else none
            else
              call is_l03Is_5 [tI x0, tI x1, tLA8 x2, tI x3, tI (wi64 (x4 + 1))]
    else none
  else
    some [tI 0]
theorem es_l03Is_5 (call : Oracle) (x0 : Int) (x1 : Int) (x2 : List (List Int)) (x3 : Int) (x4 : Int) : run1 E call is_l03Is_5 [tI x0, tI x1, tLA8 x2, tI x3, tI x4] = bs_l03Is_5 call x0 x1 x2 x3 x4 := by kernel_rfl
theorem vs_l03Is_5 (x0 : Int) (x1 : Int) (x2 : List (List Int)) (x3 : Int) (x4 : Int) {o : List TV} (h : bs_l03Is_5 R x0 x1 x2 x3 x4 = some o) : R is_l03Is_5 [tI x0, tI x1, tLA8 x2, tI x3, tI x4] = some o := ev_step ((es_l03Is_5 R x0 x1 x2 x3 x4).trans h)
/-- spec.l03Is -/
noncomputable def bs_l03Is (call : Oracle) (a0 : Int × Int × List (List Int)) : Option (List TV) :=
  (call is_l01In [tI a0.1, tI 1, tI 8]).bind fun o1 =>
  bif (!(gB o1 0)) then
    some [tB false]
  else
    (call is_l01In [tI a0.2.1, tI (-200), tI 200]).bind fun o2 =>
    bif (!(gB o2 0)) then
      some [tB false]
    else
      bif decide (200 < ((List.length a0.2.2 : Nat) : Int)) then
        some [tB false]
      else
        bif decide (a0.1 < 2) then
          bif (a0.2.1 != 0) then
            some [tB false]
          else
            (call is_l03Is_5 [tI a0.1, tI a0.2.1, tLA8 a0.2.2, tI a0.1, tI 0]).bind fun o11 =>
            bif ((gI o11 0) == 0) then
              some [tB true]
            else
              some [tB (gB o11 1)]
        else
          (call is_l03Is_5 [tI a0.1, tI a0.2.1, tLA8 a0.2.2, tI a0.1, tI 0]).bind fun o12 =>
          bif ((gI o12 0) == 0) then
            some [tB true]
          else
            some [tB (gB o12 1)]
theorem es_l03Is (call : Oracle) (a0 : Int × Int × List (List Int)) : run1 E call is_l03Is [tPIPILA8 a0] = bs_l03Is call a0 := by kernel_rfl
theorem vs_l03Is (a0 : Int × Int × List (List Int)) {o : List TV} (h : bs_l03Is R a0 = some o) : R is_l03Is [tPIPILA8 a0] = some o := ev_step ((es_l03Is R a0).trans h)
end Go.Ev.Ytpfpjhfimmmkmaa
