/- Bodies, part 1. -/
import Derived.KernelRfl
import Derived.Test.YtolpnaiincngjaaGreatEnv
set_option linter.unusedVariables false
namespace Go.Ev.YtolpnaiincngjaaGreat
open Go.Ev
/-- spec.l04Insert -/
noncomputable def bs_l04Insert (call : Oracle) (a0 : List (Int × Int × List (List Int))) (a1 : Int × Int × List (List Int)) : Option (List TV) :=
  (call is_l04Insert_2 [tLPIPILA8 a0, tI a1.1, tI a1.2.1, tLA8 a1.2.2, tI 0]).bind fun o3 =>
  bif decide ((gI o3 5) < ((List.length (gLPIPILA8 o3 1) : Nat) : Int)) then
    bif (decide (0 ≤ (gI o3 5)) && decide ((gI o3 5) < ((List.length (gLPIPILA8 o3 1) : Nat) : Int))) then
      (call is_l03Like [tPIPILA8 ((List.getD (gLPIPILA8 o3 1) (Int.toNat (gI o3 5)) (0, (0, []))).1, (((List.getD (gLPIPILA8 o3 1) (Int.toNat (gI o3 5)) (0, (0, []))).2).1, ((List.getD (gLPIPILA8 o3 1) (Int.toNat (gI o3 5)) (0, (0, []))).2).2)), tPIPILA8 ((gI o3 2), ((gI o3 3), (gLA8 o3 4)))]).bind fun o4 =>
      bif (gB o4 0) then
        some [tLPIPILA8 (gLPIPILA8 o3 1), tB false]
      else
        bif (decide (0 ≤ (gI o3 5)) && decide ((gI o3 5) ≤ ((List.length (gLPIPILA8 o3 1) : Nat) : Int))) then
          bif (apOk [((gI o3 2), ((gI o3 3), (gLA8 o3 4)))] (List.drop (Int.toNat (gI o3 5)) (gLPIPILA8 o3 1))) then
            bif (decide (0 ≤ (gI o3 5)) && decide ((gI o3 5) ≤ ((List.length (gLPIPILA8 o3 1) : Nat) : Int))) then
              bif (apOk [] (List.take (Int.toNat (gI o3 5)) (gLPIPILA8 o3 1))) then
                bif (apOk (List.take (Int.toNat (gI o3 5)) (gLPIPILA8 o3 1)) ([((gI o3 2), ((gI o3 3), (gLA8 o3 4)))] ++ (List.drop (Int.toNat (gI o3 5)) (gLPIPILA8 o3 1)))) then
                  some [tLPIPILA8 ((List.take (Int.toNat (gI o3 5)) (gLPIPILA8 o3 1)) ++ ([((gI o3 2), ((gI o3 3), (gLA8 o3 4)))] ++ (List.drop (Int.toNat (gI o3 5)) (gLPIPILA8 o3 1)))), tB true]
                else none
              else none
            else none
          else none
        else none
    else none
  else
    bif (decide (0 ≤ (gI o3 5)) && decide ((gI o3 5) ≤ ((List.length (gLPIPILA8 o3 1) : Nat) : Int))) then
      bif (apOk [((gI o3 2), ((gI o3 3), (gLA8 o3 4)))] (List.drop (Int.toNat (gI o3 5)) (gLPIPILA8 o3 1))) then
        bif (decide (0 ≤ (gI o3 5)) && decide ((gI o3 5) ≤ ((List.length (gLPIPILA8 o3 1) : Nat) : Int))) then
          bif (apOk [] (List.take (Int.toNat (gI o3 5)) (gLPIPILA8 o3 1))) then
            bif (apOk (List.take (Int.toNat (gI o3 5)) (gLPIPILA8 o3 1)) ([((gI o3 2), ((gI o3 3), (gLA8 o3 4)))] ++ (List.drop (Int.toNat (gI o3 5)) (gLPIPILA8 o3 1)))) then
              some [tLPIPILA8 ((List.take (Int.toNat (gI o3 5)) (gLPIPILA8 o3 1)) ++ ([((gI o3 2), ((gI o3 3), (gLA8 o3 4)))] ++ (List.drop (Int.toNat (gI o3 5)) (gLPIPILA8 o3 1)))), tB true]
            else none
          else none
        else none
      else none
    else none
theorem es_l04Insert (call : Oracle) (a0 : List (Int × Int × List (List Int))) (a1 : Int × Int × List (List Int)) : run1 E call is_l04Insert [tLPIPILA8 a0, tPIPILA8 a1] = bs_l04Insert call a0 a1 := by kernel_rfl
theorem vs_l04Insert (a0 : List (Int × Int × List (List Int))) (a1 : Int × Int × List (List Int)) {o : List TV} (h : bs_l04Insert R a0 a1 = some o) : R is_l04Insert [tLPIPILA8 a0, tPIPILA8 a1] = some o := ev_step ((es_l04Insert R a0 a1).trans h)
/-- spec.l04Set loop 4 -/
noncomputable def bs_l04Set_4 (call : Oracle) (x0 : Int) (x1 : Int) (x2 : List (List Int)) (x3 : List (Int × Int × List (List Int))) (x4 : List (Int × Int × List (List Int))) (x5 : List (List Int)) (x6 : Int) : Option (List TV) :=
  bif decide (x6 < ((List.length x4 : Nat) : Int)) then
    (call is_l04Set_7 [tI x0, tI x1, tLA8 x2, tLPIPILA8 x3, tLPIPILA8 x4, tLA8 x5, tI x6, tI 0]).bind fun o9 =>
    bif ((gI o9 0) == 0) then
      call is_l04Set_4 [tI (gI o9 1), tI (gI o9 2), tLA8 (gLA8 o9 3), tLPIPILA8 (gLPIPILA8 o9 4), tLPIPILA8 (gLPIPILA8 o9 5), tLA8 (gLA8 o9 6), tI (wi64 ((gI o9 7) + 1))]
    else
      some [tI 1, tLPIPILA8 (gLPIPILA8 o9 1), tB (gB o9 2)]
  else
    some [tI 0, tLPIPILA8 x3]
theorem es_l04Set_4 (call : Oracle) (x0 : Int) (x1 : Int) (x2 : List (List Int)) (x3 : List (Int × Int × List (List Int))) (x4 : List (Int × Int × List (List Int))) (x5 : List (List Int)) (x6 : Int) : run1 E call is_l04Set_4 [tI x0, tI x1, tLA8 x2, tLPIPILA8 x3, tLPIPILA8 x4, tLA8 x5, tI x6] = bs_l04Set_4 call x0 x1 x2 x3 x4 x5 x6 := by kernel_rfl
theorem vs_l04Set_4 (x0 : Int) (x1 : Int) (x2 : List (List Int)) (x3 : List (Int × Int × List (List Int))) (x4 : List (Int × Int × List (List Int))) (x5 : List (List Int)) (x6 : Int) {o : List TV} (h : bs_l04Set_4 R x0 x1 x2 x3 x4 x5 x6 = some o) : R is_l04Set_4 [tI x0, tI x1, tLA8 x2, tLPIPILA8 x3, tLPIPILA8 x4, tLA8 x5, tI x6] = some o := ev_step ((es_l04Set_4 R x0 x1 x2 x3 x4 x5 x6).trans h)
/-- spec.l04Set loop 7 -/
noncomputable def bs_l04Set_7 (call : Oracle) (x0 : Int) (x1 : Int) (x2 : List (List Int)) (x3 : List (Int × Int × List (List Int))) (x4 : List (Int × Int × List (List Int))) (x5 : List (List Int)) (x6 : Int) (x7 : Int) : Option (List TV) :=
  bif decide (x7 < ((List.length x5 : Nat) : Int)) then
    bif (decide (0 ≤ x6) && decide (x6 < ((List.length x4 : Nat) : Int))) then
      bif (decide (0 ≤ x7) && decide (x7 < ((List.length x5 : Nat) : Int))) then
        (call is_l04Conjugate [tPIPILA8 ((List.getD x4 (Int.toNat x6) (0, (0, []))).1, (((List.getD x4 (Int.toNat x6) (0, (0, []))).2).1, ((List.getD x4 (Int.toNat x6) (0, (0, []))).2).2)), tA8 (List.getD x5 (Int.toNat x7) (List.replicate 8 0))]).bind fun o6 =>
        bif (((gPIPILA8 o6 0).2).1 != x1) then
          call is_l04Set_7 [tI x0, tI x1, tLA8 x2, tLPIPILA8 x3, tLPIPILA8 x4, tLA8 x5, tI x6, tI (wi64 (x7 + 1))]
        else
          bif (((List.length (((gPIPILA8 o6 0).2).2) : Nat) : Int) != ((List.length x2 : Nat) : Int)) then
            call is_l04Set_7 [tI x0, tI x1, tLA8 x2, tLPIPILA8 x3, tLPIPILA8 x4, tLA8 x5, tI x6, tI (wi64 (x7 + 1))]
          else
            (call is_l04Insert [tLPIPILA8 x3, tPIPILA8 ((gPIPILA8 o6 0).1, (((gPIPILA8 o6 0).2).1, ((gPIPILA8 o6 0).2).2))]).bind fun o7 =>
            bif (gB o7 1) then
              bif decide (120 < ((List.length (gLPIPILA8 o7 0) : Nat) : Int)) then
                some [tI 1, tLPIPILA8 [], tB false]
              else
                bif (apOk x4 [((gPIPILA8 o6 0).1, (((gPIPILA8 o6 0).2).1, ((gPIPILA8 o6 0).2).2))]) then
                  call is_l04Set_7 [tI x0, tI x1, tLA8 x2, tLPIPILA8 (gLPIPILA8 o7 0), tLPIPILA8 (x4 ++ [((gPIPILA8 o6 0).1, (((gPIPILA8 o6 0).2).1, ((gPIPILA8 o6 0).2).2))]), tLA8 x5, tI x6, tI (wi64 (x7 + 1))]
                else none
            else
              call is_l04Set_7 [tI x0, tI x1, tLA8 x2, tLPIPILA8 x3, tLPIPILA8 x4, tLA8 x5, tI x6, tI (wi64 (x7 + 1))]
      else none
    else none
  else
    some [tI 0, tI x0, tI x1, tLA8 x2, tLPIPILA8 x3, tLPIPILA8 x4, tLA8 x5, tI x6]
theorem es_l04Set_7 (call : Oracle) (x0 : Int) (x1 : Int) (x2 : List (List Int)) (x3 : List (Int × Int × List (List Int))) (x4 : List (Int × Int × List (List Int))) (x5 : List (List Int)) (x6 : Int) (x7 : Int) : run1 E call is_l04Set_7 [tI x0, tI x1, tLA8 x2, tLPIPILA8 x3, tLPIPILA8 x4, tLA8 x5, tI x6, tI x7] = bs_l04Set_7 call x0 x1 x2 x3 x4 x5 x6 x7 := by kernel_rfl
theorem vs_l04Set_7 (x0 : Int) (x1 : Int) (x2 : List (List Int)) (x3 : List (Int × Int × List (List Int))) (x4 : List (Int × Int × List (List Int))) (x5 : List (List Int)) (x6 : Int) (x7 : Int) {o : List TV} (h : bs_l04Set_7 R x0 x1 x2 x3 x4 x5 x6 x7 = some o) : R is_l04Set_7 [tI x0, tI x1, tLA8 x2, tLPIPILA8 x3, tLPIPILA8 x4, tLA8 x5, tI x6, tI x7] = some o := ev_step ((es_l04Set_7 R x0 x1 x2 x3 x4 x5 x6 x7).trans h)
/-- spec.l04Set -/
noncomputable def bs_l04Set (call : Oracle) (a0 : Int × Int × List (List Int)) : Option (List TV) :=
  (call is_l04Summit [tPIPILA8 (a0.1, (a0.2.1, a0.2.2))]).bind fun o1 =>
  (call is_l02Same [tI a0.1]).bind fun o2 =>
  (call is_l04Simples [tLA8 [], tA8 (gA8 o2 0), tI 0, tI a0.1]).bind fun o3 =>
  (call is_l04Set_4 [tI ((gPIPILA8 o1 0).1), tI (((gPIPILA8 o1 0).2).1), tLA8 (((gPIPILA8 o1 0).2).2), tLPIPILA8 [((gPIPILA8 o1 0).1, (((gPIPILA8 o1 0).2).1, ((gPIPILA8 o1 0).2).2))], tLPIPILA8 [((gPIPILA8 o1 0).1, (((gPIPILA8 o1 0).2).1, ((gPIPILA8 o1 0).2).2))], tLA8 (gLA8 o3 0), tI 0]).bind fun o10 =>
  bif ((gI o10 0) == 0) then
    some [tLPIPILA8 (gLPIPILA8 o10 1), tB true]
  else
    some [tLPIPILA8 (gLPIPILA8 o10 1), tB (gB o10 2)]
theorem es_l04Set (call : Oracle) (a0 : Int × Int × List (List Int)) : run1 E call is_l04Set [tPIPILA8 a0] = bs_l04Set call a0 := by kernel_rfl
theorem vs_l04Set (a0 : Int × Int × List (List Int)) {o : List TV} (h : bs_l04Set R a0 = some o) : R is_l04Set [tPIPILA8 a0] = some o := ev_step ((es_l04Set R a0).trans h)
/-- spec.l03Fit -/
noncomputable def bs_l03Fit (call : Oracle) (a0 : Int × Int × List (List Int)) : Option (List TV) :=
  (call is_l01In [tI a0.2.1, tI (-200), tI 200]).bind fun o1 =>
  bif (!(gB o1 0)) then
    some [tPIPILA8 (0, (0, [])), tI 3]
  else
    bif decide (200 < ((List.length a0.2.2 : Nat) : Int)) then
      some [tPIPILA8 (0, (0, [])), tI 3]
    else
      some [tPIPILA8 (a0.1, (a0.2.1, a0.2.2)), tI 0]
theorem es_l03Fit (call : Oracle) (a0 : Int × Int × List (List Int)) : run1 E call is_l03Fit [tPIPILA8 a0] = bs_l03Fit call a0 := by kernel_rfl
theorem vs_l03Fit (a0 : Int × Int × List (List Int)) {o : List TV} (h : bs_l03Fit R a0 = some o) : R is_l03Fit [tPIPILA8 a0] = some o := ev_step ((es_l03Fit R a0).trans h)
/-- spec.SuperSummit loop 9 -/
noncomputable def bs_SuperSummit_9 (call : Oracle) (x0 : List (Int × Int × List (List Int))) (x1 : List (Int × Int × List (List Int))) (x2 : Int) : Option (List TV) :=
  bif decide (x2 < ((List.length x0 : Nat) : Int)) then
    bif (decide (0 ≤ x2) && decide (x2 < ((List.length x0 : Nat) : Int))) then
      bif (decide (0 ≤ x2) && decide (x2 < ((List.length x0 : Nat) : Int))) then
        bif (decide (0 ≤ x2) && decide (x2 < ((List.length x0 : Nat) : Int))) then
          bif (apOk [] (((List.getD x0 (Int.toNat x2) (0, (0, []))).2).2)) then
            (call is_l03Fit [tPIPILA8 ((List.getD x0 (Int.toNat x2) (0, (0, []))).1, (((List.getD x0 (Int.toNat x2) (0, (0, []))).2).1, ((List.getD x0 (Int.toNat x2) (0, (0, []))).2).2))]).bind fun o4 =>
            bif ((gI o4 1) != 0) then
              some [tI 1, tLPIPILA8 [], tI (gI o4 1)]
            else
              bif (apOk x1 [((gPIPILA8 o4 0).1, (((gPIPILA8 o4 0).2).1, ((gPIPILA8 o4 0).2).2))]) then
                call is_SuperSummit_9 [tLPIPILA8 x0, tLPIPILA8 (x1 ++ [((gPIPILA8 o4 0).1, (((gPIPILA8 o4 0).2).1, ((gPIPILA8 o4 0).2).2))]), tI (wi64 (x2 + 1))]
              else none
          else none
        else none
      else none
    else none
  else
    some [tI 0, tLPIPILA8 x1]
theorem es_SuperSummit_9 (call : Oracle) (x0 : List (Int × Int × List (List Int))) (x1 : List (Int × Int × List (List Int))) (x2 : Int) : run1 E call is_SuperSummit_9 [tLPIPILA8 x0, tLPIPILA8 x1, tI x2] = bs_SuperSummit_9 call x0 x1 x2 := by kernel_rfl
theorem vs_SuperSummit_9 (x0 : List (Int × Int × List (List Int))) (x1 : List (Int × Int × List (List Int))) (x2 : Int) {o : List TV} (h : bs_SuperSummit_9 R x0 x1 x2 = some o) : R is_SuperSummit_9 [tLPIPILA8 x0, tLPIPILA8 x1, tI x2] = some o := ev_step ((es_SuperSummit_9 R x0 x1 x2).trans h)
/-- spec.SuperSummit -/
noncomputable def bs_SuperSummit (call : Oracle) (a0 : Int × Int × List (List Int)) : Option (List TV) :=
  (call is_l04Code [tPIPILA8 (a0.1, (a0.2.1, a0.2.2))]).bind fun o1 =>
  bif ((gI o1 0) != 0) then
    some [tLPIPILA8 [], tI (gI o1 0)]
  else
    (call is_l04Set [tPIPILA8 (a0.1, (a0.2.1, a0.2.2))]).bind fun o2 =>
    bif (!(gB o2 1)) then
      some [tLPIPILA8 [], tI 3]
    else
      (call is_SuperSummit_9 [tLPIPILA8 (gLPIPILA8 o2 0), tLPIPILA8 [], tI 0]).bind fun o5 =>
      bif ((gI o5 0) == 0) then
        some [tLPIPILA8 (gLPIPILA8 o5 1), tI 0]
      else
        some [tLPIPILA8 (gLPIPILA8 o5 1), tI (gI o5 2)]
theorem es_SuperSummit (call : Oracle) (a0 : Int × Int × List (List Int)) : run1 E call is_SuperSummit [tPIPILA8 a0] = bs_SuperSummit call a0 := by kernel_rfl
theorem vs_SuperSummit (a0 : Int × Int × List (List Int)) {o : List TV} (h : bs_SuperSummit R a0 = some o) : R is_SuperSummit [tPIPILA8 a0] = some o := ev_step ((es_SuperSummit R a0).trans h)
/-- impl.within -/
noncomputable def bi_within (call : Oracle) (a0 : Int) (a1 : Int) (a2 : Int) : Option (List TV) :=
  bif decide (a1 ≤ a0) then
    some [tB (decide (a0 ≤ a2))]
  else
    some [tB false]
theorem ei_within (call : Oracle) (a0 : Int) (a1 : Int) (a2 : Int) : run1 E call ii_within [tI a0, tI a1, tI a2] = bi_within call a0 a1 a2 := by kernel_rfl
theorem vi_within (a0 : Int) (a1 : Int) (a2 : Int) {o : List TV} (h : bi_within R a0 a1 a2 = some o) : R ii_within [tI a0, tI a1, tI a2] = some o := ev_step ((ei_within R a0 a1 a2).trans h)
/-- impl.isCount -/
noncomputable def bi_isCount (call : Oracle) (a0 : Int) : Option (List TV) :=
  (call ii_within [tI a0, tI 1, tI 8]).bind fun o1 =>
  some [tB (gB o1 0)]
theorem ei_isCount (call : Oracle) (a0 : Int) : run1 E call ii_isCount [tI a0] = bi_isCount call a0 := by kernel_rfl
theorem vi_isCount (a0 : Int) {o : List TV} (h : bi_isCount R a0 = some o) : R ii_isCount [tI a0] = some o := ev_step ((ei_isCount R a0).trans h)
/-- impl.IsSimple loop 5 -/
noncomputable def bi_IsSimple_5 (call : Oracle) (x0 : List Bool) (x1 : Int) (x2 : List Int) (x3 : Int) : Option (List TV) :=
  bif decide (x3 < 8) then
    bif (decide (0 ≤ x3) && decide (x3 < 8)) then
      bif decide (x1 ≤ x3) then
        bif ((List.getD x2 (Int.toNat x3) 0) != 0) then
          some [tI 1, tB false]
        else
          call ii_IsSimple_5 [tAB8 x0, tI x1, tA8 x2, tI (wi64 (x3 + 1))]
      else
        bif decide (x1 ≤ (wi64 ((List.getD x2 (Int.toNat x3) 0)))) then
          some [tI 1, tB false]
        else
          bif (decide (0 ≤ (List.getD x2 (Int.toNat x3) 0)) && decide ((List.getD x2 (Int.toNat x3) 0) < 8)) then
            bif (List.getD x0 (Int.toNat (List.getD x2 (Int.toNat x3) 0)) false) then
              some [tI 1, tB false]
            else
              bif (decide (0 ≤ (List.getD x2 (Int.toNat x3) 0)) && decide ((List.getD x2 (Int.toNat x3) 0) < 8)) then
                call ii_IsSimple_5 [tAB8 (List.set x0 (Int.toNat (List.getD x2 (Int.toNat x3) 0)) true), tI x1, tA8 x2, tI (wi64 (x3 + 1))]
              else none
          else none
    else none
  else
    some [tI 0]
theorem ei_IsSimple_5 (call : Oracle) (x0 : List Bool) (x1 : Int) (x2 : List Int) (x3 : Int) : run1 E call ii_IsSimple_5 [tAB8 x0, tI x1, tA8 x2, tI x3] = bi_IsSimple_5 call x0 x1 x2 x3 := by kernel_rfl
theorem vi_IsSimple_5 (x0 : List Bool) (x1 : Int) (x2 : List Int) (x3 : Int) {o : List TV} (h : bi_IsSimple_5 R x0 x1 x2 x3 = some o) : R ii_IsSimple_5 [tAB8 x0, tI x1, tA8 x2, tI x3] = some o := ev_step ((ei_IsSimple_5 R x0 x1 x2 x3).trans h)
/-- impl.IsSimple -/
noncomputable def bi_IsSimple (call : Oracle) (a0 : List Int) (a1 : Int) : Option (List TV) :=
  (call ii_isCount [tI a1]).bind fun o1 =>
  bif (!(gB o1 0)) then
    some [tB false]
  else
    (call ii_IsSimple_5 [tAB8 (List.replicate 8 false), tI a1, tA8 a0, tI 0]).bind fun o2 =>
    bif ((gI o2 0) == 0) then
      some [tB true]
    else
      some [tB (gB o2 1)]
theorem ei_IsSimple (call : Oracle) (a0 : List Int) (a1 : Int) : run1 E call ii_IsSimple [tA8 a0, tI a1] = bi_IsSimple call a0 a1 := by kernel_rfl
theorem vi_IsSimple (a0 : List Int) (a1 : Int) {o : List TV} (h : bi_IsSimple R a0 a1 = some o) : R ii_IsSimple [tA8 a0, tI a1] = some o := ev_step ((ei_IsSimple R a0 a1).trans h)
/-- impl.nothing loop 3 -/
noncomputable def bi_nothing_3 (call : Oracle) (x0 : List Int) (x1 : List Int) (x2 : Int) (x3 : Int) : Option (List TV) :=
  bif decide (x3 < x2) then
    bif (decide (0 ≤ x3) && decide (x3 < 8)) then
      call ii_nothing_3 [tA8 x0, tA8 (List.set x1 (Int.toNat x3) (wu8 (x3))), tI x2, tI (wi64 (x3 + 1))]
    else none
  else
    some [tI 0, tA8 x0, tA8 x1]
theorem ei_nothing_3 (call : Oracle) (x0 : List Int) (x1 : List Int) (x2 : Int) (x3 : Int) : run1 E call ii_nothing_3 [tA8 x0, tA8 x1, tI x2, tI x3] = bi_nothing_3 call x0 x1 x2 x3 := by kernel_rfl
theorem vi_nothing_3 (x0 : List Int) (x1 : List Int) (x2 : Int) (x3 : Int) {o : List TV} (h : bi_nothing_3 R x0 x1 x2 x3 = some o) : R ii_nothing_3 [tA8 x0, tA8 x1, tI x2, tI x3] = some o := ev_step ((ei_nothing_3 R x0 x1 x2 x3).trans h)
/-- impl.nothing -/
noncomputable def bi_nothing (call : Oracle) (a0 : Int) : Option (List TV) :=
  (call ii_nothing_3 [tA8 (List.replicate 8 0), tA8 (List.replicate 8 0), tI a0, tI 0]).bind fun o1 =>
  some [tA8 (gA8 o1 2)]
theorem ei_nothing (call : Oracle) (a0 : Int) : run1 E call ii_nothing [tI a0] = bi_nothing call a0 := by kernel_rfl
theorem vi_nothing (a0 : Int) {o : List TV} (h : bi_nothing R a0 = some o) : R ii_nothing [tI a0] = some o := ev_step ((ei_nothing R a0).trans h)
/-- impl.halfTurn loop 3 -/
noncomputable def bi_halfTurn_3 (call : Oracle) (x0 : List Int) (x1 : List Int) (x2 : Int) (x3 : Int) (x4 : Int) : Option (List TV) :=
  bif decide (x4 < x3) then
    bif (decide (0 ≤ x4) && decide (x4 < 8)) then
      call ii_halfTurn_3 [tA8 x0, tA8 (List.set x1 (Int.toNat x4) (wu8 ((wi64 ((wi64 (x2 - 1)) - x4))))), tI x2, tI x3, tI (wi64 (x4 + 1))]
    else none
  else
    some [tI 0, tA8 x0, tA8 x1]
theorem ei_halfTurn_3 (call : Oracle) (x0 : List Int) (x1 : List Int) (x2 : Int) (x3 : Int) (x4 : Int) : run1 E call ii_halfTurn_3 [tA8 x0, tA8 x1, tI x2, tI x3, tI x4] = bi_halfTurn_3 call x0 x1 x2 x3 x4 := by kernel_rfl
theorem vi_halfTurn_3 (x0 : List Int) (x1 : List Int) (x2 : Int) (x3 : Int) (x4 : Int) {o : List TV} (h : bi_halfTurn_3 R x0 x1 x2 x3 x4 = some o) : R ii_halfTurn_3 [tA8 x0, tA8 x1, tI x2, tI x3, tI x4] = some o := ev_step ((ei_halfTurn_3 R x0 x1 x2 x3 x4).trans h)
/-- impl.halfTurn -/
noncomputable def bi_halfTurn (call : Oracle) (a0 : Int) : Option (List TV) :=
  (call ii_halfTurn_3 [tA8 (List.replicate 8 0), tA8 (List.replicate 8 0), tI a0, tI a0, tI 0]).bind fun o1 =>
  some [tA8 (gA8 o1 2)]
theorem ei_halfTurn (call : Oracle) (a0 : Int) : run1 E call ii_halfTurn [tI a0] = bi_halfTurn call a0 := by kernel_rfl
theorem vi_halfTurn (a0 : Int) {o : List TV} (h : bi_halfTurn R a0 = some o) : R ii_halfTurn [tI a0] = some o := ev_step ((ei_halfTurn R a0).trans h)
/-- impl.backOf loop 3 -/
noncomputable def bi_backOf_3 (call : Oracle) (x0 : List Int) (x1 : List Int) (x2 : List Int) (x3 : Int) (x4 : Int) : Option (List TV) :=
  bif decide (x4 < x3) then
    bif (decide (0 ≤ x4) && decide (x4 < 8)) then
      bif (decide (0 ≤ (List.getD x0 (Int.toNat x4) 0)) && decide ((List.getD x0 (Int.toNat x4) 0) < 8)) then
        call ii_backOf_3 [tA8 x0, tA8 x1, tA8 (List.set x2 (Int.toNat (List.getD x0 (Int.toNat x4) 0)) (wu8 (x4))), tI x3, tI (wi64 (x4 + 1))]
      else none
    else none
  else
    some [tI 0, tA8 x1, tA8 x2]
theorem ei_backOf_3 (call : Oracle) (x0 : List Int) (x1 : List Int) (x2 : List Int) (x3 : Int) (x4 : Int) : run1 E call ii_backOf_3 [tA8 x0, tA8 x1, tA8 x2, tI x3, tI x4] = bi_backOf_3 call x0 x1 x2 x3 x4 := by kernel_rfl
theorem vi_backOf_3 (x0 : List Int) (x1 : List Int) (x2 : List Int) (x3 : Int) (x4 : Int) {o : List TV} (h : bi_backOf_3 R x0 x1 x2 x3 x4 = some o) : R ii_backOf_3 [tA8 x0, tA8 x1, tA8 x2, tI x3, tI x4] = some o := ev_step ((ei_backOf_3 R x0 x1 x2 x3 x4).trans h)
/-- impl.backOf -/
noncomputable def bi_backOf (call : Oracle) (a0 : List Int) (a1 : Int) : Option (List TV) :=
  (call ii_backOf_3 [tA8 a0, tA8 (List.replicate 8 0), tA8 (List.replicate 8 0), tI a1, tI 0]).bind fun o1 =>
  some [tA8 (gA8 o1 2)]
theorem ei_backOf (call : Oracle) (a0 : List Int) (a1 : Int) : run1 E call ii_backOf [tA8 a0, tI a1] = bi_backOf call a0 a1 := by kernel_rfl
theorem vi_backOf (a0 : List Int) (a1 : Int) {o : List TV} (h : bi_backOf R a0 a1 = some o) : R ii_backOf [tA8 a0, tI a1] = some o := ev_step ((ei_backOf R a0 a1).trans h)
/-- impl.begins -/
noncomputable def bi_begins (call : Oracle) (a0 : List Int) (a1 : Int) : Option (List TV) :=
  bif (decide (0 ≤ (wi64 (a1 - 1))) && decide ((wi64 (a1 - 1)) < 8)) then
    bif (decide (0 ≤ a1) && decide (a1 < 8)) then
      some [tB (decide ((List.getD a0 (Int.toNat a1) 0) < (List.getD a0 (Int.toNat (wi64 (a1 - 1))) 0)))]
    else none
  else none
theorem ei_begins (call : Oracle) (a0 : List Int) (a1 : Int) : run1 E call ii_begins [tA8 a0, tI a1] = bi_begins call a0 a1 := by kernel_rfl
theorem vi_begins (a0 : List Int) (a1 : Int) {o : List TV} (h : bi_begins R a0 a1 = some o) : R ii_begins [tA8 a0, tI a1] = some o := ev_step ((ei_begins R a0 a1).trans h)
/-- impl.beginning loop 3 -/
noncomputable def bi_beginning_3 (call : Oracle) (x0 : List Int) (x1 : List Int) (x2 : Int) (x3 : Int) : Option (List TV) :=
  bif decide (x3 < x2) then
    (call ii_begins [tA8 x0, tI x3]).bind fun o2 =>
    bif (gB o2 0) then
      bif (apOk x1 [x3]) then
        call ii_beginning_3 [tA8 x0, tLI (x1 ++ [x3]), tI x2, tI (wi64 (x3 + 1))]
      else none
    else
      call ii_beginning_3 [tA8 x0, tLI x1, tI x2, tI (wi64 (x3 + 1))]
  else
    some [tI 0, tLI x1]
theorem ei_beginning_3 (call : Oracle) (x0 : List Int) (x1 : List Int) (x2 : Int) (x3 : Int) : run1 E call ii_beginning_3 [tA8 x0, tLI x1, tI x2, tI x3] = bi_beginning_3 call x0 x1 x2 x3 := by kernel_rfl
theorem vi_beginning_3 (x0 : List Int) (x1 : List Int) (x2 : Int) (x3 : Int) {o : List TV} (h : bi_beginning_3 R x0 x1 x2 x3 = some o) : R ii_beginning_3 [tA8 x0, tLI x1, tI x2, tI x3] = some o := ev_step ((ei_beginning_3 R x0 x1 x2 x3).trans h)
/-- impl.beginning -/
noncomputable def bi_beginning (call : Oracle) (a0 : List Int) (a1 : Int) : Option (List TV) :=
  (call ii_beginning_3 [tA8 a0, tLI [], tI a1, tI 1]).bind fun o3 =>
  some [tLI (gLI o3 1)]
theorem ei_beginning (call : Oracle) (a0 : List Int) (a1 : Int) : run1 E call ii_beginning [tA8 a0, tI a1] = bi_beginning call a0 a1 := by kernel_rfl
theorem vi_beginning (a0 : List Int) (a1 : Int) {o : List TV} (h : bi_beginning R a0 a1 = some o) : R ii_beginning [tA8 a0, tI a1] = some o := ev_step ((ei_beginning R a0 a1).trans h)
/-- impl.endsAll loop 3 -/
noncomputable def bi_endsAll_3 (call : Oracle) (x0 : List Int) (x1 : List Int) (x2 : Int) (x3 : Int) : Option (List TV) :=
  bif decide (x3 < x2) then
    bif (decide (0 ≤ x3) && decide (x3 < ((List.length x1 : Nat) : Int))) then
      (call ii_begins [tA8 x0, tI (List.getD x1 (Int.toNat x3) 0)]).bind fun o4 =>
      bif (!(gB o4 0)) then
        some [tI 1, tB false]
      else
        call ii_endsAll_3 [tA8 x0, tLI x1, tI x2, tI (wi64 (x3 + 1))]
    else none
  else
    some [tI 0]
theorem ei_endsAll_3 (call : Oracle) (x0 : List Int) (x1 : List Int) (x2 : Int) (x3 : Int) : run1 E call ii_endsAll_3 [tA8 x0, tLI x1, tI x2, tI x3] = bi_endsAll_3 call x0 x1 x2 x3 := by kernel_rfl
theorem vi_endsAll_3 (x0 : List Int) (x1 : List Int) (x2 : Int) (x3 : Int) {o : List TV} (h : bi_endsAll_3 R x0 x1 x2 x3 = some o) : R ii_endsAll_3 [tA8 x0, tLI x1, tI x2, tI x3] = some o := ev_step ((ei_endsAll_3 R x0 x1 x2 x3).trans h)
/-- impl.endsAll -/
noncomputable def bi_endsAll (call : Oracle) (a0 : List Int) (a1 : List Int) (a2 : Int) : Option (List TV) :=
  (call ii_backOf [tA8 a0, tI a2]).bind fun o1 =>
  (call ii_beginning [tA8 a1, tI a2]).bind fun o2 =>
  (call ii_endsAll_3 [tA8 (gA8 o1 0), tLI (gLI o2 0), tI ((List.length (gLI o2 0) : Nat) : Int), tI 0]).bind fun o5 =>
  bif ((gI o5 0) == 0) then
    some [tB true]
  else
    some [tB (gB o5 1)]
theorem ei_endsAll (call : Oracle) (a0 : List Int) (a1 : List Int) (a2 : Int) : run1 E call ii_endsAll [tA8 a0, tA8 a1, tI a2] = bi_endsAll call a0 a1 a2 := by kernel_rfl
theorem vi_endsAll (a0 : List Int) (a1 : List Int) (a2 : Int) {o : List TV} (h : bi_endsAll R a0 a1 a2 = some o) : R ii_endsAll [tA8 a0, tA8 a1, tI a2] = some o := ev_step ((ei_endsAll R a0 a1 a2).trans h)
/-- impl.IsNormal loop 5 -/
noncomputable def bi_IsNormal_5 (call : Oracle) (x0 : Int) (x1 : Int) (x2 : List (List Int)) (x3 : Int) (x4 : Int) (x5 : Int) : Option (List TV) :=
  bif decide (x5 < x4) then
    bif (decide (0 ≤ x5) && decide (x5 < ((List.length x2 : Nat) : Int))) then
      (call ii_IsSimple [tA8 (List.getD x2 (Int.toNat x5) (List.replicate 8 0)), tI x3]).bind fun o7 =>
      bif (!(gB o7 0)) then
        some [tI 1, tB false]
      else
        (call ii_nothing [tI x3]).bind fun o8 =>
        bif ((List.getD x2 (Int.toNat x5) (List.replicate 8 0)) == (gA8 o8 0)) then
          some [tI 1, tB false]
        else
          (call ii_halfTurn [tI x3]).bind fun o9 =>
          bif ((List.getD x2 (Int.toNat x5) (List.replicate 8 0)) == (gA8 o9 0)) then
            some [tI 1, tB false]
          else
            bif decide (0 < x5) then
              bif (decide (0 ≤ (wi64 (x5 - 1))) && decide ((wi64 (x5 - 1)) < ((List.length x2 : Nat) : Int))) then
                (call ii_endsAll [tA8 (List.getD x2 (Int.toNat (wi64 (x5 - 1))) (List.replicate 8 0)), tA8 (List.getD x2 (Int.toNat x5) (List.replicate 8 0)), tI x3]).bind fun o10 =>
                bif (!(gB o10 0)) then
                  some [tI 1, tB false]
                else
                  call ii_IsNormal_5 [tI x0, tI x1, tLA8 x2, tI x3, tI x4, tI (wi64 (x5 + 1))]
              else none
            else
              call ii_IsNormal_5 [tI x0, tI x1, tLA8 x2, tI x3, tI x4, tI (wi64 (x5 + 1))]
    else none
  else
    some [tI 0]
theorem ei_IsNormal_5 (call : Oracle) (x0 : Int) (x1 : Int) (x2 : List (List Int)) (x3 : Int) (x4 : Int) (x5 : Int) : run1 E call ii_IsNormal_5 [tI x0, tI x1, tLA8 x2, tI x3, tI x4, tI x5] = bi_IsNormal_5 call x0 x1 x2 x3 x4 x5 := by kernel_rfl
theorem vi_IsNormal_5 (x0 : Int) (x1 : Int) (x2 : List (List Int)) (x3 : Int) (x4 : Int) (x5 : Int) {o : List TV} (h : bi_IsNormal_5 R x0 x1 x2 x3 x4 x5 = some o) : R ii_IsNormal_5 [tI x0, tI x1, tLA8 x2, tI x3, tI x4, tI x5] = some o := ev_step ((ei_IsNormal_5 R x0 x1 x2 x3 x4 x5).trans h)
/-- impl.IsNormal -/
noncomputable def bi_IsNormal (call : Oracle) (a0 : Int × Int × List (List Int)) : Option (List TV) :=
  (call ii_isCount [tI a0.1]).bind fun o1 =>
  bif (!(gB o1 0)) then
    some [tB false]
  else
    (call ii_within [tI a0.2.1, tI (-200), tI 200]).bind fun o2 =>
    bif (!(gB o2 0)) then
      some [tB false]
    else
      bif decide (200 < ((List.length a0.2.2 : Nat) : Int)) then
        some [tB false]
      else
        bif decide (a0.1 < 2) then
          bif (a0.2.1 != 0) then
            some [tB false]
          else
            (call ii_IsNormal_5 [tI a0.1, tI a0.2.1, tLA8 a0.2.2, tI a0.1, tI ((List.length a0.2.2 : Nat) : Int), tI 0]).bind fun o11 =>
            bif ((gI o11 0) == 0) then
              some [tB true]
            else
              some [tB (gB o11 1)]
        else
          (call ii_IsNormal_5 [tI a0.1, tI a0.2.1, tLA8 a0.2.2, tI a0.1, tI ((List.length a0.2.2 : Nat) : Int), tI 0]).bind fun o12 =>
          bif ((gI o12 0) == 0) then
            some [tB true]
          else
            some [tB (gB o12 1)]
theorem ei_IsNormal (call : Oracle) (a0 : Int × Int × List (List Int)) : run1 E call ii_IsNormal [tPIPILA8 a0] = bi_IsNormal call a0 := by kernel_rfl
theorem vi_IsNormal (a0 : Int × Int × List (List Int)) {o : List TV} (h : bi_IsNormal R a0 = some o) : R ii_IsNormal [tPIPILA8 a0] = some o := ev_step ((ei_IsNormal R a0).trans h)
/-- impl.copyNormal -/
noncomputable def bi_copyNormal (call : Oracle) (a0 : Int × Int × List (List Int)) : Option (List TV) :=
  bif (apOk [] a0.2.2) then
    some [tPIPILA8 (a0.1, (a0.2.1, a0.2.2))]
  else none
theorem ei_copyNormal (call : Oracle) (a0 : Int × Int × List (List Int)) : run1 E call ii_copyNormal [tPIPILA8 a0] = bi_copyNormal call a0 := by kernel_rfl
theorem vi_copyNormal (a0 : Int × Int × List (List Int)) {o : List TV} (h : bi_copyNormal R a0 = some o) : R ii_copyNormal [tPIPILA8 a0] = some o := ev_step ((ei_copyNormal R a0).trans h)
/-- impl.then loop 3 -/
noncomputable def bi_then_3 (call : Oracle) (x0 : List Int) (x1 : List Int) (x2 : List Int) (x3 : List Int) (x4 : Int) (x5 : Int) : Option (List TV) :=
  bif decide (x5 < x4) then
    bif (decide (0 ≤ x5) && decide (x5 < 8)) then
      bif (decide (0 ≤ (List.getD x0 (Int.toNat x5) 0)) && decide ((List.getD x0 (Int.toNat x5) 0) < 8)) then
        bif (decide (0 ≤ x5) && decide (x5 < 8)) then
          call ii_then_3 [tA8 x0, tA8 x1, tA8 x2, tA8 (List.set x3 (Int.toNat x5) (List.getD x1 (Int.toNat (List.getD x0 (Int.toNat x5) 0)) 0)), tI x4, tI (wi64 (x5 + 1))]
        else none
      else none
    else none
  else
    some [tI 0, tA8 x2, tA8 x3]
theorem ei_then_3 (call : Oracle) (x0 : List Int) (x1 : List Int) (x2 : List Int) (x3 : List Int) (x4 : Int) (x5 : Int) : run1 E call ii_then_3 [tA8 x0, tA8 x1, tA8 x2, tA8 x3, tI x4, tI x5] = bi_then_3 call x0 x1 x2 x3 x4 x5 := by kernel_rfl
theorem vi_then_3 (x0 : List Int) (x1 : List Int) (x2 : List Int) (x3 : List Int) (x4 : Int) (x5 : Int) {o : List TV} (h : bi_then_3 R x0 x1 x2 x3 x4 x5 = some o) : R ii_then_3 [tA8 x0, tA8 x1, tA8 x2, tA8 x3, tI x4, tI x5] = some o := ev_step ((ei_then_3 R x0 x1 x2 x3 x4 x5).trans h)
/-- impl.then -/
noncomputable def bi_then (call : Oracle) (a0 : List Int) (a1 : List Int) (a2 : Int) : Option (List TV) :=
  (call ii_then_3 [tA8 a0, tA8 a1, tA8 (List.replicate 8 0), tA8 (List.replicate 8 0), tI a2, tI 0]).bind fun o1 =>
  some [tA8 (gA8 o1 2)]
theorem ei_then (call : Oracle) (a0 : List Int) (a1 : List Int) (a2 : Int) : run1 E call ii_then [tA8 a0, tA8 a1, tI a2] = bi_then call a0 a1 a2 := by kernel_rfl
theorem vi_then (a0 : List Int) (a1 : List Int) (a2 : Int) {o : List TV} (h : bi_then R a0 a1 a2 = some o) : R ii_then [tA8 a0, tA8 a1, tI a2] = some o := ev_step ((ei_then R a0 a1 a2).trans h)
/-- impl.turn -/
noncomputable def bi_turn (call : Oracle) (a0 : List Int) (a1 : Int) : Option (List TV) :=
  (call ii_halfTurn [tI a1]).bind fun o1 =>
  (call ii_then [tA8 (gA8 o1 0), tA8 a0, tI a1]).bind fun o2 =>
  (call ii_halfTurn [tI a1]).bind fun o3 =>
  (call ii_then [tA8 (gA8 o2 0), tA8 (gA8 o3 0), tI a1]).bind fun o4 =>
  some [tA8 (gA8 o4 0)]
theorem ei_turn (call : Oracle) (a0 : List Int) (a1 : Int) : run1 E call ii_turn [tA8 a0, tI a1] = bi_turn call a0 a1 := by kernel_rfl
theorem vi_turn (a0 : List Int) (a1 : Int) {o : List TV} (h : bi_turn R a0 a1 = some o) : R ii_turn [tA8 a0, tI a1] = some o := ev_step ((ei_turn R a0 a1).trans h)
/-- impl.turned -/
noncomputable def bi_turned (call : Oracle) (a0 : List Int) (a1 : Int × Int × List (List Int)) : Option (List TV) :=
  bif ((Int.tmod a1.2.1 2) != 0) then
    (call ii_turn [tA8 a0, tI a1.1]).bind fun o1 =>
    some [tA8 (gA8 o1 0)]
  else
    some [tA8 a0]
theorem ei_turned (call : Oracle) (a0 : List Int) (a1 : Int × Int × List (List Int)) : run1 E call ii_turned [tA8 a0, tPIPILA8 a1] = bi_turned call a0 a1 := by kernel_rfl
theorem vi_turned (a0 : List Int) (a1 : Int × Int × List (List Int)) {o : List TV} (h : bi_turned R a0 a1 = some o) : R ii_turned [tA8 a0, tPIPILA8 a1] = some o := ev_step ((ei_turned R a0 a1).trans h)
/-- impl.complement -/
noncomputable def bi_complement (call : Oracle) (a0 : List Int) (a1 : Int) : Option (List TV) :=
  (call ii_backOf [tA8 a0, tI a1]).bind fun o1 =>
  (call ii_halfTurn [tI a1]).bind fun o2 =>
  (call ii_then [tA8 (gA8 o1 0), tA8 (gA8 o2 0), tI a1]).bind fun o3 =>
  some [tA8 (gA8 o3 0)]
theorem ei_complement (call : Oracle) (a0 : List Int) (a1 : Int) : run1 E call ii_complement [tA8 a0, tI a1] = bi_complement call a0 a1 := by kernel_rfl
theorem vi_complement (a0 : List Int) (a1 : Int) {o : List TV} (h : bi_complement R a0 a1 = some o) : R ii_complement [tA8 a0, tI a1] = some o := ev_step ((ei_complement R a0 a1).trans h)
/-- impl.descents loop 3 -/
noncomputable def bi_descents_3 (call : Oracle) (x0 : List Int) (x1 : Int) (x2 : Int) (x3 : Int) : Option (List TV) :=
  bif decide (x3 < x2) then
    (call ii_descents_6 [tA8 x0, tU64 x1, tI x3, tI x2, tI x3, tI x3, tI 0]).bind fun o2 =>
    call ii_descents_3 [tA8 (gA8 o2 1), tU64 (gU64 o2 2), tI (gI o2 3), tI (wi64 ((gI o2 4) + 1))]
  else
    some [tI 0, tU64 x1]
theorem ei_descents_3 (call : Oracle) (x0 : List Int) (x1 : Int) (x2 : Int) (x3 : Int) : run1 E call ii_descents_3 [tA8 x0, tU64 x1, tI x2, tI x3] = bi_descents_3 call x0 x1 x2 x3 := by kernel_rfl
theorem vi_descents_3 (x0 : List Int) (x1 : Int) (x2 : Int) (x3 : Int) {o : List TV} (h : bi_descents_3 R x0 x1 x2 x3 = some o) : R ii_descents_3 [tA8 x0, tU64 x1, tI x2, tI x3] = some o := ev_step ((ei_descents_3 R x0 x1 x2 x3).trans h)
/-- impl.descents loop 6 -/
noncomputable def bi_descents_6 (call : Oracle) (x0 : List Int) (x1 : Int) (x2 : Int) (x3 : Int) (x4 : Int) (x5 : Int) (x6 : Int) : Option (List TV) :=
  bif decide (x6 < x5) then
    bif (decide (0 ≤ x6) && decide (x6 < 8)) then
      bif (decide (0 ≤ x2) && decide (x2 < 8)) then
        bif decide ((List.getD x0 (Int.toNat x2) 0) < (List.getD x0 (Int.toNat x6) 0)) then
          bif decide (0 ≤ (wi64 ((wi64 (8 * x6)) + x2))) then
            call ii_descents_6 [tA8 x0, tU64 (bitsOr .u64 x1 (shl .u64 1 (wi64 ((wi64 (8 * x6)) + x2)))), tI x2, tI x3, tI x4, tI x5, tI (wi64 (x6 + 1))]
          else none
        else
          call ii_descents_6 [tA8 x0, tU64 x1, tI x2, tI x3, tI x4, tI x5, tI (wi64 (x6 + 1))]
      else none
    else none
  else
    some [tI 0, tA8 x0, tU64 x1, tI x3, tI x4]
theorem ei_descents_6 (call : Oracle) (x0 : List Int) (x1 : Int) (x2 : Int) (x3 : Int) (x4 : Int) (x5 : Int) (x6 : Int) : run1 E call ii_descents_6 [tA8 x0, tU64 x1, tI x2, tI x3, tI x4, tI x5, tI x6] = bi_descents_6 call x0 x1 x2 x3 x4 x5 x6 := by kernel_rfl
theorem vi_descents_6 (x0 : List Int) (x1 : Int) (x2 : Int) (x3 : Int) (x4 : Int) (x5 : Int) (x6 : Int) {o : List TV} (h : bi_descents_6 R x0 x1 x2 x3 x4 x5 x6 = some o) : R ii_descents_6 [tA8 x0, tU64 x1, tI x2, tI x3, tI x4, tI x5, tI x6] = some o := ev_step ((ei_descents_6 R x0 x1 x2 x3 x4 x5 x6).trans h)
/-- impl.descents -/
noncomputable def bi_descents (call : Oracle) (a0 : List Int) (a1 : Int) : Option (List TV) :=
  (call ii_descents_3 [tA8 a0, tU64 0, tI a1, tI 0]).bind fun o3 =>
  some [tU64 (gU64 o3 1)]
theorem ei_descents (call : Oracle) (a0 : List Int) (a1 : Int) : run1 E call ii_descents [tA8 a0, tI a1] = bi_descents call a0 a1 := by kernel_rfl
theorem vi_descents (a0 : List Int) (a1 : Int) {o : List TV} (h : bi_descents R a0 a1 = some o) : R ii_descents [tA8 a0, tI a1] = some o := ev_step ((ei_descents R a0 a1).trans h)
/-- impl.meet loop 4 -/
noncomputable def bi_meet_4 (call : Oracle) (x0 : List Int) (x1 : List Int) (x2 : Int) (x3 : Int) (x4 : Bool) : Option (List TV) :=
  bif x4 then
    (call ii_meet_7 [tA8 x0, tA8 x1, tI x2, tU64 x3, tB false, tI 1]).bind fun o5 =>
    call ii_meet_4 [tA8 (gA8 o5 1), tA8 (gA8 o5 2), tI (gI o5 3), tU64 (gU64 o5 4), tB (gB o5 5)]
  else
    some [tI 0, tA8 x0, tA8 x1, tI x2]
theorem ei_meet_4 (call : Oracle) (x0 : List Int) (x1 : List Int) (x2 : Int) (x3 : Int) (x4 : Bool) : run1 E call ii_meet_4 [tA8 x0, tA8 x1, tI x2, tU64 x3, tB x4] = bi_meet_4 call x0 x1 x2 x3 x4 := by kernel_rfl
theorem vi_meet_4 (x0 : List Int) (x1 : List Int) (x2 : Int) (x3 : Int) (x4 : Bool) {o : List TV} (h : bi_meet_4 R x0 x1 x2 x3 x4 = some o) : R ii_meet_4 [tA8 x0, tA8 x1, tI x2, tU64 x3, tB x4] = some o := ev_step ((ei_meet_4 R x0 x1 x2 x3 x4).trans h)
/-- impl.meet loop 7 -/
noncomputable def bi_meet_7 (call : Oracle) (x0 : List Int) (x1 : List Int) (x2 : Int) (x3 : Int) (x4 : Bool) (x5 : Int) : Option (List TV) :=
  bif decide (x5 < x2) then
    bif (decide (0 ≤ (wi64 (x5 - 1))) && decide ((wi64 (x5 - 1)) < 8)) then
      bif (decide (0 ≤ x5) && decide (x5 < 8)) then
        bif decide ((List.getD x1 (Int.toNat (wi64 (x5 - 1))) 0) < (List.getD x1 (Int.toNat x5) 0)) then
          bif decide (0 ≤ (wu8 ((wu8 (8 * (List.getD x1 (Int.toNat (wi64 (x5 - 1))) 0))) + (List.getD x1 (Int.toNat x5) 0)))) then
            bif ((bitsAnd .u64 (shr .u64 x3 (wu8 ((wu8 (8 * (List.getD x1 (Int.toNat (wi64 (x5 - 1))) 0))) + (List.getD x1 (Int.toNat x5) 0)))) 1) == 1) then
              bif (decide (0 ≤ (wi64 (x5 - 1))) && decide ((wi64 (x5 - 1)) < 8)) then
                bif (decide (0 ≤ x5) && decide (x5 < 8)) then
                  call ii_meet_7 [tA8 x0, tA8 (List.set (List.set x1 (Int.toNat (wi64 (x5 - 1))) (List.getD x1 (Int.toNat x5) 0)) (Int.toNat x5) (List.getD x1 (Int.toNat (wi64 (x5 - 1))) 0)), tI x2, tU64 x3, tB true, tI (wi64 (x5 + 1))]
                else none
              else none
            else
              call ii_meet_7 [tA8 x0, tA8 x1, tI x2, tU64 x3, tB x4, tI (wi64 (x5 + 1))]
          else none
        else
          call ii_meet_7 [tA8 x0, tA8 x1, tI x2, tU64 x3, tB x4, tI (wi64 (x5 + 1))]
      else none
    else none
  else
    some [tI 0, tA8 x0, tA8 x1, tI x2, tU64 x3, tB x4]
theorem ei_meet_7 (call : Oracle) (x0 : List Int) (x1 : List Int) (x2 : Int) (x3 : Int) (x4 : Bool) (x5 : Int) : run1 E call ii_meet_7 [tA8 x0, tA8 x1, tI x2, tU64 x3, tB x4, tI x5] = bi_meet_7 call x0 x1 x2 x3 x4 x5 := by kernel_rfl
theorem vi_meet_7 (x0 : List Int) (x1 : List Int) (x2 : Int) (x3 : Int) (x4 : Bool) (x5 : Int) {o : List TV} (h : bi_meet_7 R x0 x1 x2 x3 x4 x5 = some o) : R ii_meet_7 [tA8 x0, tA8 x1, tI x2, tU64 x3, tB x4, tI x5] = some o := ev_step ((ei_meet_7 R x0 x1 x2 x3 x4 x5).trans h)
/-- impl.meet -/
noncomputable def bi_meet (call : Oracle) (a0 : List Int) (a1 : List Int) (a2 : Int) : Option (List TV) :=
  (call ii_descents [tA8 a0, tI a2]).bind fun o1 =>
  (call ii_descents [tA8 a1, tI a2]).bind fun o2 =>
  (call ii_nothing [tI a2]).bind fun o3 =>
  (call ii_meet_4 [tA8 (List.replicate 8 0), tA8 (gA8 o3 0), tI a2, tU64 (bitsAnd .u64 (gU64 o1 0) (gU64 o2 0)), tB true]).bind fun o6 =>
  (call ii_backOf [tA8 (gA8 o6 2), tI (gI o6 3)]).bind fun o7 =>
  some [tA8 (gA8 o7 0)]
theorem ei_meet (call : Oracle) (a0 : List Int) (a1 : List Int) (a2 : Int) : run1 E call ii_meet [tA8 a0, tA8 a1, tI a2] = bi_meet call a0 a1 a2 := by kernel_rfl
theorem vi_meet (a0 : List Int) (a1 : List Int) (a2 : Int) {o : List TV} (h : bi_meet R a0 a1 a2 = some o) : R ii_meet [tA8 a0, tA8 a1, tI a2] = some o := ev_step ((ei_meet R a0 a1 a2).trans h)
/-- (*impl.Normal).put loop 5 -/
noncomputable def b__i_Normal__put_5 (call : Oracle) (x0 : Int) (x1 : Int) (x2 : List (List Int)) (x3 : Int) (x4 : Int) : Option (List TV) :=
  bif decide (0 < x4) then
    bif (decide (0 ≤ (wi64 (x4 - 1))) && decide ((wi64 (x4 - 1)) < ((List.length x2 : Nat) : Int))) then
      (call ii_complement [tA8 (List.getD x2 (Int.toNat (wi64 (x4 - 1))) (List.replicate 8 0)), tI x3]).bind fun o8 =>
      bif (decide (0 ≤ x4) && decide (x4 < ((List.length x2 : Nat) : Int))) then
        (call ii_meet [tA8 (gA8 o8 0), tA8 (List.getD x2 (Int.toNat x4) (List.replicate 8 0)), tI x3]).bind fun o9 =>
        (call ii_nothing [tI x3]).bind fun o10 =>
        bif ((gA8 o9 0) == (gA8 o10 0)) then
          some [tI 0, tI x0, tI x1, tLA8 x2, tI x3]
        else
          bif (decide (0 ≤ (wi64 (x4 - 1))) && decide ((wi64 (x4 - 1)) < ((List.length x2 : Nat) : Int))) then
            (call ii_then [tA8 (List.getD x2 (Int.toNat (wi64 (x4 - 1))) (List.replicate 8 0)), tA8 (gA8 o9 0), tI x3]).bind fun o11 =>
            bif (decide (0 ≤ (wi64 (x4 - 1))) && decide ((wi64 (x4 - 1)) < ((List.length x2 : Nat) : Int))) then
              (call ii_backOf [tA8 (gA8 o9 0), tI x3]).bind fun o12 =>
              bif (decide (0 ≤ x4) && decide (x4 < ((List.length (List.set x2 (Int.toNat (wi64 (x4 - 1))) (gA8 o11 0)) : Nat) : Int))) then
                (call ii_then [tA8 (gA8 o12 0), tA8 (List.getD (List.set x2 (Int.toNat (wi64 (x4 - 1))) (gA8 o11 0)) (Int.toNat x4) (List.replicate 8 0)), tI x3]).bind fun o13 =>
                bif (decide (0 ≤ x4) && decide (x4 < ((List.length (List.set x2 (Int.toNat (wi64 (x4 - 1))) (gA8 o11 0)) : Nat) : Int))) then
                  call i__i_Normal__put_5 [tI x0, tI x1, tLA8 (List.set (List.set x2 (Int.toNat (wi64 (x4 - 1))) (gA8 o11 0)) (Int.toNat x4) (gA8 o13 0)), tI x3, tI (wi64 (x4 - 1))]
                else none
              else none
            else none
          else none
      else none
    else none
  else
    some [tI 0, tI x0, tI x1, tLA8 x2, tI x3]
theorem e__i_Normal__put_5 (call : Oracle) (x0 : Int) (x1 : Int) (x2 : List (List Int)) (x3 : Int) (x4 : Int) : run1 E call i__i_Normal__put_5 [tI x0, tI x1, tLA8 x2, tI x3, tI x4] = b__i_Normal__put_5 call x0 x1 x2 x3 x4 := by kernel_rfl
theorem v__i_Normal__put_5 (x0 : Int) (x1 : Int) (x2 : List (List Int)) (x3 : Int) (x4 : Int) {o : List TV} (h : b__i_Normal__put_5 R x0 x1 x2 x3 x4 = some o) : R i__i_Normal__put_5 [tI x0, tI x1, tLA8 x2, tI x3, tI x4] = some o := ev_step ((e__i_Normal__put_5 R x0 x1 x2 x3 x4).trans h)
/-- (*impl.Normal).put loop 11 -/
noncomputable def b__i_Normal__put_11 (call : Oracle) (x0 : Int) (x1 : Int) (x2 : List (List Int)) (x3 : Int) : Option (List TV) :=
  bif decide (0 < ((List.length x2 : Nat) : Int)) then
    bif decide (0 < ((List.length x2 : Nat) : Int)) then
      (call ii_halfTurn [tI x3]).bind fun o16 =>
      bif ((List.getD x2 0 (List.replicate 8 0)) == (gA8 o16 0)) then
        bif decide (1 ≤ ((List.length x2 : Nat) : Int)) then
          call i__i_Normal__put_11 [tI x0, tI (wi64 (x1 + 1)), tLA8 (List.drop 1 x2), tI x3]
        else none
      else
        some [tI 0, tI x0, tI x1, tLA8 x2, tI x3]
    else none
  else
    some [tI 0, tI x0, tI x1, tLA8 x2, tI x3]
theorem e__i_Normal__put_11 (call : Oracle) (x0 : Int) (x1 : Int) (x2 : List (List Int)) (x3 : Int) : run1 E call i__i_Normal__put_11 [tI x0, tI x1, tLA8 x2, tI x3] = b__i_Normal__put_11 call x0 x1 x2 x3 := by kernel_rfl
theorem v__i_Normal__put_11 (x0 : Int) (x1 : Int) (x2 : List (List Int)) (x3 : Int) {o : List TV} (h : b__i_Normal__put_11 R x0 x1 x2 x3 = some o) : R i__i_Normal__put_11 [tI x0, tI x1, tLA8 x2, tI x3] = some o := ev_step ((e__i_Normal__put_11 R x0 x1 x2 x3).trans h)
/-- (*impl.Normal).put loop 14 -/
noncomputable def b__i_Normal__put_14 (call : Oracle) (x0 : Int) (x1 : Int) (x2 : List (List Int)) (x3 : Int) : Option (List TV) :=
  bif decide (0 < ((List.length x2 : Nat) : Int)) then
    bif (decide (0 ≤ (wi64 (((List.length x2 : Nat) : Int) - 1))) && decide ((wi64 (((List.length x2 : Nat) : Int) - 1)) < ((List.length x2 : Nat) : Int))) then
      (call ii_nothing [tI x3]).bind fun o19 =>
      bif ((List.getD x2 (Int.toNat (wi64 (((List.length x2 : Nat) : Int) - 1))) (List.replicate 8 0)) == (gA8 o19 0)) then
        bif (decide (0 ≤ (wi64 (((List.length x2 : Nat) : Int) - 1))) && decide ((wi64 (((List.length x2 : Nat) : Int) - 1)) ≤ ((List.length x2 : Nat) : Int))) then
          call i__i_Normal__put_14 [tI x0, tI x1, tLA8 (List.take (Int.toNat (wi64 (((List.length x2 : Nat) : Int) - 1))) x2), tI x3]
        else none
      else
        some [tI 0, tI x0, tI x1, tLA8 x2]
    else none
  else
    some [tI 0, tI x0, tI x1, tLA8 x2]
theorem e__i_Normal__put_14 (call : Oracle) (x0 : Int) (x1 : Int) (x2 : List (List Int)) (x3 : Int) : run1 E call i__i_Normal__put_14 [tI x0, tI x1, tLA8 x2, tI x3] = b__i_Normal__put_14 call x0 x1 x2 x3 := by kernel_rfl
theorem v__i_Normal__put_14 (x0 : Int) (x1 : Int) (x2 : List (List Int)) (x3 : Int) {o : List TV} (h : b__i_Normal__put_14 R x0 x1 x2 x3 = some o) : R i__i_Normal__put_14 [tI x0, tI x1, tLA8 x2, tI x3] = some o := ev_step ((e__i_Normal__put_14 R x0 x1 x2 x3).trans h)
/-- (*impl.Normal).put -/
noncomputable def b__i_Normal__put (call : Oracle) (a0 : Int × Int × List (List Int)) (a1 : List Int) : Option (List TV) :=
  (call ii_nothing [tI a0.1]).bind fun o1 =>
  bif (a1 == (gA8 o1 0)) then
    some [tPIPILA8 (a0.1, (a0.2.1, a0.2.2))]
  else
    bif (apOk a0.2.2 [a1]) then
      (call i__i_Normal__put_5 [tI a0.1, tI a0.2.1, tLA8 (a0.2.2 ++ [a1]), tI a0.1, tI (wi64 (((List.length (a0.2.2 ++ [a1]) : Nat) : Int) - 1))]).bind fun o14 =>
      (call i__i_Normal__put_11 [tI (gI o14 1), tI (gI o14 2), tLA8 (gLA8 o14 3), tI (gI o14 4)]).bind fun o17 =>
      (call i__i_Normal__put_14 [tI (gI o17 1), tI (gI o17 2), tLA8 (gLA8 o17 3), tI (gI o17 4)]).bind fun o20 =>
      some [tPIPILA8 ((gI o20 1), ((gI o20 2), (gLA8 o20 3)))]
    else none
theorem e__i_Normal__put (call : Oracle) (a0 : Int × Int × List (List Int)) (a1 : List Int) : run1 E call i__i_Normal__put [tPIPILA8 a0, tA8 a1] = b__i_Normal__put call a0 a1 := by kernel_rfl
theorem v__i_Normal__put (a0 : Int × Int × List (List Int)) (a1 : List Int) {o : List TV} (h : b__i_Normal__put R a0 a1 = some o) : R i__i_Normal__put [tPIPILA8 a0, tA8 a1] = some o := ev_step ((e__i_Normal__put R a0 a1).trans h)
/-- impl.cycled -/
noncomputable def bi_cycled (call : Oracle) (a0 : Int × Int × List (List Int)) : Option (List TV) :=
  bif (((List.length a0.2.2 : Nat) : Int) == 0) then
    (call ii_copyNormal [tPIPILA8 (a0.1, (a0.2.1, a0.2.2))]).bind fun o1 =>
    some [tPIPILA8 ((gPIPILA8 o1 0).1, (((gPIPILA8 o1 0).2).1, ((gPIPILA8 o1 0).2).2))]
  else
    bif decide (1 ≤ ((List.length a0.2.2 : Nat) : Int)) then
      (call ii_copyNormal [tPIPILA8 (a0.1, (a0.2.1, (List.drop 1 a0.2.2)))]).bind fun o2 =>
      bif decide (0 < ((List.length a0.2.2 : Nat) : Int)) then
        (call ii_turned [tA8 (List.getD a0.2.2 0 (List.replicate 8 0)), tPIPILA8 (a0.1, (a0.2.1, a0.2.2))]).bind fun o3 =>
        (call i__i_Normal__put [tPIPILA8 ((gPIPILA8 o2 0).1, (((gPIPILA8 o2 0).2).1, ((gPIPILA8 o2 0).2).2)), tA8 (gA8 o3 0)]).bind fun o4 =>
        some [tPIPILA8 ((gPIPILA8 o4 0).1, (((gPIPILA8 o4 0).2).1, ((gPIPILA8 o4 0).2).2))]
      else none
    else none
theorem ei_cycled (call : Oracle) (a0 : Int × Int × List (List Int)) : run1 E call ii_cycled [tPIPILA8 a0] = bi_cycled call a0 := by kernel_rfl
theorem vi_cycled (a0 : Int × Int × List (List Int)) {o : List TV} (h : bi_cycled R a0 = some o) : R ii_cycled [tPIPILA8 a0] = some o := ev_step ((ei_cycled R a0).trans h)
/-- impl.summit$1 -/
noncomputable def bi_summitK1 (call : Oracle) (a0 : Int × Int × List (List Int)) (a1 : Int × Int × List (List Int)) : Option (List TV) :=
  some [tB (decide (a1.2.1 < a0.2.1))]
theorem ei_summitK1 (call : Oracle) (a0 : Int × Int × List (List Int)) (a1 : Int × Int × List (List Int)) : run1 E call ii_summitK1 [tPIPILA8 a0, tPIPILA8 a1] = bi_summitK1 call a0 a1 := by kernel_rfl
theorem vi_summitK1 (a0 : Int × Int × List (List Int)) (a1 : Int × Int × List (List Int)) {o : List TV} (h : bi_summitK1 R a0 a1 = some o) : R ii_summitK1 [tPIPILA8 a0, tPIPILA8 a1] = some o := ev_step ((ei_summitK1 R a0 a1).trans h)
/-- impl.better loop 3 -/
noncomputable def bi_better_3 (call : Oracle) (x0 : Int) (x1 : Int) (x2 : List (List Int)) (x3 : Int) (x4 : Int) (x5 : List (List Int)) (x6 : Int) (x7 : Int) (x8 : List (List Int)) (x9 : Int) (x10 : Int) : Option (List TV) :=
  bif decide (x10 < x9) then
    (call ii_cycled [tPIPILA8 (x6, (x7, x8))]).bind fun o3 =>
    (call ii_summitK1 [tPIPILA8 ((gPIPILA8 o3 0).1, (((gPIPILA8 o3 0).2).1, ((gPIPILA8 o3 0).2).2)), tPIPILA8 (x0, (x1, x2))]).bind fun o4 =>
    bif (gB o4 0) then
      some [tI 1, tI ((gPIPILA8 o3 0).1), tI (((gPIPILA8 o3 0).2).1), tLA8 (((gPIPILA8 o3 0).2).2), tB true]
    else
      call ii_better_3 [tI x0, tI x1, tLA8 x2, tI x3, tI x4, tLA8 x5, tI ((gPIPILA8 o3 0).1), tI (((gPIPILA8 o3 0).2).1), tLA8 (((gPIPILA8 o3 0).2).2), tI x9, tI (wi64 (x10 + 1))]
  else
    some [tI 0, tI x0, tI x1, tLA8 x2, tI x3, tI x4, tLA8 x5]
theorem ei_better_3 (call : Oracle) (x0 : Int) (x1 : Int) (x2 : List (List Int)) (x3 : Int) (x4 : Int) (x5 : List (List Int)) (x6 : Int) (x7 : Int) (x8 : List (List Int)) (x9 : Int) (x10 : Int) : run1 E call ii_better_3 [tI x0, tI x1, tLA8 x2, tI x3, tI x4, tLA8 x5, tI x6, tI x7, tLA8 x8, tI x9, tI x10] = bi_better_3 call x0 x1 x2 x3 x4 x5 x6 x7 x8 x9 x10 := by kernel_rfl
theorem vi_better_3 (x0 : Int) (x1 : Int) (x2 : List (List Int)) (x3 : Int) (x4 : Int) (x5 : List (List Int)) (x6 : Int) (x7 : Int) (x8 : List (List Int)) (x9 : Int) (x10 : Int) {o : List TV} (h : bi_better_3 R x0 x1 x2 x3 x4 x5 x6 x7 x8 x9 x10 = some o) : R ii_better_3 [tI x0, tI x1, tLA8 x2, tI x3, tI x4, tLA8 x5, tI x6, tI x7, tLA8 x8, tI x9, tI x10] = some o := ev_step ((ei_better_3 R x0 x1 x2 x3 x4 x5 x6 x7 x8 x9 x10).trans h)
/-- impl.better -/
noncomputable def bi_better (call : Oracle) (a0 : Int × Int × List (List Int)) : Option (List TV) :=
  (call ii_better_3 [tI a0.1, tI a0.2.1, tLA8 a0.2.2, tI 0, tI 0, tLA8 [], tI a0.1, tI a0.2.1, tLA8 a0.2.2, tI (wi64 (Int.tdiv (wi64 (a0.1 * (wi64 (a0.1 - 1)))) 2)), tI 0]).bind fun o5 =>
  bif ((gI o5 0) == 0) then
    some [tPIPILA8 ((gI o5 1), ((gI o5 2), (gLA8 o5 3))), tB false]
  else
    some [tPIPILA8 ((gI o5 1), ((gI o5 2), (gLA8 o5 3))), tB (gB o5 4)]
theorem ei_better (call : Oracle) (a0 : Int × Int × List (List Int)) : run1 E call ii_better [tPIPILA8 a0] = bi_better call a0 := by kernel_rfl
theorem vi_better (a0 : Int × Int × List (List Int)) {o : List TV} (h : bi_better R a0 = some o) : R ii_better [tPIPILA8 a0] = some o := ev_step ((ei_better R a0).trans h)
/-- impl.decycled loop 7 -/
noncomputable def bi_decycled_7 (call : Oracle) (x0 : Int) (x1 : Int) (x2 : List (List Int)) (x3 : Int) (x4 : Int) (x5 : List (List Int)) (x6 : List (List Int)) (x7 : Int) (x8 : Int) : Option (List TV) :=
  bif decide (x8 < x7) then
    bif (decide (0 ≤ x8) && decide (x8 < ((List.length x6 : Nat) : Int))) then
      (call i__i_Normal__put [tPIPILA8 (x3, (x4, x5)), tA8 (List.getD x6 (Int.toNat x8) (List.replicate 8 0))]).bind fun o5 =>
      call ii_decycled_7 [tI x0, tI x1, tLA8 x2, tI ((gPIPILA8 o5 0).1), tI (((gPIPILA8 o5 0).2).1), tLA8 (((gPIPILA8 o5 0).2).2), tLA8 x6, tI x7, tI (wi64 (x8 + 1))]
    else none
  else
    some [tI 0, tI x0, tI x1, tLA8 x2, tI x3, tI x4, tLA8 x5]
theorem ei_decycled_7 (call : Oracle) (x0 : Int) (x1 : Int) (x2 : List (List Int)) (x3 : Int) (x4 : Int) (x5 : List (List Int)) (x6 : List (List Int)) (x7 : Int) (x8 : Int) : run1 E call ii_decycled_7 [tI x0, tI x1, tLA8 x2, tI x3, tI x4, tLA8 x5, tLA8 x6, tI x7, tI x8] = bi_decycled_7 call x0 x1 x2 x3 x4 x5 x6 x7 x8 := by kernel_rfl
theorem vi_decycled_7 (x0 : Int) (x1 : Int) (x2 : List (List Int)) (x3 : Int) (x4 : Int) (x5 : List (List Int)) (x6 : List (List Int)) (x7 : Int) (x8 : Int) {o : List TV} (h : bi_decycled_7 R x0 x1 x2 x3 x4 x5 x6 x7 x8 = some o) : R ii_decycled_7 [tI x0, tI x1, tLA8 x2, tI x3, tI x4, tLA8 x5, tLA8 x6, tI x7, tI x8] = some o := ev_step ((ei_decycled_7 R x0 x1 x2 x3 x4 x5 x6 x7 x8).trans h)
/-- impl.decycled -/
noncomputable def bi_decycled (call : Oracle) (a0 : Int × Int × List (List Int)) : Option (List TV) :=
  bif decide ((wi64 (((List.length a0.2.2 : Nat) : Int) - 1)) < 0) then
    (call ii_copyNormal [tPIPILA8 (a0.1, (a0.2.1, a0.2.2))]).bind fun o1 =>
    some [tPIPILA8 ((gPIPILA8 o1 0).1, (((gPIPILA8 o1 0).2).1, ((gPIPILA8 o1 0).2).2))]
  else
    bif (decide (0 ≤ (wi64 (((List.length a0.2.2 : Nat) : Int) - 1))) && decide ((wi64 (((List.length a0.2.2 : Nat) : Int) - 1)) < ((List.length a0.2.2 : Nat) : Int))) then
      (call ii_turned [tA8 (List.getD a0.2.2 (Int.toNat (wi64 (((List.length a0.2.2 : Nat) : Int) - 1))) (List.replicate 8 0)), tPIPILA8 (a0.1, (a0.2.1, a0.2.2))]).bind fun o2 =>
      (call i__i_Normal__put [tPIPILA8 (a0.1, (a0.2.1, [])), tA8 (gA8 o2 0)]).bind fun o3 =>
      bif (decide (0 ≤ (wi64 (((List.length a0.2.2 : Nat) : Int) - 1))) && decide ((wi64 (((List.length a0.2.2 : Nat) : Int) - 1)) ≤ ((List.length a0.2.2 : Nat) : Int))) then
        (call ii_decycled_7 [tI 0, tI 0, tLA8 [], tI ((gPIPILA8 o3 0).1), tI (((gPIPILA8 o3 0).2).1), tLA8 (((gPIPILA8 o3 0).2).2), tLA8 (List.take (Int.toNat (wi64 (((List.length a0.2.2 : Nat) : Int) - 1))) a0.2.2), tI ((List.length (List.take (Int.toNat (wi64 (((List.length a0.2.2 : Nat) : Int) - 1))) a0.2.2) : Nat) : Int), tI 0]).bind fun o6 =>
        some [tPIPILA8 ((gI o6 4), ((gI o6 5), (gLA8 o6 6)))]
      else none
    else none
theorem ei_decycled (call : Oracle) (a0 : Int × Int × List (List Int)) : run1 E call ii_decycled [tPIPILA8 a0] = bi_decycled call a0 := by kernel_rfl
theorem vi_decycled (a0 : Int × Int × List (List Int)) {o : List TV} (h : bi_decycled R a0 = some o) : R ii_decycled [tPIPILA8 a0] = some o := ev_step ((ei_decycled R a0).trans h)
/-- impl.greatest -/
noncomputable def bi_greatest (call : Oracle) (a0 : Int × Int × List (List Int)) : Option (List TV) :=
  some [tI (wi64 (a0.2.1 + ((List.length a0.2.2 : Nat) : Int)))]
theorem ei_greatest (call : Oracle) (a0 : Int × Int × List (List Int)) : run1 E call ii_greatest [tPIPILA8 a0] = bi_greatest call a0 := by kernel_rfl
theorem vi_greatest (a0 : Int × Int × List (List Int)) {o : List TV} (h : bi_greatest R a0 = some o) : R ii_greatest [tPIPILA8 a0] = some o := ev_step ((ei_greatest R a0).trans h)
/-- impl.summit$2 -/
noncomputable def bi_summitK2 (call : Oracle) (a0 : Int × Int × List (List Int)) (a1 : Int × Int × List (List Int)) : Option (List TV) :=
  (call ii_greatest [tPIPILA8 (a0.1, (a0.2.1, a0.2.2))]).bind fun o1 =>
  (call ii_greatest [tPIPILA8 (a1.1, (a1.2.1, a1.2.2))]).bind fun o2 =>
  some [tB (decide ((gI o1 0) < (gI o2 0)))]
theorem ei_summitK2 (call : Oracle) (a0 : Int × Int × List (List Int)) (a1 : Int × Int × List (List Int)) : run1 E call ii_summitK2 [tPIPILA8 a0, tPIPILA8 a1] = bi_summitK2 call a0 a1 := by kernel_rfl
theorem vi_summitK2 (a0 : Int × Int × List (List Int)) (a1 : Int × Int × List (List Int)) {o : List TV} (h : bi_summitK2 R a0 a1 = some o) : R ii_summitK2 [tPIPILA8 a0, tPIPILA8 a1] = some o := ev_step ((ei_summitK2 R a0 a1).trans h)
/-- impl.better loop 3 -/
noncomputable def bi_better_v2_3 (call : Oracle) (x0 : Int) (x1 : Int) (x2 : List (List Int)) (x3 : Int) (x4 : Int) (x5 : List (List Int)) (x6 : Int) (x7 : Int) (x8 : List (List Int)) (x9 : Int) (x10 : Int) : Option (List TV) :=
  bif decide (x10 < x9) then
    (call ii_decycled [tPIPILA8 (x6, (x7, x8))]).bind fun o3 =>
    (call ii_summitK2 [tPIPILA8 ((gPIPILA8 o3 0).1, (((gPIPILA8 o3 0).2).1, ((gPIPILA8 o3 0).2).2)), tPIPILA8 (x0, (x1, x2))]).bind fun o4 =>
    bif (gB o4 0) then
      some [tI 1, tI ((gPIPILA8 o3 0).1), tI (((gPIPILA8 o3 0).2).1), tLA8 (((gPIPILA8 o3 0).2).2), tB true]
    else
      call ii_better_v2_3 [tI x0, tI x1, tLA8 x2, tI x3, tI x4, tLA8 x5, tI ((gPIPILA8 o3 0).1), tI (((gPIPILA8 o3 0).2).1), tLA8 (((gPIPILA8 o3 0).2).2), tI x9, tI (wi64 (x10 + 1))]
  else
    some [tI 0, tI x0, tI x1, tLA8 x2, tI x3, tI x4, tLA8 x5]
theorem ei_better_v2_3 (call : Oracle) (x0 : Int) (x1 : Int) (x2 : List (List Int)) (x3 : Int) (x4 : Int) (x5 : List (List Int)) (x6 : Int) (x7 : Int) (x8 : List (List Int)) (x9 : Int) (x10 : Int) : run1 E call ii_better_v2_3 [tI x0, tI x1, tLA8 x2, tI x3, tI x4, tLA8 x5, tI x6, tI x7, tLA8 x8, tI x9, tI x10] = bi_better_v2_3 call x0 x1 x2 x3 x4 x5 x6 x7 x8 x9 x10 := by kernel_rfl
theorem vi_better_v2_3 (x0 : Int) (x1 : Int) (x2 : List (List Int)) (x3 : Int) (x4 : Int) (x5 : List (List Int)) (x6 : Int) (x7 : Int) (x8 : List (List Int)) (x9 : Int) (x10 : Int) {o : List TV} (h : bi_better_v2_3 R x0 x1 x2 x3 x4 x5 x6 x7 x8 x9 x10 = some o) : R ii_better_v2_3 [tI x0, tI x1, tLA8 x2, tI x3, tI x4, tLA8 x5, tI x6, tI x7, tLA8 x8, tI x9, tI x10] = some o := ev_step ((ei_better_v2_3 R x0 x1 x2 x3 x4 x5 x6 x7 x8 x9 x10).trans h)
/-- impl.better -/
noncomputable def bi_better_v2 (call : Oracle) (a0 : Int × Int × List (List Int)) : Option (List TV) :=
  (call ii_better_v2_3 [tI a0.1, tI a0.2.1, tLA8 a0.2.2, tI 0, tI 0, tLA8 [], tI a0.1, tI a0.2.1, tLA8 a0.2.2, tI (wi64 (Int.tdiv (wi64 (a0.1 * (wi64 (a0.1 - 1)))) 2)), tI 0]).bind fun o5 =>
  bif ((gI o5 0) == 0) then
    some [tPIPILA8 ((gI o5 1), ((gI o5 2), (gLA8 o5 3))), tB false]
  else
    some [tPIPILA8 ((gI o5 1), ((gI o5 2), (gLA8 o5 3))), tB (gB o5 4)]
theorem ei_better_v2 (call : Oracle) (a0 : Int × Int × List (List Int)) : run1 E call ii_better_v2 [tPIPILA8 a0] = bi_better_v2 call a0 := by kernel_rfl
theorem vi_better_v2 (a0 : Int × Int × List (List Int)) {o : List TV} (h : bi_better_v2 R a0 = some o) : R ii_better_v2 [tPIPILA8 a0] = some o := ev_step ((ei_better_v2 R a0).trans h)
/-- impl.summit loop 1 -/
noncomputable def bi_summit_1 (call : Oracle) (x0 : Int) (x1 : Int) (x2 : List (List Int)) (x3 : Int) (x4 : Int) (x5 : List (List Int)) : Option (List TV) :=
  (call ii_better [tPIPILA8 (x0, (x1, x2))]).bind fun o5 =>
  bif (!(gB o5 1)) then
    (call ii_better_v2 [tPIPILA8 (x0, (x1, x2))]).bind fun o6 =>
    bif (!(gB o6 1)) then
      (call ii_copyNormal [tPIPILA8 (x0, (x1, x2))]).bind fun o7 =>
      some [tI 0, tI ((gPIPILA8 o7 0).1), tI (((gPIPILA8 o7 0).2).1), tLA8 (((gPIPILA8 o7 0).2).2)]
    else
      call ii_summit_1 [tI ((gPIPILA8 o6 0).1), tI (((gPIPILA8 o6 0).2).1), tLA8 (((gPIPILA8 o6 0).2).2), tI x3, tI x4, tLA8 x5]
  else
    bif (!(gB o5 1)) then
      (call ii_copyNormal [tPIPILA8 (x0, (x1, x2))]).bind fun o8 =>
      some [tI 0, tI ((gPIPILA8 o8 0).1), tI (((gPIPILA8 o8 0).2).1), tLA8 (((gPIPILA8 o8 0).2).2)]
    else
      call ii_summit_1 [tI ((gPIPILA8 o5 0).1), tI (((gPIPILA8 o5 0).2).1), tLA8 (((gPIPILA8 o5 0).2).2), tI x3, tI x4, tLA8 x5]
theorem ei_summit_1 (call : Oracle) (x0 : Int) (x1 : Int) (x2 : List (List Int)) (x3 : Int) (x4 : Int) (x5 : List (List Int)) : run1 E call ii_summit_1 [tI x0, tI x1, tLA8 x2, tI x3, tI x4, tLA8 x5] = bi_summit_1 call x0 x1 x2 x3 x4 x5 := by kernel_rfl
theorem vi_summit_1 (x0 : Int) (x1 : Int) (x2 : List (List Int)) (x3 : Int) (x4 : Int) (x5 : List (List Int)) {o : List TV} (h : bi_summit_1 R x0 x1 x2 x3 x4 x5 = some o) : R ii_summit_1 [tI x0, tI x1, tLA8 x2, tI x3, tI x4, tLA8 x5] = some o := ev_step ((ei_summit_1 R x0 x1 x2 x3 x4 x5).trans h)
/-- impl.summit -/
noncomputable def bi_summit (call : Oracle) (a0 : Int × Int × List (List Int)) : Option (List TV) :=
  (call ii_summit_1 [tI a0.1, tI a0.2.1, tLA8 a0.2.2, tI 0, tI 0, tLA8 []]).bind fun o9 =>
  some [tPIPILA8 ((gI o9 1), ((gI o9 2), (gLA8 o9 3)))]
theorem ei_summit (call : Oracle) (a0 : Int × Int × List (List Int)) : run1 E call ii_summit [tPIPILA8 a0] = bi_summit call a0 := by kernel_rfl
theorem vi_summit (a0 : Int × Int × List (List Int)) {o : List TV} (h : bi_summit R a0 = some o) : R ii_summit [tPIPILA8 a0] = some o := ev_step ((ei_summit R a0).trans h)
/-- impl.exchange -/
noncomputable def bi_exchange (call : Oracle) (a0 : Int) (a1 : Int) : Option (List TV) :=
  (call ii_nothing [tI a1]).bind fun o1 =>
  bif (decide (0 ≤ a0) && decide (a0 < 8)) then
    bif (decide (0 ≤ (wi64 (a0 - 1))) && decide ((wi64 (a0 - 1)) < 8)) then
      bif (decide (0 ≤ (wi64 (a0 - 1))) && decide ((wi64 (a0 - 1)) < 8)) then
        bif (decide (0 ≤ a0) && decide (a0 < 8)) then
          some [tA8 (List.set (List.set (gA8 o1 0) (Int.toNat (wi64 (a0 - 1))) (List.getD (gA8 o1 0) (Int.toNat a0) 0)) (Int.toNat a0) (List.getD (gA8 o1 0) (Int.toNat (wi64 (a0 - 1))) 0))]
        else none
      else none
    else none
  else none
theorem ei_exchange (call : Oracle) (a0 : Int) (a1 : Int) : run1 E call ii_exchange [tI a0, tI a1] = bi_exchange call a0 a1 := by kernel_rfl
theorem vi_exchange (a0 : Int) (a1 : Int) {o : List TV} (h : bi_exchange R a0 a1 = some o) : R ii_exchange [tI a0, tI a1] = some o := ev_step ((ei_exchange R a0 a1).trans h)
/-- slices.Index[[]impl.Simple,impl.Simple] loop 2 -/
noncomputable def bg_Index___i_Simple_i_Simple__2 (call : Oracle) (x0 : List (List Int)) (x1 : List Int) (x2 : Int) (x3 : Int) : Option (List TV) :=
  bif decide (x3 < x2) then
    bif (decide (0 ≤ x3) && decide (x3 < ((List.length x0 : Nat) : Int))) then
      bif (x1 == (List.getD x0 (Int.toNat x3) (List.replicate 8 0))) then
        some [tI 1, tI x3]
      else
        call ig_Index___i_Simple_i_Simple__2 [tLA8 x0, tA8 x1, tI x2, tI (wi64 (x3 + 1))]
    else none
  else
    some [tI 0]
theorem eg_Index___i_Simple_i_Simple__2 (call : Oracle) (x0 : List (List Int)) (x1 : List Int) (x2 : Int) (x3 : Int) : run1 E call ig_Index___i_Simple_i_Simple__2 [tLA8 x0, tA8 x1, tI x2, tI x3] = bg_Index___i_Simple_i_Simple__2 call x0 x1 x2 x3 := by kernel_rfl
theorem vg_Index___i_Simple_i_Simple__2 (x0 : List (List Int)) (x1 : List Int) (x2 : Int) (x3 : Int) {o : List TV} (h : bg_Index___i_Simple_i_Simple__2 R x0 x1 x2 x3 = some o) : R ig_Index___i_Simple_i_Simple__2 [tLA8 x0, tA8 x1, tI x2, tI x3] = some o := ev_step ((eg_Index___i_Simple_i_Simple__2 R x0 x1 x2 x3).trans h)
end Go.Ev.YtolpnaiincngjaaGreat
