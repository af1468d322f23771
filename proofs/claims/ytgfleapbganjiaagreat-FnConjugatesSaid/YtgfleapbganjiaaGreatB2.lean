/- Bodies, part 2. -/
import Derived.KernelRfl
import Derived.Test.YtgfleapbganjiaaGreatEnv
set_option linter.unusedVariables false
namespace Go.Ev.YtgfleapbganjiaaGreat
open Go.Ev
noncomputable section
def bi_CyclingOf (call : Oracle) (a0 : Int × Int × List (List Int)) : Option (List TV) :=
  (call ii_changed [tPIPILA8 (a0.1, (a0.2.1, a0.2.2))]).bind fun o1 =>
  some [tPIPILA8 ((gPIPILA8 o1 0).1, (((gPIPILA8 o1 0).2).1, ((gPIPILA8 o1 0).2).2)), tI (gI o1 1)]
theorem ei_CyclingOf (call : Oracle) (a0 : Int × Int × List (List Int)) : run1 E call ii_CyclingOf [tPIPILA8 a0] = bi_CyclingOf call a0 := by kernel_rfl
theorem vi_CyclingOf (a0 : Int × Int × List (List Int)) {o : List TV} (h : bi_CyclingOf R a0 = some o) : R ii_CyclingOf [tPIPILA8 a0] = some o := ev_step ((ei_CyclingOf R a0).trans h)
def bs_l04First (call : Oracle) (a0 : Int × Int × List (List Int)) : Option (List TV) :=
  bif ((Int.tmod a0.2.1 2) != 0) then
    bif decide (0 < ((List.length a0.2.2 : Nat) : Int)) then
      (call is_l02Turn [tA8 (List.getD a0.2.2 0 (List.replicate 8 0)), tI a0.1]).bind fun o1 =>
      some [tA8 (gA8 o1 0)]
    else none
  else
    bif decide (0 < ((List.length a0.2.2 : Nat) : Int)) then
      some [tA8 (List.getD a0.2.2 0 (List.replicate 8 0))]
    else none
theorem es_l04First (call : Oracle) (a0 : Int × Int × List (List Int)) : run1 E call is_l04First [tPIPILA8 a0] = bs_l04First call a0 := by kernel_rfl
theorem vs_l04First (a0 : Int × Int × List (List Int)) {o : List TV} (h : bs_l04First R a0 = some o) : R is_l04First [tPIPILA8 a0] = some o := ev_step ((es_l04First R a0).trans h)
def bs_l04Cycle (call : Oracle) (a0 : Int × Int × List (List Int)) : Option (List TV) :=
  bif (((List.length a0.2.2 : Nat) : Int) == 0) then
    some [tPIPILA8 (a0.1, (a0.2.1, a0.2.2))]
  else
    bif decide (1 ≤ ((List.length a0.2.2 : Nat) : Int)) then
      bif (apOk [] (List.drop 1 a0.2.2)) then
        (call is_l04First [tPIPILA8 (a0.1, (a0.2.1, a0.2.2))]).bind fun o1 =>
        bif (apOk (List.drop 1 a0.2.2) [(gA8 o1 0)]) then
          (call is_l03Make [tI a0.1, tI a0.2.1, tLA8 ((List.drop 1 a0.2.2) ++ [(gA8 o1 0)])]).bind fun o2 =>
          some [tPIPILA8 ((gPIPILA8 o2 0).1, (((gPIPILA8 o2 0).2).1, ((gPIPILA8 o2 0).2).2))]
        else none
      else none
    else none
theorem es_l04Cycle (call : Oracle) (a0 : Int × Int × List (List Int)) : run1 E call is_l04Cycle [tPIPILA8 a0] = bs_l04Cycle call a0 := by kernel_rfl
theorem vs_l04Cycle (a0 : Int × Int × List (List Int)) {o : List TV} (h : bs_l04Cycle R a0 = some o) : R is_l04Cycle [tPIPILA8 a0] = some o := ev_step ((es_l04Cycle R a0).trans h)
def bs_CyclingOf (call : Oracle) (a0 : Int × Int × List (List Int)) : Option (List TV) :=
  (call is_l03Is [tPIPILA8 (a0.1, (a0.2.1, a0.2.2))]).bind fun o1 =>
  bif (!(gB o1 0)) then
    some [tPIPILA8 (0, (0, [])), tI 1]
  else
    (call is_l04Cycle [tPIPILA8 (a0.1, (a0.2.1, a0.2.2))]).bind fun o2 =>
    (call is_l04Cycle [tPIPILA8 (a0.1, (a0.2.1, a0.2.2))]).bind fun o3 =>
    (call is_l03Make [tI a0.1, tI (((gPIPILA8 o2 0).2).1), tLA8 (((gPIPILA8 o3 0).2).2)]).bind fun o4 =>
    (call is_l03Fit [tPIPILA8 ((gPIPILA8 o4 0).1, (((gPIPILA8 o4 0).2).1, ((gPIPILA8 o4 0).2).2))]).bind fun o5 =>
    some [tPIPILA8 ((gPIPILA8 o5 0).1, (((gPIPILA8 o5 0).2).1, ((gPIPILA8 o5 0).2).2)), tI (gI o5 1)]
theorem es_CyclingOf (call : Oracle) (a0 : Int × Int × List (List Int)) : run1 E call is_CyclingOf [tPIPILA8 a0] = bs_CyclingOf call a0 := by kernel_rfl
theorem vs_CyclingOf (a0 : Int × Int × List (List Int)) {o : List TV} (h : bs_CyclingOf R a0 = some o) : R is_CyclingOf [tPIPILA8 a0] = some o := ev_step ((es_CyclingOf R a0).trans h)
def bi_decycled_7 (call : Oracle) (x0 x1 : Int) (x2 : List (List Int)) (x3 x4 : Int) (x5 x6 : List (List Int)) (x7 x8 : Int) : Option (List TV) :=
  bif decide (x8 < x7) then
    bif (decide (0 ≤ x8) && decide (x8 < ((List.length x6 : Nat) : Int))) then
      (call i__i_Normal__put [tPIPILA8 (x3, (x4, x5)), tA8 (List.getD x6 (Int.toNat x8) (List.replicate 8 0))]).bind fun o5 =>
      call ii_decycled_7 [tI x0, tI x1, tLA8 x2, tI ((gPIPILA8 o5 0).1), tI (((gPIPILA8 o5 0).2).1), tLA8 (((gPIPILA8 o5 0).2).2), tLA8 x6, tI x7, tI (wi64 (x8 + 1))]
    else none
  else
    some [tI 0, tI x0, tI x1, tLA8 x2, tI x3, tI x4, tLA8 x5]
theorem ei_decycled_7 (call : Oracle) (x0 x1 : Int) (x2 : List (List Int)) (x3 x4 : Int) (x5 x6 : List (List Int)) (x7 x8 : Int) : run1 E call ii_decycled_7 [tI x0, tI x1, tLA8 x2, tI x3, tI x4, tLA8 x5, tLA8 x6, tI x7, tI x8] = bi_decycled_7 call x0 x1 x2 x3 x4 x5 x6 x7 x8 := by kernel_rfl
theorem vi_decycled_7 (x0 x1 : Int) (x2 : List (List Int)) (x3 x4 : Int) (x5 x6 : List (List Int)) (x7 x8 : Int) {o : List TV} (h : bi_decycled_7 R x0 x1 x2 x3 x4 x5 x6 x7 x8 = some o) : R ii_decycled_7 [tI x0, tI x1, tLA8 x2, tI x3, tI x4, tLA8 x5, tLA8 x6, tI x7, tI x8] = some o := ev_step ((ei_decycled_7 R x0 x1 x2 x3 x4 x5 x6 x7 x8).trans h)
def bi_decycled (call : Oracle) (a0 : Int × Int × List (List Int)) : Option (List TV) :=
  bif decide ((wi64 (((List.length a0.2.2 : Nat) : Int) - 1)) < 0) then
    (call ii_copyNormal [tPIPILA8 (a0.1, (a0.2.1, a0.2.2))]).bind fun o1 =>
    some [tPIPILA8 ((gPIPILA8 o1 0).1, (((gPIPILA8 o1 0).2).1, ((gPIPILA8 o1 0).2).2))]
  else
    bif (decide (0 ≤ (wi64 (((List.length a0.2.2 : Nat) : Int) - 1))) && decide ((wi64 (((List.length a0.2.2 : Nat) : Int) - 1)) < ((List.length a0.2.2 : Nat) : Int))) then
      (call ii_turned [tA8 (List.getD a0.2.2 (Int.toNat (wi64 (((List.length a0.2.2 : Nat) : Int) - 1))) (List.replicate 8 0)), tPIPILA8 (a0.1, (a0.2.1, a0.2.2))]).bind fun o2 =>
      (call i__i_Normal__put [tPIPILA8 (a0.1, (a0.2.1, [])), tA8 (gA8 o2 0)]).bind fun o3 =>
      bif (decide (0 ≤ (wi64 (((List.length a0.2.2 : Nat) : Int) - 1))) && decide ((wi64 (((List.length a0.2.2 : Nat) : Int) - 1)) ≤ ((List.length a0.2.2 : Nat) : Int))) then
        (call ii_decycled_7 [tI 0, tI 0, tLA8 [], tI ((gPIPILA8 o3 0).1), tI (((gPIPILA8 o3 0).2).1), tLA8 (((gPIPILA8 o3 0).2).2), tLA8 (List.take (Int.toNat (wi64 (((List.length a0.2.2 : Nat) : Int) - 1))) a0.2.2), tI ((List.length (List.take (Int.toNat (wi64 (((List.length a0.2.2 : Nat) : Int) - 1))) a0.2.2) : Nat) : Int), tI 0]).bind fun o6 =>
        some [tPIPILA8 ((gI o6 4), ((gI o6 5), (gLA8 o6 6)))]
      else none
    else none
theorem ei_decycled (call : Oracle) (a0 : Int × Int × List (List Int)) : run1 E call ii_decycled [tPIPILA8 a0] = bi_decycled call a0 := by kernel_rfl
theorem vi_decycled (a0 : Int × Int × List (List Int)) {o : List TV} (h : bi_decycled R a0 = some o) : R ii_decycled [tPIPILA8 a0] = some o := ev_step ((ei_decycled R a0).trans h)
def bi_changed_v2 (call : Oracle) (a0 : Int × Int × List (List Int)) : Option (List TV) :=
  (call ii_IsNormal [tPIPILA8 (a0.1, (a0.2.1, a0.2.2))]).bind fun o1 =>
  bif (!(gB o1 0)) then
    some [tPIPILA8 (0, (0, [])), tI 1]
  else
    (call ii_decycled [tPIPILA8 (a0.1, (a0.2.1, a0.2.2))]).bind fun o2 =>
    (call ii_limited [tPIPILA8 ((gPIPILA8 o2 0).1, (((gPIPILA8 o2 0).2).1, ((gPIPILA8 o2 0).2).2))]).bind fun o3 =>
    some [tPIPILA8 ((gPIPILA8 o3 0).1, (((gPIPILA8 o3 0).2).1, ((gPIPILA8 o3 0).2).2)), tI (gI o3 1)]
theorem ei_changed_v2 (call : Oracle) (a0 : Int × Int × List (List Int)) : run1 E call ii_changed_v2 [tPIPILA8 a0] = bi_changed_v2 call a0 := by kernel_rfl
theorem vi_changed_v2 (a0 : Int × Int × List (List Int)) {o : List TV} (h : bi_changed_v2 R a0 = some o) : R ii_changed_v2 [tPIPILA8 a0] = some o := ev_step ((ei_changed_v2 R a0).trans h)
def bi_DecyclingOf (call : Oracle) (a0 : Int × Int × List (List Int)) : Option (List TV) :=
  (call ii_changed_v2 [tPIPILA8 (a0.1, (a0.2.1, a0.2.2))]).bind fun o1 =>
  some [tPIPILA8 ((gPIPILA8 o1 0).1, (((gPIPILA8 o1 0).2).1, ((gPIPILA8 o1 0).2).2)), tI (gI o1 1)]
theorem ei_DecyclingOf (call : Oracle) (a0 : Int × Int × List (List Int)) : run1 E call ii_DecyclingOf [tPIPILA8 a0] = bi_DecyclingOf call a0 := by kernel_rfl
theorem vi_DecyclingOf (a0 : Int × Int × List (List Int)) {o : List TV} (h : bi_DecyclingOf R a0 = some o) : R ii_DecyclingOf [tPIPILA8 a0] = some o := ev_step ((ei_DecyclingOf R a0).trans h)
def bs_l04Decycle (call : Oracle) (a0 : Int × Int × List (List Int)) : Option (List TV) :=
  bif (((List.length a0.2.2 : Nat) : Int) == 0) then
    some [tPIPILA8 (a0.1, (a0.2.1, a0.2.2))]
  else
    bif (decide (0 ≤ (wi64 (((List.length a0.2.2 : Nat) : Int) - 1))) && decide ((wi64 (((List.length a0.2.2 : Nat) : Int) - 1)) < ((List.length a0.2.2 : Nat) : Int))) then
      bif ((Int.tmod a0.2.1 2) != 0) then
        (call is_l02Turn [tA8 (List.getD a0.2.2 (Int.toNat (wi64 (((List.length a0.2.2 : Nat) : Int) - 1))) (List.replicate 8 0)), tI a0.1]).bind fun o1 =>
        bif (decide (0 ≤ (wi64 (((List.length a0.2.2 : Nat) : Int) - 1))) && decide ((wi64 (((List.length a0.2.2 : Nat) : Int) - 1)) ≤ ((List.length a0.2.2 : Nat) : Int))) then
          bif (apOk [(gA8 o1 0)] (List.take (Int.toNat (wi64 (((List.length a0.2.2 : Nat) : Int) - 1))) a0.2.2)) then
            (call is_l03Make [tI a0.1, tI a0.2.1, tLA8 ([(gA8 o1 0)] ++ (List.take (Int.toNat (wi64 (((List.length a0.2.2 : Nat) : Int) - 1))) a0.2.2))]).bind fun o2 =>
            some [tPIPILA8 ((gPIPILA8 o2 0).1, (((gPIPILA8 o2 0).2).1, ((gPIPILA8 o2 0).2).2))]
          else none
        else none
      else
        bif (decide (0 ≤ (wi64 (((List.length a0.2.2 : Nat) : Int) - 1))) && decide ((wi64 (((List.length a0.2.2 : Nat) : Int) - 1)) ≤ ((List.length a0.2.2 : Nat) : Int))) then
          bif (apOk [(List.getD a0.2.2 (Int.toNat (wi64 (((List.length a0.2.2 : Nat) : Int) - 1))) (List.replicate 8 0))] (List.take (Int.toNat (wi64 (((List.length a0.2.2 : Nat) : Int) - 1))) a0.2.2)) then
            (call is_l03Make [tI a0.1, tI a0.2.1, tLA8 ([(List.getD a0.2.2 (Int.toNat (wi64 (((List.length a0.2.2 : Nat) : Int) - 1))) (List.replicate 8 0))] ++ (List.take (Int.toNat (wi64 (((List.length a0.2.2 : Nat) : Int) - 1))) a0.2.2))]).bind fun o3 =>
            some [tPIPILA8 ((gPIPILA8 o3 0).1, (((gPIPILA8 o3 0).2).1, ((gPIPILA8 o3 0).2).2))]
          else none
        else none
    else none
theorem es_l04Decycle (call : Oracle) (a0 : Int × Int × List (List Int)) : run1 E call is_l04Decycle [tPIPILA8 a0] = bs_l04Decycle call a0 := by kernel_rfl
theorem vs_l04Decycle (a0 : Int × Int × List (List Int)) {o : List TV} (h : bs_l04Decycle R a0 = some o) : R is_l04Decycle [tPIPILA8 a0] = some o := ev_step ((es_l04Decycle R a0).trans h)
def bs_DecyclingOf (call : Oracle) (a0 : Int × Int × List (List Int)) : Option (List TV) :=
  (call is_l03Is [tPIPILA8 (a0.1, (a0.2.1, a0.2.2))]).bind fun o1 =>
  bif (!(gB o1 0)) then
    some [tPIPILA8 (0, (0, [])), tI 1]
  else
    (call is_l04Decycle [tPIPILA8 (a0.1, (a0.2.1, a0.2.2))]).bind fun o2 =>
    (call is_l04Decycle [tPIPILA8 (a0.1, (a0.2.1, a0.2.2))]).bind fun o3 =>
    (call is_l03Make [tI a0.1, tI (((gPIPILA8 o2 0).2).1), tLA8 (((gPIPILA8 o3 0).2).2)]).bind fun o4 =>
    (call is_l03Fit [tPIPILA8 ((gPIPILA8 o4 0).1, (((gPIPILA8 o4 0).2).1, ((gPIPILA8 o4 0).2).2))]).bind fun o5 =>
    some [tPIPILA8 ((gPIPILA8 o5 0).1, (((gPIPILA8 o5 0).2).1, ((gPIPILA8 o5 0).2).2)), tI (gI o5 1)]
theorem es_DecyclingOf (call : Oracle) (a0 : Int × Int × List (List Int)) : run1 E call is_DecyclingOf [tPIPILA8 a0] = bs_DecyclingOf call a0 := by kernel_rfl
theorem vs_DecyclingOf (a0 : Int × Int × List (List Int)) {o : List TV} (h : bs_DecyclingOf R a0 = some o) : R is_DecyclingOf [tPIPILA8 a0] = some o := ev_step ((es_DecyclingOf R a0).trans h)
def bi_withoutHead (call : Oracle) (a0 : Int × Int × List (List Int)) (a1 : List Int) : Option (List TV) :=
  (call i__i_Normal__putInverse [tPIPILA8 (a0.1, (0, [])), tA8 a1]).bind fun o1 =>
  (call ii_product [tPIPILA8 ((gPIPILA8 o1 0).1, (((gPIPILA8 o1 0).2).1, ((gPIPILA8 o1 0).2).2)), tPIPILA8 (a0.1, (a0.2.1, a0.2.2))]).bind fun o2 =>
  some [tPIPILA8 ((gPIPILA8 o2 0).1, (((gPIPILA8 o2 0).2).1, ((gPIPILA8 o2 0).2).2))]
theorem ei_withoutHead (call : Oracle) (a0 : Int × Int × List (List Int)) (a1 : List Int) : run1 E call ii_withoutHead [tPIPILA8 a0, tA8 a1] = bi_withoutHead call a0 a1 := by kernel_rfl
theorem vi_withoutHead (a0 : Int × Int × List (List Int)) (a1 : List Int) {o : List TV} (h : bi_withoutHead R a0 a1 = some o) : R ii_withoutHead [tPIPILA8 a0, tA8 a1] = some o := ev_step ((ei_withoutHead R a0 a1).trans h)
def bi_conjugate (call : Oracle) (a0 : Int × Int × List (List Int)) (a1 : List Int) : Option (List TV) :=
  (call ii_withoutHead [tPIPILA8 (a0.1, (a0.2.1, a0.2.2)), tA8 a1]).bind fun o1 =>
  (call i__i_Normal__put [tPIPILA8 ((gPIPILA8 o1 0).1, (((gPIPILA8 o1 0).2).1, ((gPIPILA8 o1 0).2).2)), tA8 a1]).bind fun o2 =>
  some [tPIPILA8 ((gPIPILA8 o2 0).1, (((gPIPILA8 o2 0).2).1, ((gPIPILA8 o2 0).2).2))]
theorem ei_conjugate (call : Oracle) (a0 : Int × Int × List (List Int)) (a1 : List Int) : run1 E call ii_conjugate [tPIPILA8 a0, tA8 a1] = bi_conjugate call a0 a1 := by kernel_rfl
theorem vi_conjugate (a0 : Int × Int × List (List Int)) (a1 : List Int) {o : List TV} (h : bi_conjugate R a0 a1 = some o) : R ii_conjugate [tPIPILA8 a0, tA8 a1] = some o := ev_step ((ei_conjugate R a0 a1).trans h)
def bi_slid (call : Oracle) (a0 : Int × Int × List (List Int)) : Option (List TV) :=
  bif decide ((wi64 (((List.length a0.2.2 : Nat) : Int) - 1)) < 0) then
    (call ii_copyNormal [tPIPILA8 (a0.1, (a0.2.1, a0.2.2))]).bind fun o1 =>
    some [tPIPILA8 ((gPIPILA8 o1 0).1, (((gPIPILA8 o1 0).2).1, ((gPIPILA8 o1 0).2).2))]
  else
    bif decide (0 < ((List.length a0.2.2 : Nat) : Int)) then
      (call ii_turned [tA8 (List.getD a0.2.2 0 (List.replicate 8 0)), tPIPILA8 (a0.1, (a0.2.1, a0.2.2))]).bind fun o2 =>
      bif (decide (0 ≤ (wi64 (((List.length a0.2.2 : Nat) : Int) - 1))) && decide ((wi64 (((List.length a0.2.2 : Nat) : Int) - 1)) < ((List.length a0.2.2 : Nat) : Int))) then
        (call ii_complement [tA8 (List.getD a0.2.2 (Int.toNat (wi64 (((List.length a0.2.2 : Nat) : Int) - 1))) (List.replicate 8 0)), tI a0.1]).bind fun o3 =>
        (call ii_meet [tA8 (gA8 o2 0), tA8 (gA8 o3 0), tI a0.1]).bind fun o4 =>
        (call ii_conjugate [tPIPILA8 (a0.1, (a0.2.1, a0.2.2)), tA8 (gA8 o4 0)]).bind fun o5 =>
        some [tPIPILA8 ((gPIPILA8 o5 0).1, (((gPIPILA8 o5 0).2).1, ((gPIPILA8 o5 0).2).2))]
      else none
    else none
theorem ei_slid (call : Oracle) (a0 : Int × Int × List (List Int)) : run1 E call ii_slid [tPIPILA8 a0] = bi_slid call a0 := by kernel_rfl
theorem vi_slid (a0 : Int × Int × List (List Int)) {o : List TV} (h : bi_slid R a0 = some o) : R ii_slid [tPIPILA8 a0] = some o := ev_step ((ei_slid R a0).trans h)
def bi_changed_v3 (call : Oracle) (a0 : Int × Int × List (List Int)) : Option (List TV) :=
  (call ii_IsNormal [tPIPILA8 (a0.1, (a0.2.1, a0.2.2))]).bind fun o1 =>
  bif (!(gB o1 0)) then
    some [tPIPILA8 (0, (0, [])), tI 1]
  else
    (call ii_slid [tPIPILA8 (a0.1, (a0.2.1, a0.2.2))]).bind fun o2 =>
    (call ii_limited [tPIPILA8 ((gPIPILA8 o2 0).1, (((gPIPILA8 o2 0).2).1, ((gPIPILA8 o2 0).2).2))]).bind fun o3 =>
    some [tPIPILA8 ((gPIPILA8 o3 0).1, (((gPIPILA8 o3 0).2).1, ((gPIPILA8 o3 0).2).2)), tI (gI o3 1)]
theorem ei_changed_v3 (call : Oracle) (a0 : Int × Int × List (List Int)) : run1 E call ii_changed_v3 [tPIPILA8 a0] = bi_changed_v3 call a0 := by kernel_rfl
theorem vi_changed_v3 (a0 : Int × Int × List (List Int)) {o : List TV} (h : bi_changed_v3 R a0 = some o) : R ii_changed_v3 [tPIPILA8 a0] = some o := ev_step ((ei_changed_v3 R a0).trans h)
def bi_SlidingOf (call : Oracle) (a0 : Int × Int × List (List Int)) : Option (List TV) :=
  (call ii_changed_v3 [tPIPILA8 (a0.1, (a0.2.1, a0.2.2))]).bind fun o1 =>
  some [tPIPILA8 ((gPIPILA8 o1 0).1, (((gPIPILA8 o1 0).2).1, ((gPIPILA8 o1 0).2).2)), tI (gI o1 1)]
theorem ei_SlidingOf (call : Oracle) (a0 : Int × Int × List (List Int)) : run1 E call ii_SlidingOf [tPIPILA8 a0] = bi_SlidingOf call a0 := by kernel_rfl
theorem vi_SlidingOf (a0 : Int × Int × List (List Int)) {o : List TV} (h : bi_SlidingOf R a0 = some o) : R ii_SlidingOf [tPIPILA8 a0] = some o := ev_step ((ei_SlidingOf R a0).trans h)
def bs_l03Less (call : Oracle) (a0 : Int × Int × List (List Int)) (a1 : List Int) : Option (List TV) :=
  (call is_l02Left [tA8 a1, tI a0.1]).bind fun o1 =>
  bif (apOk [(gA8 o1 0)] a0.2.2) then
    bif ((Int.tmod a0.2.1 2) != 0) then
      bif decide (0 < ((List.length ([(gA8 o1 0)] ++ a0.2.2) : Nat) : Int)) then
        (call is_l02Turn [tA8 (List.getD ([(gA8 o1 0)] ++ a0.2.2) 0 (List.replicate 8 0)), tI a0.1]).bind fun o2 =>
        bif decide (0 < ((List.length ([(gA8 o1 0)] ++ a0.2.2) : Nat) : Int)) then
          (call is_l03Make [tI a0.1, tI (wi64 (a0.2.1 - 1)), tLA8 (List.set ([(gA8 o1 0)] ++ a0.2.2) 0 (gA8 o2 0))]).bind fun o3 =>
          some [tPIPILA8 ((gPIPILA8 o3 0).1, (((gPIPILA8 o3 0).2).1, ((gPIPILA8 o3 0).2).2))]
        else none
      else none
    else
      (call is_l03Make [tI a0.1, tI (wi64 (a0.2.1 - 1)), tLA8 ([(gA8 o1 0)] ++ a0.2.2)]).bind fun o4 =>
      some [tPIPILA8 ((gPIPILA8 o4 0).1, (((gPIPILA8 o4 0).2).1, ((gPIPILA8 o4 0).2).2))]
  else none
theorem es_l03Less (call : Oracle) (a0 : Int × Int × List (List Int)) (a1 : List Int) : run1 E call is_l03Less [tPIPILA8 a0, tA8 a1] = bs_l03Less call a0 a1 := by kernel_rfl
theorem vs_l03Less (a0 : Int × Int × List (List Int)) (a1 : List Int) {o : List TV} (h : bs_l03Less R a0 a1 = some o) : R is_l03Less [tPIPILA8 a0, tA8 a1] = some o := ev_step ((es_l03Less R a0 a1).trans h)
def bs_l04Conjugate (call : Oracle) (a0 : Int × Int × List (List Int)) (a1 : List Int) : Option (List TV) :=
  (call is_l03Less [tPIPILA8 (a0.1, (a0.2.1, a0.2.2)), tA8 a1]).bind fun o1 =>
  (call is_l03Times [tPIPILA8 ((gPIPILA8 o1 0).1, (((gPIPILA8 o1 0).2).1, ((gPIPILA8 o1 0).2).2)), tA8 a1, tB false]).bind fun o2 =>
  some [tPIPILA8 ((gPIPILA8 o2 0).1, (((gPIPILA8 o2 0).2).1, ((gPIPILA8 o2 0).2).2))]
theorem es_l04Conjugate (call : Oracle) (a0 : Int × Int × List (List Int)) (a1 : List Int) : run1 E call is_l04Conjugate [tPIPILA8 a0, tA8 a1] = bs_l04Conjugate call a0 a1 := by kernel_rfl
theorem vs_l04Conjugate (a0 : Int × Int × List (List Int)) (a1 : List Int) {o : List TV} (h : bs_l04Conjugate R a0 a1 = some o) : R is_l04Conjugate [tPIPILA8 a0, tA8 a1] = some o := ev_step ((es_l04Conjugate R a0 a1).trans h)
def bs_l04Slide (call : Oracle) (a0 : Int × Int × List (List Int)) : Option (List TV) :=
  bif (((List.length a0.2.2 : Nat) : Int) == 0) then
    some [tPIPILA8 (a0.1, (a0.2.1, a0.2.2))]
  else
    (call is_l04First [tPIPILA8 (a0.1, (a0.2.1, a0.2.2))]).bind fun o1 =>
    bif (decide (0 ≤ (wi64 (((List.length a0.2.2 : Nat) : Int) - 1))) && decide ((wi64 (((List.length a0.2.2 : Nat) : Int) - 1)) < ((List.length a0.2.2 : Nat) : Int))) then
      (call is_l02Complement [tA8 (List.getD a0.2.2 (Int.toNat (wi64 (((List.length a0.2.2 : Nat) : Int) - 1))) (List.replicate 8 0)), tI a0.1]).bind fun o2 =>
      (call is_l02Meet [tA8 (gA8 o1 0), tA8 (gA8 o2 0), tI a0.1]).bind fun o3 =>
      (call is_l04Conjugate [tPIPILA8 (a0.1, (a0.2.1, a0.2.2)), tA8 (gA8 o3 0)]).bind fun o4 =>
      some [tPIPILA8 ((gPIPILA8 o4 0).1, (((gPIPILA8 o4 0).2).1, ((gPIPILA8 o4 0).2).2))]
    else none
theorem es_l04Slide (call : Oracle) (a0 : Int × Int × List (List Int)) : run1 E call is_l04Slide [tPIPILA8 a0] = bs_l04Slide call a0 := by kernel_rfl
theorem vs_l04Slide (a0 : Int × Int × List (List Int)) {o : List TV} (h : bs_l04Slide R a0 = some o) : R is_l04Slide [tPIPILA8 a0] = some o := ev_step ((es_l04Slide R a0).trans h)
def bs_SlidingOf (call : Oracle) (a0 : Int × Int × List (List Int)) : Option (List TV) :=
  (call is_l03Is [tPIPILA8 (a0.1, (a0.2.1, a0.2.2))]).bind fun o1 =>
  bif (!(gB o1 0)) then
    some [tPIPILA8 (0, (0, [])), tI 1]
  else
    (call is_l04Slide [tPIPILA8 (a0.1, (a0.2.1, a0.2.2))]).bind fun o2 =>
    (call is_l03Make [tI a0.1, tI (((gPIPILA8 o2 0).2).1), tLA8 (((gPIPILA8 o2 0).2).2)]).bind fun o3 =>
    (call is_l03Fit [tPIPILA8 ((gPIPILA8 o3 0).1, (((gPIPILA8 o3 0).2).1, ((gPIPILA8 o3 0).2).2))]).bind fun o4 =>
    some [tPIPILA8 ((gPIPILA8 o4 0).1, (((gPIPILA8 o4 0).2).1, ((gPIPILA8 o4 0).2).2)), tI (gI o4 1)]
theorem es_SlidingOf (call : Oracle) (a0 : Int × Int × List (List Int)) : run1 E call is_SlidingOf [tPIPILA8 a0] = bs_SlidingOf call a0 := by kernel_rfl
theorem vs_SlidingOf (a0 : Int × Int × List (List Int)) {o : List TV} (h : bs_SlidingOf R a0 = some o) : R is_SlidingOf [tPIPILA8 a0] = some o := ev_step ((es_SlidingOf R a0).trans h)
def bs_DrawIsCentral (call : Oracle) (a0 : List Int) : Option (List TV) :=
  (call is_l01From [tLU8 a0]).bind fun o1 =>
  (call is_l04Draw [tPLU8PIU64 ((gPLU8PIU64 o1 0).1, (((gPLU8PIU64 o1 0).2).1, ((gPLU8PIU64 o1 0).2).2))]).bind fun o2 =>
  some [tPIPILA8 ((gPIPILA8 o2 0).1, (((gPIPILA8 o2 0).2).1, ((gPIPILA8 o2 0).2).2))]
theorem es_DrawIsCentral (call : Oracle) (a0 : List Int) : run1 E call is_DrawIsCentral [tLU8 a0] = bs_DrawIsCentral call a0 := by kernel_rfl
theorem vs_DrawIsCentral (a0 : List Int) {o : List TV} (h : bs_DrawIsCentral R a0 = some o) : R is_DrawIsCentral [tLU8 a0] = some o := ev_step ((es_DrawIsCentral R a0).trans h)
def bi_IsCentral (call : Oracle) (a0 : Int × Int × List (List Int)) : Option (List TV) :=
  (call ii_IsNormal [tPIPILA8 (a0.1, (a0.2.1, a0.2.2))]).bind fun o1 =>
  bif (!(gB o1 0)) then
    some [tB false, tI 1]
  else
    bif decide (a0.1 ≤ 2) then
      some [tB true, tI 0]
    else
      bif (((List.length a0.2.2 : Nat) : Int) == 0) then
        some [tB ((Int.tmod a0.2.1 2) == 0), tI 0]
      else
        some [tB false, tI 0]
theorem ei_IsCentral (call : Oracle) (a0 : Int × Int × List (List Int)) : run1 E call ii_IsCentral [tPIPILA8 a0] = bi_IsCentral call a0 := by kernel_rfl
theorem vi_IsCentral (a0 : Int × Int × List (List Int)) {o : List TV} (h : bi_IsCentral R a0 = some o) : R ii_IsCentral [tPIPILA8 a0] = some o := ev_step ((ei_IsCentral R a0).trans h)
def bs_IsCentral (call : Oracle) (a0 : Int × Int × List (List Int)) : Option (List TV) :=
  (call is_l03Is [tPIPILA8 (a0.1, (a0.2.1, a0.2.2))]).bind fun o1 =>
  bif (!(gB o1 0)) then
    some [tB false, tI 1]
  else
    bif (((List.length a0.2.2 : Nat) : Int) == 0) then
      bif ((Int.tmod a0.2.1 2) == 0) then
        some [tB true, tI 0]
      else
        some [tB (decide (a0.1 < 3)), tI 0]
    else
      some [tB false, tI 0]
theorem es_IsCentral (call : Oracle) (a0 : Int × Int × List (List Int)) : run1 E call is_IsCentral [tPIPILA8 a0] = bs_IsCentral call a0 := by kernel_rfl
theorem vs_IsCentral (a0 : Int × Int × List (List Int)) {o : List TV} (h : bs_IsCentral R a0 = some o) : R is_IsCentral [tPIPILA8 a0] = some o := ev_step ((es_IsCentral R a0).trans h)
def bi_IsPeriodic_5 (call : Oracle) (x0 x1 : Int) (x2 : List (List Int)) (x3 x4 : Int) (x5 : List (List Int)) (x6 x7 : Int) : Option (List TV) :=
  bif decide (x7 < x6) then
    (call ii_product [tPIPILA8 (x3, (x4, x5)), tPIPILA8 (x0, (x1, x2))]).bind fun o3 =>
    call ii_IsPeriodic_5 [tI x0, tI x1, tLA8 x2, tI ((gPIPILA8 o3 0).1), tI (((gPIPILA8 o3 0).2).1), tLA8 (((gPIPILA8 o3 0).2).2), tI x6, tI (wi64 (x7 + 1))]
  else
    some [tI 0, tI x0, tI x1, tLA8 x2, tI x3, tI x4, tLA8 x5]
theorem ei_IsPeriodic_5 (call : Oracle) (x0 x1 : Int) (x2 : List (List Int)) (x3 x4 : Int) (x5 : List (List Int)) (x6 x7 : Int) : run1 E call ii_IsPeriodic_5 [tI x0, tI x1, tLA8 x2, tI x3, tI x4, tLA8 x5, tI x6, tI x7] = bi_IsPeriodic_5 call x0 x1 x2 x3 x4 x5 x6 x7 := by kernel_rfl
theorem vi_IsPeriodic_5 (x0 x1 : Int) (x2 : List (List Int)) (x3 x4 : Int) (x5 : List (List Int)) (x6 x7 : Int) {o : List TV} (h : bi_IsPeriodic_5 R x0 x1 x2 x3 x4 x5 x6 x7 = some o) : R ii_IsPeriodic_5 [tI x0, tI x1, tLA8 x2, tI x3, tI x4, tLA8 x5, tI x6, tI x7] = some o := ev_step ((ei_IsPeriodic_5 R x0 x1 x2 x3 x4 x5 x6 x7).trans h)
def bi_IsPeriodic (call : Oracle) (a0 : Int × Int × List (List Int)) : Option (List TV) :=
  (call ii_IsNormal [tPIPILA8 (a0.1, (a0.2.1, a0.2.2))]).bind fun o1 =>
  bif (!(gB o1 0)) then
    some [tB false, tI 1]
  else
    (call ii_IsPeriodic_5 [tI a0.1, tI a0.2.1, tLA8 a0.2.2, tI a0.1, tI 0, tLA8 [], tI (wi64 (a0.1 - 1)), tI 0]).bind fun o4 =>
    bif (((List.length (gLA8 o4 6) : Nat) : Int) == 0) then
      some [tB true, tI 0]
    else
      (call ii_product [tPIPILA8 ((gI o4 4), ((gI o4 5), (gLA8 o4 6))), tPIPILA8 ((gI o4 1), ((gI o4 2), (gLA8 o4 3)))]).bind fun o5 =>
      some [tB (((List.length (((gPIPILA8 o5 0).2).2) : Nat) : Int) == 0), tI 0]
theorem ei_IsPeriodic (call : Oracle) (a0 : Int × Int × List (List Int)) : run1 E call ii_IsPeriodic [tPIPILA8 a0] = bi_IsPeriodic call a0 := by kernel_rfl
theorem vi_IsPeriodic (a0 : Int × Int × List (List Int)) {o : List TV} (h : bi_IsPeriodic R a0 = some o) : R ii_IsPeriodic [tPIPILA8 a0] = some o := ev_step ((ei_IsPeriodic R a0).trans h)
def bs_IsPeriodic_5 (call : Oracle) (x0 x1 : Int) (x2 : List (List Int)) (x3 x4 : Int) (x5 : List (List Int)) (x6 : Int) : Option (List TV) :=
  bif decide (x6 ≤ x0) then
    (call is_l03Product [tPIPILA8 (x3, (x4, x5)), tPIPILA8 (x0, (x1, x2))]).bind fun o3 =>
    bif decide ((wi64 (x0 - 1)) ≤ x6) then
      bif (((List.length (((gPIPILA8 o3 0).2).2) : Nat) : Int) == 0) then
        some [tI 1, tB true, tI 0]
      else
        call is_IsPeriodic_5 [tI x0, tI x1, tLA8 x2, tI ((gPIPILA8 o3 0).1), tI (((gPIPILA8 o3 0).2).1), tLA8 (((gPIPILA8 o3 0).2).2), tI (wi64 (x6 + 1))]
    else
      call is_IsPeriodic_5 [tI x0, tI x1, tLA8 x2, tI ((gPIPILA8 o3 0).1), tI (((gPIPILA8 o3 0).2).1), tLA8 (((gPIPILA8 o3 0).2).2), tI (wi64 (x6 + 1))]
  else
    some [tI 0]
theorem es_IsPeriodic_5 (call : Oracle) (x0 x1 : Int) (x2 : List (List Int)) (x3 x4 : Int) (x5 : List (List Int)) (x6 : Int) : run1 E call is_IsPeriodic_5 [tI x0, tI x1, tLA8 x2, tI x3, tI x4, tLA8 x5, tI x6] = bs_IsPeriodic_5 call x0 x1 x2 x3 x4 x5 x6 := by kernel_rfl
theorem vs_IsPeriodic_5 (x0 x1 : Int) (x2 : List (List Int)) (x3 x4 : Int) (x5 : List (List Int)) (x6 : Int) {o : List TV} (h : bs_IsPeriodic_5 R x0 x1 x2 x3 x4 x5 x6 = some o) : R is_IsPeriodic_5 [tI x0, tI x1, tLA8 x2, tI x3, tI x4, tLA8 x5, tI x6] = some o := ev_step ((es_IsPeriodic_5 R x0 x1 x2 x3 x4 x5 x6).trans h)
def bs_IsPeriodic (call : Oracle) (a0 : Int × Int × List (List Int)) : Option (List TV) :=
  (call is_l03Is [tPIPILA8 (a0.1, (a0.2.1, a0.2.2))]).bind fun o1 =>
  bif (!(gB o1 0)) then
    some [tB false, tI 1]
  else
    (call is_IsPeriodic_5 [tI a0.1, tI a0.2.1, tLA8 a0.2.2, tI a0.1, tI 0, tLA8 [], tI 1]).bind fun o4 =>
    bif ((gI o4 0) == 0) then
      some [tB false, tI 0]
    else
      some [tB (gB o4 1), tI (gI o4 2)]
theorem es_IsPeriodic (call : Oracle) (a0 : Int × Int × List (List Int)) : run1 E call is_IsPeriodic [tPIPILA8 a0] = bs_IsPeriodic call a0 := by kernel_rfl
theorem vs_IsPeriodic (a0 : Int × Int × List (List Int)) {o : List TV} (h : bs_IsPeriodic R a0 = some o) : R is_IsPeriodic [tPIPILA8 a0] = some o := ev_step ((es_IsPeriodic R a0).trans h)
def bw_roll_3 (call : Oracle) (x0 : List Int) (x1 x2 x3 : Int) : Option (List TV) :=
  bif decide (x3 < ((List.length x0 : Nat) : Int)) then
    bif (decide (0 ≤ x3) && decide (x3 < ((List.length x0 : Nat) : Int))) then
      call iw_roll_3 [tLU8 x0, tI x1, tU64 (wu64 ((wu64 ((wu64 (x2 * 1099511628211)) + (wu64 ((List.getD x0 (Int.toNat x3) 0))))) + 5)), tI (wi64 (x3 + 1))]
    else none
  else
    some [tI 0, tI x1, tU64 x2, tLU8 x0]
theorem ew_roll_3 (call : Oracle) (x0 : List Int) (x1 x2 x3 : Int) : run1 E call iw_roll_3 [tLU8 x0, tI x1, tU64 x2, tI x3] = bw_roll_3 call x0 x1 x2 x3 := by kernel_rfl
theorem vw_roll_3 (x0 : List Int) (x1 x2 x3 : Int) {o : List TV} (h : bw_roll_3 R x0 x1 x2 x3 = some o) : R iw_roll_3 [tLU8 x0, tI x1, tU64 x2, tI x3] = some o := ev_step ((ew_roll_3 R x0 x1 x2 x3).trans h)
def bw_roll (call : Oracle) (a0 : List Int) (a1 : Int) : Option (List TV) :=
  (call iw_roll_3 [tLU8 a0, tI 0, tU64 (wu64 ((wu64 (a1 * 7919)) + (wu64 (((List.length a0 : Nat) : Int))))), tI 0]).bind fun o1 =>
  some [tPLU8PIU64 ((gLU8 o1 3), ((gI o1 1), (gU64 o1 2)))]
theorem ew_roll (call : Oracle) (a0 : List Int) (a1 : Int) : run1 E call iw_roll [tLU8 a0, tU64 a1] = bw_roll call a0 a1 := by kernel_rfl
theorem vw_roll (a0 : List Int) (a1 : Int) {o : List TV} (h : bw_roll R a0 a1 = some o) : R iw_roll [tLU8 a0, tU64 a1] = some o := ev_step ((ew_roll R a0 a1).trans h)
def b__w_dice__below (call : Oracle) (a0 : List Int × Int × Int) (a1 : Int) : Option (List TV) :=
  bif decide (a1 < 1) then
    some [tI 0, tPLU8PIU64 (a0.1, (a0.2.1, a0.2.2))]
  else
    bif decide (a0.2.1 < ((List.length a0.1 : Nat) : Int)) then
      bif (decide (0 ≤ a0.2.1) && decide (a0.2.1 < ((List.length a0.1 : Nat) : Int))) then
        bif (a1 != 0) then
          some [tI (Int.tmod (wi64 ((wi64 ((bitsAnd .u64 (shr .u64 (wu64 ((wu64 (a0.2.2 * 6364136223846793005)) + 1442695040888963407)) 33) 16777215))) + (wi64 ((List.getD a0.1 (Int.toNat a0.2.1) 0))))) a1), tPLU8PIU64 (a0.1, ((wi64 (a0.2.1 + 1)), (wu64 ((wu64 (a0.2.2 * 6364136223846793005)) + 1442695040888963407))))]
        else none
      else none
    else
      bif (a1 != 0) then
        some [tI (Int.tmod (wi64 ((bitsAnd .u64 (shr .u64 (wu64 ((wu64 (a0.2.2 * 6364136223846793005)) + 1442695040888963407)) 33) 16777215))) a1), tPLU8PIU64 (a0.1, (a0.2.1, (wu64 ((wu64 (a0.2.2 * 6364136223846793005)) + 1442695040888963407))))]
      else none
theorem e__w_dice__below (call : Oracle) (a0 : List Int × Int × Int) (a1 : Int) : run1 E call i__w_dice__below [tPLU8PIU64 a0, tI a1] = b__w_dice__below call a0 a1 := by kernel_rfl
theorem v__w_dice__below (a0 : List Int × Int × Int) (a1 : Int) {o : List TV} (h : b__w_dice__below R a0 a1 = some o) : R i__w_dice__below [tPLU8PIU64 a0, tI a1] = some o := ev_step ((e__w_dice__below R a0 a1).trans h)
def bw_letters9_2 (call : Oracle) (x0 x1 : Int) (x2 x3 : List Int) (x4 x5 : Int) : Option (List TV) :=
  bif decide (0 < x5) then
    bif decide (1 < x4) then
      (call i__w_dice__below [tPLU8PIU64 (x2, (x0, x1)), tI (wi64 (x4 - 1))]).bind fun o3 =>
      (call i__w_dice__below [tPLU8PIU64 ((gPLU8PIU64 o3 1).1, (((gPLU8PIU64 o3 1).2).1, ((gPLU8PIU64 o3 1).2).2)), tI 2]).bind fun o4 =>
      bif (apOk x3 [(wi64 ((wi64 (1 + (gI o3 0))) * (wi64 (1 - (wi64 (2 * (gI o4 0)))))))]) then
        call iw_letters9_2 [tI (((gPLU8PIU64 o4 1).2).1), tU64 (((gPLU8PIU64 o4 1).2).2), tLU8 ((gPLU8PIU64 o4 1).1), tLI (x3 ++ [(wi64 ((wi64 (1 + (gI o3 0))) * (wi64 (1 - (wi64 (2 * (gI o4 0)))))))]), tI x4, tI (wi64 (x5 - 1))]
      else none
    else
      some [tI 0, tI x0, tU64 x1, tLU8 x2, tLI x3]
  else
    some [tI 0, tI x0, tU64 x1, tLU8 x2, tLI x3]
theorem ew_letters9_2 (call : Oracle) (x0 x1 : Int) (x2 x3 : List Int) (x4 x5 : Int) : run1 E call iw_letters9_2 [tI x0, tU64 x1, tLU8 x2, tLI x3, tI x4, tI x5] = bw_letters9_2 call x0 x1 x2 x3 x4 x5 := by kernel_rfl
theorem vw_letters9_2 (x0 x1 : Int) (x2 x3 : List Int) (x4 x5 : Int) {o : List TV} (h : bw_letters9_2 R x0 x1 x2 x3 x4 x5 = some o) : R iw_letters9_2 [tI x0, tU64 x1, tLU8 x2, tLI x3, tI x4, tI x5] = some o := ev_step ((ew_letters9_2 R x0 x1 x2 x3 x4 x5).trans h)
def bw_letters9 (call : Oracle) (a0 : List Int × Int × Int) (a1 a2 : Int) : Option (List TV) :=
  (call iw_letters9_2 [tI a0.2.1, tU64 a0.2.2, tLU8 a0.1, tLI [], tI a1, tI a2]).bind fun o5 =>
  some [tLI (gLI o5 4), tPLU8PIU64 ((gLU8 o5 3), ((gI o5 1), (gU64 o5 2)))]
theorem ew_letters9 (call : Oracle) (a0 : List Int × Int × Int) (a1 a2 : Int) : run1 E call iw_letters9 [tPLU8PIU64 a0, tI a1, tI a2] = bw_letters9 call a0 a1 a2 := by kernel_rfl
theorem vw_letters9 (a0 : List Int × Int × Int) (a1 a2 : Int) {o : List TV} (h : bw_letters9 R a0 a1 a2 = some o) : R iw_letters9 [tPLU8PIU64 a0, tI a1, tI a2] = some o := ev_step ((ew_letters9 R a0 a1 a2).trans h)
def bi_isLetter (call : Oracle) (a0 a1 : Int) : Option (List TV) :=
  bif (a0 != 0) then
    (call ii_within [tI a0, tI (wi64 (1 - a1)), tI (wi64 (a1 - 1))]).bind fun o1 =>
    some [tB (gB o1 0)]
  else
    some [tB false]
theorem ei_isLetter (call : Oracle) (a0 a1 : Int) : run1 E call ii_isLetter [tI a0, tI a1] = bi_isLetter call a0 a1 := by kernel_rfl
theorem vi_isLetter (a0 a1 : Int) {o : List TV} (h : bi_isLetter R a0 a1 = some o) : R ii_isLetter [tI a0, tI a1] = some o := ev_step ((ei_isLetter R a0 a1).trans h)
def bi_IsBraid_4 (call : Oracle) (x0 : Int) (x1 : List Int) (x2 x3 : Int) : Option (List TV) :=
  bif decide (x3 < x2) then
    bif (decide (0 ≤ x3) && decide (x3 < ((List.length x1 : Nat) : Int))) then
      (call ii_isLetter [tI (List.getD x1 (Int.toNat x3) 0), tI x0]).bind fun o3 =>
      bif (!(gB o3 0)) then
        some [tI 1, tB false]
      else
        call ii_IsBraid_4 [tI x0, tLI x1, tI x2, tI (wi64 (x3 + 1))]
    else none
  else
    some [tI 0]
theorem ei_IsBraid_4 (call : Oracle) (x0 : Int) (x1 : List Int) (x2 x3 : Int) : run1 E call ii_IsBraid_4 [tI x0, tLI x1, tI x2, tI x3] = bi_IsBraid_4 call x0 x1 x2 x3 := by kernel_rfl
theorem vi_IsBraid_4 (x0 : Int) (x1 : List Int) (x2 x3 : Int) {o : List TV} (h : bi_IsBraid_4 R x0 x1 x2 x3 = some o) : R ii_IsBraid_4 [tI x0, tLI x1, tI x2, tI x3] = some o := ev_step ((ei_IsBraid_4 R x0 x1 x2 x3).trans h)
def bi_IsBraid (call : Oracle) (a0 : Int × List Int) : Option (List TV) :=
  (call ii_isCount [tI a0.1]).bind fun o1 =>
  bif (!(gB o1 0)) then
    some [tB false]
  else
    bif decide (200 < ((List.length a0.2 : Nat) : Int)) then
      some [tB false]
    else
      (call ii_IsBraid_4 [tI a0.1, tLI a0.2, tI ((List.length a0.2 : Nat) : Int), tI 0]).bind fun o4 =>
      bif ((gI o4 0) == 0) then
        some [tB true]
      else
        some [tB (gB o4 1)]
theorem ei_IsBraid (call : Oracle) (a0 : Int × List Int) : run1 E call ii_IsBraid [tPILI a0] = bi_IsBraid call a0 := by kernel_rfl
theorem vi_IsBraid (a0 : Int × List Int) {o : List TV} (h : bi_IsBraid R a0 = some o) : R ii_IsBraid [tPILI a0] = some o := ev_step ((ei_IsBraid R a0).trans h)
def bi_exchange (call : Oracle) (a0 a1 : Int) : Option (List TV) :=
  (call ii_nothing [tI a1]).bind fun o1 =>
  bif (decide (0 ≤ a0) && decide (a0 < 8)) then
    bif (decide (0 ≤ (wi64 (a0 - 1))) && decide ((wi64 (a0 - 1)) < 8)) then
      bif (decide (0 ≤ (wi64 (a0 - 1))) && decide ((wi64 (a0 - 1)) < 8)) then
        bif (decide (0 ≤ a0) && decide (a0 < 8)) then
          some [tA8 (List.set (List.set (gA8 o1 0) (Int.toNat (wi64 (a0 - 1))) (List.getD (gA8 o1 0) (Int.toNat a0) 0)) (Int.toNat a0) (List.getD (gA8 o1 0) (Int.toNat (wi64 (a0 - 1))) 0))]
        else none
      else none
    else none
  else none
theorem ei_exchange (call : Oracle) (a0 a1 : Int) : run1 E call ii_exchange [tI a0, tI a1] = bi_exchange call a0 a1 := by kernel_rfl
theorem vi_exchange (a0 a1 : Int) {o : List TV} (h : bi_exchange R a0 a1 = some o) : R ii_exchange [tI a0, tI a1] = some o := ev_step ((ei_exchange R a0 a1).trans h)
def bi_normalOf_3 (call : Oracle) (x0 : Int) (x1 : List Int) (x2 x3 : Int) (x4 : List (List Int)) (x5 x6 : Int) (x7 : List (List Int)) (x8 x9 : Int) : Option (List TV) :=
  bif decide (x9 < x8) then
    bif (decide (0 ≤ x9) && decide (x9 < ((List.length x1 : Nat) : Int))) then
      bif decide (0 < (List.getD x1 (Int.toNat x9) 0)) then
        (call ii_exchange [tI (List.getD x1 (Int.toNat x9) 0), tI x0]).bind fun o5 =>
        (call i__i_Normal__put [tPIPILA8 (x5, (x6, x7)), tA8 (gA8 o5 0)]).bind fun o6 =>
        call ii_normalOf_3 [tI x0, tLI x1, tI x2, tI x3, tLA8 x4, tI ((gPIPILA8 o6 0).1), tI (((gPIPILA8 o6 0).2).1), tLA8 (((gPIPILA8 o6 0).2).2), tI x8, tI (wi64 (x9 + 1))]
      else
        (call ii_exchange [tI (wi64 (0 - (List.getD x1 (Int.toNat x9) 0))), tI x0]).bind fun o7 =>
        (call i__i_Normal__putInverse [tPIPILA8 (x5, (x6, x7)), tA8 (gA8 o7 0)]).bind fun o8 =>
        call ii_normalOf_3 [tI x0, tLI x1, tI x2, tI x3, tLA8 x4, tI ((gPIPILA8 o8 0).1), tI (((gPIPILA8 o8 0).2).1), tLA8 (((gPIPILA8 o8 0).2).2), tI x8, tI (wi64 (x9 + 1))]
    else none
  else
    some [tI 0, tI x2, tI x3, tLA8 x4, tI x5, tI x6, tLA8 x7]
theorem ei_normalOf_3 (call : Oracle) (x0 : Int) (x1 : List Int) (x2 x3 : Int) (x4 : List (List Int)) (x5 x6 : Int) (x7 : List (List Int)) (x8 x9 : Int) : run1 E call ii_normalOf_3 [tI x0, tLI x1, tI x2, tI x3, tLA8 x4, tI x5, tI x6, tLA8 x7, tI x8, tI x9] = bi_normalOf_3 call x0 x1 x2 x3 x4 x5 x6 x7 x8 x9 := by kernel_rfl
theorem vi_normalOf_3 (x0 : Int) (x1 : List Int) (x2 x3 : Int) (x4 : List (List Int)) (x5 x6 : Int) (x7 : List (List Int)) (x8 x9 : Int) {o : List TV} (h : bi_normalOf_3 R x0 x1 x2 x3 x4 x5 x6 x7 x8 x9 = some o) : R ii_normalOf_3 [tI x0, tLI x1, tI x2, tI x3, tLA8 x4, tI x5, tI x6, tLA8 x7, tI x8, tI x9] = some o := ev_step ((ei_normalOf_3 R x0 x1 x2 x3 x4 x5 x6 x7 x8 x9).trans h)
def bi_normalOf (call : Oracle) (a0 : Int × List Int) : Option (List TV) :=
  (call ii_normalOf_3 [tI a0.1, tLI a0.2, tI 0, tI 0, tLA8 [], tI a0.1, tI 0, tLA8 [], tI ((List.length a0.2 : Nat) : Int), tI 0]).bind fun o9 =>
  some [tPIPILA8 ((gI o9 4), ((gI o9 5), (gLA8 o9 6)))]
theorem ei_normalOf (call : Oracle) (a0 : Int × List Int) : run1 E call ii_normalOf [tPILI a0] = bi_normalOf call a0 := by kernel_rfl
theorem vi_normalOf (a0 : Int × List Int) {o : List TV} (h : bi_normalOf R a0 = some o) : R ii_normalOf [tPILI a0] = some o := ev_step ((ei_normalOf R a0).trans h)
def bi_NormalOf (call : Oracle) (a0 : Int × List Int) : Option (List TV) :=
  (call ii_IsBraid [tPILI (a0.1, a0.2)]).bind fun o1 =>
  bif (!(gB o1 0)) then
    some [tPIPILA8 (0, (0, [])), tI 1]
  else
    (call ii_normalOf [tPILI (a0.1, a0.2)]).bind fun o2 =>
    (call ii_limited [tPIPILA8 ((gPIPILA8 o2 0).1, (((gPIPILA8 o2 0).2).1, ((gPIPILA8 o2 0).2).2))]).bind fun o3 =>
    some [tPIPILA8 ((gPIPILA8 o3 0).1, (((gPIPILA8 o3 0).2).1, ((gPIPILA8 o3 0).2).2)), tI (gI o3 1)]
theorem ei_NormalOf (call : Oracle) (a0 : Int × List Int) : run1 E call ii_NormalOf [tPILI a0] = bi_NormalOf call a0 := by kernel_rfl
theorem vi_NormalOf (a0 : Int × List Int) {o : List TV} (h : bi_NormalOf R a0 = some o) : R ii_NormalOf [tPILI a0] = some o := ev_step ((ei_NormalOf R a0).trans h)
def bi_summitK1 (call : Oracle) (a0 a1 : Int × Int × List (List Int)) : Option (List TV) :=
  some [tB (decide (a1.2.1 < a0.2.1))]
theorem ei_summitK1 (call : Oracle) (a0 a1 : Int × Int × List (List Int)) : run1 E call ii_summitK1 [tPIPILA8 a0, tPIPILA8 a1] = bi_summitK1 call a0 a1 := by kernel_rfl
theorem vi_summitK1 (a0 a1 : Int × Int × List (List Int)) {o : List TV} (h : bi_summitK1 R a0 a1 = some o) : R ii_summitK1 [tPIPILA8 a0, tPIPILA8 a1] = some o := ev_step ((ei_summitK1 R a0 a1).trans h)
def bi_better_3 (call : Oracle) (x0 x1 : Int) (x2 : List (List Int)) (x3 x4 : Int) (x5 : List (List Int)) (x6 x7 : Int) (x8 : List (List Int)) (x9 x10 : Int) : Option (List TV) :=
  bif decide (x10 < x9) then
    (call ii_cycled [tPIPILA8 (x6, (x7, x8))]).bind fun o3 =>
    (call ii_summitK1 [tPIPILA8 ((gPIPILA8 o3 0).1, (((gPIPILA8 o3 0).2).1, ((gPIPILA8 o3 0).2).2)), tPIPILA8 (x0, (x1, x2))]).bind fun o4 =>
    bif (gB o4 0) then
      some [tI 1, tI ((gPIPILA8 o3 0).1), tI (((gPIPILA8 o3 0).2).1), tLA8 (((gPIPILA8 o3 0).2).2), tB true]
    else
      call ii_better_3 [tI x0, tI x1, tLA8 x2, tI x3, tI x4, tLA8 x5, tI ((gPIPILA8 o3 0).1), tI (((gPIPILA8 o3 0).2).1), tLA8 (((gPIPILA8 o3 0).2).2), tI x9, tI (wi64 (x10 + 1))]
  else
    some [tI 0, tI x0, tI x1, tLA8 x2, tI x3, tI x4, tLA8 x5]
theorem ei_better_3 (call : Oracle) (x0 x1 : Int) (x2 : List (List Int)) (x3 x4 : Int) (x5 : List (List Int)) (x6 x7 : Int) (x8 : List (List Int)) (x9 x10 : Int) : run1 E call ii_better_3 [tI x0, tI x1, tLA8 x2, tI x3, tI x4, tLA8 x5, tI x6, tI x7, tLA8 x8, tI x9, tI x10] = bi_better_3 call x0 x1 x2 x3 x4 x5 x6 x7 x8 x9 x10 := by kernel_rfl
theorem vi_better_3 (x0 x1 : Int) (x2 : List (List Int)) (x3 x4 : Int) (x5 : List (List Int)) (x6 x7 : Int) (x8 : List (List Int)) (x9 x10 : Int) {o : List TV} (h : bi_better_3 R x0 x1 x2 x3 x4 x5 x6 x7 x8 x9 x10 = some o) : R ii_better_3 [tI x0, tI x1, tLA8 x2, tI x3, tI x4, tLA8 x5, tI x6, tI x7, tLA8 x8, tI x9, tI x10] = some o := ev_step ((ei_better_3 R x0 x1 x2 x3 x4 x5 x6 x7 x8 x9 x10).trans h)
def bi_better (call : Oracle) (a0 : Int × Int × List (List Int)) : Option (List TV) :=
  (call ii_better_3 [tI a0.1, tI a0.2.1, tLA8 a0.2.2, tI 0, tI 0, tLA8 [], tI a0.1, tI a0.2.1, tLA8 a0.2.2, tI (wi64 (Int.tdiv (wi64 (a0.1 * (wi64 (a0.1 - 1)))) 2)), tI 0]).bind fun o5 =>
  bif ((gI o5 0) == 0) then
    some [tPIPILA8 ((gI o5 1), ((gI o5 2), (gLA8 o5 3))), tB false]
  else
    some [tPIPILA8 ((gI o5 1), ((gI o5 2), (gLA8 o5 3))), tB (gB o5 4)]
theorem ei_better (call : Oracle) (a0 : Int × Int × List (List Int)) : run1 E call ii_better [tPIPILA8 a0] = bi_better call a0 := by kernel_rfl
theorem vi_better (a0 : Int × Int × List (List Int)) {o : List TV} (h : bi_better R a0 = some o) : R ii_better [tPIPILA8 a0] = some o := ev_step ((ei_better R a0).trans h)
def bi_greatest (call : Oracle) (a0 : Int × Int × List (List Int)) : Option (List TV) :=
  some [tI (wi64 (a0.2.1 + ((List.length a0.2.2 : Nat) : Int)))]
theorem ei_greatest (call : Oracle) (a0 : Int × Int × List (List Int)) : run1 E call ii_greatest [tPIPILA8 a0] = bi_greatest call a0 := by kernel_rfl
theorem vi_greatest (a0 : Int × Int × List (List Int)) {o : List TV} (h : bi_greatest R a0 = some o) : R ii_greatest [tPIPILA8 a0] = some o := ev_step ((ei_greatest R a0).trans h)
def bi_summitK2 (call : Oracle) (a0 a1 : Int × Int × List (List Int)) : Option (List TV) :=
  (call ii_greatest [tPIPILA8 (a0.1, (a0.2.1, a0.2.2))]).bind fun o1 =>
  (call ii_greatest [tPIPILA8 (a1.1, (a1.2.1, a1.2.2))]).bind fun o2 =>
  some [tB (decide ((gI o1 0) < (gI o2 0)))]
theorem ei_summitK2 (call : Oracle) (a0 a1 : Int × Int × List (List Int)) : run1 E call ii_summitK2 [tPIPILA8 a0, tPIPILA8 a1] = bi_summitK2 call a0 a1 := by kernel_rfl
theorem vi_summitK2 (a0 a1 : Int × Int × List (List Int)) {o : List TV} (h : bi_summitK2 R a0 a1 = some o) : R ii_summitK2 [tPIPILA8 a0, tPIPILA8 a1] = some o := ev_step ((ei_summitK2 R a0 a1).trans h)
def bi_better_v2_3 (call : Oracle) (x0 x1 : Int) (x2 : List (List Int)) (x3 x4 : Int) (x5 : List (List Int)) (x6 x7 : Int) (x8 : List (List Int)) (x9 x10 : Int) : Option (List TV) :=
  bif decide (x10 < x9) then
    (call ii_decycled [tPIPILA8 (x6, (x7, x8))]).bind fun o3 =>
    (call ii_summitK2 [tPIPILA8 ((gPIPILA8 o3 0).1, (((gPIPILA8 o3 0).2).1, ((gPIPILA8 o3 0).2).2)), tPIPILA8 (x0, (x1, x2))]).bind fun o4 =>
    bif (gB o4 0) then
      some [tI 1, tI ((gPIPILA8 o3 0).1), tI (((gPIPILA8 o3 0).2).1), tLA8 (((gPIPILA8 o3 0).2).2), tB true]
    else
      call ii_better_v2_3 [tI x0, tI x1, tLA8 x2, tI x3, tI x4, tLA8 x5, tI ((gPIPILA8 o3 0).1), tI (((gPIPILA8 o3 0).2).1), tLA8 (((gPIPILA8 o3 0).2).2), tI x9, tI (wi64 (x10 + 1))]
  else
    some [tI 0, tI x0, tI x1, tLA8 x2, tI x3, tI x4, tLA8 x5]
theorem ei_better_v2_3 (call : Oracle) (x0 x1 : Int) (x2 : List (List Int)) (x3 x4 : Int) (x5 : List (List Int)) (x6 x7 : Int) (x8 : List (List Int)) (x9 x10 : Int) : run1 E call ii_better_v2_3 [tI x0, tI x1, tLA8 x2, tI x3, tI x4, tLA8 x5, tI x6, tI x7, tLA8 x8, tI x9, tI x10] = bi_better_v2_3 call x0 x1 x2 x3 x4 x5 x6 x7 x8 x9 x10 := by kernel_rfl
theorem vi_better_v2_3 (x0 x1 : Int) (x2 : List (List Int)) (x3 x4 : Int) (x5 : List (List Int)) (x6 x7 : Int) (x8 : List (List Int)) (x9 x10 : Int) {o : List TV} (h : bi_better_v2_3 R x0 x1 x2 x3 x4 x5 x6 x7 x8 x9 x10 = some o) : R ii_better_v2_3 [tI x0, tI x1, tLA8 x2, tI x3, tI x4, tLA8 x5, tI x6, tI x7, tLA8 x8, tI x9, tI x10] = some o := ev_step ((ei_better_v2_3 R x0 x1 x2 x3 x4 x5 x6 x7 x8 x9 x10).trans h)
def bi_better_v2 (call : Oracle) (a0 : Int × Int × List (List Int)) : Option (List TV) :=
  (call ii_better_v2_3 [tI a0.1, tI a0.2.1, tLA8 a0.2.2, tI 0, tI 0, tLA8 [], tI a0.1, tI a0.2.1, tLA8 a0.2.2, tI (wi64 (Int.tdiv (wi64 (a0.1 * (wi64 (a0.1 - 1)))) 2)), tI 0]).bind fun o5 =>
  bif ((gI o5 0) == 0) then
    some [tPIPILA8 ((gI o5 1), ((gI o5 2), (gLA8 o5 3))), tB false]
  else
    some [tPIPILA8 ((gI o5 1), ((gI o5 2), (gLA8 o5 3))), tB (gB o5 4)]
theorem ei_better_v2 (call : Oracle) (a0 : Int × Int × List (List Int)) : run1 E call ii_better_v2 [tPIPILA8 a0] = bi_better_v2 call a0 := by kernel_rfl
theorem vi_better_v2 (a0 : Int × Int × List (List Int)) {o : List TV} (h : bi_better_v2 R a0 = some o) : R ii_better_v2 [tPIPILA8 a0] = some o := ev_step ((ei_better_v2 R a0).trans h)
def bi_summit_1 (call : Oracle) (x0 x1 : Int) (x2 : List (List Int)) (x3 x4 : Int) (x5 : List (List Int)) : Option (List TV) :=
  (call ii_better [tPIPILA8 (x0, (x1, x2))]).bind fun o5 =>
  bif (!(gB o5 1)) then
    (call ii_better_v2 [tPIPILA8 (x0, (x1, x2))]).bind fun o6 =>
    bif (!(gB o6 1)) then
      (call ii_copyNormal [tPIPILA8 (x0, (x1, x2))]).bind fun o7 =>
      some [tI 0, tI ((gPIPILA8 o7 0).1), tI (((gPIPILA8 o7 0).2).1), tLA8 (((gPIPILA8 o7 0).2).2)]
    else
      call ii_summit_1 [tI ((gPIPILA8 o6 0).1), tI (((gPIPILA8 o6 0).2).1), tLA8 (((gPIPILA8 o6 0).2).2), tI x3, tI x4, tLA8 x5]
  else
    bif (!(gB o5 1)) then
      (call ii_copyNormal [tPIPILA8 (x0, (x1, x2))]).bind fun o8 =>
      some [tI 0, tI ((gPIPILA8 o8 0).1), tI (((gPIPILA8 o8 0).2).1), tLA8 (((gPIPILA8 o8 0).2).2)]
    else
      call ii_summit_1 [tI ((gPIPILA8 o5 0).1), tI (((gPIPILA8 o5 0).2).1), tLA8 (((gPIPILA8 o5 0).2).2), tI x3, tI x4, tLA8 x5]
theorem ei_summit_1 (call : Oracle) (x0 x1 : Int) (x2 : List (List Int)) (x3 x4 : Int) (x5 : List (List Int)) : run1 E call ii_summit_1 [tI x0, tI x1, tLA8 x2, tI x3, tI x4, tLA8 x5] = bi_summit_1 call x0 x1 x2 x3 x4 x5 := by kernel_rfl
theorem vi_summit_1 (x0 x1 : Int) (x2 : List (List Int)) (x3 x4 : Int) (x5 : List (List Int)) {o : List TV} (h : bi_summit_1 R x0 x1 x2 x3 x4 x5 = some o) : R ii_summit_1 [tI x0, tI x1, tLA8 x2, tI x3, tI x4, tLA8 x5] = some o := ev_step ((ei_summit_1 R x0 x1 x2 x3 x4 x5).trans h)
def bi_summit (call : Oracle) (a0 : Int × Int × List (List Int)) : Option (List TV) :=
  (call ii_summit_1 [tI a0.1, tI a0.2.1, tLA8 a0.2.2, tI 0, tI 0, tLA8 []]).bind fun o9 =>
  some [tPIPILA8 ((gI o9 1), ((gI o9 2), (gLA8 o9 3)))]
theorem ei_summit (call : Oracle) (a0 : Int × Int × List (List Int)) : run1 E call ii_summit [tPIPILA8 a0] = bi_summit call a0 := by kernel_rfl
theorem vi_summit (a0 : Int × Int × List (List Int)) {o : List TV} (h : bi_summit R a0 = some o) : R ii_summit [tPIPILA8 a0] = some o := ev_step ((ei_summit R a0).trans h)
def bg_Index___i_Simple_i_Simple__2 (call : Oracle) (x0 : List (List Int)) (x1 : List Int) (x2 x3 : Int) : Option (List TV) :=
  bif decide (x3 < x2) then
    bif (decide (0 ≤ x3) && decide (x3 < ((List.length x0 : Nat) : Int))) then
      bif (x1 == (List.getD x0 (Int.toNat x3) (List.replicate 8 0))) then
        some [tI 1, tI x3]
      else
        call ig_Index___i_Simple_i_Simple__2 [tLA8 x0, tA8 x1, tI x2, tI (wi64 (x3 + 1))]
    else none
  else
    some [tI 0]
theorem eg_Index___i_Simple_i_Simple__2 (call : Oracle) (x0 : List (List Int)) (x1 : List Int) (x2 x3 : Int) : run1 E call ig_Index___i_Simple_i_Simple__2 [tLA8 x0, tA8 x1, tI x2, tI x3] = bg_Index___i_Simple_i_Simple__2 call x0 x1 x2 x3 := by kernel_rfl
theorem vg_Index___i_Simple_i_Simple__2 (x0 : List (List Int)) (x1 : List Int) (x2 x3 : Int) {o : List TV} (h : bg_Index___i_Simple_i_Simple__2 R x0 x1 x2 x3 = some o) : R ig_Index___i_Simple_i_Simple__2 [tLA8 x0, tA8 x1, tI x2, tI x3] = some o := ev_step ((eg_Index___i_Simple_i_Simple__2 R x0 x1 x2 x3).trans h)
def bg_Index___i_Simple_i_Simple_ (call : Oracle) (a0 : List (List Int)) (a1 : List Int) : Option (List TV) :=
  (call ig_Index___i_Simple_i_Simple__2 [tLA8 a0, tA8 a1, tI ((List.length a0 : Nat) : Int), tI 0]).bind fun o1 =>
  bif ((gI o1 0) == 0) then
    some [tI (-1)]
  else
    some [tI (gI o1 1)]
theorem eg_Index___i_Simple_i_Simple_ (call : Oracle) (a0 : List (List Int)) (a1 : List Int) : run1 E call ig_Index___i_Simple_i_Simple_ [tLA8 a0, tA8 a1] = bg_Index___i_Simple_i_Simple_ call a0 a1 := by kernel_rfl
theorem vg_Index___i_Simple_i_Simple_ (a0 : List (List Int)) (a1 : List Int) {o : List TV} (h : bg_Index___i_Simple_i_Simple_ R a0 a1 = some o) : R ig_Index___i_Simple_i_Simple_ [tLA8 a0, tA8 a1] = some o := ev_step ((eg_Index___i_Simple_i_Simple_ R a0 a1).trans h)
def bg_Contains___i_Simple_i_Simple_ (call : Oracle) (a0 : List (List Int)) (a1 : List Int) : Option (List TV) :=
  (call ig_Index___i_Simple_i_Simple_ [tLA8 a0, tA8 a1]).bind fun o1 =>
  some [tB (decide (0 ≤ (gI o1 0)))]
theorem eg_Contains___i_Simple_i_Simple_ (call : Oracle) (a0 : List (List Int)) (a1 : List Int) : run1 E call ig_Contains___i_Simple_i_Simple_ [tLA8 a0, tA8 a1] = bg_Contains___i_Simple_i_Simple_ call a0 a1 := by kernel_rfl
theorem vg_Contains___i_Simple_i_Simple_ (a0 : List (List Int)) (a1 : List Int) {o : List TV} (h : bg_Contains___i_Simple_i_Simple_ R a0 a1 = some o) : R ig_Contains___i_Simple_i_Simple_ [tLA8 a0, tA8 a1] = some o := ev_step ((eg_Contains___i_Simple_i_Simple_ R a0 a1).trans h)
def bi_allSimple_3 (call : Oracle) (x0 : List (List Int)) (x1 x2 : Int) : Option (List TV) :=
  bif decide (x2 < ((List.length x0 : Nat) : Int)) then
    (call ii_allSimple_6 [tLA8 x0, tI x1, tI x2, tI 1]).bind fun o9 =>
    call ii_allSimple_3 [tLA8 (gLA8 o9 1), tI (gI o9 2), tI (wi64 ((gI o9 3) + 1))]
  else
    some [tI 0, tLA8 x0]
theorem ei_allSimple_3 (call : Oracle) (x0 : List (List Int)) (x1 x2 : Int) : run1 E call ii_allSimple_3 [tLA8 x0, tI x1, tI x2] = bi_allSimple_3 call x0 x1 x2 := by kernel_rfl
theorem vi_allSimple_3 (x0 : List (List Int)) (x1 x2 : Int) {o : List TV} (h : bi_allSimple_3 R x0 x1 x2 = some o) : R ii_allSimple_3 [tLA8 x0, tI x1, tI x2] = some o := ev_step ((ei_allSimple_3 R x0 x1 x2).trans h)
def bi_allSimple_6 (call : Oracle) (x0 : List (List Int)) (x1 x2 x3 : Int) : Option (List TV) :=
  bif decide (x3 < x1) then
    bif (decide (0 ≤ x2) && decide (x2 < ((List.length x0 : Nat) : Int))) then
      (call ii_exchange [tI x3, tI x1]).bind fun o5 =>
      (call ii_then [tA8 (List.getD x0 (Int.toNat x2) (List.replicate 8 0)), tA8 (gA8 o5 0), tI x1]).bind fun o6 =>
      (call ig_Contains___i_Simple_i_Simple_ [tLA8 x0, tA8 (gA8 o6 0)]).bind fun o7 =>
      bif (!(gB o7 0)) then
        bif (apOk x0 [(gA8 o6 0)]) then
          call ii_allSimple_6 [tLA8 (x0 ++ [(gA8 o6 0)]), tI x1, tI x2, tI (wi64 (x3 + 1))]
        else none
      else
        call ii_allSimple_6 [tLA8 x0, tI x1, tI x2, tI (wi64 (x3 + 1))]
    else none
  else
    some [tI 0, tLA8 x0, tI x1, tI x2]
theorem ei_allSimple_6 (call : Oracle) (x0 : List (List Int)) (x1 x2 x3 : Int) : run1 E call ii_allSimple_6 [tLA8 x0, tI x1, tI x2, tI x3] = bi_allSimple_6 call x0 x1 x2 x3 := by kernel_rfl
theorem vi_allSimple_6 (x0 : List (List Int)) (x1 x2 x3 : Int) {o : List TV} (h : bi_allSimple_6 R x0 x1 x2 x3 = some o) : R ii_allSimple_6 [tLA8 x0, tI x1, tI x2, tI x3] = some o := ev_step ((ei_allSimple_6 R x0 x1 x2 x3).trans h)
def bi_allSimple (call : Oracle) (a0 : Int) : Option (List TV) :=
  (call ii_nothing [tI a0]).bind fun o1 =>
  (call ii_allSimple_3 [tLA8 [(gA8 o1 0)], tI a0, tI 0]).bind fun o10 =>
  some [tLA8 (gLA8 o10 1)]
theorem ei_allSimple (call : Oracle) (a0 : Int) : run1 E call ii_allSimple [tI a0] = bi_allSimple call a0 := by kernel_rfl
theorem vi_allSimple (a0 : Int) {o : List TV} (h : bi_allSimple R a0 = some o) : R ii_allSimple [tI a0] = some o := ev_step ((ei_allSimple R a0).trans h)
def bg_Equal___i_Simple_i_Simple__4 (call : Oracle) (x0 x1 : List (List Int)) (x2 x3 : Int) : Option (List TV) :=
  bif decide (x3 < x2) then
    bif (decide (0 ≤ x3) && decide (x3 < ((List.length x0 : Nat) : Int))) then
      bif (decide (0 ≤ x3) && decide (x3 < ((List.length x1 : Nat) : Int))) then
        bif ((List.getD x0 (Int.toNat x3) (List.replicate 8 0)) != (List.getD x1 (Int.toNat x3) (List.replicate 8 0))) then
          some [tI 1, tB false]
        else
          call ig_Equal___i_Simple_i_Simple__4 [tLA8 x0, tLA8 x1, tI x2, tI (wi64 (x3 + 1))]
      else none
    else none
  else
    some [tI 0]
theorem eg_Equal___i_Simple_i_Simple__4 (call : Oracle) (x0 x1 : List (List Int)) (x2 x3 : Int) : run1 E call ig_Equal___i_Simple_i_Simple__4 [tLA8 x0, tLA8 x1, tI x2, tI x3] = bg_Equal___i_Simple_i_Simple__4 call x0 x1 x2 x3 := by kernel_rfl
theorem vg_Equal___i_Simple_i_Simple__4 (x0 x1 : List (List Int)) (x2 x3 : Int) {o : List TV} (h : bg_Equal___i_Simple_i_Simple__4 R x0 x1 x2 x3 = some o) : R ig_Equal___i_Simple_i_Simple__4 [tLA8 x0, tLA8 x1, tI x2, tI x3] = some o := ev_step ((eg_Equal___i_Simple_i_Simple__4 R x0 x1 x2 x3).trans h)
def bg_Equal___i_Simple_i_Simple_ (call : Oracle) (a0 a1 : List (List Int)) : Option (List TV) :=
  bif (((List.length a0 : Nat) : Int) != ((List.length a1 : Nat) : Int)) then
    some [tB false]
  else
    (call ig_Equal___i_Simple_i_Simple__4 [tLA8 a0, tLA8 a1, tI ((List.length a0 : Nat) : Int), tI 0]).bind fun o1 =>
    bif ((gI o1 0) == 0) then
      some [tB true]
    else
      some [tB (gB o1 1)]
theorem eg_Equal___i_Simple_i_Simple_ (call : Oracle) (a0 a1 : List (List Int)) : run1 E call ig_Equal___i_Simple_i_Simple_ [tLA8 a0, tLA8 a1] = bg_Equal___i_Simple_i_Simple_ call a0 a1 := by kernel_rfl
theorem vg_Equal___i_Simple_i_Simple_ (a0 a1 : List (List Int)) {o : List TV} (h : bg_Equal___i_Simple_i_Simple_ R a0 a1 = some o) : R ig_Equal___i_Simple_i_Simple_ [tLA8 a0, tLA8 a1] = some o := ev_step ((eg_Equal___i_Simple_i_Simple_ R a0 a1).trans h)
def bi_sameNormal (call : Oracle) (a0 a1 : Int × Int × List (List Int)) : Option (List TV) :=
  bif (a0.1 == a1.1) then
    bif (a0.2.1 == a1.2.1) then
      (call ig_Equal___i_Simple_i_Simple_ [tLA8 a0.2.2, tLA8 a1.2.2]).bind fun o1 =>
      some [tB (gB o1 0)]
    else
      some [tB false]
  else
    some [tB false]
theorem ei_sameNormal (call : Oracle) (a0 a1 : Int × Int × List (List Int)) : run1 E call ii_sameNormal [tPIPILA8 a0, tPIPILA8 a1] = bi_sameNormal call a0 a1 := by kernel_rfl
theorem vi_sameNormal (a0 a1 : Int × Int × List (List Int)) {o : List TV} (h : bi_sameNormal R a0 a1 = some o) : R ii_sameNormal [tPIPILA8 a0, tPIPILA8 a1] = some o := ev_step ((ei_sameNormal R a0 a1).trans h)
def bi_superSummitK1 (call : Oracle) (a0 a1 : Int × Int × List (List Int)) : Option (List TV) :=
  (call ii_sameNormal [tPIPILA8 (a0.1, (a0.2.1, a0.2.2)), tPIPILA8 (a1.1, (a1.2.1, a1.2.2))]).bind fun o1 =>
  some [tB (gB o1 0)]
theorem ei_superSummitK1 (call : Oracle) (a0 a1 : Int × Int × List (List Int)) : run1 E call ii_superSummitK1 [tPIPILA8 a0, tPIPILA8 a1] = bi_superSummitK1 call a0 a1 := by kernel_rfl
theorem vi_superSummitK1 (a0 a1 : Int × Int × List (List Int)) {o : List TV} (h : bi_superSummitK1 R a0 a1 = some o) : R ii_superSummitK1 [tPIPILA8 a0, tPIPILA8 a1] = some o := ev_step ((ei_superSummitK1 R a0 a1).trans h)
def bg_IndexFunc___i_Normal_i_Normal__2 (call : Oracle) (x0 : List (Int × Int × List (List Int))) (x1 x2 : Int) (x3 : List (List Int)) (x4 x5 : Int) : Option (List TV) :=
  bif decide (x5 < x4) then
    bif (decide (0 ≤ x5) && decide (x5 < ((List.length x0 : Nat) : Int))) then
      (call ii_superSummitK1 [tPIPILA8 ((List.getD x0 (Int.toNat x5) (0, (0, []))).1, (((List.getD x0 (Int.toNat x5) (0, (0, []))).2).1, ((List.getD x0 (Int.toNat x5) (0, (0, []))).2).2)), tPIPILA8 (x1, (x2, x3))]).bind fun o2 =>
      bif (gB o2 0) then
        some [tI 1, tI x5]
      else
        call ig_IndexFunc___i_Normal_i_Normal__2 [tLPIPILA8 x0, tI x1, tI x2, tLA8 x3, tI x4, tI (wi64 (x5 + 1))]
    else none
  else
    some [tI 0]
theorem eg_IndexFunc___i_Normal_i_Normal__2 (call : Oracle) (x0 : List (Int × Int × List (List Int))) (x1 x2 : Int) (x3 : List (List Int)) (x4 x5 : Int) : run1 E call ig_IndexFunc___i_Normal_i_Normal__2 [tLPIPILA8 x0, tI x1, tI x2, tLA8 x3, tI x4, tI x5] = bg_IndexFunc___i_Normal_i_Normal__2 call x0 x1 x2 x3 x4 x5 := by kernel_rfl
theorem vg_IndexFunc___i_Normal_i_Normal__2 (x0 : List (Int × Int × List (List Int))) (x1 x2 : Int) (x3 : List (List Int)) (x4 x5 : Int) {o : List TV} (h : bg_IndexFunc___i_Normal_i_Normal__2 R x0 x1 x2 x3 x4 x5 = some o) : R ig_IndexFunc___i_Normal_i_Normal__2 [tLPIPILA8 x0, tI x1, tI x2, tLA8 x3, tI x4, tI x5] = some o := ev_step ((eg_IndexFunc___i_Normal_i_Normal__2 R x0 x1 x2 x3 x4 x5).trans h)
def bg_IndexFunc___i_Normal_i_Normal_ (call : Oracle) (a0 : List (Int × Int × List (List Int))) (a1 : Int × Int × List (List Int)) : Option (List TV) :=
  (call ig_IndexFunc___i_Normal_i_Normal__2 [tLPIPILA8 a0, tI a1.1, tI a1.2.1, tLA8 a1.2.2, tI ((List.length a0 : Nat) : Int), tI 0]).bind fun o3 =>
  bif ((gI o3 0) == 0) then
    some [tI (-1)]
  else
    some [tI (gI o3 1)]
theorem eg_IndexFunc___i_Normal_i_Normal_ (call : Oracle) (a0 : List (Int × Int × List (List Int))) (a1 : Int × Int × List (List Int)) : run1 E call ig_IndexFunc___i_Normal_i_Normal_ [tLPIPILA8 a0, tPIPILA8 a1] = bg_IndexFunc___i_Normal_i_Normal_ call a0 a1 := by kernel_rfl
theorem vg_IndexFunc___i_Normal_i_Normal_ (a0 : List (Int × Int × List (List Int))) (a1 : Int × Int × List (List Int)) {o : List TV} (h : bg_IndexFunc___i_Normal_i_Normal_ R a0 a1 = some o) : R ig_IndexFunc___i_Normal_i_Normal_ [tLPIPILA8 a0, tPIPILA8 a1] = some o := ev_step ((eg_IndexFunc___i_Normal_i_Normal_ R a0 a1).trans h)
end
end Go.Ev.YtgfleapbganjiaaGreat
