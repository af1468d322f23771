/- Bodies, part 1. -/
import Derived.KernelRfl
import Derived.Test.YtgfleapbganjiaaGreatEnv
set_option linter.unusedVariables false
namespace Go.Ev.YtgfleapbganjiaaGreat
open Go.Ev
noncomputable section
def bs_l03Weighted (call : Oracle) (a0 a1 : List Int) (a2 : Int) : Option (List TV) :=
  (call is_l02Back [tA8 a0, tI a2]).bind fun o1 =>
  (call is_l03Weighted_3 [tA8 a1, tA8 (gA8 o1 0), tI a2, tI 1]).bind fun o2 =>
  bif ((gI o2 0) == 0) then
    some [tB true]
  else
    some [tB (gB o2 1)]
theorem es_l03Weighted (call : Oracle) (a0 a1 : List Int) (a2 : Int) : run1 E call is_l03Weighted [tA8 a0, tA8 a1, tI a2] = bs_l03Weighted call a0 a1 a2 := by kernel_rfl
theorem vs_l03Weighted (a0 a1 : List Int) (a2 : Int) {o : List TV} (h : bs_l03Weighted R a0 a1 a2 = some o) : R is_l03Weighted [tA8 a0, tA8 a1, tI a2] = some o := ev_step ((es_l03Weighted R a0 a1 a2).trans h)
def bs_l03Is_5 (call : Oracle) (x0 x1 : Int) (x2 : List (List Int)) (x3 x4 : Int) : Option (List TV) :=
  bif decide (x4 < ((List.length x2 : Nat) : Int)) then
    bif (decide (0 ≤ x4) && decide (x4 < ((List.length x2 : Nat) : Int))) then
      (call is_l02Is [tA8 (List.getD x2 (Int.toNat x4) (List.replicate 8 0)), tI x3]).bind fun o7 =>
      bif (!(gB o7 0)) then
        some [tI 1, tB false]
      else
        (call is_l02Same [tI x3]).bind fun o8 =>
        bif ((List.getD x2 (Int.toNat x4) (List.replicate 8 0)) == (gA8 o8 0)) then
          some [tI 1, tB false]
        else
          (call is_l02Half [tI x3]).bind fun o9 =>
          bif ((List.getD x2 (Int.toNat x4) (List.replicate 8 0)) == (gA8 o9 0)) then
            some [tI 1, tB false]
          else
            bif decide (0 < x4) then
              bif (decide (0 ≤ (wi64 (x4 - 1))) && decide ((wi64 (x4 - 1)) < ((List.length x2 : Nat) : Int))) then
                (call is_l03Weighted [tA8 (List.getD x2 (Int.toNat (wi64 (x4 - 1))) (List.replicate 8 0)), tA8 (List.getD x2 (Int.toNat x4) (List.replicate 8 0)), tI x3]).bind fun o10 =>
                bif (!(gB o10 0)) then
                  some [tI 1, tB false]
                else
                  call is_l03Is_5 [tI x0, tI x1, tLA8 x2, tI x3, tI (wi64 (x4 + 1))]
              else none
            else
              call is_l03Is_5 [tI x0, tI x1, tLA8 x2, tI x3, tI (wi64 (x4 + 1))]
    else none
  else
    some [tI 0]
theorem es_l03Is_5 (call : Oracle) (x0 x1 : Int) (x2 : List (List Int)) (x3 x4 : Int) : run1 E call is_l03Is_5 [tI x0, tI x1, tLA8 x2, tI x3, tI x4] = bs_l03Is_5 call x0 x1 x2 x3 x4 := by kernel_rfl
theorem vs_l03Is_5 (x0 x1 : Int) (x2 : List (List Int)) (x3 x4 : Int) {o : List TV} (h : bs_l03Is_5 R x0 x1 x2 x3 x4 = some o) : R is_l03Is_5 [tI x0, tI x1, tLA8 x2, tI x3, tI x4] = some o := ev_step ((es_l03Is_5 R x0 x1 x2 x3 x4).trans h)
def bs_l03Is (call : Oracle) (a0 : Int × Int × List (List Int)) : Option (List TV) :=
  (call is_l01In [tI a0.1, tI 1, tI 8]).bind fun o1 =>
  bif (!(gB o1 0)) then
    some [tB false]
  else
    (call is_l01In [tI a0.2.1, tI (-200), tI 200]).bind fun o2 =>
    bif (!(gB o2 0)) then
      some [tB false]
    else
      bif decide (200 < ((List.length a0.2.2 : Nat) : Int)) then
        some [tB false]
      else
        bif decide (a0.1 < 2) then
          bif (a0.2.1 != 0) then
            some [tB false]
          else
            (call is_l03Is_5 [tI a0.1, tI a0.2.1, tLA8 a0.2.2, tI a0.1, tI 0]).bind fun o11 =>
            bif ((gI o11 0) == 0) then
              some [tB true]
            else
              some [tB (gB o11 1)]
        else
          (call is_l03Is_5 [tI a0.1, tI a0.2.1, tLA8 a0.2.2, tI a0.1, tI 0]).bind fun o12 =>
          bif ((gI o12 0) == 0) then
            some [tB true]
          else
            some [tB (gB o12 1)]
theorem es_l03Is (call : Oracle) (a0 : Int × Int × List (List Int)) : run1 E call is_l03Is [tPIPILA8 a0] = bs_l03Is call a0 := by kernel_rfl
theorem vs_l03Is (a0 : Int × Int × List (List Int)) {o : List TV} (h : bs_l03Is R a0 = some o) : R is_l03Is [tPIPILA8 a0] = some o := ev_step ((es_l03Is R a0).trans h)
def bs_l04Pair (call : Oracle) (a0 : List Int) : Option (List TV) :=
  (call is_l01From [tLU8 a0]).bind fun o1 =>
  (call is_l04Draw [tPLU8PIU64 ((gPLU8PIU64 o1 0).1, (((gPLU8PIU64 o1 0).2).1, ((gPLU8PIU64 o1 0).2).2))]).bind fun o2 =>
  (call is_l03Is [tPIPILA8 ((gPIPILA8 o2 0).1, (((gPIPILA8 o2 0).2).1, ((gPIPILA8 o2 0).2).2))]).bind fun o3 =>
  bif (!(gB o3 0)) then
    (call is_l04Draw [tPLU8PIU64 ((gPLU8PIU64 o2 1).1, (((gPLU8PIU64 o2 1).2).1, ((gPLU8PIU64 o2 1).2).2))]).bind fun o4 =>
    some [tPIPILA8 ((gPIPILA8 o2 0).1, (((gPIPILA8 o2 0).2).1, ((gPIPILA8 o2 0).2).2)), tPIPILA8 ((gPIPILA8 o4 0).1, (((gPIPILA8 o4 0).2).1, ((gPIPILA8 o4 0).2).2))]
  else
    (call is_l01Next [tPLU8PIU64 ((gPLU8PIU64 o2 1).1, (((gPLU8PIU64 o2 1).2).1, ((gPLU8PIU64 o2 1).2).2)), tI 16]).bind fun o5 =>
    bif ((gI o5 0) == 0) then
      (call is_l04Draw [tPLU8PIU64 ((gPLU8PIU64 o5 1).1, (((gPLU8PIU64 o5 1).2).1, ((gPLU8PIU64 o5 1).2).2))]).bind fun o6 =>
      some [tPIPILA8 ((gPIPILA8 o2 0).1, (((gPIPILA8 o2 0).2).1, ((gPIPILA8 o2 0).2).2)), tPIPILA8 ((gPIPILA8 o6 0).1, (((gPIPILA8 o6 0).2).1, ((gPIPILA8 o6 0).2).2))]
    else
      (call is_l01Draw [tPLU8PIU64 ((gPLU8PIU64 o5 1).1, (((gPLU8PIU64 o5 1).2).1, ((gPLU8PIU64 o5 1).2).2)), tI ((gPIPILA8 o2 0).1), tI 4]).bind fun o7 =>
      (call is_l03Of [tI ((gPIPILA8 o2 0).1), tLI (gLI o7 0)]).bind fun o8 =>
      (call is_l01Next [tPLU8PIU64 ((gPLU8PIU64 o7 1).1, (((gPLU8PIU64 o7 1).2).1, ((gPLU8PIU64 o7 1).2).2)), tI 2]).bind fun o9 =>
      bif ((gI o9 0) == 0) then
        (call is_l03Inverse [tPIPILA8 ((gPIPILA8 o8 0).1, (((gPIPILA8 o8 0).2).1, ((gPIPILA8 o8 0).2).2))]).bind fun o10 =>
        (call is_l03Product [tPIPILA8 ((gPIPILA8 o10 0).1, (((gPIPILA8 o10 0).2).1, ((gPIPILA8 o10 0).2).2)), tPIPILA8 ((gPIPILA8 o2 0).1, (((gPIPILA8 o2 0).2).1, ((gPIPILA8 o2 0).2).2))]).bind fun o11 =>
        (call is_l03Product [tPIPILA8 ((gPIPILA8 o11 0).1, (((gPIPILA8 o11 0).2).1, ((gPIPILA8 o11 0).2).2)), tPIPILA8 ((gPIPILA8 o8 0).1, (((gPIPILA8 o8 0).2).1, ((gPIPILA8 o8 0).2).2))]).bind fun o12 =>
        some [tPIPILA8 ((gPIPILA8 o2 0).1, (((gPIPILA8 o2 0).2).1, ((gPIPILA8 o2 0).2).2)), tPIPILA8 ((gPIPILA8 o12 0).1, (((gPIPILA8 o12 0).2).1, ((gPIPILA8 o12 0).2).2))]
      else
        (call is_l01Draw [tPLU8PIU64 ((gPLU8PIU64 o9 1).1, (((gPLU8PIU64 o9 1).2).1, ((gPLU8PIU64 o9 1).2).2)), tI ((gPIPILA8 o2 0).1), tI 7]).bind fun o13 =>
        (call is_l03Of [tI ((gPIPILA8 o2 0).1), tLI (gLI o13 0)]).bind fun o14 =>
        some [tPIPILA8 ((gPIPILA8 o2 0).1, (((gPIPILA8 o2 0).2).1, ((gPIPILA8 o2 0).2).2)), tPIPILA8 ((gPIPILA8 o14 0).1, (((gPIPILA8 o14 0).2).1, ((gPIPILA8 o14 0).2).2))]
theorem es_l04Pair (call : Oracle) (a0 : List Int) : run1 E call is_l04Pair [tLU8 a0] = bs_l04Pair call a0 := by kernel_rfl
theorem vs_l04Pair (a0 : List Int) {o : List TV} (h : bs_l04Pair R a0 = some o) : R is_l04Pair [tLU8 a0] = some o := ev_step ((es_l04Pair R a0).trans h)
def bs_DrawConjugateBy (call : Oracle) (a0 : List Int) : Option (List TV) :=
  (call is_l04Pair [tLU8 a0]).bind fun o1 =>
  some [tPIPILA8 ((gPIPILA8 o1 0).1, (((gPIPILA8 o1 0).2).1, ((gPIPILA8 o1 0).2).2)), tPIPILA8 ((gPIPILA8 o1 1).1, (((gPIPILA8 o1 1).2).1, ((gPIPILA8 o1 1).2).2))]
theorem es_DrawConjugateBy (call : Oracle) (a0 : List Int) : run1 E call is_DrawConjugateBy [tLU8 a0] = bs_DrawConjugateBy call a0 := by kernel_rfl
theorem vs_DrawConjugateBy (a0 : List Int) {o : List TV} (h : bs_DrawConjugateBy R a0 = some o) : R is_DrawConjugateBy [tLU8 a0] = some o := ev_step ((es_DrawConjugateBy R a0).trans h)
def bi_within (call : Oracle) (a0 a1 a2 : Int) : Option (List TV) :=
  bif decide (a1 ≤ a0) then
    some [tB (decide (a0 ≤ a2))]
  else
    some [tB false]
theorem ei_within (call : Oracle) (a0 a1 a2 : Int) : run1 E call ii_within [tI a0, tI a1, tI a2] = bi_within call a0 a1 a2 := by kernel_rfl
theorem vi_within (a0 a1 a2 : Int) {o : List TV} (h : bi_within R a0 a1 a2 = some o) : R ii_within [tI a0, tI a1, tI a2] = some o := ev_step ((ei_within R a0 a1 a2).trans h)
def bi_isCount (call : Oracle) (a0 : Int) : Option (List TV) :=
  (call ii_within [tI a0, tI 1, tI 8]).bind fun o1 =>
  some [tB (gB o1 0)]
theorem ei_isCount (call : Oracle) (a0 : Int) : run1 E call ii_isCount [tI a0] = bi_isCount call a0 := by kernel_rfl
theorem vi_isCount (a0 : Int) {o : List TV} (h : bi_isCount R a0 = some o) : R ii_isCount [tI a0] = some o := ev_step ((ei_isCount R a0).trans h)
def bi_IsSimple_5 (call : Oracle) (x0 : List Bool) (x1 : Int) (x2 : List Int) (x3 : Int) : Option (List TV) :=
  bif decide (x3 < 8) then
    bif (decide (0 ≤ x3) && decide (x3 < 8)) then
      bif decide (x1 ≤ x3) then
        bif ((List.getD x2 (Int.toNat x3) 0) != 0) then
          some [tI 1, tB false]
        else
          call ii_IsSimple_5 [tAB8 x0, tI x1, tA8 x2, tI (wi64 (x3 + 1))]
      else
        bif decide (x1 ≤ (wi64 ((List.getD x2 (Int.toNat x3) 0)))) then
          some [tI 1, tB false]
        else
          bif (decide (0 ≤ (List.getD x2 (Int.toNat x3) 0)) && decide ((List.getD x2 (Int.toNat x3) 0) < 8)) then
            bif (List.getD x0 (Int.toNat (List.getD x2 (Int.toNat x3) 0)) false) then
              some [tI 1, tB false]
            else
              bif (decide (0 ≤ (List.getD x2 (Int.toNat x3) 0)) && decide ((List.getD x2 (Int.toNat x3) 0) < 8)) then
                call ii_IsSimple_5 [tAB8 (List.set x0 (Int.toNat (List.getD x2 (Int.toNat x3) 0)) true), tI x1, tA8 x2, tI (wi64 (x3 + 1))]
              else none
          else none
    else none
  else
    some [tI 0]
theorem ei_IsSimple_5 (call : Oracle) (x0 : List Bool) (x1 : Int) (x2 : List Int) (x3 : Int) : run1 E call ii_IsSimple_5 [tAB8 x0, tI x1, tA8 x2, tI x3] = bi_IsSimple_5 call x0 x1 x2 x3 := by kernel_rfl
theorem vi_IsSimple_5 (x0 : List Bool) (x1 : Int) (x2 : List Int) (x3 : Int) {o : List TV} (h : bi_IsSimple_5 R x0 x1 x2 x3 = some o) : R ii_IsSimple_5 [tAB8 x0, tI x1, tA8 x2, tI x3] = some o := ev_step ((ei_IsSimple_5 R x0 x1 x2 x3).trans h)
def bi_IsSimple (call : Oracle) (a0 : List Int) (a1 : Int) : Option (List TV) :=
  (call ii_isCount [tI a1]).bind fun o1 =>
  bif (!(gB o1 0)) then
    some [tB false]
  else
    (call ii_IsSimple_5 [tAB8 (List.replicate 8 false), tI a1, tA8 a0, tI 0]).bind fun o2 =>
    bif ((gI o2 0) == 0) then
      some [tB true]
    else
      some [tB (gB o2 1)]
theorem ei_IsSimple (call : Oracle) (a0 : List Int) (a1 : Int) : run1 E call ii_IsSimple [tA8 a0, tI a1] = bi_IsSimple call a0 a1 := by kernel_rfl
theorem vi_IsSimple (a0 : List Int) (a1 : Int) {o : List TV} (h : bi_IsSimple R a0 a1 = some o) : R ii_IsSimple [tA8 a0, tI a1] = some o := ev_step ((ei_IsSimple R a0 a1).trans h)
def bi_nothing_3 (call : Oracle) (x0 x1 : List Int) (x2 x3 : Int) : Option (List TV) :=
  bif decide (x3 < x2) then
    bif (decide (0 ≤ x3) && decide (x3 < 8)) then
      call ii_nothing_3 [tA8 x0, tA8 (List.set x1 (Int.toNat x3) (wu8 (x3))), tI x2, tI (wi64 (x3 + 1))]
    else none
  else
    some [tI 0, tA8 x0, tA8 x1]
theorem ei_nothing_3 (call : Oracle) (x0 x1 : List Int) (x2 x3 : Int) : run1 E call ii_nothing_3 [tA8 x0, tA8 x1, tI x2, tI x3] = bi_nothing_3 call x0 x1 x2 x3 := by kernel_rfl
theorem vi_nothing_3 (x0 x1 : List Int) (x2 x3 : Int) {o : List TV} (h : bi_nothing_3 R x0 x1 x2 x3 = some o) : R ii_nothing_3 [tA8 x0, tA8 x1, tI x2, tI x3] = some o := ev_step ((ei_nothing_3 R x0 x1 x2 x3).trans h)
def bi_nothing (call : Oracle) (a0 : Int) : Option (List TV) :=
  (call ii_nothing_3 [tA8 (List.replicate 8 0), tA8 (List.replicate 8 0), tI a0, tI 0]).bind fun o1 =>
  some [tA8 (gA8 o1 2)]
theorem ei_nothing (call : Oracle) (a0 : Int) : run1 E call ii_nothing [tI a0] = bi_nothing call a0 := by kernel_rfl
theorem vi_nothing (a0 : Int) {o : List TV} (h : bi_nothing R a0 = some o) : R ii_nothing [tI a0] = some o := ev_step ((ei_nothing R a0).trans h)
def bi_halfTurn_3 (call : Oracle) (x0 x1 : List Int) (x2 x3 x4 : Int) : Option (List TV) :=
  bif decide (x4 < x3) then
    bif (decide (0 ≤ x4) && decide (x4 < 8)) then
      call ii_halfTurn_3 [tA8 x0, tA8 (List.set x1 (Int.toNat x4) (wu8 ((wi64 ((wi64 (x2 - 1)) - x4))))), tI x2, tI x3, tI (wi64 (x4 + 1))]
    else none
  else
    some [tI 0, tA8 x0, tA8 x1]
theorem ei_halfTurn_3 (call : Oracle) (x0 x1 : List Int) (x2 x3 x4 : Int) : run1 E call ii_halfTurn_3 [tA8 x0, tA8 x1, tI x2, tI x3, tI x4] = bi_halfTurn_3 call x0 x1 x2 x3 x4 := by kernel_rfl
theorem vi_halfTurn_3 (x0 x1 : List Int) (x2 x3 x4 : Int) {o : List TV} (h : bi_halfTurn_3 R x0 x1 x2 x3 x4 = some o) : R ii_halfTurn_3 [tA8 x0, tA8 x1, tI x2, tI x3, tI x4] = some o := ev_step ((ei_halfTurn_3 R x0 x1 x2 x3 x4).trans h)
def bi_halfTurn (call : Oracle) (a0 : Int) : Option (List TV) :=
  (call ii_halfTurn_3 [tA8 (List.replicate 8 0), tA8 (List.replicate 8 0), tI a0, tI a0, tI 0]).bind fun o1 =>
  some [tA8 (gA8 o1 2)]
theorem ei_halfTurn (call : Oracle) (a0 : Int) : run1 E call ii_halfTurn [tI a0] = bi_halfTurn call a0 := by kernel_rfl
theorem vi_halfTurn (a0 : Int) {o : List TV} (h : bi_halfTurn R a0 = some o) : R ii_halfTurn [tI a0] = some o := ev_step ((ei_halfTurn R a0).trans h)
def bi_backOf_3 (call : Oracle) (x0 x1 x2 : List Int) (x3 x4 : Int) : Option (List TV) :=
  bif decide (x4 < x3) then
    bif (decide (0 ≤ x4) && decide (x4 < 8)) then
      bif (decide (0 ≤ (List.getD x0 (Int.toNat x4) 0)) && decide ((List.getD x0 (Int.toNat x4) 0) < 8)) then
        call ii_backOf_3 [tA8 x0, tA8 x1, tA8 (List.set x2 (Int.toNat (List.getD x0 (Int.toNat x4) 0)) (wu8 (x4))), tI x3, tI (wi64 (x4 + 1))]
      else none
    else none
  else
    some [tI 0, tA8 x1, tA8 x2]
theorem ei_backOf_3 (call : Oracle) (x0 x1 x2 : List Int) (x3 x4 : Int) : run1 E call ii_backOf_3 [tA8 x0, tA8 x1, tA8 x2, tI x3, tI x4] = bi_backOf_3 call x0 x1 x2 x3 x4 := by kernel_rfl
theorem vi_backOf_3 (x0 x1 x2 : List Int) (x3 x4 : Int) {o : List TV} (h : bi_backOf_3 R x0 x1 x2 x3 x4 = some o) : R ii_backOf_3 [tA8 x0, tA8 x1, tA8 x2, tI x3, tI x4] = some o := ev_step ((ei_backOf_3 R x0 x1 x2 x3 x4).trans h)
def bi_backOf (call : Oracle) (a0 : List Int) (a1 : Int) : Option (List TV) :=
  (call ii_backOf_3 [tA8 a0, tA8 (List.replicate 8 0), tA8 (List.replicate 8 0), tI a1, tI 0]).bind fun o1 =>
  some [tA8 (gA8 o1 2)]
theorem ei_backOf (call : Oracle) (a0 : List Int) (a1 : Int) : run1 E call ii_backOf [tA8 a0, tI a1] = bi_backOf call a0 a1 := by kernel_rfl
theorem vi_backOf (a0 : List Int) (a1 : Int) {o : List TV} (h : bi_backOf R a0 a1 = some o) : R ii_backOf [tA8 a0, tI a1] = some o := ev_step ((ei_backOf R a0 a1).trans h)
def bi_begins (call : Oracle) (a0 : List Int) (a1 : Int) : Option (List TV) :=
  bif (decide (0 ≤ (wi64 (a1 - 1))) && decide ((wi64 (a1 - 1)) < 8)) then
    bif (decide (0 ≤ a1) && decide (a1 < 8)) then
      some [tB (decide ((List.getD a0 (Int.toNat a1) 0) < (List.getD a0 (Int.toNat (wi64 (a1 - 1))) 0)))]
    else none
  else none
theorem ei_begins (call : Oracle) (a0 : List Int) (a1 : Int) : run1 E call ii_begins [tA8 a0, tI a1] = bi_begins call a0 a1 := by kernel_rfl
theorem vi_begins (a0 : List Int) (a1 : Int) {o : List TV} (h : bi_begins R a0 a1 = some o) : R ii_begins [tA8 a0, tI a1] = some o := ev_step ((ei_begins R a0 a1).trans h)
def bi_beginning_3 (call : Oracle) (x0 x1 : List Int) (x2 x3 : Int) : Option (List TV) :=
  bif decide (x3 < x2) then
    (call ii_begins [tA8 x0, tI x3]).bind fun o2 =>
    bif (gB o2 0) then
      bif (apOk x1 [x3]) then
        call ii_beginning_3 [tA8 x0, tLI (x1 ++ [x3]), tI x2, tI (wi64 (x3 + 1))]
      else none
    else
      call ii_beginning_3 [tA8 x0, tLI x1, tI x2, tI (wi64 (x3 + 1))]
  else
    some [tI 0, tLI x1]
theorem ei_beginning_3 (call : Oracle) (x0 x1 : List Int) (x2 x3 : Int) : run1 E call ii_beginning_3 [tA8 x0, tLI x1, tI x2, tI x3] = bi_beginning_3 call x0 x1 x2 x3 := by kernel_rfl
theorem vi_beginning_3 (x0 x1 : List Int) (x2 x3 : Int) {o : List TV} (h : bi_beginning_3 R x0 x1 x2 x3 = some o) : R ii_beginning_3 [tA8 x0, tLI x1, tI x2, tI x3] = some o := ev_step ((ei_beginning_3 R x0 x1 x2 x3).trans h)
def bi_beginning (call : Oracle) (a0 : List Int) (a1 : Int) : Option (List TV) :=
  (call ii_beginning_3 [tA8 a0, tLI [], tI a1, tI 1]).bind fun o3 =>
  some [tLI (gLI o3 1)]
theorem ei_beginning (call : Oracle) (a0 : List Int) (a1 : Int) : run1 E call ii_beginning [tA8 a0, tI a1] = bi_beginning call a0 a1 := by kernel_rfl
theorem vi_beginning (a0 : List Int) (a1 : Int) {o : List TV} (h : bi_beginning R a0 a1 = some o) : R ii_beginning [tA8 a0, tI a1] = some o := ev_step ((ei_beginning R a0 a1).trans h)
def bi_endsAll_3 (call : Oracle) (x0 x1 : List Int) (x2 x3 : Int) : Option (List TV) :=
  bif decide (x3 < x2) then
    bif (decide (0 ≤ x3) && decide (x3 < ((List.length x1 : Nat) : Int))) then
      (call ii_begins [tA8 x0, tI (List.getD x1 (Int.toNat x3) 0)]).bind fun o4 =>
      bif (!(gB o4 0)) then
        some [tI 1, tB false]
      else
        call ii_endsAll_3 [tA8 x0, tLI x1, tI x2, tI (wi64 (x3 + 1))]
    else none
  else
    some [tI 0]
theorem ei_endsAll_3 (call : Oracle) (x0 x1 : List Int) (x2 x3 : Int) : run1 E call ii_endsAll_3 [tA8 x0, tLI x1, tI x2, tI x3] = bi_endsAll_3 call x0 x1 x2 x3 := by kernel_rfl
theorem vi_endsAll_3 (x0 x1 : List Int) (x2 x3 : Int) {o : List TV} (h : bi_endsAll_3 R x0 x1 x2 x3 = some o) : R ii_endsAll_3 [tA8 x0, tLI x1, tI x2, tI x3] = some o := ev_step ((ei_endsAll_3 R x0 x1 x2 x3).trans h)
def bi_endsAll (call : Oracle) (a0 a1 : List Int) (a2 : Int) : Option (List TV) :=
  (call ii_backOf [tA8 a0, tI a2]).bind fun o1 =>
  (call ii_beginning [tA8 a1, tI a2]).bind fun o2 =>
  (call ii_endsAll_3 [tA8 (gA8 o1 0), tLI (gLI o2 0), tI ((List.length (gLI o2 0) : Nat) : Int), tI 0]).bind fun o5 =>
  bif ((gI o5 0) == 0) then
    some [tB true]
  else
    some [tB (gB o5 1)]
theorem ei_endsAll (call : Oracle) (a0 a1 : List Int) (a2 : Int) : run1 E call ii_endsAll [tA8 a0, tA8 a1, tI a2] = bi_endsAll call a0 a1 a2 := by kernel_rfl
theorem vi_endsAll (a0 a1 : List Int) (a2 : Int) {o : List TV} (h : bi_endsAll R a0 a1 a2 = some o) : R ii_endsAll [tA8 a0, tA8 a1, tI a2] = some o := ev_step ((ei_endsAll R a0 a1 a2).trans h)
def bi_IsNormal_5 (call : Oracle) (x0 x1 : Int) (x2 : List (List Int)) (x3 x4 x5 : Int) : Option (List TV) :=
  bif decide (x5 < x4) then
    bif (decide (0 ≤ x5) && decide (x5 < ((List.length x2 : Nat) : Int))) then
      (call ii_IsSimple [tA8 (List.getD x2 (Int.toNat x5) (List.replicate 8 0)), tI x3]).bind fun o7 =>
      bif (!(gB o7 0)) then
        some [tI 1, tB false]
      else
        (call ii_nothing [tI x3]).bind fun o8 =>
        bif ((List.getD x2 (Int.toNat x5) (List.replicate 8 0)) == (gA8 o8 0)) then
          some [tI 1, tB false]
        else
          (call ii_halfTurn [tI x3]).bind fun o9 =>
          bif ((List.getD x2 (Int.toNat x5) (List.replicate 8 0)) == (gA8 o9 0)) then
            some [tI 1, tB false]
          else
            bif decide (0 < x5) then
              bif (decide (0 ≤ (wi64 (x5 - 1))) && decide ((wi64 (x5 - 1)) < ((List.length x2 : Nat) : Int))) then
                (call ii_endsAll [tA8 (List.getD x2 (Int.toNat (wi64 (x5 - 1))) (List.replicate 8 0)), tA8 (List.getD x2 (Int.toNat x5) (List.replicate 8 0)), tI x3]).bind fun o10 =>
                bif (!(gB o10 0)) then
                  some [tI 1, tB false]
                else
                  call ii_IsNormal_5 [tI x0, tI x1, tLA8 x2, tI x3, tI x4, tI (wi64 (x5 + 1))]
              else none
            else
              call ii_IsNormal_5 [tI x0, tI x1, tLA8 x2, tI x3, tI x4, tI (wi64 (x5 + 1))]
    else none
  else
    some [tI 0]
theorem ei_IsNormal_5 (call : Oracle) (x0 x1 : Int) (x2 : List (List Int)) (x3 x4 x5 : Int) : run1 E call ii_IsNormal_5 [tI x0, tI x1, tLA8 x2, tI x3, tI x4, tI x5] = bi_IsNormal_5 call x0 x1 x2 x3 x4 x5 := by kernel_rfl
theorem vi_IsNormal_5 (x0 x1 : Int) (x2 : List (List Int)) (x3 x4 x5 : Int) {o : List TV} (h : bi_IsNormal_5 R x0 x1 x2 x3 x4 x5 = some o) : R ii_IsNormal_5 [tI x0, tI x1, tLA8 x2, tI x3, tI x4, tI x5] = some o := ev_step ((ei_IsNormal_5 R x0 x1 x2 x3 x4 x5).trans h)
def bi_IsNormal (call : Oracle) (a0 : Int × Int × List (List Int)) : Option (List TV) :=
  (call ii_isCount [tI a0.1]).bind fun o1 =>
  bif (!(gB o1 0)) then
    some [tB false]
  else
    (call ii_within [tI a0.2.1, tI (-200), tI 200]).bind fun o2 =>
    bif (!(gB o2 0)) then
      some [tB false]
    else
      bif decide (200 < ((List.length a0.2.2 : Nat) : Int)) then
        some [tB false]
      else
        bif decide (a0.1 < 2) then
          bif (a0.2.1 != 0) then
            some [tB false]
          else
            (call ii_IsNormal_5 [tI a0.1, tI a0.2.1, tLA8 a0.2.2, tI a0.1, tI ((List.length a0.2.2 : Nat) : Int), tI 0]).bind fun o11 =>
            bif ((gI o11 0) == 0) then
              some [tB true]
            else
              some [tB (gB o11 1)]
        else
          (call ii_IsNormal_5 [tI a0.1, tI a0.2.1, tLA8 a0.2.2, tI a0.1, tI ((List.length a0.2.2 : Nat) : Int), tI 0]).bind fun o12 =>
          bif ((gI o12 0) == 0) then
            some [tB true]
          else
            some [tB (gB o12 1)]
theorem ei_IsNormal (call : Oracle) (a0 : Int × Int × List (List Int)) : run1 E call ii_IsNormal [tPIPILA8 a0] = bi_IsNormal call a0 := by kernel_rfl
theorem vi_IsNormal (a0 : Int × Int × List (List Int)) {o : List TV} (h : bi_IsNormal R a0 = some o) : R ii_IsNormal [tPIPILA8 a0] = some o := ev_step ((ei_IsNormal R a0).trans h)
def bi_areSameCount (call : Oracle) (a0 a1 : Int × Int × List (List Int)) : Option (List TV) :=
  (call ii_IsNormal [tPIPILA8 (a0.1, (a0.2.1, a0.2.2))]).bind fun o1 =>
  bif (!(gB o1 0)) then
    some [tI 1]
  else
    (call ii_IsNormal [tPIPILA8 (a1.1, (a1.2.1, a1.2.2))]).bind fun o2 =>
    bif (!(gB o2 0)) then
      some [tI 1]
    else
      bif (a0.1 != a1.1) then
        some [tI 2]
      else
        some [tI 0]
theorem ei_areSameCount (call : Oracle) (a0 a1 : Int × Int × List (List Int)) : run1 E call ii_areSameCount [tPIPILA8 a0, tPIPILA8 a1] = bi_areSameCount call a0 a1 := by kernel_rfl
theorem vi_areSameCount (a0 a1 : Int × Int × List (List Int)) {o : List TV} (h : bi_areSameCount R a0 a1 = some o) : R ii_areSameCount [tPIPILA8 a0, tPIPILA8 a1] = some o := ev_step ((ei_areSameCount R a0 a1).trans h)
def bi_then_3 (call : Oracle) (x0 x1 : List Int) (x2 x3 : List Int) (x4 x5 : Int) : Option (List TV) :=
  bif decide (x5 < x4) then
    bif (decide (0 ≤ x5) && decide (x5 < 8)) then
      bif (decide (0 ≤ (List.getD x0 (Int.toNat x5) 0)) && decide ((List.getD x0 (Int.toNat x5) 0) < 8)) then
        bif (decide (0 ≤ x5) && decide (x5 < 8)) then
          call ii_then_3 [tA8 x0, tA8 x1, tA8 x2, tA8 (List.set x3 (Int.toNat x5) (List.getD x1 (Int.toNat (List.getD x0 (Int.toNat x5) 0)) 0)), tI x4, tI (wi64 (x5 + 1))]
        else none
      else none
    else none
  else
    some [tI 0, tA8 x2, tA8 x3]
theorem ei_then_3 (call : Oracle) (x0 x1 : List Int) (x2 x3 : List Int) (x4 x5 : Int) : run1 E call ii_then_3 [tA8 x0, tA8 x1, tA8 x2, tA8 x3, tI x4, tI x5] = bi_then_3 call x0 x1 x2 x3 x4 x5 := by kernel_rfl
theorem vi_then_3 (x0 x1 : List Int) (x2 x3 : List Int) (x4 x5 : Int) {o : List TV} (h : bi_then_3 R x0 x1 x2 x3 x4 x5 = some o) : R ii_then_3 [tA8 x0, tA8 x1, tA8 x2, tA8 x3, tI x4, tI x5] = some o := ev_step ((ei_then_3 R x0 x1 x2 x3 x4 x5).trans h)
def bi_then (call : Oracle) (a0 a1 : List Int) (a2 : Int) : Option (List TV) :=
  (call ii_then_3 [tA8 a0, tA8 a1, tA8 (List.replicate 8 0), tA8 (List.replicate 8 0), tI a2, tI 0]).bind fun o1 =>
  some [tA8 (gA8 o1 2)]
theorem ei_then (call : Oracle) (a0 a1 : List Int) (a2 : Int) : run1 E call ii_then [tA8 a0, tA8 a1, tI a2] = bi_then call a0 a1 a2 := by kernel_rfl
theorem vi_then (a0 a1 : List Int) (a2 : Int) {o : List TV} (h : bi_then R a0 a1 a2 = some o) : R ii_then [tA8 a0, tA8 a1, tI a2] = some o := ev_step ((ei_then R a0 a1 a2).trans h)
def bi_turn (call : Oracle) (a0 : List Int) (a1 : Int) : Option (List TV) :=
  (call ii_halfTurn [tI a1]).bind fun o1 =>
  (call ii_then [tA8 (gA8 o1 0), tA8 a0, tI a1]).bind fun o2 =>
  (call ii_halfTurn [tI a1]).bind fun o3 =>
  (call ii_then [tA8 (gA8 o2 0), tA8 (gA8 o3 0), tI a1]).bind fun o4 =>
  some [tA8 (gA8 o4 0)]
theorem ei_turn (call : Oracle) (a0 : List Int) (a1 : Int) : run1 E call ii_turn [tA8 a0, tI a1] = bi_turn call a0 a1 := by kernel_rfl
theorem vi_turn (a0 : List Int) (a1 : Int) {o : List TV} (h : bi_turn R a0 a1 = some o) : R ii_turn [tA8 a0, tI a1] = some o := ev_step ((ei_turn R a0 a1).trans h)
def b__i_Normal__turnBy_4 (call : Oracle) (x0 x1 : Int) (x2 : List (List Int)) (x3 x4 : Int) : Option (List TV) :=
  bif decide (x4 < x3) then
    bif (decide (0 ≤ x4) && decide (x4 < ((List.length x2 : Nat) : Int))) then
      (call ii_turn [tA8 (List.getD x2 (Int.toNat x4) (List.replicate 8 0)), tI x0]).bind fun o2 =>
      bif (decide (0 ≤ x4) && decide (x4 < ((List.length x2 : Nat) : Int))) then
        call i__i_Normal__turnBy_4 [tI x0, tI x1, tLA8 (List.set x2 (Int.toNat x4) (gA8 o2 0)), tI x3, tI (wi64 (x4 + 1))]
      else none
    else none
  else
    some [tI 0, tI x0, tI x1, tLA8 x2]
theorem e__i_Normal__turnBy_4 (call : Oracle) (x0 x1 : Int) (x2 : List (List Int)) (x3 x4 : Int) : run1 E call i__i_Normal__turnBy_4 [tI x0, tI x1, tLA8 x2, tI x3, tI x4] = b__i_Normal__turnBy_4 call x0 x1 x2 x3 x4 := by kernel_rfl
theorem v__i_Normal__turnBy_4 (x0 x1 : Int) (x2 : List (List Int)) (x3 x4 : Int) {o : List TV} (h : b__i_Normal__turnBy_4 R x0 x1 x2 x3 x4 = some o) : R i__i_Normal__turnBy_4 [tI x0, tI x1, tLA8 x2, tI x3, tI x4] = some o := ev_step ((e__i_Normal__turnBy_4 R x0 x1 x2 x3 x4).trans h)
def b__i_Normal__turnBy (call : Oracle) (a0 : Int × Int × List (List Int)) (a1 : Int) : Option (List TV) :=
  bif decide (a0.1 < 2) then
    some [tPIPILA8 (a0.1, (a0.2.1, a0.2.2))]
  else
    bif ((Int.tmod a1 2) != 0) then
      (call i__i_Normal__turnBy_4 [tI a0.1, tI (wi64 (a0.2.1 + a1)), tLA8 a0.2.2, tI ((List.length a0.2.2 : Nat) : Int), tI 0]).bind fun o3 =>
      some [tPIPILA8 ((gI o3 1), ((gI o3 2), (gLA8 o3 3)))]
    else
      some [tPIPILA8 (a0.1, ((wi64 (a0.2.1 + a1)), a0.2.2))]
theorem e__i_Normal__turnBy (call : Oracle) (a0 : Int × Int × List (List Int)) (a1 : Int) : run1 E call i__i_Normal__turnBy [tPIPILA8 a0, tI a1] = b__i_Normal__turnBy call a0 a1 := by kernel_rfl
theorem v__i_Normal__turnBy (a0 : Int × Int × List (List Int)) (a1 : Int) {o : List TV} (h : b__i_Normal__turnBy R a0 a1 = some o) : R i__i_Normal__turnBy [tPIPILA8 a0, tI a1] = some o := ev_step ((e__i_Normal__turnBy R a0 a1).trans h)
def bi_leftComplement (call : Oracle) (a0 : List Int) (a1 : Int) : Option (List TV) :=
  (call ii_halfTurn [tI a1]).bind fun o1 =>
  (call ii_backOf [tA8 a0, tI a1]).bind fun o2 =>
  (call ii_then [tA8 (gA8 o1 0), tA8 (gA8 o2 0), tI a1]).bind fun o3 =>
  some [tA8 (gA8 o3 0)]
theorem ei_leftComplement (call : Oracle) (a0 : List Int) (a1 : Int) : run1 E call ii_leftComplement [tA8 a0, tI a1] = bi_leftComplement call a0 a1 := by kernel_rfl
theorem vi_leftComplement (a0 : List Int) (a1 : Int) {o : List TV} (h : bi_leftComplement R a0 a1 = some o) : R ii_leftComplement [tA8 a0, tI a1] = some o := ev_step ((ei_leftComplement R a0 a1).trans h)
def bi_complement (call : Oracle) (a0 : List Int) (a1 : Int) : Option (List TV) :=
  (call ii_backOf [tA8 a0, tI a1]).bind fun o1 =>
  (call ii_halfTurn [tI a1]).bind fun o2 =>
  (call ii_then [tA8 (gA8 o1 0), tA8 (gA8 o2 0), tI a1]).bind fun o3 =>
  some [tA8 (gA8 o3 0)]
theorem ei_complement (call : Oracle) (a0 : List Int) (a1 : Int) : run1 E call ii_complement [tA8 a0, tI a1] = bi_complement call a0 a1 := by kernel_rfl
theorem vi_complement (a0 : List Int) (a1 : Int) {o : List TV} (h : bi_complement R a0 a1 = some o) : R ii_complement [tA8 a0, tI a1] = some o := ev_step ((ei_complement R a0 a1).trans h)
def bi_descents_3 (call : Oracle) (x0 : List Int) (x1 x2 x3 : Int) : Option (List TV) :=
  bif decide (x3 < x2) then
    (call ii_descents_6 [tA8 x0, tU64 x1, tI x3, tI x2, tI x3, tI x3, tI 0]).bind fun o2 =>
    call ii_descents_3 [tA8 (gA8 o2 1), tU64 (gU64 o2 2), tI (gI o2 3), tI (wi64 ((gI o2 4) + 1))]
  else
    some [tI 0, tU64 x1]
theorem ei_descents_3 (call : Oracle) (x0 : List Int) (x1 x2 x3 : Int) : run1 E call ii_descents_3 [tA8 x0, tU64 x1, tI x2, tI x3] = bi_descents_3 call x0 x1 x2 x3 := by kernel_rfl
theorem vi_descents_3 (x0 : List Int) (x1 x2 x3 : Int) {o : List TV} (h : bi_descents_3 R x0 x1 x2 x3 = some o) : R ii_descents_3 [tA8 x0, tU64 x1, tI x2, tI x3] = some o := ev_step ((ei_descents_3 R x0 x1 x2 x3).trans h)
def bi_descents_6 (call : Oracle) (x0 : List Int) (x1 x2 : Int) (x3 x4 : Int) (x5 x6 : Int) : Option (List TV) :=
  bif decide (x6 < x5) then
    bif (decide (0 ≤ x6) && decide (x6 < 8)) then
      bif (decide (0 ≤ x2) && decide (x2 < 8)) then
        bif decide ((List.getD x0 (Int.toNat x2) 0) < (List.getD x0 (Int.toNat x6) 0)) then
          bif decide (0 ≤ (wi64 ((wi64 (8 * x6)) + x2))) then
            call ii_descents_6 [tA8 x0, tU64 (bitsOr .u64 x1 (shl .u64 1 (wi64 ((wi64 (8 * x6)) + x2)))), tI x2, tI x3, tI x4, tI x5, tI (wi64 (x6 + 1))]
          else none
        else
          call ii_descents_6 [tA8 x0, tU64 x1, tI x2, tI x3, tI x4, tI x5, tI (wi64 (x6 + 1))]
      else none
    else none
  else
    some [tI 0, tA8 x0, tU64 x1, tI x3, tI x4]
theorem ei_descents_6 (call : Oracle) (x0 : List Int) (x1 x2 : Int) (x3 x4 : Int) (x5 x6 : Int) : run1 E call ii_descents_6 [tA8 x0, tU64 x1, tI x2, tI x3, tI x4, tI x5, tI x6] = bi_descents_6 call x0 x1 x2 x3 x4 x5 x6 := by kernel_rfl
theorem vi_descents_6 (x0 : List Int) (x1 x2 : Int) (x3 x4 : Int) (x5 x6 : Int) {o : List TV} (h : bi_descents_6 R x0 x1 x2 x3 x4 x5 x6 = some o) : R ii_descents_6 [tA8 x0, tU64 x1, tI x2, tI x3, tI x4, tI x5, tI x6] = some o := ev_step ((ei_descents_6 R x0 x1 x2 x3 x4 x5 x6).trans h)
def bi_descents (call : Oracle) (a0 : List Int) (a1 : Int) : Option (List TV) :=
  (call ii_descents_3 [tA8 a0, tU64 0, tI a1, tI 0]).bind fun o3 =>
  some [tU64 (gU64 o3 1)]
theorem ei_descents (call : Oracle) (a0 : List Int) (a1 : Int) : run1 E call ii_descents [tA8 a0, tI a1] = bi_descents call a0 a1 := by kernel_rfl
theorem vi_descents (a0 : List Int) (a1 : Int) {o : List TV} (h : bi_descents R a0 a1 = some o) : R ii_descents [tA8 a0, tI a1] = some o := ev_step ((ei_descents R a0 a1).trans h)
def bi_meet_4 (call : Oracle) (x0 x1 : List Int) (x2 x3 : Int) (x4 : Bool) : Option (List TV) :=
  bif x4 then
    (call ii_meet_7 [tA8 x0, tA8 x1, tI x2, tU64 x3, tB false, tI 1]).bind fun o5 =>
    call ii_meet_4 [tA8 (gA8 o5 1), tA8 (gA8 o5 2), tI (gI o5 3), tU64 (gU64 o5 4), tB (gB o5 5)]
  else
    some [tI 0, tA8 x0, tA8 x1, tI x2]
theorem ei_meet_4 (call : Oracle) (x0 x1 : List Int) (x2 x3 : Int) (x4 : Bool) : run1 E call ii_meet_4 [tA8 x0, tA8 x1, tI x2, tU64 x3, tB x4] = bi_meet_4 call x0 x1 x2 x3 x4 := by kernel_rfl
theorem vi_meet_4 (x0 x1 : List Int) (x2 x3 : Int) (x4 : Bool) {o : List TV} (h : bi_meet_4 R x0 x1 x2 x3 x4 = some o) : R ii_meet_4 [tA8 x0, tA8 x1, tI x2, tU64 x3, tB x4] = some o := ev_step ((ei_meet_4 R x0 x1 x2 x3 x4).trans h)
def bi_meet_7 (call : Oracle) (x0 x1 : List Int) (x2 x3 : Int) (x4 : Bool) (x5 : Int) : Option (List TV) :=
  bif decide (x5 < x2) then
    bif (decide (0 ≤ (wi64 (x5 - 1))) && decide ((wi64 (x5 - 1)) < 8)) then
      bif (decide (0 ≤ x5) && decide (x5 < 8)) then
        bif decide ((List.getD x1 (Int.toNat (wi64 (x5 - 1))) 0) < (List.getD x1 (Int.toNat x5) 0)) then
          bif decide (0 ≤ (wu8 ((wu8 (8 * (List.getD x1 (Int.toNat (wi64 (x5 - 1))) 0))) + (List.getD x1 (Int.toNat x5) 0)))) then
            bif ((bitsAnd .u64 (shr .u64 x3 (wu8 ((wu8 (8 * (List.getD x1 (Int.toNat (wi64 (x5 - 1))) 0))) + (List.getD x1 (Int.toNat x5) 0)))) 1) == 1) then
              bif (decide (0 ≤ (wi64 (x5 - 1))) && decide ((wi64 (x5 - 1)) < 8)) then
                bif (decide (0 ≤ x5) && decide (x5 < 8)) then
                  call ii_meet_7 [tA8 x0, tA8 (List.set (List.set x1 (Int.toNat (wi64 (x5 - 1))) (List.getD x1 (Int.toNat x5) 0)) (Int.toNat x5) (List.getD x1 (Int.toNat (wi64 (x5 - 1))) 0)), tI x2, tU64 x3, tB true, tI (wi64 (x5 + 1))]
                else none
              else none
            else
              call ii_meet_7 [tA8 x0, tA8 x1, tI x2, tU64 x3, tB x4, tI (wi64 (x5 + 1))]
          else none
        else
          call ii_meet_7 [tA8 x0, tA8 x1, tI x2, tU64 x3, tB x4, tI (wi64 (x5 + 1))]
      else none
    else none
  else
    some [tI 0, tA8 x0, tA8 x1, tI x2, tU64 x3, tB x4]
theorem ei_meet_7 (call : Oracle) (x0 x1 : List Int) (x2 x3 : Int) (x4 : Bool) (x5 : Int) : run1 E call ii_meet_7 [tA8 x0, tA8 x1, tI x2, tU64 x3, tB x4, tI x5] = bi_meet_7 call x0 x1 x2 x3 x4 x5 := by kernel_rfl
theorem vi_meet_7 (x0 x1 : List Int) (x2 x3 : Int) (x4 : Bool) (x5 : Int) {o : List TV} (h : bi_meet_7 R x0 x1 x2 x3 x4 x5 = some o) : R ii_meet_7 [tA8 x0, tA8 x1, tI x2, tU64 x3, tB x4, tI x5] = some o := ev_step ((ei_meet_7 R x0 x1 x2 x3 x4 x5).trans h)
def bi_meet (call : Oracle) (a0 a1 : List Int) (a2 : Int) : Option (List TV) :=
  (call ii_descents [tA8 a0, tI a2]).bind fun o1 =>
  (call ii_descents [tA8 a1, tI a2]).bind fun o2 =>
  (call ii_nothing [tI a2]).bind fun o3 =>
  (call ii_meet_4 [tA8 (List.replicate 8 0), tA8 (gA8 o3 0), tI a2, tU64 (bitsAnd .u64 (gU64 o1 0) (gU64 o2 0)), tB true]).bind fun o6 =>
  (call ii_backOf [tA8 (gA8 o6 2), tI (gI o6 3)]).bind fun o7 =>
  some [tA8 (gA8 o7 0)]
theorem ei_meet (call : Oracle) (a0 a1 : List Int) (a2 : Int) : run1 E call ii_meet [tA8 a0, tA8 a1, tI a2] = bi_meet call a0 a1 a2 := by kernel_rfl
theorem vi_meet (a0 a1 : List Int) (a2 : Int) {o : List TV} (h : bi_meet R a0 a1 a2 = some o) : R ii_meet [tA8 a0, tA8 a1, tI a2] = some o := ev_step ((ei_meet R a0 a1 a2).trans h)
def b__i_Normal__put_5 (call : Oracle) (x0 x1 : Int) (x2 : List (List Int)) (x3 x4 : Int) : Option (List TV) :=
  bif decide (0 < x4) then
    bif (decide (0 ≤ (wi64 (x4 - 1))) && decide ((wi64 (x4 - 1)) < ((List.length x2 : Nat) : Int))) then
      (call ii_complement [tA8 (List.getD x2 (Int.toNat (wi64 (x4 - 1))) (List.replicate 8 0)), tI x3]).bind fun o8 =>
      bif (decide (0 ≤ x4) && decide (x4 < ((List.length x2 : Nat) : Int))) then
        (call ii_meet [tA8 (gA8 o8 0), tA8 (List.getD x2 (Int.toNat x4) (List.replicate 8 0)), tI x3]).bind fun o9 =>
        (call ii_nothing [tI x3]).bind fun o10 =>
        bif ((gA8 o9 0) == (gA8 o10 0)) then
          some [tI 0, tI x0, tI x1, tLA8 x2, tI x3]
        else
          bif (decide (0 ≤ (wi64 (x4 - 1))) && decide ((wi64 (x4 - 1)) < ((List.length x2 : Nat) : Int))) then
            (call ii_then [tA8 (List.getD x2 (Int.toNat (wi64 (x4 - 1))) (List.replicate 8 0)), tA8 (gA8 o9 0), tI x3]).bind fun o11 =>
            bif (decide (0 ≤ (wi64 (x4 - 1))) && decide ((wi64 (x4 - 1)) < ((List.length x2 : Nat) : Int))) then
              (call ii_backOf [tA8 (gA8 o9 0), tI x3]).bind fun o12 =>
              bif (decide (0 ≤ x4) && decide (x4 < ((List.length (List.set x2 (Int.toNat (wi64 (x4 - 1))) (gA8 o11 0)) : Nat) : Int))) then
                (call ii_then [tA8 (gA8 o12 0), tA8 (List.getD (List.set x2 (Int.toNat (wi64 (x4 - 1))) (gA8 o11 0)) (Int.toNat x4) (List.replicate 8 0)), tI x3]).bind fun o13 =>
                bif (decide (0 ≤ x4) && decide (x4 < ((List.length (List.set x2 (Int.toNat (wi64 (x4 - 1))) (gA8 o11 0)) : Nat) : Int))) then
                  call i__i_Normal__put_5 [tI x0, tI x1, tLA8 (List.set (List.set x2 (Int.toNat (wi64 (x4 - 1))) (gA8 o11 0)) (Int.toNat x4) (gA8 o13 0)), tI x3, tI (wi64 (x4 - 1))]
                else none
              else none
            else none
          else none
      else none
    else none
  else
    some [tI 0, tI x0, tI x1, tLA8 x2, tI x3]
theorem e__i_Normal__put_5 (call : Oracle) (x0 x1 : Int) (x2 : List (List Int)) (x3 x4 : Int) : run1 E call i__i_Normal__put_5 [tI x0, tI x1, tLA8 x2, tI x3, tI x4] = b__i_Normal__put_5 call x0 x1 x2 x3 x4 := by kernel_rfl
theorem v__i_Normal__put_5 (x0 x1 : Int) (x2 : List (List Int)) (x3 x4 : Int) {o : List TV} (h : b__i_Normal__put_5 R x0 x1 x2 x3 x4 = some o) : R i__i_Normal__put_5 [tI x0, tI x1, tLA8 x2, tI x3, tI x4] = some o := ev_step ((e__i_Normal__put_5 R x0 x1 x2 x3 x4).trans h)
def b__i_Normal__put_11 (call : Oracle) (x0 x1 : Int) (x2 : List (List Int)) (x3 : Int) : Option (List TV) :=
  bif decide (0 < ((List.length x2 : Nat) : Int)) then
    bif decide (0 < ((List.length x2 : Nat) : Int)) then
      (call ii_halfTurn [tI x3]).bind fun o16 =>
      bif ((List.getD x2 0 (List.replicate 8 0)) == (gA8 o16 0)) then
        bif decide (1 ≤ ((List.length x2 : Nat) : Int)) then
          call i__i_Normal__put_11 [tI x0, tI (wi64 (x1 + 1)), tLA8 (List.drop 1 x2), tI x3]
        else none
      else
        some [tI 0, tI x0, tI x1, tLA8 x2, tI x3]
    else none
  else
    some [tI 0, tI x0, tI x1, tLA8 x2, tI x3]
theorem e__i_Normal__put_11 (call : Oracle) (x0 x1 : Int) (x2 : List (List Int)) (x3 : Int) : run1 E call i__i_Normal__put_11 [tI x0, tI x1, tLA8 x2, tI x3] = b__i_Normal__put_11 call x0 x1 x2 x3 := by kernel_rfl
theorem v__i_Normal__put_11 (x0 x1 : Int) (x2 : List (List Int)) (x3 : Int) {o : List TV} (h : b__i_Normal__put_11 R x0 x1 x2 x3 = some o) : R i__i_Normal__put_11 [tI x0, tI x1, tLA8 x2, tI x3] = some o := ev_step ((e__i_Normal__put_11 R x0 x1 x2 x3).trans h)
def b__i_Normal__put_14 (call : Oracle) (x0 x1 : Int) (x2 : List (List Int)) (x3 : Int) : Option (List TV) :=
  bif decide (0 < ((List.length x2 : Nat) : Int)) then
    bif (decide (0 ≤ (wi64 (((List.length x2 : Nat) : Int) - 1))) && decide ((wi64 (((List.length x2 : Nat) : Int) - 1)) < ((List.length x2 : Nat) : Int))) then
      (call ii_nothing [tI x3]).bind fun o19 =>
      bif ((List.getD x2 (Int.toNat (wi64 (((List.length x2 : Nat) : Int) - 1))) (List.replicate 8 0)) == (gA8 o19 0)) then
        bif (decide (0 ≤ (wi64 (((List.length x2 : Nat) : Int) - 1))) && decide ((wi64 (((List.length x2 : Nat) : Int) - 1)) ≤ ((List.length x2 : Nat) : Int))) then
          call i__i_Normal__put_14 [tI x0, tI x1, tLA8 (List.take (Int.toNat (wi64 (((List.length x2 : Nat) : Int) - 1))) x2), tI x3]
        else none
      else
        some [tI 0, tI x0, tI x1, tLA8 x2]
    else none
  else
    some [tI 0, tI x0, tI x1, tLA8 x2]
theorem e__i_Normal__put_14 (call : Oracle) (x0 x1 : Int) (x2 : List (List Int)) (x3 : Int) : run1 E call i__i_Normal__put_14 [tI x0, tI x1, tLA8 x2, tI x3] = b__i_Normal__put_14 call x0 x1 x2 x3 := by kernel_rfl
theorem v__i_Normal__put_14 (x0 x1 : Int) (x2 : List (List Int)) (x3 : Int) {o : List TV} (h : b__i_Normal__put_14 R x0 x1 x2 x3 = some o) : R i__i_Normal__put_14 [tI x0, tI x1, tLA8 x2, tI x3] = some o := ev_step ((e__i_Normal__put_14 R x0 x1 x2 x3).trans h)
def b__i_Normal__put (call : Oracle) (a0 : Int × Int × List (List Int)) (a1 : List Int) : Option (List TV) :=
  (call ii_nothing [tI a0.1]).bind fun o1 =>
  bif (a1 == (gA8 o1 0)) then
    some [tPIPILA8 (a0.1, (a0.2.1, a0.2.2))]
  else
    bif (apOk a0.2.2 [a1]) then
      (call i__i_Normal__put_5 [tI a0.1, tI a0.2.1, tLA8 (a0.2.2 ++ [a1]), tI a0.1, tI (wi64 (((List.length (a0.2.2 ++ [a1]) : Nat) : Int) - 1))]).bind fun o14 =>
      (call i__i_Normal__put_11 [tI (gI o14 1), tI (gI o14 2), tLA8 (gLA8 o14 3), tI (gI o14 4)]).bind fun o17 =>
      (call i__i_Normal__put_14 [tI (gI o17 1), tI (gI o17 2), tLA8 (gLA8 o17 3), tI (gI o17 4)]).bind fun o20 =>
      some [tPIPILA8 ((gI o20 1), ((gI o20 2), (gLA8 o20 3)))]
    else none
theorem e__i_Normal__put (call : Oracle) (a0 : Int × Int × List (List Int)) (a1 : List Int) : run1 E call i__i_Normal__put [tPIPILA8 a0, tA8 a1] = b__i_Normal__put call a0 a1 := by kernel_rfl
theorem v__i_Normal__put (a0 : Int × Int × List (List Int)) (a1 : List Int) {o : List TV} (h : b__i_Normal__put R a0 a1 = some o) : R i__i_Normal__put [tPIPILA8 a0, tA8 a1] = some o := ev_step ((e__i_Normal__put R a0 a1).trans h)
def b__i_Normal__putInverse (call : Oracle) (a0 : Int × Int × List (List Int)) (a1 : List Int) : Option (List TV) :=
  (call i__i_Normal__turnBy [tPIPILA8 (a0.1, (a0.2.1, a0.2.2)), tI (-1)]).bind fun o1 =>
  (call ii_leftComplement [tA8 a1, tI ((gPIPILA8 o1 0).1)]).bind fun o2 =>
  (call i__i_Normal__put [tPIPILA8 ((gPIPILA8 o1 0).1, (((gPIPILA8 o1 0).2).1, ((gPIPILA8 o1 0).2).2)), tA8 (gA8 o2 0)]).bind fun o3 =>
  some [tPIPILA8 ((gPIPILA8 o3 0).1, (((gPIPILA8 o3 0).2).1, ((gPIPILA8 o3 0).2).2))]
theorem e__i_Normal__putInverse (call : Oracle) (a0 : Int × Int × List (List Int)) (a1 : List Int) : run1 E call i__i_Normal__putInverse [tPIPILA8 a0, tA8 a1] = b__i_Normal__putInverse call a0 a1 := by kernel_rfl
theorem v__i_Normal__putInverse (a0 : Int × Int × List (List Int)) (a1 : List Int) {o : List TV} (h : b__i_Normal__putInverse R a0 a1 = some o) : R i__i_Normal__putInverse [tPIPILA8 a0, tA8 a1] = some o := ev_step ((e__i_Normal__putInverse R a0 a1).trans h)
def bi_inverse_3 (call : Oracle) (x0 x1 : Int) (x2 : List (List Int)) (x3 x4 : Int) (x5 : List (List Int)) (x6 x7 : Int) (x8 : List (List Int)) (x9 : Int) : Option (List TV) :=
  bif decide (0 ≤ x9) then
    bif (decide (0 ≤ x9) && decide (x9 < ((List.length x2 : Nat) : Int))) then
      (call i__i_Normal__putInverse [tPIPILA8 (x6, (x7, x8)), tA8 (List.getD x2 (Int.toNat x9) (List.replicate 8 0))]).bind fun o2 =>
      call ii_inverse_3 [tI x0, tI x1, tLA8 x2, tI x3, tI x4, tLA8 x5, tI ((gPIPILA8 o2 0).1), tI (((gPIPILA8 o2 0).2).1), tLA8 (((gPIPILA8 o2 0).2).2), tI (wi64 (x9 - 1))]
    else none
  else
    some [tI 0, tI x0, tI x1, tLA8 x2, tI x3, tI x4, tLA8 x5, tI x6, tI x7, tLA8 x8]
theorem ei_inverse_3 (call : Oracle) (x0 x1 : Int) (x2 : List (List Int)) (x3 x4 : Int) (x5 : List (List Int)) (x6 x7 : Int) (x8 : List (List Int)) (x9 : Int) : run1 E call ii_inverse_3 [tI x0, tI x1, tLA8 x2, tI x3, tI x4, tLA8 x5, tI x6, tI x7, tLA8 x8, tI x9] = bi_inverse_3 call x0 x1 x2 x3 x4 x5 x6 x7 x8 x9 := by kernel_rfl
theorem vi_inverse_3 (x0 x1 : Int) (x2 : List (List Int)) (x3 x4 : Int) (x5 : List (List Int)) (x6 x7 : Int) (x8 : List (List Int)) (x9 : Int) {o : List TV} (h : bi_inverse_3 R x0 x1 x2 x3 x4 x5 x6 x7 x8 x9 = some o) : R ii_inverse_3 [tI x0, tI x1, tLA8 x2, tI x3, tI x4, tLA8 x5, tI x6, tI x7, tLA8 x8, tI x9] = some o := ev_step ((ei_inverse_3 R x0 x1 x2 x3 x4 x5 x6 x7 x8 x9).trans h)
def bi_inverse (call : Oracle) (a0 : Int × Int × List (List Int)) : Option (List TV) :=
  (call ii_inverse_3 [tI a0.1, tI a0.2.1, tLA8 a0.2.2, tI 0, tI 0, tLA8 [], tI a0.1, tI 0, tLA8 [], tI (wi64 (((List.length a0.2.2 : Nat) : Int) - 1))]).bind fun o3 =>
  (call i__i_Normal__turnBy [tPIPILA8 ((gI o3 7), ((gI o3 8), (gLA8 o3 9))), tI (wi64 (0 - (gI o3 2)))]).bind fun o4 =>
  some [tPIPILA8 ((gPIPILA8 o4 0).1, (((gPIPILA8 o4 0).2).1, ((gPIPILA8 o4 0).2).2))]
theorem ei_inverse (call : Oracle) (a0 : Int × Int × List (List Int)) : run1 E call ii_inverse [tPIPILA8 a0] = bi_inverse call a0 := by kernel_rfl
theorem vi_inverse (a0 : Int × Int × List (List Int)) {o : List TV} (h : bi_inverse R a0 = some o) : R ii_inverse [tPIPILA8 a0] = some o := ev_step ((ei_inverse R a0).trans h)
def bi_copyNormal (call : Oracle) (a0 : Int × Int × List (List Int)) : Option (List TV) :=
  bif (apOk [] a0.2.2) then
    some [tPIPILA8 (a0.1, (a0.2.1, a0.2.2))]
  else none
theorem ei_copyNormal (call : Oracle) (a0 : Int × Int × List (List Int)) : run1 E call ii_copyNormal [tPIPILA8 a0] = bi_copyNormal call a0 := by kernel_rfl
theorem vi_copyNormal (a0 : Int × Int × List (List Int)) {o : List TV} (h : bi_copyNormal R a0 = some o) : R ii_copyNormal [tPIPILA8 a0] = some o := ev_step ((ei_copyNormal R a0).trans h)
def bi_product_4 (call : Oracle) (x0 x1 : Int) (x2 : List (List Int)) (x3 x4 : Int) (x5 x6 : List (List Int)) (x7 x8 : Int) : Option (List TV) :=
  bif decide (x8 < x7) then
    bif (decide (0 ≤ x8) && decide (x8 < ((List.length x6 : Nat) : Int))) then
      (call i__i_Normal__put [tPIPILA8 (x3, (x4, x5)), tA8 (List.getD x6 (Int.toNat x8) (List.replicate 8 0))]).bind fun o4 =>
      call ii_product_4 [tI x0, tI x1, tLA8 x2, tI ((gPIPILA8 o4 0).1), tI (((gPIPILA8 o4 0).2).1), tLA8 (((gPIPILA8 o4 0).2).2), tLA8 x6, tI x7, tI (wi64 (x8 + 1))]
    else none
  else
    some [tI 0, tI x0, tI x1, tLA8 x2, tI x3, tI x4, tLA8 x5]
theorem ei_product_4 (call : Oracle) (x0 x1 : Int) (x2 : List (List Int)) (x3 x4 : Int) (x5 x6 : List (List Int)) (x7 x8 : Int) : run1 E call ii_product_4 [tI x0, tI x1, tLA8 x2, tI x3, tI x4, tLA8 x5, tLA8 x6, tI x7, tI x8] = bi_product_4 call x0 x1 x2 x3 x4 x5 x6 x7 x8 := by kernel_rfl
theorem vi_product_4 (x0 x1 : Int) (x2 : List (List Int)) (x3 x4 : Int) (x5 x6 : List (List Int)) (x7 x8 : Int) {o : List TV} (h : bi_product_4 R x0 x1 x2 x3 x4 x5 x6 x7 x8 = some o) : R ii_product_4 [tI x0, tI x1, tLA8 x2, tI x3, tI x4, tLA8 x5, tLA8 x6, tI x7, tI x8] = some o := ev_step ((ei_product_4 R x0 x1 x2 x3 x4 x5 x6 x7 x8).trans h)
def bi_product (call : Oracle) (a0 a1 : Int × Int × List (List Int)) : Option (List TV) :=
  (call ii_copyNormal [tPIPILA8 (a0.1, (a0.2.1, a0.2.2))]).bind fun o1 =>
  (call i__i_Normal__turnBy [tPIPILA8 ((gPIPILA8 o1 0).1, (((gPIPILA8 o1 0).2).1, ((gPIPILA8 o1 0).2).2)), tI a1.2.1]).bind fun o2 =>
  (call ii_product_4 [tI 0, tI 0, tLA8 [], tI ((gPIPILA8 o2 0).1), tI (((gPIPILA8 o2 0).2).1), tLA8 (((gPIPILA8 o2 0).2).2), tLA8 a1.2.2, tI ((List.length a1.2.2 : Nat) : Int), tI 0]).bind fun o5 =>
  some [tPIPILA8 ((gI o5 4), ((gI o5 5), (gLA8 o5 6)))]
theorem ei_product (call : Oracle) (a0 a1 : Int × Int × List (List Int)) : run1 E call ii_product [tPIPILA8 a0, tPIPILA8 a1] = bi_product call a0 a1 := by kernel_rfl
theorem vi_product (a0 a1 : Int × Int × List (List Int)) {o : List TV} (h : bi_product R a0 a1 = some o) : R ii_product [tPIPILA8 a0, tPIPILA8 a1] = some o := ev_step ((ei_product R a0 a1).trans h)
def bi_limited (call : Oracle) (a0 : Int × Int × List (List Int)) : Option (List TV) :=
  (call ii_within [tI a0.2.1, tI (-200), tI 200]).bind fun o1 =>
  bif (!(gB o1 0)) then
    some [tPIPILA8 (0, (0, [])), tI 3]
  else
    bif decide (200 < ((List.length a0.2.2 : Nat) : Int)) then
      some [tPIPILA8 (0, (0, [])), tI 3]
    else
      some [tPIPILA8 (a0.1, (a0.2.1, a0.2.2)), tI 0]
theorem ei_limited (call : Oracle) (a0 : Int × Int × List (List Int)) : run1 E call ii_limited [tPIPILA8 a0] = bi_limited call a0 := by kernel_rfl
theorem vi_limited (a0 : Int × Int × List (List Int)) {o : List TV} (h : bi_limited R a0 = some o) : R ii_limited [tPIPILA8 a0] = some o := ev_step ((ei_limited R a0).trans h)
def bi_ConjugateBy (call : Oracle) (a0 a1 : Int × Int × List (List Int)) : Option (List TV) :=
  (call ii_areSameCount [tPIPILA8 (a0.1, (a0.2.1, a0.2.2)), tPIPILA8 (a1.1, (a1.2.1, a1.2.2))]).bind fun o1 =>
  bif ((gI o1 0) != 0) then
    some [tPIPILA8 (0, (0, [])), tI (gI o1 0)]
  else
    (call ii_inverse [tPIPILA8 (a1.1, (a1.2.1, a1.2.2))]).bind fun o2 =>
    (call ii_product [tPIPILA8 ((gPIPILA8 o2 0).1, (((gPIPILA8 o2 0).2).1, ((gPIPILA8 o2 0).2).2)), tPIPILA8 (a0.1, (a0.2.1, a0.2.2))]).bind fun o3 =>
    (call ii_limited [tPIPILA8 ((gPIPILA8 o3 0).1, (((gPIPILA8 o3 0).2).1, ((gPIPILA8 o3 0).2).2))]).bind fun o4 =>
    bif ((gI o4 1) != 0) then
      some [tPIPILA8 (0, (0, [])), tI (gI o4 1)]
    else
      (call ii_product [tPIPILA8 ((gPIPILA8 o4 0).1, (((gPIPILA8 o4 0).2).1, ((gPIPILA8 o4 0).2).2)), tPIPILA8 (a1.1, (a1.2.1, a1.2.2))]).bind fun o5 =>
      (call ii_limited [tPIPILA8 ((gPIPILA8 o5 0).1, (((gPIPILA8 o5 0).2).1, ((gPIPILA8 o5 0).2).2))]).bind fun o6 =>
      some [tPIPILA8 ((gPIPILA8 o6 0).1, (((gPIPILA8 o6 0).2).1, ((gPIPILA8 o6 0).2).2)), tI (gI o6 1)]
theorem ei_ConjugateBy (call : Oracle) (a0 a1 : Int × Int × List (List Int)) : run1 E call ii_ConjugateBy [tPIPILA8 a0, tPIPILA8 a1] = bi_ConjugateBy call a0 a1 := by kernel_rfl
theorem vi_ConjugateBy (a0 a1 : Int × Int × List (List Int)) {o : List TV} (h : bi_ConjugateBy R a0 a1 = some o) : R ii_ConjugateBy [tPIPILA8 a0, tPIPILA8 a1] = some o := ev_step ((ei_ConjugateBy R a0 a1).trans h)
def bs_l03Both (call : Oracle) (a0 a1 : Int × Int × List (List Int)) : Option (List TV) :=
  (call is_l03Is [tPIPILA8 (a0.1, (a0.2.1, a0.2.2))]).bind fun o1 =>
  bif (!(gB o1 0)) then
    some [tI 1]
  else
    (call is_l03Is [tPIPILA8 (a1.1, (a1.2.1, a1.2.2))]).bind fun o2 =>
    bif (!(gB o2 0)) then
      some [tI 1]
    else
      bif (a0.1 != a1.1) then
        some [tI 2]
      else
        some [tI 0]
theorem es_l03Both (call : Oracle) (a0 a1 : Int × Int × List (List Int)) : run1 E call is_l03Both [tPIPILA8 a0, tPIPILA8 a1] = bs_l03Both call a0 a1 := by kernel_rfl
theorem vs_l03Both (a0 a1 : Int × Int × List (List Int)) {o : List TV} (h : bs_l03Both R a0 a1 = some o) : R is_l03Both [tPIPILA8 a0, tPIPILA8 a1] = some o := ev_step ((es_l03Both R a0 a1).trans h)
def bs_l03Fit (call : Oracle) (a0 : Int × Int × List (List Int)) : Option (List TV) :=
  (call is_l01In [tI a0.2.1, tI (-200), tI 200]).bind fun o1 =>
  bif (!(gB o1 0)) then
    some [tPIPILA8 (0, (0, [])), tI 3]
  else
    bif decide (200 < ((List.length a0.2.2 : Nat) : Int)) then
      some [tPIPILA8 (0, (0, [])), tI 3]
    else
      some [tPIPILA8 (a0.1, (a0.2.1, a0.2.2)), tI 0]
theorem es_l03Fit (call : Oracle) (a0 : Int × Int × List (List Int)) : run1 E call is_l03Fit [tPIPILA8 a0] = bs_l03Fit call a0 := by kernel_rfl
theorem vs_l03Fit (a0 : Int × Int × List (List Int)) {o : List TV} (h : bs_l03Fit R a0 = some o) : R is_l03Fit [tPIPILA8 a0] = some o := ev_step ((es_l03Fit R a0).trans h)
def bs_ConjugateBy (call : Oracle) (a0 a1 : Int × Int × List (List Int)) : Option (List TV) :=
  (call is_l03Both [tPIPILA8 (a0.1, (a0.2.1, a0.2.2)), tPIPILA8 (a1.1, (a1.2.1, a1.2.2))]).bind fun o1 =>
  bif ((gI o1 0) != 0) then
    some [tPIPILA8 (0, (0, [])), tI (gI o1 0)]
  else
    (call is_l03Inverse [tPIPILA8 (a1.1, (a1.2.1, a1.2.2))]).bind fun o2 =>
    (call is_l03Product [tPIPILA8 ((gPIPILA8 o2 0).1, (((gPIPILA8 o2 0).2).1, ((gPIPILA8 o2 0).2).2)), tPIPILA8 (a0.1, (a0.2.1, a0.2.2))]).bind fun o3 =>
    (call is_l03Fit [tPIPILA8 ((gPIPILA8 o3 0).1, (((gPIPILA8 o3 0).2).1, ((gPIPILA8 o3 0).2).2))]).bind fun o4 =>
    bif ((gI o4 1) != 0) then
      some [tPIPILA8 (0, (0, [])), tI (gI o4 1)]
    else
      (call is_l03Product [tPIPILA8 ((gPIPILA8 o4 0).1, (((gPIPILA8 o4 0).2).1, ((gPIPILA8 o4 0).2).2)), tPIPILA8 (a1.1, (a1.2.1, a1.2.2))]).bind fun o5 =>
      (call is_l03Fit [tPIPILA8 ((gPIPILA8 o5 0).1, (((gPIPILA8 o5 0).2).1, ((gPIPILA8 o5 0).2).2))]).bind fun o6 =>
      some [tPIPILA8 ((gPIPILA8 o6 0).1, (((gPIPILA8 o6 0).2).1, ((gPIPILA8 o6 0).2).2)), tI (gI o6 1)]
theorem es_ConjugateBy (call : Oracle) (a0 a1 : Int × Int × List (List Int)) : run1 E call is_ConjugateBy [tPIPILA8 a0, tPIPILA8 a1] = bs_ConjugateBy call a0 a1 := by kernel_rfl
theorem vs_ConjugateBy (a0 a1 : Int × Int × List (List Int)) {o : List TV} (h : bs_ConjugateBy R a0 a1 = some o) : R is_ConjugateBy [tPIPILA8 a0, tPIPILA8 a1] = some o := ev_step ((es_ConjugateBy R a0 a1).trans h)
def bw_normal9_4 (call : Oracle) (x0 x1 : Int) (x2 : List (List Int)) (x3 x4 : Int) (x5 : List (List Int)) (x6 : Int) : Option (List TV) :=
  bif decide (x6 < ((List.length x2 : Nat) : Int)) then
    bif (decide (0 ≤ x6) && decide (x6 < ((List.length x2 : Nat) : Int))) then
      bif (decide (0 ≤ x6) && decide (x6 < ((List.length x5 : Nat) : Int))) then
        bif ((List.getD x2 (Int.toNat x6) (List.replicate 8 0)) != (List.getD x5 (Int.toNat x6) (List.replicate 8 0))) then
          some [tI 1, tB false]
        else
          call iw_normal9_4 [tI x0, tI x1, tLA8 x2, tI x3, tI x4, tLA8 x5, tI (wi64 (x6 + 1))]
      else none
    else none
  else
    some [tI 0]
theorem ew_normal9_4 (call : Oracle) (x0 x1 : Int) (x2 : List (List Int)) (x3 x4 : Int) (x5 : List (List Int)) (x6 : Int) : run1 E call iw_normal9_4 [tI x0, tI x1, tLA8 x2, tI x3, tI x4, tLA8 x5, tI x6] = bw_normal9_4 call x0 x1 x2 x3 x4 x5 x6 := by kernel_rfl
theorem vw_normal9_4 (x0 x1 : Int) (x2 : List (List Int)) (x3 x4 : Int) (x5 : List (List Int)) (x6 : Int) {o : List TV} (h : bw_normal9_4 R x0 x1 x2 x3 x4 x5 x6 = some o) : R iw_normal9_4 [tI x0, tI x1, tLA8 x2, tI x3, tI x4, tLA8 x5, tI x6] = some o := ev_step ((ew_normal9_4 R x0 x1 x2 x3 x4 x5 x6).trans h)
def bw_normal9 (call : Oracle) (a0 a1 : Int × Int × List (List Int)) : Option (List TV) :=
  bif (a0.1 != a1.1) then
    some [tB false]
  else
    bif (a0.2.1 != a1.2.1) then
      some [tB false]
    else
      bif (((List.length a0.2.2 : Nat) : Int) != ((List.length a1.2.2 : Nat) : Int)) then
        some [tB false]
      else
        (call iw_normal9_4 [tI a0.1, tI a0.2.1, tLA8 a0.2.2, tI a1.1, tI a1.2.1, tLA8 a1.2.2, tI 0]).bind fun o1 =>
        bif ((gI o1 0) == 0) then
          some [tB true]
        else
          some [tB (gB o1 1)]
theorem ew_normal9 (call : Oracle) (a0 a1 : Int × Int × List (List Int)) : run1 E call iw_normal9 [tPIPILA8 a0, tPIPILA8 a1] = bw_normal9 call a0 a1 := by kernel_rfl
theorem vw_normal9 (a0 a1 : Int × Int × List (List Int)) {o : List TV} (h : bw_normal9 R a0 a1 = some o) : R iw_normal9 [tPIPILA8 a0, tPIPILA8 a1] = some o := ev_step ((ew_normal9 R a0 a1).trans h)
def bs_DrawCyclingOf (call : Oracle) (a0 : List Int) : Option (List TV) :=
  (call is_l01From [tLU8 a0]).bind fun o1 =>
  (call is_l04Draw [tPLU8PIU64 ((gPLU8PIU64 o1 0).1, (((gPLU8PIU64 o1 0).2).1, ((gPLU8PIU64 o1 0).2).2))]).bind fun o2 =>
  some [tPIPILA8 ((gPIPILA8 o2 0).1, (((gPIPILA8 o2 0).2).1, ((gPIPILA8 o2 0).2).2))]
theorem es_DrawCyclingOf (call : Oracle) (a0 : List Int) : run1 E call is_DrawCyclingOf [tLU8 a0] = bs_DrawCyclingOf call a0 := by kernel_rfl
theorem vs_DrawCyclingOf (a0 : List Int) {o : List TV} (h : bs_DrawCyclingOf R a0 = some o) : R is_DrawCyclingOf [tLU8 a0] = some o := ev_step ((es_DrawCyclingOf R a0).trans h)
def bi_turned (call : Oracle) (a0 : List Int) (a1 : Int × Int × List (List Int)) : Option (List TV) :=
  bif ((Int.tmod a1.2.1 2) != 0) then
    (call ii_turn [tA8 a0, tI a1.1]).bind fun o1 =>
    some [tA8 (gA8 o1 0)]
  else
    some [tA8 a0]
theorem ei_turned (call : Oracle) (a0 : List Int) (a1 : Int × Int × List (List Int)) : run1 E call ii_turned [tA8 a0, tPIPILA8 a1] = bi_turned call a0 a1 := by kernel_rfl
theorem vi_turned (a0 : List Int) (a1 : Int × Int × List (List Int)) {o : List TV} (h : bi_turned R a0 a1 = some o) : R ii_turned [tA8 a0, tPIPILA8 a1] = some o := ev_step ((ei_turned R a0 a1).trans h)
def bi_cycled (call : Oracle) (a0 : Int × Int × List (List Int)) : Option (List TV) :=
  bif (((List.length a0.2.2 : Nat) : Int) == 0) then
    (call ii_copyNormal [tPIPILA8 (a0.1, (a0.2.1, a0.2.2))]).bind fun o1 =>
    some [tPIPILA8 ((gPIPILA8 o1 0).1, (((gPIPILA8 o1 0).2).1, ((gPIPILA8 o1 0).2).2))]
  else
    bif decide (1 ≤ ((List.length a0.2.2 : Nat) : Int)) then
      (call ii_copyNormal [tPIPILA8 (a0.1, (a0.2.1, (List.drop 1 a0.2.2)))]).bind fun o2 =>
      bif decide (0 < ((List.length a0.2.2 : Nat) : Int)) then
        (call ii_turned [tA8 (List.getD a0.2.2 0 (List.replicate 8 0)), tPIPILA8 (a0.1, (a0.2.1, a0.2.2))]).bind fun o3 =>
        (call i__i_Normal__put [tPIPILA8 ((gPIPILA8 o2 0).1, (((gPIPILA8 o2 0).2).1, ((gPIPILA8 o2 0).2).2)), tA8 (gA8 o3 0)]).bind fun o4 =>
        some [tPIPILA8 ((gPIPILA8 o4 0).1, (((gPIPILA8 o4 0).2).1, ((gPIPILA8 o4 0).2).2))]
      else none
    else none
theorem ei_cycled (call : Oracle) (a0 : Int × Int × List (List Int)) : run1 E call ii_cycled [tPIPILA8 a0] = bi_cycled call a0 := by kernel_rfl
theorem vi_cycled (a0 : Int × Int × List (List Int)) {o : List TV} (h : bi_cycled R a0 = some o) : R ii_cycled [tPIPILA8 a0] = some o := ev_step ((ei_cycled R a0).trans h)
def bi_changed (call : Oracle) (a0 : Int × Int × List (List Int)) : Option (List TV) :=
  (call ii_IsNormal [tPIPILA8 (a0.1, (a0.2.1, a0.2.2))]).bind fun o1 =>
  bif (!(gB o1 0)) then
    some [tPIPILA8 (0, (0, [])), tI 1]
  else
    (call ii_cycled [tPIPILA8 (a0.1, (a0.2.1, a0.2.2))]).bind fun o2 =>
    (call ii_limited [tPIPILA8 ((gPIPILA8 o2 0).1, (((gPIPILA8 o2 0).2).1, ((gPIPILA8 o2 0).2).2))]).bind fun o3 =>
    some [tPIPILA8 ((gPIPILA8 o3 0).1, (((gPIPILA8 o3 0).2).1, ((gPIPILA8 o3 0).2).2)), tI (gI o3 1)]
theorem ei_changed (call : Oracle) (a0 : Int × Int × List (List Int)) : run1 E call ii_changed [tPIPILA8 a0] = bi_changed call a0 := by kernel_rfl
theorem vi_changed (a0 : Int × Int × List (List Int)) {o : List TV} (h : bi_changed R a0 = some o) : R ii_changed [tPIPILA8 a0] = some o := ev_step ((ei_changed R a0).trans h)
end
end Go.Ev.YtgfleapbganjiaaGreat
