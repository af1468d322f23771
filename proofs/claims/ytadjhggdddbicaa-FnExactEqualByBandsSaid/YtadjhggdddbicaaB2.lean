/- Bodies, part 2. -/
import Derived.KernelRfl
import Derived.Test.YtadjhggdddbicaaEnv
set_option linter.unusedVariables false
namespace Go.Ev.Ytadjhggdddbicaa
open Go.Ev
/-- spec.l07Put loop 11 -/
noncomputable def bs_l07Put_11 (call : Oracle) (x0 : Int) (x1 : Int) (x2 : List (List Int)) (x3 : List (List Int)) (x4 : Int) (x5 : Int) (x6 : List (List Int)) (x7 : Int) (x8 : Int) : Option (List TV) :=
  bif decide (x8 < ((List.length x3 : Nat) : Int)) then
    bif (decide (0 ≤ x8) && decide (x8 < ((List.length x3 : Nat) : Int))) then
      (call is_l07Fine [tI x7]).bind fun o14 =>
      bif ((List.getD x3 (Int.toNat x8) (List.replicate 8 0)) == (gA8 o14 0)) then
        call is_l07Put_11 [tI x0, tI x1, tLA8 x2, tLA8 x3, tI x4, tI x5, tLA8 x6, tI x7, tI (wi64 (x8 + 1))]
      else
        bif (decide (0 ≤ x8) && decide (x8 < ((List.length x3 : Nat) : Int))) then
          (call is_l07Whole [tI x7]).bind fun o15 =>
          bif ((List.getD x3 (Int.toNat x8) (List.replicate 8 0)) == (gA8 o15 0)) then
            call is_l07Put_11 [tI x0, tI x1, tLA8 x2, tLA8 x3, tI x4, tI (wi64 (x5 + 1)), tLA8 x6, tI x7, tI (wi64 (x8 + 1))]
          else
            bif (decide (0 ≤ x8) && decide (x8 < ((List.length x3 : Nat) : Int))) then
              bif (apOk x6 [(List.getD x3 (Int.toNat x8) (List.replicate 8 0))]) then
                call is_l07Put_11 [tI x0, tI x1, tLA8 x2, tLA8 x3, tI x4, tI x5, tLA8 (x6 ++ [(List.getD x3 (Int.toNat x8) (List.replicate 8 0))]), tI x7, tI (wi64 (x8 + 1))]
              else none
            else none
        else none
    else none
  else
    some [tI 0, tI x0, tI x1, tLA8 x2, tI x4, tI x5, tLA8 x6]
theorem es_l07Put_11 (call : Oracle) (x0 : Int) (x1 : Int) (x2 : List (List Int)) (x3 : List (List Int)) (x4 : Int) (x5 : Int) (x6 : List (List Int)) (x7 : Int) (x8 : Int) : run1 E call is_l07Put_11 [tI x0, tI x1, tLA8 x2, tLA8 x3, tI x4, tI x5, tLA8 x6, tI x7, tI x8] = bs_l07Put_11 call x0 x1 x2 x3 x4 x5 x6 x7 x8 := by kernel_rfl
theorem vs_l07Put_11 (x0 : Int) (x1 : Int) (x2 : List (List Int)) (x3 : List (List Int)) (x4 : Int) (x5 : Int) (x6 : List (List Int)) (x7 : Int) (x8 : Int) {o : List TV} (h : bs_l07Put_11 R x0 x1 x2 x3 x4 x5 x6 x7 x8 = some o) : R is_l07Put_11 [tI x0, tI x1, tLA8 x2, tLA8 x3, tI x4, tI x5, tLA8 x6, tI x7, tI x8] = some o := ev_step ((es_l07Put_11 R x0 x1 x2 x3 x4 x5 x6 x7 x8).trans h)
/-- spec.l07Put -/
noncomputable def bs_l07Put (call : Oracle) (a0 : Int × Int × List (List Int)) (a1 : List Int) : Option (List TV) :=
  bif (apOk [] a0.2.2) then
    bif (apOk a0.2.2 [a1]) then
      (call is_l07Put_4 [tI a0.1, tI a0.2.1, tLA8 a0.2.2, tI 0, tI 0, tLA8 [], tLA8 (a0.2.2 ++ [a1]), tI a0.1, tI (wi64 (((List.length (a0.2.2 ++ [a1]) : Nat) : Int) - 1))]).bind fun o11 =>
      (call is_l07Put_11 [tI (gI o11 4), tI (gI o11 5), tLA8 (gLA8 o11 6), tLA8 (gLA8 o11 7), tI (gI o11 8), tI (gI o11 2), tLA8 [], tI (gI o11 8), tI 0]).bind fun o16 =>
      some [tPIPILA8 ((gI o16 4), ((gI o16 5), (gLA8 o16 6)))]
    else none
  else none
theorem es_l07Put (call : Oracle) (a0 : Int × Int × List (List Int)) (a1 : List Int) : run1 E call is_l07Put [tPIPILA8 a0, tA8 a1] = bs_l07Put call a0 a1 := by kernel_rfl
theorem vs_l07Put (a0 : Int × Int × List (List Int)) (a1 : List Int) {o : List TV} (h : bs_l07Put R a0 a1 = some o) : R is_l07Put [tPIPILA8 a0, tA8 a1] = some o := ev_step ((es_l07Put R a0 a1).trans h)
/-- spec.l07Form loop 3 -/
noncomputable def bs_l07Form_3 (call : Oracle) (x0 : List Int) (x1 : Int) (x2 : Int) (x3 : List (List Int)) (x4 : Int) (x5 : Int) (x6 : List (List Int)) (x7 : Int) (x8 : Int) : Option (List TV) :=
  bif decide (x8 < ((List.length x0 : Nat) : Int)) then
    bif (decide (0 ≤ x8) && decide (x8 < ((List.length x0 : Nat) : Int))) then
      bif (decide (0 ≤ x8) && decide (x8 < ((List.length x0 : Nat) : Int))) then
        (call is_l07Fine [tI x7]).bind fun o10 =>
        bif (decide (0 ≤ (wi64 ((mx (List.getD x0 (Int.toNat x8) 0) (wi64 (0 - (List.getD x0 (Int.toNat x8) 0)))) - 1))) && decide ((wi64 ((mx (List.getD x0 (Int.toNat x8) 0) (wi64 (0 - (List.getD x0 (Int.toNat x8) 0)))) - 1)) < 8)) then
          bif (decide (0 ≤ (mx (List.getD x0 (Int.toNat x8) 0) (wi64 (0 - (List.getD x0 (Int.toNat x8) 0))))) && decide ((mx (List.getD x0 (Int.toNat x8) 0) (wi64 (0 - (List.getD x0 (Int.toNat x8) 0)))) < 8)) then
            bif (decide (0 ≤ x8) && decide (x8 < ((List.length x0 : Nat) : Int))) then
              bif decide ((List.getD x0 (Int.toNat x8) 0) < 0) then
                (call is_l07Form_11 [tLI x0, tI x1, tI x2, tLA8 x3, tI x4, tI x5, tLA8 x6, tA8 (List.set (List.set (gA8 o10 0) (Int.toNat (wi64 ((mx (List.getD x0 (Int.toNat x8) 0) (wi64 (0 - (List.getD x0 (Int.toNat x8) 0)))) - 1))) (wu8 ((mx (List.getD x0 (Int.toNat x8) 0) (wi64 (0 - (List.getD x0 (Int.toNat x8) 0))))))) (Int.toNat (mx (List.getD x0 (Int.toNat x8) 0) (wi64 (0 - (List.getD x0 (Int.toNat x8) 0))))) (wu8 ((wi64 ((mx (List.getD x0 (Int.toNat x8) 0) (wi64 (0 - (List.getD x0 (Int.toNat x8) 0)))) - 1))))), tI x7, tI x8, tI 0]).bind fun o11 =>
                (call is_l07Whole [tI (gI o11 9)]).bind fun o12 =>
                (call is_l07Back [tA8 (gA8 o11 8), tI (gI o11 9)]).bind fun o13 =>
                (call is_l07Then [tA8 (gA8 o12 0), tA8 (gA8 o13 0), tI (gI o11 9)]).bind fun o14 =>
                (call is_l07Put [tPIPILA8 ((gI o11 5), ((wi64 ((gI o11 6) - 1)), (gLA8 o11 7))), tA8 (gA8 o14 0)]).bind fun o15 =>
                call is_l07Form_3 [tLI (gLI o11 1), tI (gI o11 2), tI (gI o11 3), tLA8 (gLA8 o11 4), tI ((gPIPILA8 o15 0).1), tI (((gPIPILA8 o15 0).2).1), tLA8 (((gPIPILA8 o15 0).2).2), tI (gI o11 9), tI (wi64 ((gI o11 10) + 1))]
              else
                (call is_l07Put [tPIPILA8 (x4, (x5, x6)), tA8 (List.set (List.set (gA8 o10 0) (Int.toNat (wi64 ((mx (List.getD x0 (Int.toNat x8) 0) (wi64 (0 - (List.getD x0 (Int.toNat x8) 0)))) - 1))) (wu8 ((mx (List.getD x0 (Int.toNat x8) 0) (wi64 (0 - (List.getD x0 (Int.toNat x8) 0))))))) (Int.toNat (mx (List.getD x0 (Int.toNat x8) 0) (wi64 (0 - (List.getD x0 (Int.toNat x8) 0))))) (wu8 ((wi64 ((mx (List.getD x0 (Int.toNat x8) 0) (wi64 (0 - (List.getD x0 (Int.toNat x8) 0)))) - 1)))))]).bind fun o16 =>
                call is_l07Form_3 [tLI x0, tI x1, tI x2, tLA8 x3, tI ((gPIPILA8 o16 0).1), tI (((gPIPILA8 o16 0).2).1), tLA8 (((gPIPILA8 o16 0).2).2), tI x7, tI (wi64 (x8 + 1))]
            else none
          else none
        else none
      else none
    else none
  else
    some [tI 0, tI x1, tI x2, tLA8 x3, tI x4, tI x5, tLA8 x6]
theorem es_l07Form_3 (call : Oracle) (x0 : List Int) (x1 : Int) (x2 : Int) (x3 : List (List Int)) (x4 : Int) (x5 : Int) (x6 : List (List Int)) (x7 : Int) (x8 : Int) : run1 E call is_l07Form_3 [tLI x0, tI x1, tI x2, tLA8 x3, tI x4, tI x5, tLA8 x6, tI x7, tI x8] = bs_l07Form_3 call x0 x1 x2 x3 x4 x5 x6 x7 x8 := by kernel_rfl
theorem vs_l07Form_3 (x0 : List Int) (x1 : Int) (x2 : Int) (x3 : List (List Int)) (x4 : Int) (x5 : Int) (x6 : List (List Int)) (x7 : Int) (x8 : Int) {o : List TV} (h : bs_l07Form_3 R x0 x1 x2 x3 x4 x5 x6 x7 x8 = some o) : R is_l07Form_3 [tLI x0, tI x1, tI x2, tLA8 x3, tI x4, tI x5, tLA8 x6, tI x7, tI x8] = some o := ev_step ((es_l07Form_3 R x0 x1 x2 x3 x4 x5 x6 x7 x8).trans h)
/-- spec.l07Form loop 11 -/
noncomputable def bs_l07Form_11 (call : Oracle) (x0 : List Int) (x1 : Int) (x2 : Int) (x3 : List (List Int)) (x4 : Int) (x5 : Int) (x6 : List (List Int)) (x7 : List Int) (x8 : Int) (x9 : Int) (x10 : Int) : Option (List TV) :=
  bif decide (x10 < ((List.length x6 : Nat) : Int)) then
    bif (decide (0 ≤ x10) && decide (x10 < ((List.length x6 : Nat) : Int))) then
      (call is_l07Turn [tA8 (List.getD x6 (Int.toNat x10) (List.replicate 8 0)), tI x8, tI (-1)]).bind fun o3 =>
      bif (decide (0 ≤ x10) && decide (x10 < ((List.length x6 : Nat) : Int))) then
        call is_l07Form_11 [tLI x0, tI x1, tI x2, tLA8 x3, tI x4, tI x5, tLA8 (List.set x6 (Int.toNat x10) (gA8 o3 0)), tA8 x7, tI x8, tI x9, tI (wi64 (x10 + 1))]
      else none
    else none
  else
    some [tI 0, tLI x0, tI x1, tI x2, tLA8 x3, tI x4, tI x5, tLA8 x6, tA8 x7, tI x8, tI x9]
theorem es_l07Form_11 (call : Oracle) (x0 : List Int) (x1 : Int) (x2 : Int) (x3 : List (List Int)) (x4 : Int) (x5 : Int) (x6 : List (List Int)) (x7 : List Int) (x8 : Int) (x9 : Int) (x10 : Int) : run1 E call is_l07Form_11 [tLI x0, tI x1, tI x2, tLA8 x3, tI x4, tI x5, tLA8 x6, tA8 x7, tI x8, tI x9, tI x10] = bs_l07Form_11 call x0 x1 x2 x3 x4 x5 x6 x7 x8 x9 x10 := by kernel_rfl
theorem vs_l07Form_11 (x0 : List Int) (x1 : Int) (x2 : Int) (x3 : List (List Int)) (x4 : Int) (x5 : Int) (x6 : List (List Int)) (x7 : List Int) (x8 : Int) (x9 : Int) (x10 : Int) {o : List TV} (h : bs_l07Form_11 R x0 x1 x2 x3 x4 x5 x6 x7 x8 x9 x10 = some o) : R is_l07Form_11 [tLI x0, tI x1, tI x2, tLA8 x3, tI x4, tI x5, tLA8 x6, tA8 x7, tI x8, tI x9, tI x10] = some o := ev_step ((es_l07Form_11 R x0 x1 x2 x3 x4 x5 x6 x7 x8 x9 x10).trans h)
/-- spec.l07Form -/
noncomputable def bs_l07Form (call : Oracle) (a0 : Int) (a1 : List Int) : Option (List TV) :=
  (call is_l07Form_3 [tLI a1, tI 0, tI 0, tLA8 [], tI a0, tI 0, tLA8 [], tI a0, tI 0]).bind fun o17 =>
  some [tPIPILA8 ((gI o17 4), ((gI o17 5), (gLA8 o17 6)))]
theorem es_l07Form (call : Oracle) (a0 : Int) (a1 : List Int) : run1 E call is_l07Form [tI a0, tLI a1] = bs_l07Form call a0 a1 := by kernel_rfl
theorem vs_l07Form (a0 : Int) (a1 : List Int) {o : List TV} (h : bs_l07Form R a0 a1 = some o) : R is_l07Form [tI a0, tLI a1] = some o := ev_step ((es_l07Form R a0 a1).trans h)
/-- spec.DualForm -/
noncomputable def bs_DualForm (call : Oracle) (a0 : Int × List Int) : Option (List TV) :=
  (call is_l01Is [tPILI (a0.1, a0.2)]).bind fun o1 =>
  bif (!(gB o1 0)) then
    some [tPIPILA8 (0, (0, [])), tI 1]
  else
    (call is_l07Form [tI a0.1, tLI a0.2]).bind fun o2 =>
    some [tPIPILA8 ((gPIPILA8 o2 0).1, (((gPIPILA8 o2 0).2).1, ((gPIPILA8 o2 0).2).2)), tI 0]
theorem es_DualForm (call : Oracle) (a0 : Int × List Int) : run1 E call is_DualForm [tPILI a0] = bs_DualForm call a0 := by kernel_rfl
theorem vs_DualForm (a0 : Int × List Int) {o : List TV} (h : bs_DualForm R a0 = some o) : R is_DualForm [tPILI a0] = some o := ev_step ((es_DualForm R a0).trans h)
/-- impl.isLetter -/
noncomputable def bi_isLetter (call : Oracle) (a0 : Int) (a1 : Int) : Option (List TV) :=
  bif (a0 != 0) then
    (call ii_within [tI a0, tI (wi64 (1 - a1)), tI (wi64 (a1 - 1))]).bind fun o1 =>
    some [tB (gB o1 0)]
  else
    some [tB false]
theorem ei_isLetter (call : Oracle) (a0 : Int) (a1 : Int) : run1 E call ii_isLetter [tI a0, tI a1] = bi_isLetter call a0 a1 := by kernel_rfl
theorem vi_isLetter (a0 : Int) (a1 : Int) {o : List TV} (h : bi_isLetter R a0 a1 = some o) : R ii_isLetter [tI a0, tI a1] = some o := ev_step ((ei_isLetter R a0 a1).trans h)
/-- impl.IsBraid loop 4 -/
noncomputable def bi_IsBraid_4 (call : Oracle) (x0 : Int) (x1 : List Int) (x2 : Int) (x3 : Int) : Option (List TV) :=
  bif decide (x3 < x2) then
    bif (decide (0 ≤ x3) && decide (x3 < ((List.length x1 : Nat) : Int))) then
      (call ii_isLetter [tI (List.getD x1 (Int.toNat x3) 0), tI x0]).bind fun o3 =>
      bif (!(gB o3 0)) then
        some [tI 1, tB false]
      else
        call ii_IsBraid_4 [tI x0, tLI x1, tI x2, tI (wi64 (x3 + 1))]
    else none
  else
    some [tI 0]
theorem ei_IsBraid_4 (call : Oracle) (x0 : Int) (x1 : List Int) (x2 : Int) (x3 : Int) : run1 E call ii_IsBraid_4 [tI x0, tLI x1, tI x2, tI x3] = bi_IsBraid_4 call x0 x1 x2 x3 := by kernel_rfl
theorem vi_IsBraid_4 (x0 : Int) (x1 : List Int) (x2 : Int) (x3 : Int) {o : List TV} (h : bi_IsBraid_4 R x0 x1 x2 x3 = some o) : R ii_IsBraid_4 [tI x0, tLI x1, tI x2, tI x3] = some o := ev_step ((ei_IsBraid_4 R x0 x1 x2 x3).trans h)
/-- impl.IsBraid -/
noncomputable def bi_IsBraid (call : Oracle) (a0 : Int × List Int) : Option (List TV) :=
  (call ii_isCount [tI a0.1]).bind fun o1 =>
  bif (!(gB o1 0)) then
    some [tB false]
  else
    bif decide (200 < ((List.length a0.2 : Nat) : Int)) then
      some [tB false]
    else
      (call ii_IsBraid_4 [tI a0.1, tLI a0.2, tI ((List.length a0.2 : Nat) : Int), tI 0]).bind fun o4 =>
      bif ((gI o4 0) == 0) then
        some [tB true]
      else
        some [tB (gB o4 1)]
theorem ei_IsBraid (call : Oracle) (a0 : Int × List Int) : run1 E call ii_IsBraid [tPILI a0] = bi_IsBraid call a0 := by kernel_rfl
theorem vi_IsBraid (a0 : Int × List Int) {o : List TV} (h : bi_IsBraid R a0 = some o) : R ii_IsBraid [tPILI a0] = some o := ev_step ((ei_IsBraid R a0).trans h)
/-- impl.size -/
noncomputable def bi_size (call : Oracle) (a0 : Int) : Option (List TV) :=
  some [tI (mx a0 (wi64 (0 - a0)))]
theorem ei_size (call : Oracle) (a0 : Int) : run1 E call ii_size [tI a0] = bi_size call a0 := by kernel_rfl
theorem vi_size (a0 : Int) {o : List TV} (h : bi_size R a0 = some o) : R ii_size [tI a0] = some o := ev_step ((ei_size R a0).trans h)
/-- impl.exchange -/
noncomputable def bi_exchange (call : Oracle) (a0 : Int) (a1 : Int) : Option (List TV) :=
  (call ii_nothing [tI a1]).bind fun o1 =>
  bif (decide (0 ≤ a0) && decide (a0 < 8)) then
    bif (decide (0 ≤ (wi64 (a0 - 1))) && decide ((wi64 (a0 - 1)) < 8)) then
      bif (decide (0 ≤ (wi64 (a0 - 1))) && decide ((wi64 (a0 - 1)) < 8)) then
        bif (decide (0 ≤ a0) && decide (a0 < 8)) then
          some [tA8 (List.set (List.set (gA8 o1 0) (Int.toNat (wi64 (a0 - 1))) (List.getD (gA8 o1 0) (Int.toNat a0) 0)) (Int.toNat a0) (List.getD (gA8 o1 0) (Int.toNat (wi64 (a0 - 1))) 0))]
        else none
      else none
    else none
  else none
theorem ei_exchange (call : Oracle) (a0 : Int) (a1 : Int) : run1 E call ii_exchange [tI a0, tI a1] = bi_exchange call a0 a1 := by kernel_rfl
theorem vi_exchange (a0 : Int) (a1 : Int) {o : List TV} (h : bi_exchange R a0 a1 = some o) : R ii_exchange [tI a0, tI a1] = some o := ev_step ((ei_exchange R a0 a1).trans h)
/-- (*impl.Dual).put loop 5 -/
noncomputable def b__i_Dual__put_5 (call : Oracle) (x0 : Int) (x1 : Int) (x2 : List (List Int)) (x3 : Int) (x4 : Int) : Option (List TV) :=
  bif decide (0 < x4) then
    bif (decide (0 ≤ (wi64 (x4 - 1))) && decide ((wi64 (x4 - 1)) < ((List.length x2 : Nat) : Int))) then
      (call ii_complementPart [tA8 (List.getD x2 (Int.toNat (wi64 (x4 - 1))) (List.replicate 8 0)), tI x3]).bind fun o8 =>
      bif (decide (0 ≤ x4) && decide (x4 < ((List.length x2 : Nat) : Int))) then
        (call ii_meetParts [tA8 (gA8 o8 0), tA8 (List.getD x2 (Int.toNat x4) (List.replicate 8 0)), tI x3]).bind fun o9 =>
        (call ii_finePart [tI x3]).bind fun o10 =>
        bif ((gA8 o9 0) == (gA8 o10 0)) then
          some [tI 0, tI x0, tI x1, tLA8 x2, tI x3]
        else
          bif (decide (0 ≤ (wi64 (x4 - 1))) && decide ((wi64 (x4 - 1)) < ((List.length x2 : Nat) : Int))) then
            (call ii_thenPart [tA8 (List.getD x2 (Int.toNat (wi64 (x4 - 1))) (List.replicate 8 0)), tA8 (gA8 o9 0), tI x3]).bind fun o11 =>
            bif (decide (0 ≤ (wi64 (x4 - 1))) && decide ((wi64 (x4 - 1)) < ((List.length x2 : Nat) : Int))) then
              (call ii_backPart [tA8 (gA8 o9 0), tI x3]).bind fun o12 =>
              bif (decide (0 ≤ x4) && decide (x4 < ((List.length (List.set x2 (Int.toNat (wi64 (x4 - 1))) (gA8 o11 0)) : Nat) : Int))) then
                (call ii_thenPart [tA8 (gA8 o12 0), tA8 (List.getD (List.set x2 (Int.toNat (wi64 (x4 - 1))) (gA8 o11 0)) (Int.toNat x4) (List.replicate 8 0)), tI x3]).bind fun o13 =>
                bif (decide (0 ≤ x4) && decide (x4 < ((List.length (List.set x2 (Int.toNat (wi64 (x4 - 1))) (gA8 o11 0)) : Nat) : Int))) then
                  call i__i_Dual__put_5 [tI x0, tI x1, tLA8 (List.set (List.set x2 (Int.toNat (wi64 (x4 - 1))) (gA8 o11 0)) (Int.toNat x4) (gA8 o13 0)), tI x3, tI (wi64 (x4 - 1))]
                else none
              else none
            else none
          else none
      else none
    else none
  else
    some [tI 0, tI x0, tI x1, tLA8 x2, tI x3]
theorem e__i_Dual__put_5 (call : Oracle) (x0 : Int) (x1 : Int) (x2 : List (List Int)) (x3 : Int) (x4 : Int) : run1 E call i__i_Dual__put_5 [tI x0, tI x1, tLA8 x2, tI x3, tI x4] = b__i_Dual__put_5 call x0 x1 x2 x3 x4 := by kernel_rfl
theorem v__i_Dual__put_5 (x0 : Int) (x1 : Int) (x2 : List (List Int)) (x3 : Int) (x4 : Int) {o : List TV} (h : b__i_Dual__put_5 R x0 x1 x2 x3 x4 = some o) : R i__i_Dual__put_5 [tI x0, tI x1, tLA8 x2, tI x3, tI x4] = some o := ev_step ((e__i_Dual__put_5 R x0 x1 x2 x3 x4).trans h)
/-- (*impl.Dual).put loop 11 -/
noncomputable def b__i_Dual__put_11 (call : Oracle) (x0 : Int) (x1 : Int) (x2 : List (List Int)) (x3 : Int) : Option (List TV) :=
  bif decide (0 < ((List.length x2 : Nat) : Int)) then
    bif decide (0 < ((List.length x2 : Nat) : Int)) then
      (call ii_wholePart [tI x3]).bind fun o16 =>
      bif ((List.getD x2 0 (List.replicate 8 0)) == (gA8 o16 0)) then
        bif decide (1 ≤ ((List.length x2 : Nat) : Int)) then
          call i__i_Dual__put_11 [tI x0, tI (wi64 (x1 + 1)), tLA8 (List.drop 1 x2), tI x3]
        else none
      else
        some [tI 0, tI x0, tI x1, tLA8 x2, tI x3]
    else none
  else
    some [tI 0, tI x0, tI x1, tLA8 x2, tI x3]
theorem e__i_Dual__put_11 (call : Oracle) (x0 : Int) (x1 : Int) (x2 : List (List Int)) (x3 : Int) : run1 E call i__i_Dual__put_11 [tI x0, tI x1, tLA8 x2, tI x3] = b__i_Dual__put_11 call x0 x1 x2 x3 := by kernel_rfl
theorem v__i_Dual__put_11 (x0 : Int) (x1 : Int) (x2 : List (List Int)) (x3 : Int) {o : List TV} (h : b__i_Dual__put_11 R x0 x1 x2 x3 = some o) : R i__i_Dual__put_11 [tI x0, tI x1, tLA8 x2, tI x3] = some o := ev_step ((e__i_Dual__put_11 R x0 x1 x2 x3).trans h)
/-- (*impl.Dual).put loop 14 -/
noncomputable def b__i_Dual__put_14 (call : Oracle) (x0 : Int) (x1 : Int) (x2 : List (List Int)) (x3 : Int) : Option (List TV) :=
  bif decide (0 < ((List.length x2 : Nat) : Int)) then
    bif (decide (0 ≤ (wi64 (((List.length x2 : Nat) : Int) - 1))) && decide ((wi64 (((List.length x2 : Nat) : Int) - 1)) < ((List.length x2 : Nat) : Int))) then
      (call ii_finePart [tI x3]).bind fun o19 =>
      bif ((List.getD x2 (Int.toNat (wi64 (((List.length x2 : Nat) : Int) - 1))) (List.replicate 8 0)) == (gA8 o19 0)) then
        bif (decide (0 ≤ (wi64 (((List.length x2 : Nat) : Int) - 1))) && decide ((wi64 (((List.length x2 : Nat) : Int) - 1)) ≤ ((List.length x2 : Nat) : Int))) then
          call i__i_Dual__put_14 [tI x0, tI x1, tLA8 (List.take (Int.toNat (wi64 (((List.length x2 : Nat) : Int) - 1))) x2), tI x3]
        else none
      else
        some [tI 0, tI x0, tI x1, tLA8 x2]
    else none
  else
    some [tI 0, tI x0, tI x1, tLA8 x2]
theorem e__i_Dual__put_14 (call : Oracle) (x0 : Int) (x1 : Int) (x2 : List (List Int)) (x3 : Int) : run1 E call i__i_Dual__put_14 [tI x0, tI x1, tLA8 x2, tI x3] = b__i_Dual__put_14 call x0 x1 x2 x3 := by kernel_rfl
theorem v__i_Dual__put_14 (x0 : Int) (x1 : Int) (x2 : List (List Int)) (x3 : Int) {o : List TV} (h : b__i_Dual__put_14 R x0 x1 x2 x3 = some o) : R i__i_Dual__put_14 [tI x0, tI x1, tLA8 x2, tI x3] = some o := ev_step ((e__i_Dual__put_14 R x0 x1 x2 x3).trans h)
/-- (*impl.Dual).put -/
noncomputable def b__i_Dual__put (call : Oracle) (a0 : Int × Int × List (List Int)) (a1 : List Int) : Option (List TV) :=
  (call ii_finePart [tI a0.1]).bind fun o1 =>
  bif (a1 == (gA8 o1 0)) then
    some [tPIPILA8 (a0.1, (a0.2.1, a0.2.2))]
  else
    bif (apOk a0.2.2 [a1]) then
      (call i__i_Dual__put_5 [tI a0.1, tI a0.2.1, tLA8 (a0.2.2 ++ [a1]), tI a0.1, tI (wi64 (((List.length (a0.2.2 ++ [a1]) : Nat) : Int) - 1))]).bind fun o14 =>
      (call i__i_Dual__put_11 [tI (gI o14 1), tI (gI o14 2), tLA8 (gLA8 o14 3), tI (gI o14 4)]).bind fun o17 =>
      (call i__i_Dual__put_14 [tI (gI o17 1), tI (gI o17 2), tLA8 (gLA8 o17 3), tI (gI o17 4)]).bind fun o20 =>
      some [tPIPILA8 ((gI o20 1), ((gI o20 2), (gLA8 o20 3)))]
    else none
theorem e__i_Dual__put (call : Oracle) (a0 : Int × Int × List (List Int)) (a1 : List Int) : run1 E call i__i_Dual__put [tPIPILA8 a0, tA8 a1] = b__i_Dual__put call a0 a1 := by kernel_rfl
theorem v__i_Dual__put (a0 : Int × Int × List (List Int)) (a1 : List Int) {o : List TV} (h : b__i_Dual__put R a0 a1 = some o) : R i__i_Dual__put [tPIPILA8 a0, tA8 a1] = some o := ev_step ((e__i_Dual__put R a0 a1).trans h)
/-- (*impl.Dual).putInverse loop 4 -/
noncomputable def b__i_Dual__putInverse_4 (call : Oracle) (x0 : Int) (x1 : Int) (x2 : List (List Int)) (x3 : List Int) (x4 : Int) (x5 : Int) (x6 : Int) : Option (List TV) :=
  bif decide (x6 < x5) then
    bif (decide (0 ≤ x6) && decide (x6 < ((List.length x2 : Nat) : Int))) then
      (call ii_turnPart [tA8 (List.getD x2 (Int.toNat x6) (List.replicate 8 0)), tI x4, tI (-1)]).bind fun o2 =>
      bif (decide (0 ≤ x6) && decide (x6 < ((List.length x2 : Nat) : Int))) then
        call i__i_Dual__putInverse_4 [tI x0, tI x1, tLA8 (List.set x2 (Int.toNat x6) (gA8 o2 0)), tA8 x3, tI x4, tI x5, tI (wi64 (x6 + 1))]
      else none
    else none
  else
    some [tI 0, tI x0, tI x1, tLA8 x2, tA8 x3, tI x4]
theorem e__i_Dual__putInverse_4 (call : Oracle) (x0 : Int) (x1 : Int) (x2 : List (List Int)) (x3 : List Int) (x4 : Int) (x5 : Int) (x6 : Int) : run1 E call i__i_Dual__putInverse_4 [tI x0, tI x1, tLA8 x2, tA8 x3, tI x4, tI x5, tI x6] = b__i_Dual__putInverse_4 call x0 x1 x2 x3 x4 x5 x6 := by kernel_rfl
theorem v__i_Dual__putInverse_4 (x0 : Int) (x1 : Int) (x2 : List (List Int)) (x3 : List Int) (x4 : Int) (x5 : Int) (x6 : Int) {o : List TV} (h : b__i_Dual__putInverse_4 R x0 x1 x2 x3 x4 x5 x6 = some o) : R i__i_Dual__putInverse_4 [tI x0, tI x1, tLA8 x2, tA8 x3, tI x4, tI x5, tI x6] = some o := ev_step ((e__i_Dual__putInverse_4 R x0 x1 x2 x3 x4 x5 x6).trans h)
/-- (*impl.Dual).putInverse -/
noncomputable def b__i_Dual__putInverse (call : Oracle) (a0 : Int × Int × List (List Int)) (a1 : List Int) : Option (List TV) :=
  (call i__i_Dual__putInverse_4 [tI a0.1, tI (wi64 (a0.2.1 - 1)), tLA8 a0.2.2, tA8 a1, tI a0.1, tI ((List.length a0.2.2 : Nat) : Int), tI 0]).bind fun o3 =>
  (call ii_wholePart [tI (gI o3 5)]).bind fun o4 =>
  (call ii_backPart [tA8 (gA8 o3 4), tI (gI o3 5)]).bind fun o5 =>
  (call ii_thenPart [tA8 (gA8 o4 0), tA8 (gA8 o5 0), tI (gI o3 5)]).bind fun o6 =>
  (call i__i_Dual__put [tPIPILA8 ((gI o3 1), ((gI o3 2), (gLA8 o3 3))), tA8 (gA8 o6 0)]).bind fun o7 =>
  some [tPIPILA8 ((gPIPILA8 o7 0).1, (((gPIPILA8 o7 0).2).1, ((gPIPILA8 o7 0).2).2))]
theorem e__i_Dual__putInverse (call : Oracle) (a0 : Int × Int × List (List Int)) (a1 : List Int) : run1 E call i__i_Dual__putInverse [tPIPILA8 a0, tA8 a1] = b__i_Dual__putInverse call a0 a1 := by kernel_rfl
theorem v__i_Dual__putInverse (a0 : Int × Int × List (List Int)) (a1 : List Int) {o : List TV} (h : b__i_Dual__putInverse R a0 a1 = some o) : R i__i_Dual__putInverse [tPIPILA8 a0, tA8 a1] = some o := ev_step ((e__i_Dual__putInverse R a0 a1).trans h)
/-- impl.dualOf loop 3 -/
noncomputable def bi_dualOf_3 (call : Oracle) (x0 : Int) (x1 : List Int) (x2 : Int) (x3 : Int) (x4 : List (List Int)) (x5 : Int) (x6 : Int) (x7 : List (List Int)) (x8 : Int) (x9 : Int) : Option (List TV) :=
  bif decide (x9 < x8) then
    bif (decide (0 ≤ x9) && decide (x9 < ((List.length x1 : Nat) : Int))) then
      (call ii_size [tI (List.getD x1 (Int.toNat x9) 0)]).bind fun o5 =>
      (call ii_exchange [tI (gI o5 0), tI x0]).bind fun o6 =>
      bif decide (0 < (List.getD x1 (Int.toNat x9) 0)) then
        (call i__i_Dual__put [tPIPILA8 (x5, (x6, x7)), tA8 (gA8 o6 0)]).bind fun o7 =>
        call ii_dualOf_3 [tI x0, tLI x1, tI x2, tI x3, tLA8 x4, tI ((gPIPILA8 o7 0).1), tI (((gPIPILA8 o7 0).2).1), tLA8 (((gPIPILA8 o7 0).2).2), tI x8, tI (wi64 (x9 + 1))]
      else
        (call i__i_Dual__putInverse [tPIPILA8 (x5, (x6, x7)), tA8 (gA8 o6 0)]).bind fun o8 =>
        call ii_dualOf_3 [tI x0, tLI x1, tI x2, tI x3, tLA8 x4, tI ((gPIPILA8 o8 0).1), tI (((gPIPILA8 o8 0).2).1), tLA8 (((gPIPILA8 o8 0).2).2), tI x8, tI (wi64 (x9 + 1))]
    else none
  else
    some [tI 0, tI x2, tI x3, tLA8 x4, tI x5, tI x6, tLA8 x7]
theorem ei_dualOf_3 (call : Oracle) (x0 : Int) (x1 : List Int) (x2 : Int) (x3 : Int) (x4 : List (List Int)) (x5 : Int) (x6 : Int) (x7 : List (List Int)) (x8 : Int) (x9 : Int) : run1 E call ii_dualOf_3 [tI x0, tLI x1, tI x2, tI x3, tLA8 x4, tI x5, tI x6, tLA8 x7, tI x8, tI x9] = bi_dualOf_3 call x0 x1 x2 x3 x4 x5 x6 x7 x8 x9 := by kernel_rfl
theorem vi_dualOf_3 (x0 : Int) (x1 : List Int) (x2 : Int) (x3 : Int) (x4 : List (List Int)) (x5 : Int) (x6 : Int) (x7 : List (List Int)) (x8 : Int) (x9 : Int) {o : List TV} (h : bi_dualOf_3 R x0 x1 x2 x3 x4 x5 x6 x7 x8 x9 = some o) : R ii_dualOf_3 [tI x0, tLI x1, tI x2, tI x3, tLA8 x4, tI x5, tI x6, tLA8 x7, tI x8, tI x9] = some o := ev_step ((ei_dualOf_3 R x0 x1 x2 x3 x4 x5 x6 x7 x8 x9).trans h)
/-- impl.dualOf -/
noncomputable def bi_dualOf (call : Oracle) (a0 : Int × List Int) : Option (List TV) :=
  (call ii_dualOf_3 [tI a0.1, tLI a0.2, tI 0, tI 0, tLA8 [], tI a0.1, tI 0, tLA8 [], tI ((List.length a0.2 : Nat) : Int), tI 0]).bind fun o9 =>
  some [tPIPILA8 ((gI o9 4), ((gI o9 5), (gLA8 o9 6)))]
theorem ei_dualOf (call : Oracle) (a0 : Int × List Int) : run1 E call ii_dualOf [tPILI a0] = bi_dualOf call a0 := by kernel_rfl
theorem vi_dualOf (a0 : Int × List Int) {o : List TV} (h : bi_dualOf R a0 = some o) : R ii_dualOf [tPILI a0] = some o := ev_step ((ei_dualOf R a0).trans h)
/-- impl.DualForm -/
noncomputable def bi_DualForm (call : Oracle) (a0 : Int × List Int) : Option (List TV) :=
  (call ii_IsBraid [tPILI (a0.1, a0.2)]).bind fun o1 =>
  bif (!(gB o1 0)) then
    some [tPIPILA8 (0, (0, [])), tI 1]
  else
    (call ii_dualOf [tPILI (a0.1, a0.2)]).bind fun o2 =>
    some [tPIPILA8 ((gPIPILA8 o2 0).1, (((gPIPILA8 o2 0).2).1, ((gPIPILA8 o2 0).2).2)), tI 0]
theorem ei_DualForm (call : Oracle) (a0 : Int × List Int) : run1 E call ii_DualForm [tPILI a0] = bi_DualForm call a0 := by kernel_rfl
theorem vi_DualForm (a0 : Int × List Int) {o : List TV} (h : bi_DualForm R a0 = some o) : R ii_DualForm [tPILI a0] = some o := ev_step ((ei_DualForm R a0).trans h)
/-- laws.markPartS loop 2 -/
noncomputable def bw_markPartS_2 (call : Oracle) (x0 : List (List Int)) (x1 : Int) (x2 : Int) : Option (List TV) :=
  bif decide (x2 < ((List.length x0 : Nat) : Int)) then
    (call iw_markPartS_5 [tLA8 x0, tI x1, tI x2, tI 0]).bind fun o2 =>
    call iw_markPartS_2 [tLA8 (gLA8 o2 1), tI (gI o2 2), tI (wi64 ((gI o2 3) + 1))]
  else
    some [tI 0, tLA8 x0, tI x1]
theorem ew_markPartS_2 (call : Oracle) (x0 : List (List Int)) (x1 : Int) (x2 : Int) : run1 E call iw_markPartS_2 [tLA8 x0, tI x1, tI x2] = bw_markPartS_2 call x0 x1 x2 := by kernel_rfl
theorem vw_markPartS_2 (x0 : List (List Int)) (x1 : Int) (x2 : Int) {o : List TV} (h : bw_markPartS_2 R x0 x1 x2 = some o) : R iw_markPartS_2 [tLA8 x0, tI x1, tI x2] = some o := ev_step ((ew_markPartS_2 R x0 x1 x2).trans h)
/-- laws.markPartS loop 5 -/
noncomputable def bw_markPartS_5 (call : Oracle) (x0 : List (List Int)) (x1 : Int) (x2 : Int) (x3 : Int) : Option (List TV) :=
  bif decide (x3 < 8) then
    bif (decide (0 ≤ x2) && decide (x2 < ((List.length x0 : Nat) : Int))) then
      bif (decide (0 ≤ x3) && decide (x3 < 8)) then
        call iw_markPartS_5 [tLA8 (List.set x0 (Int.toNat x2) (List.set (List.getD x0 (Int.toNat x2) []) (Int.toNat x3) (wu8 (x1)))), tI (wi64 (x1 + 1)), tI x2, tI (wi64 (x3 + 1))]
      else none
    else none
  else
    some [tI 0, tLA8 x0, tI x1, tI x2]
theorem ew_markPartS_5 (call : Oracle) (x0 : List (List Int)) (x1 : Int) (x2 : Int) (x3 : Int) : run1 E call iw_markPartS_5 [tLA8 x0, tI x1, tI x2, tI x3] = bw_markPartS_5 call x0 x1 x2 x3 := by kernel_rfl
theorem vw_markPartS_5 (x0 : List (List Int)) (x1 : Int) (x2 : Int) (x3 : Int) {o : List TV} (h : bw_markPartS_5 R x0 x1 x2 x3 = some o) : R iw_markPartS_5 [tLA8 x0, tI x1, tI x2, tI x3] = some o := ev_step ((ew_markPartS_5 R x0 x1 x2 x3).trans h)
/-- laws.markPartS -/
noncomputable def bw_markPartS (call : Oracle) (a0 : List (List Int)) (a1 : Int) : Option (List TV) :=
  (call iw_markPartS_2 [tLA8 a0, tI a1, tI 0]).bind fun o3 =>
  some [tI (gI o3 2), tLA8 (gLA8 o3 1)]
theorem ew_markPartS (call : Oracle) (a0 : List (List Int)) (a1 : Int) : run1 E call iw_markPartS [tLA8 a0, tI a1] = bw_markPartS call a0 a1 := by kernel_rfl
theorem vw_markPartS (a0 : List (List Int)) (a1 : Int) {o : List TV} (h : bw_markPartS R a0 a1 = some o) : R iw_markPartS [tLA8 a0, tI a1] = some o := ev_step ((ew_markPartS R a0 a1).trans h)
/-- laws.markDual -/
noncomputable def bw_markDual (call : Oracle) (a0 : Int × Int × List (List Int)) (a1 : Int) : Option (List TV) :=
  (call iw_markPartS [tLA8 a0.2.2, tI a1]).bind fun o1 =>
  some [tI (gI o1 0), tPIPILA8 (a0.1, (a0.2.1, (gLA8 o1 1)))]
theorem ew_markDual (call : Oracle) (a0 : Int × Int × List (List Int)) (a1 : Int) : run1 E call iw_markDual [tPIPILA8 a0, tI a1] = bw_markDual call a0 a1 := by kernel_rfl
theorem vw_markDual (a0 : Int × Int × List (List Int)) (a1 : Int) {o : List TV} (h : bw_markDual R a0 a1 = some o) : R iw_markDual [tPIPILA8 a0, tI a1] = some o := ev_step ((ew_markDual R a0 a1).trans h)
/-- laws.heldPartS loop 2 -/
noncomputable def bw_heldPartS_2 (call : Oracle) (x0 : List (List Int)) (x1 : Int) (x2 : Int) : Option (List TV) :=
  bif decide (x2 < ((List.length x0 : Nat) : Int)) then
    (call iw_heldPartS_5 [tLA8 x0, tI x1, tI x2, tI 0]).bind fun o2 =>
    bif ((gI o2 0) == 0) then
      call iw_heldPartS_2 [tLA8 (gLA8 o2 1), tI (gI o2 2), tI (wi64 ((gI o2 3) + 1))]
    else
      some [tI 1, tI (gI o2 1)]
  else
    some [tI 0, tI x1]
theorem ew_heldPartS_2 (call : Oracle) (x0 : List (List Int)) (x1 : Int) (x2 : Int) : run1 E call iw_heldPartS_2 [tLA8 x0, tI x1, tI x2] = bw_heldPartS_2 call x0 x1 x2 := by kernel_rfl
theorem vw_heldPartS_2 (x0 : List (List Int)) (x1 : Int) (x2 : Int) {o : List TV} (h : bw_heldPartS_2 R x0 x1 x2 = some o) : R iw_heldPartS_2 [tLA8 x0, tI x1, tI x2] = some o := ev_step ((ew_heldPartS_2 R x0 x1 x2).trans h)
/-- laws.heldPartS loop 5 -/
noncomputable def bw_heldPartS_5 (call : Oracle) (x0 : List (List Int)) (x1 : Int) (x2 : Int) (x3 : Int) : Option (List TV) :=
  bif decide (x3 < 8) then
    bif (decide (0 ≤ x2) && decide (x2 < ((List.length x0 : Nat) : Int))) then
      bif (decide (0 ≤ x3) && decide (x3 < 8)) then
        bif ((List.getD (List.getD x0 (Int.toNat x2) []) (Int.toNat x3) 0) != (wu8 (x1))) then
          some [tI 1, tI (-1)]
        else
          call iw_heldPartS_5 [tLA8 x0, tI (wi64 (x1 + 1)), tI x2, tI (wi64 (x3 + 1))]
      else none
    else none
  else
    some [tI 0, tLA8 x0, tI x1, tI x2]
theorem ew_heldPartS_5 (call : Oracle) (x0 : List (List Int)) (x1 : Int) (x2 : Int) (x3 : Int) : run1 E call iw_heldPartS_5 [tLA8 x0, tI x1, tI x2, tI x3] = bw_heldPartS_5 call x0 x1 x2 x3 := by kernel_rfl
theorem vw_heldPartS_5 (x0 : List (List Int)) (x1 : Int) (x2 : Int) (x3 : Int) {o : List TV} (h : bw_heldPartS_5 R x0 x1 x2 x3 = some o) : R iw_heldPartS_5 [tLA8 x0, tI x1, tI x2, tI x3] = some o := ev_step ((ew_heldPartS_5 R x0 x1 x2 x3).trans h)
/-- laws.heldPartS -/
noncomputable def bw_heldPartS (call : Oracle) (a0 : List (List Int)) (a1 : Int) : Option (List TV) :=
  (call iw_heldPartS_2 [tLA8 a0, tI a1, tI 0]).bind fun o3 =>
  bif ((gI o3 0) == 0) then
    some [tI (gI o3 1)]
  else
    some [tI (gI o3 1)]
theorem ew_heldPartS (call : Oracle) (a0 : List (List Int)) (a1 : Int) : run1 E call iw_heldPartS [tLA8 a0, tI a1] = bw_heldPartS call a0 a1 := by kernel_rfl
theorem vw_heldPartS (a0 : List (List Int)) (a1 : Int) {o : List TV} (h : bw_heldPartS R a0 a1 = some o) : R iw_heldPartS [tLA8 a0, tI a1] = some o := ev_step ((ew_heldPartS R a0 a1).trans h)
/-- laws.heldDual -/
noncomputable def bw_heldDual (call : Oracle) (a0 : Int × Int × List (List Int)) (a1 : Int) : Option (List TV) :=
  (call iw_heldPartS [tLA8 a0.2.2, tI a1]).bind fun o1 =>
  bif decide ((gI o1 0) < 0) then
    some [tI (-1)]
  else
    some [tI (gI o1 0)]
theorem ew_heldDual (call : Oracle) (a0 : Int × Int × List (List Int)) (a1 : Int) : run1 E call iw_heldDual [tPIPILA8 a0, tI a1] = bw_heldDual call a0 a1 := by kernel_rfl
theorem vw_heldDual (a0 : Int × Int × List (List Int)) (a1 : Int) {o : List TV} (h : bw_heldDual R a0 a1 = some o) : R iw_heldDual [tPIPILA8 a0, tI a1] = some o := ev_step ((ew_heldDual R a0 a1).trans h)
/-- laws.FnExactDualForm -/
noncomputable def bw_FnExactDualForm (call : Oracle) (a0 : Int × List Int) : Option (List TV) :=
  (call iw_szBraid [tPILI (a0.1, a0.2), tI 1048576]).bind fun o1 =>
  bif decide ((gI o1 0) < 0) then
    some [tB true]
  else
    (call iw_toBraid [tPILI (a0.1, a0.2)]).bind fun o2 =>
    (call is_DualForm [tPILI ((gPILI o2 0).1, (gPILI o2 0).2)]).bind fun o3 =>
    (call iw_toBraid [tPILI (a0.1, a0.2)]).bind fun o4 =>
    (call ii_DualForm [tPILI ((gPILI o4 0).1, (gPILI o4 0).2)]).bind fun o5 =>
    (call iw_eqDual [tPIPILA8 ((gPIPILA8 o5 0).1, (((gPIPILA8 o5 0).2).1, ((gPIPILA8 o5 0).2).2)), tPIPILA8 ((gPIPILA8 o3 0).1, (((gPIPILA8 o3 0).2).1, ((gPIPILA8 o3 0).2).2))]).bind fun o6 =>
    bif (!(gB o6 0)) then
      some [tB false]
    else
      bif ((gI o5 1) != (gI o3 1)) then
        some [tB false]
      else
        (call iw_toBraid [tPILI (a0.1, a0.2)]).bind fun o7 =>
        (call iw_eqBraid [tPILI ((gPILI o4 0).1, (gPILI o4 0).2), tPILI ((gPILI o7 0).1, (gPILI o7 0).2)]).bind fun o8 =>
        bif (!(gB o8 0)) then
          some [tB false]
        else
          (call iw_markBraid [tPILI ((gPILI o4 0).1, (gPILI o4 0).2), tI 1]).bind fun o9 =>
          bif decide ((gI o9 0) < 0) then
            some [tB false]
          else
            (call iw_eqDual [tPIPILA8 ((gPIPILA8 o5 0).1, (((gPIPILA8 o5 0).2).1, ((gPIPILA8 o5 0).2).2)), tPIPILA8 ((gPIPILA8 o3 0).1, (((gPIPILA8 o3 0).2).1, ((gPIPILA8 o3 0).2).2))]).bind fun o10 =>
            bif (!(gB o10 0)) then
              some [tB false]
            else
              bif ((gI o5 1) != (gI o3 1)) then
                some [tB false]
              else
                (call iw_markDual [tPIPILA8 ((gPIPILA8 o5 0).1, (((gPIPILA8 o5 0).2).1, ((gPIPILA8 o5 0).2).2)), tI 1]).bind fun o11 =>
                (call iw_heldDual [tPIPILA8 ((gPIPILA8 o5 0).1, (((gPIPILA8 o5 0).2).1, ((gPIPILA8 o11 1).2).2)), tI 1]).bind fun o12 =>
                bif decide ((gI o12 0) < 0) then
                  some [tB false]
                else
                  bif ((gI o12 0) != (gI o11 0)) then
                    some [tB false]
                  else
                    (call iw_toBraid [tPILI (a0.1, a0.2)]).bind fun o13 =>
                    (call ii_DualForm [tPILI ((gPILI o13 0).1, (gPILI o13 0).2)]).bind fun o14 =>
                    (call iw_eqDual [tPIPILA8 ((gPIPILA8 o14 0).1, (((gPIPILA8 o14 0).2).1, ((gPIPILA8 o14 0).2).2)), tPIPILA8 ((gPIPILA8 o3 0).1, (((gPIPILA8 o3 0).2).1, ((gPIPILA8 o3 0).2).2))]).bind fun o15 =>
                    bif (!(gB o15 0)) then
                      some [tB false]
                    else
                      bif ((gI o14 1) != (gI o3 1)) then
                        some [tB false]
                      else
                        (call iw_heldDual [tPIPILA8 ((gPIPILA8 o5 0).1, (((gPIPILA8 o5 0).2).1, ((gPIPILA8 o11 1).2).2)), tI 1]).bind fun o16 =>
                        bif decide ((gI o16 0) < 0) then
                          some [tB false]
                        else
                          bif ((gI o16 0) != (gI o11 0)) then
                            some [tB false]
                          else
                            some [tB true]
theorem ew_FnExactDualForm (call : Oracle) (a0 : Int × List Int) : run1 E call iw_FnExactDualForm [tPILI a0] = bw_FnExactDualForm call a0 := by kernel_rfl
theorem vw_FnExactDualForm (a0 : Int × List Int) {o : List TV} (h : bw_FnExactDualForm R a0 = some o) : R iw_FnExactDualForm [tPILI a0] = some o := ev_step ((ew_FnExactDualForm R a0).trans h)
/-- spec.l07Same loop 4 -/
noncomputable def bs_l07Same_4 (call : Oracle) (x0 : Int) (x1 : Int) (x2 : List (List Int)) (x3 : Int) (x4 : Int) (x5 : List (List Int)) (x6 : Int) : Option (List TV) :=
  bif decide (x6 < ((List.length x2 : Nat) : Int)) then
    bif (decide (0 ≤ x6) && decide (x6 < ((List.length x2 : Nat) : Int))) then
      bif (decide (0 ≤ x6) && decide (x6 < ((List.length x5 : Nat) : Int))) then
        bif ((List.getD x2 (Int.toNat x6) (List.replicate 8 0)) != (List.getD x5 (Int.toNat x6) (List.replicate 8 0))) then
          some [tI 1, tB false]
        else
          call is_l07Same_4 [tI x0, tI x1, tLA8 x2, tI x3, tI x4, tLA8 x5, tI (wi64 (x6 + 1))]
      else none
    else none
  else
    some [tI 0]
theorem es_l07Same_4 (call : Oracle) (x0 : Int) (x1 : Int) (x2 : List (List Int)) (x3 : Int) (x4 : Int) (x5 : List (List Int)) (x6 : Int) : run1 E call is_l07Same_4 [tI x0, tI x1, tLA8 x2, tI x3, tI x4, tLA8 x5, tI x6] = bs_l07Same_4 call x0 x1 x2 x3 x4 x5 x6 := by kernel_rfl
theorem vs_l07Same_4 (x0 : Int) (x1 : Int) (x2 : List (List Int)) (x3 : Int) (x4 : Int) (x5 : List (List Int)) (x6 : Int) {o : List TV} (h : bs_l07Same_4 R x0 x1 x2 x3 x4 x5 x6 = some o) : R is_l07Same_4 [tI x0, tI x1, tLA8 x2, tI x3, tI x4, tLA8 x5, tI x6] = some o := ev_step ((es_l07Same_4 R x0 x1 x2 x3 x4 x5 x6).trans h)
/-- spec.l07Same -/
noncomputable def bs_l07Same (call : Oracle) (a0 : Int × Int × List (List Int)) (a1 : Int × Int × List (List Int)) : Option (List TV) :=
  bif (a0.1 != a1.1) then
    some [tB false]
  else
    bif (a0.2.1 != a1.2.1) then
      some [tB false]
    else
      bif (((List.length a0.2.2 : Nat) : Int) != ((List.length a1.2.2 : Nat) : Int)) then
        some [tB false]
      else
        (call is_l07Same_4 [tI a0.1, tI a0.2.1, tLA8 a0.2.2, tI a1.1, tI a1.2.1, tLA8 a1.2.2, tI 0]).bind fun o1 =>
        bif ((gI o1 0) == 0) then
          some [tB true]
        else
          some [tB (gB o1 1)]
theorem es_l07Same (call : Oracle) (a0 : Int × Int × List (List Int)) (a1 : Int × Int × List (List Int)) : run1 E call is_l07Same [tPIPILA8 a0, tPIPILA8 a1] = bs_l07Same call a0 a1 := by kernel_rfl
theorem vs_l07Same (a0 : Int × Int × List (List Int)) (a1 : Int × Int × List (List Int)) {o : List TV} (h : bs_l07Same R a0 a1 = some o) : R is_l07Same [tPIPILA8 a0, tPIPILA8 a1] = some o := ev_step ((es_l07Same R a0 a1).trans h)
/-- spec.EqualByBands -/
noncomputable def bs_EqualByBands (call : Oracle) (a0 : Int × List Int) (a1 : Int × List Int) : Option (List TV) :=
  (call is_l01Is [tPILI (a0.1, a0.2)]).bind fun o1 =>
  bif (!(gB o1 0)) then
    some [tB false, tI 1]
  else
    (call is_l01Is [tPILI (a1.1, a1.2)]).bind fun o2 =>
    bif (!(gB o2 0)) then
      some [tB false, tI 1]
    else
      bif (a0.1 != a1.1) then
        some [tB false, tI 2]
      else
        (call is_l07Form [tI a0.1, tLI a0.2]).bind fun o3 =>
        (call is_l07Form [tI a1.1, tLI a1.2]).bind fun o4 =>
        (call is_l07Same [tPIPILA8 ((gPIPILA8 o3 0).1, (((gPIPILA8 o3 0).2).1, ((gPIPILA8 o3 0).2).2)), tPIPILA8 ((gPIPILA8 o4 0).1, (((gPIPILA8 o4 0).2).1, ((gPIPILA8 o4 0).2).2))]).bind fun o5 =>
        some [tB (gB o5 0), tI 0]
theorem es_EqualByBands (call : Oracle) (a0 : Int × List Int) (a1 : Int × List Int) : run1 E call is_EqualByBands [tPILI a0, tPILI a1] = bs_EqualByBands call a0 a1 := by kernel_rfl
theorem vs_EqualByBands (a0 : Int × List Int) (a1 : Int × List Int) {o : List TV} (h : bs_EqualByBands R a0 a1 = some o) : R is_EqualByBands [tPILI a0, tPILI a1] = some o := ev_step ((es_EqualByBands R a0 a1).trans h)
/-- slices.Equal[[]impl.Part,impl.Part] loop 4 -/
noncomputable def bg_Equal___i_Part_i_Part__4 (call : Oracle) (x0 : List (List Int)) (x1 : List (List Int)) (x2 : Int) (x3 : Int) : Option (List TV) :=
  bif decide (x3 < x2) then
    bif (decide (0 ≤ x3) && decide (x3 < ((List.length x0 : Nat) : Int))) then
      bif (decide (0 ≤ x3) && decide (x3 < ((List.length x1 : Nat) : Int))) then
        bif ((List.getD x0 (Int.toNat x3) (List.replicate 8 0)) != (List.getD x1 (Int.toNat x3) (List.replicate 8 0))) then
          some [tI 1, tB false]
        else
          call ig_Equal___i_Part_i_Part__4 [tLA8 x0, tLA8 x1, tI x2, tI (wi64 (x3 + 1))]
      else none
    else none
  else
    some [tI 0]
theorem eg_Equal___i_Part_i_Part__4 (call : Oracle) (x0 : List (List Int)) (x1 : List (List Int)) (x2 : Int) (x3 : Int) : run1 E call ig_Equal___i_Part_i_Part__4 [tLA8 x0, tLA8 x1, tI x2, tI x3] = bg_Equal___i_Part_i_Part__4 call x0 x1 x2 x3 := by kernel_rfl
theorem vg_Equal___i_Part_i_Part__4 (x0 : List (List Int)) (x1 : List (List Int)) (x2 : Int) (x3 : Int) {o : List TV} (h : bg_Equal___i_Part_i_Part__4 R x0 x1 x2 x3 = some o) : R ig_Equal___i_Part_i_Part__4 [tLA8 x0, tLA8 x1, tI x2, tI x3] = some o := ev_step ((eg_Equal___i_Part_i_Part__4 R x0 x1 x2 x3).trans h)
/-- slices.Equal[[]impl.Part,impl.Part] -/
noncomputable def bg_Equal___i_Part_i_Part_ (call : Oracle) (a0 : List (List Int)) (a1 : List (List Int)) : Option (List TV) :=
  bif (((List.length a0 : Nat) : Int) != ((List.length a1 : Nat) : Int)) then
    some [tB false]
  else
    (call ig_Equal___i_Part_i_Part__4 [tLA8 a0, tLA8 a1, tI ((List.length a0 : Nat) : Int), tI 0]).bind fun o1 =>
    bif ((gI o1 0) == 0) then
      some [tB true]
    else
      some [tB (gB o1 1)]
theorem eg_Equal___i_Part_i_Part_ (call : Oracle) (a0 : List (List Int)) (a1 : List (List Int)) : run1 E call ig_Equal___i_Part_i_Part_ [tLA8 a0, tLA8 a1] = bg_Equal___i_Part_i_Part_ call a0 a1 := by kernel_rfl
theorem vg_Equal___i_Part_i_Part_ (a0 : List (List Int)) (a1 : List (List Int)) {o : List TV} (h : bg_Equal___i_Part_i_Part_ R a0 a1 = some o) : R ig_Equal___i_Part_i_Part_ [tLA8 a0, tLA8 a1] = some o := ev_step ((eg_Equal___i_Part_i_Part_ R a0 a1).trans h)
/-- impl.EqualByBands -/
noncomputable def bi_EqualByBands (call : Oracle) (a0 : Int × List Int) (a1 : Int × List Int) : Option (List TV) :=
  (call ii_IsBraid [tPILI (a0.1, a0.2)]).bind fun o1 =>
  bif (!(gB o1 0)) then
    some [tB false, tI 1]
  else
    (call ii_IsBraid [tPILI (a1.1, a1.2)]).bind fun o2 =>
    bif (!(gB o2 0)) then
      some [tB false, tI 1]
    else
      bif (a0.1 != a1.1) then
        some [tB false, tI 2]
      else
        (call ii_dualOf [tPILI (a0.1, a0.2)]).bind fun o3 =>
        (call ii_dualOf [tPILI (a1.1, a1.2)]).bind fun o4 =>
        bif (((gPIPILA8 o3 0).2).1 == ((gPIPILA8 o4 0).2).1) then
          (call ig_Equal___i_Part_i_Part_ [tLA8 (((gPIPILA8 o3 0).2).2), tLA8 (((gPIPILA8 o4 0).2).2)]).bind fun o5 =>
          some [tB (gB o5 0), tI 0]
        else
          some [tB false, tI 0]
theorem ei_EqualByBands (call : Oracle) (a0 : Int × List Int) (a1 : Int × List Int) : run1 E call ii_EqualByBands [tPILI a0, tPILI a1] = bi_EqualByBands call a0 a1 := by kernel_rfl
theorem vi_EqualByBands (a0 : Int × List Int) (a1 : Int × List Int) {o : List TV} (h : bi_EqualByBands R a0 a1 = some o) : R ii_EqualByBands [tPILI a0, tPILI a1] = some o := ev_step ((ei_EqualByBands R a0 a1).trans h)
/-- laws.FnExactEqualByBands -/
noncomputable def bw_FnExactEqualByBands (call : Oracle) (a0 : Int × List Int) (a1 : Int × List Int) : Option (List TV) :=
  (call iw_szBraid [tPILI (a0.1, a0.2), tI 1048576]).bind fun o1 =>
  bif decide ((gI o1 0) < 0) then
    some [tB true]
  else
    (call iw_szBraid [tPILI (a1.1, a1.2), tI (gI o1 0)]).bind fun o2 =>
    bif decide ((gI o2 0) < 0) then
      some [tB true]
    else
      (call iw_toBraid [tPILI (a0.1, a0.2)]).bind fun o3 =>
      (call iw_toBraid [tPILI (a1.1, a1.2)]).bind fun o4 =>
      (call is_EqualByBands [tPILI ((gPILI o3 0).1, (gPILI o3 0).2), tPILI ((gPILI o4 0).1, (gPILI o4 0).2)]).bind fun o5 =>
      (call iw_toBraid [tPILI (a0.1, a0.2)]).bind fun o6 =>
      (call iw_toBraid [tPILI (a1.1, a1.2)]).bind fun o7 =>
      (call ii_EqualByBands [tPILI ((gPILI o6 0).1, (gPILI o6 0).2), tPILI ((gPILI o7 0).1, (gPILI o7 0).2)]).bind fun o8 =>
      bif ((gB o8 0) != (gB o5 0)) then
        some [tB false]
      else
        bif ((gI o8 1) != (gI o5 1)) then
          some [tB false]
        else
          (call iw_toBraid [tPILI (a0.1, a0.2)]).bind fun o9 =>
          (call iw_eqBraid [tPILI ((gPILI o6 0).1, (gPILI o6 0).2), tPILI ((gPILI o9 0).1, (gPILI o9 0).2)]).bind fun o10 =>
          bif (!(gB o10 0)) then
            some [tB false]
          else
            (call iw_toBraid [tPILI (a1.1, a1.2)]).bind fun o11 =>
            (call iw_eqBraid [tPILI ((gPILI o7 0).1, (gPILI o7 0).2), tPILI ((gPILI o11 0).1, (gPILI o11 0).2)]).bind fun o12 =>
            bif (!(gB o12 0)) then
              some [tB false]
            else
              some [tB true]
theorem ew_FnExactEqualByBands (call : Oracle) (a0 : Int × List Int) (a1 : Int × List Int) : run1 E call iw_FnExactEqualByBands [tPILI a0, tPILI a1] = bw_FnExactEqualByBands call a0 a1 := by kernel_rfl
theorem vw_FnExactEqualByBands (a0 : Int × List Int) (a1 : Int × List Int) {o : List TV} (h : bw_FnExactEqualByBands R a0 a1 = some o) : R iw_FnExactEqualByBands [tPILI a0, tPILI a1] = some o := ev_step ((ew_FnExactEqualByBands R a0 a1).trans h)
end Go.Ev.Ytadjhggdddbicaa
