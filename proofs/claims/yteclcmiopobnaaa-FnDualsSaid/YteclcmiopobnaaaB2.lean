/- Bodies, part 2. -/
import Derived.KernelRfl
import Derived.Test.YteclcmiopobnaaaEnv
set_option linter.unusedVariables false
namespace Go.Ev.Yteclcmiopobnaaa
open Go.Ev
noncomputable section
def bi_wordOfPart_6 (call : Oracle) (x0 x1 : List Int) (x2 : List (List Int)) (x3 x4 x5 : Int) : Option (List TV) :=
  bif decide (0 < x3) then
    bif (decide (0 ≤ x3) && decide (x3 < ((List.length x1 : Nat) : Int))) then
      bif (decide (0 ≤ (wi64 (x3 - 1))) && decide ((wi64 (x3 - 1)) < ((List.length x1 : Nat) : Int))) then
        (call ii_band [tI (List.getD x1 (Int.toNat x3) 0), tI (List.getD x1 (Int.toNat (wi64 (x3 - 1))) 0)]).bind fun o3 =>
        bif (apOk x0 (gLI o3 0)) then
          call ii_wordOfPart_6 [tLI (x0 ++ (gLI o3 0)), tLI x1, tLLI x2, tI (wi64 (x3 - 1)), tI x4, tI x5]
        else none
      else none
    else none
  else
    some [tI 0, tLI x0, tLLI x2, tI x4, tI x5]
theorem ei_wordOfPart_6 (call : Oracle) (x0 x1 : List Int) (x2 : List (List Int)) (x3 x4 x5 : Int) : run1 E call ii_wordOfPart_6 [tLI x0, tLI x1, tLLI x2, tI x3, tI x4, tI x5] = bi_wordOfPart_6 call x0 x1 x2 x3 x4 x5 := by kernel_rfl
theorem vi_wordOfPart_6 (x0 x1 : List Int) (x2 : List (List Int)) (x3 x4 x5 : Int) {o : List TV} (h : bi_wordOfPart_6 R x0 x1 x2 x3 x4 x5 = some o) : R ii_wordOfPart_6 [tLI x0, tLI x1, tLLI x2, tI x3, tI x4, tI x5] = some o := ev_step ((ei_wordOfPart_6 R x0 x1 x2 x3 x4 x5).trans h)
def bi_wordOfPart (call : Oracle) (a0 : List Int) (a1 : Int) : Option (List TV) :=
  (call ii_blocksOf [tA8 a0, tI a1]).bind fun o1 =>
  (call ii_wordOfPart_3 [tLI [], tLLI (gLLI o1 0), tI ((List.length (gLLI o1 0) : Nat) : Int), tI 0]).bind fun o6 =>
  some [tLI (gLI o6 1)]
theorem ei_wordOfPart (call : Oracle) (a0 : List Int) (a1 : Int) : run1 E call ii_wordOfPart [tA8 a0, tI a1] = bi_wordOfPart call a0 a1 := by kernel_rfl
theorem vi_wordOfPart (a0 : List Int) (a1 : Int) {o : List TV} (h : bi_wordOfPart R a0 a1 = some o) : R ii_wordOfPart [tA8 a0, tI a1] = some o := ev_step ((ei_wordOfPart R a0 a1).trans h)
def bi_reversed_3 (call : Oracle) (x0 : Int) (x1 : List Int) (x2 : Int) (x3 : List Int) (x4 : Int) (x5 : List Int) (x6 : Int) : Option (List TV) :=
  bif decide (0 ≤ x6) then
    bif (decide (0 ≤ x6) && decide (x6 < ((List.length x1 : Nat) : Int))) then
      bif (apOk x5 [(List.getD x1 (Int.toNat x6) 0)]) then
        call ii_reversed_3 [tI x0, tLI x1, tI x2, tLI x3, tI x4, tLI (x5 ++ [(List.getD x1 (Int.toNat x6) 0)]), tI (wi64 (x6 - 1))]
      else none
    else none
  else
    some [tI 0, tI x2, tLI x3, tI x4, tLI x5]
theorem ei_reversed_3 (call : Oracle) (x0 : Int) (x1 : List Int) (x2 : Int) (x3 : List Int) (x4 : Int) (x5 : List Int) (x6 : Int) : run1 E call ii_reversed_3 [tI x0, tLI x1, tI x2, tLI x3, tI x4, tLI x5, tI x6] = bi_reversed_3 call x0 x1 x2 x3 x4 x5 x6 := by kernel_rfl
theorem vi_reversed_3 (x0 : Int) (x1 : List Int) (x2 : Int) (x3 : List Int) (x4 : Int) (x5 : List Int) (x6 : Int) {o : List TV} (h : bi_reversed_3 R x0 x1 x2 x3 x4 x5 x6 = some o) : R ii_reversed_3 [tI x0, tLI x1, tI x2, tLI x3, tI x4, tLI x5, tI x6] = some o := ev_step ((ei_reversed_3 R x0 x1 x2 x3 x4 x5 x6).trans h)
def bi_reversed (call : Oracle) (a0 : Int × List Int) : Option (List TV) :=
  (call ii_reversed_3 [tI a0.1, tLI a0.2, tI 0, tLI [], tI a0.1, tLI [], tI (wi64 (((List.length a0.2 : Nat) : Int) - 1))]).bind fun o1 =>
  some [tPILI ((gI o1 3), (gLI o1 4))]
theorem ei_reversed (call : Oracle) (a0 : Int × List Int) : run1 E call ii_reversed [tPILI a0] = bi_reversed call a0 := by kernel_rfl
theorem vi_reversed (a0 : Int × List Int) {o : List TV} (h : bi_reversed R a0 = some o) : R ii_reversed [tPILI a0] = some o := ev_step ((ei_reversed R a0).trans h)
def bi_opposite (call : Oracle) (a0 : Int) : Option (List TV) :=
  some [tI (wi64 (0 - a0))]
theorem ei_opposite (call : Oracle) (a0 : Int) : run1 E call ii_opposite [tI a0] = bi_opposite call a0 := by kernel_rfl
theorem vi_opposite (a0 : Int) {o : List TV} (h : bi_opposite R a0 = some o) : R ii_opposite [tI a0] = some o := ev_step ((ei_opposite R a0).trans h)
def bi_letterBy_3 (call : Oracle) (x0 : Int) (x1 : List Int) (x2 : Int) (x3 x4 : List Int) (x5 x6 : Int) : Option (List TV) :=
  bif decide (x6 < x5) then
    bif (decide (0 ≤ x6) && decide (x6 < ((List.length x4 : Nat) : Int))) then
      (call ii_opposite [tI (List.getD x4 (Int.toNat x6) 0)]).bind fun o2 =>
      bif (apOk x3 [(gI o2 0)]) then
        call ii_letterBy_3 [tI x0, tLI x1, tI x2, tLI (x3 ++ [(gI o2 0)]), tLI x4, tI x5, tI (wi64 (x6 + 1))]
      else none
    else none
  else
    some [tI 0, tI x0, tLI x1, tI x2, tLI x3]
theorem ei_letterBy_3 (call : Oracle) (x0 : Int) (x1 : List Int) (x2 : Int) (x3 x4 : List Int) (x5 x6 : Int) : run1 E call ii_letterBy_3 [tI x0, tLI x1, tI x2, tLI x3, tLI x4, tI x5, tI x6] = bi_letterBy_3 call x0 x1 x2 x3 x4 x5 x6 := by kernel_rfl
theorem vi_letterBy_3 (x0 : Int) (x1 : List Int) (x2 : Int) (x3 x4 : List Int) (x5 x6 : Int) {o : List TV} (h : bi_letterBy_3 R x0 x1 x2 x3 x4 x5 x6 = some o) : R ii_letterBy_3 [tI x0, tLI x1, tI x2, tLI x3, tLI x4, tI x5, tI x6] = some o := ev_step ((ei_letterBy_3 R x0 x1 x2 x3 x4 x5 x6).trans h)
def bi_letterBy (call : Oracle) (a0 : Int × List Int) : Option (List TV) :=
  (call ii_letterBy_3 [tI 0, tLI [], tI a0.1, tLI [], tLI a0.2, tI ((List.length a0.2 : Nat) : Int), tI 0]).bind fun o3 =>
  some [tPILI ((gI o3 3), (gLI o3 4))]
theorem ei_letterBy (call : Oracle) (a0 : Int × List Int) : run1 E call ii_letterBy [tPILI a0] = bi_letterBy call a0 := by kernel_rfl
theorem vi_letterBy (a0 : Int × List Int) {o : List TV} (h : bi_letterBy R a0 = some o) : R ii_letterBy [tPILI a0] = some o := ev_step ((ei_letterBy R a0).trans h)
def bi_joined (call : Oracle) (a0 a1 : Int × List Int) : Option (List TV) :=
  bif (apOk [] a0.2) then
    bif (apOk a0.2 a1.2) then
      some [tPILI (a0.1, (a0.2 ++ a1.2))]
    else none
  else none
theorem ei_joined (call : Oracle) (a0 a1 : Int × List Int) : run1 E call ii_joined [tPILI a0, tPILI a1] = bi_joined call a0 a1 := by kernel_rfl
theorem vi_joined (a0 a1 : Int × List Int) {o : List TV} (h : bi_joined R a0 a1 = some o) : R ii_joined [tPILI a0, tPILI a1] = some o := ev_step ((ei_joined R a0 a1).trans h)
def bi_WordOfDual_8 (call : Oracle) (x0 x1 : Int) (x2 : List (List Int)) (x3 : Int) (x4 : List Int) (x5 : Int) (x6 : List Int) (x7 : Int) (x8 : List Int) (x9 x10 : Int) : Option (List TV) :=
  bif decide (x10 < x9) then
    (call ii_joined [tPILI (x5, x6), tPILI (x7, x8)]).bind fun o8 =>
    call ii_WordOfDual_8 [tI x0, tI x1, tLA8 x2, tI x3, tLI x4, tI ((gPILI o8 0).1), tLI ((gPILI o8 0).2), tI x7, tLI x8, tI x9, tI (wi64 (x10 + 1))]
  else
    some [tI 0, tI x0, tI x1, tLA8 x2, tI x3, tLI x4, tI x5, tLI x6]
theorem ei_WordOfDual_8 (call : Oracle) (x0 x1 : Int) (x2 : List (List Int)) (x3 : Int) (x4 : List Int) (x5 : Int) (x6 : List Int) (x7 : Int) (x8 : List Int) (x9 x10 : Int) : run1 E call ii_WordOfDual_8 [tI x0, tI x1, tLA8 x2, tI x3, tLI x4, tI x5, tLI x6, tI x7, tLI x8, tI x9, tI x10] = bi_WordOfDual_8 call x0 x1 x2 x3 x4 x5 x6 x7 x8 x9 x10 := by kernel_rfl
theorem vi_WordOfDual_8 (x0 x1 : Int) (x2 : List (List Int)) (x3 : Int) (x4 : List Int) (x5 : Int) (x6 : List Int) (x7 : Int) (x8 : List Int) (x9 x10 : Int) {o : List TV} (h : bi_WordOfDual_8 R x0 x1 x2 x3 x4 x5 x6 x7 x8 x9 x10 = some o) : R ii_WordOfDual_8 [tI x0, tI x1, tLA8 x2, tI x3, tLI x4, tI x5, tLI x6, tI x7, tLI x8, tI x9, tI x10] = some o := ev_step ((ei_WordOfDual_8 R x0 x1 x2 x3 x4 x5 x6 x7 x8 x9 x10).trans h)
def bi_WordOfDual_12 (call : Oracle) (x0 x1 : Int) (x2 : List (List Int)) (x3 : Int) (x4 : List Int) (x5 : Int) (x6 : List Int) (x7 x8 : Int) : Option (List TV) :=
  bif decide (x8 < x7) then
    bif (decide (0 ≤ x8) && decide (x8 < ((List.length x2 : Nat) : Int))) then
      (call ii_wordOfPart [tA8 (List.getD x2 (Int.toNat x8) (List.replicate 8 0)), tI x0]).bind fun o12 =>
      (call ii_joined [tPILI (x5, x6), tPILI (x0, (gLI o12 0))]).bind fun o13 =>
      call ii_WordOfDual_12 [tI x0, tI x1, tLA8 x2, tI x3, tLI x4, tI ((gPILI o13 0).1), tLI ((gPILI o13 0).2), tI x7, tI (wi64 (x8 + 1))]
    else none
  else
    some [tI 0, tI x3, tLI x4, tI x5, tLI x6]
theorem ei_WordOfDual_12 (call : Oracle) (x0 x1 : Int) (x2 : List (List Int)) (x3 : Int) (x4 : List Int) (x5 : Int) (x6 : List Int) (x7 x8 : Int) : run1 E call ii_WordOfDual_12 [tI x0, tI x1, tLA8 x2, tI x3, tLI x4, tI x5, tLI x6, tI x7, tI x8] = bi_WordOfDual_12 call x0 x1 x2 x3 x4 x5 x6 x7 x8 := by kernel_rfl
theorem vi_WordOfDual_12 (x0 x1 : Int) (x2 : List (List Int)) (x3 : Int) (x4 : List Int) (x5 : Int) (x6 : List Int) (x7 x8 : Int) {o : List TV} (h : bi_WordOfDual_12 R x0 x1 x2 x3 x4 x5 x6 x7 x8 = some o) : R ii_WordOfDual_12 [tI x0, tI x1, tLA8 x2, tI x3, tLI x4, tI x5, tLI x6, tI x7, tI x8] = some o := ev_step ((ei_WordOfDual_12 R x0 x1 x2 x3 x4 x5 x6 x7 x8).trans h)
def bi_WordOfDual (call : Oracle) (a0 : Int × Int × List (List Int)) : Option (List TV) :=
  (call ii_IsDual [tPIPILA8 (a0.1, (a0.2.1, a0.2.2))]).bind fun o1 =>
  bif (!(gB o1 0)) then
    some [tPILI (0, []), tI 1]
  else
    (call ii_wholePart [tI a0.1]).bind fun o2 =>
    (call ii_wordOfPart [tA8 (gA8 o2 0), tI a0.1]).bind fun o3 =>
    bif decide (a0.2.1 < 0) then
      (call ii_reversed [tPILI (a0.1, (gLI o3 0))]).bind fun o4 =>
      (call ii_letterBy [tPILI ((gPILI o4 0).1, (gPILI o4 0).2)]).bind fun o5 =>
      (call ii_size [tI a0.2.1]).bind fun o6 =>
      (call ii_WordOfDual_8 [tI a0.1, tI a0.2.1, tLA8 a0.2.2, tI 0, tLI [], tI a0.1, tLI [], tI ((gPILI o5 0).1), tLI ((gPILI o5 0).2), tI (gI o6 0), tI 0]).bind fun o9 =>
      (call ii_WordOfDual_12 [tI (gI o9 1), tI (gI o9 2), tLA8 (gLA8 o9 3), tI (gI o9 4), tLI (gLI o9 5), tI (gI o9 6), tLI (gLI o9 7), tI ((List.length (gLA8 o9 3) : Nat) : Int), tI 0]).bind fun o14 =>
      bif decide (200 < ((List.length (gLI o14 4) : Nat) : Int)) then
        some [tPILI (0, []), tI 3]
      else
        some [tPILI ((gI o14 3), (gLI o14 4)), tI 0]
    else
      (call ii_size [tI a0.2.1]).bind fun o15 =>
      (call ii_WordOfDual_8 [tI a0.1, tI a0.2.1, tLA8 a0.2.2, tI 0, tLI [], tI a0.1, tLI [], tI a0.1, tLI (gLI o3 0), tI (gI o15 0), tI 0]).bind fun o16 =>
      (call ii_WordOfDual_12 [tI (gI o16 1), tI (gI o16 2), tLA8 (gLA8 o16 3), tI (gI o16 4), tLI (gLI o16 5), tI (gI o16 6), tLI (gLI o16 7), tI ((List.length (gLA8 o16 3) : Nat) : Int), tI 0]).bind fun o17 =>
      bif decide (200 < ((List.length (gLI o17 4) : Nat) : Int)) then
        some [tPILI (0, []), tI 3]
      else
        some [tPILI ((gI o17 3), (gLI o17 4)), tI 0]
theorem ei_WordOfDual (call : Oracle) (a0 : Int × Int × List (List Int)) : run1 E call ii_WordOfDual [tPIPILA8 a0] = bi_WordOfDual call a0 := by kernel_rfl
theorem vi_WordOfDual (a0 : Int × Int × List (List Int)) {o : List TV} (h : bi_WordOfDual R a0 = some o) : R ii_WordOfDual [tPIPILA8 a0] = some o := ev_step ((ei_WordOfDual R a0).trans h)
def bi_halfTurn_3 (call : Oracle) (x0 x1 : List Int) (x2 x3 x4 : Int) : Option (List TV) :=
  bif decide (x4 < x3) then
    bif (decide (0 ≤ x4) && decide (x4 < 8)) then
      call ii_halfTurn_3 [tA8 x0, tA8 (List.set x1 (Int.toNat x4) (wu8 ((wi64 ((wi64 (x2 - 1)) - x4))))), tI x2, tI x3, tI (wi64 (x4 + 1))]
    else none
  else
    some [tI 0, tA8 x0, tA8 x1]
theorem ei_halfTurn_3 (call : Oracle) (x0 x1 : List Int) (x2 x3 x4 : Int) : run1 E call ii_halfTurn_3 [tA8 x0, tA8 x1, tI x2, tI x3, tI x4] = bi_halfTurn_3 call x0 x1 x2 x3 x4 := by kernel_rfl
theorem vi_halfTurn_3 (x0 x1 : List Int) (x2 x3 x4 : Int) {o : List TV} (h : bi_halfTurn_3 R x0 x1 x2 x3 x4 = some o) : R ii_halfTurn_3 [tA8 x0, tA8 x1, tI x2, tI x3, tI x4] = some o := ev_step ((ei_halfTurn_3 R x0 x1 x2 x3 x4).trans h)
def bi_halfTurn (call : Oracle) (a0 : Int) : Option (List TV) :=
  (call ii_halfTurn_3 [tA8 (List.replicate 8 0), tA8 (List.replicate 8 0), tI a0, tI a0, tI 0]).bind fun o1 =>
  some [tA8 (gA8 o1 2)]
theorem ei_halfTurn (call : Oracle) (a0 : Int) : run1 E call ii_halfTurn [tI a0] = bi_halfTurn call a0 := by kernel_rfl
theorem vi_halfTurn (a0 : Int) {o : List TV} (h : bi_halfTurn R a0 = some o) : R ii_halfTurn [tI a0] = some o := ev_step ((ei_halfTurn R a0).trans h)
def bi_complement (call : Oracle) (a0 : List Int) (a1 : Int) : Option (List TV) :=
  (call ii_backOf [tA8 a0, tI a1]).bind fun o1 =>
  (call ii_halfTurn [tI a1]).bind fun o2 =>
  (call ii_then [tA8 (gA8 o1 0), tA8 (gA8 o2 0), tI a1]).bind fun o3 =>
  some [tA8 (gA8 o3 0)]
theorem ei_complement (call : Oracle) (a0 : List Int) (a1 : Int) : run1 E call ii_complement [tA8 a0, tI a1] = bi_complement call a0 a1 := by kernel_rfl
theorem vi_complement (a0 : List Int) (a1 : Int) {o : List TV} (h : bi_complement R a0 a1 = some o) : R ii_complement [tA8 a0, tI a1] = some o := ev_step ((ei_complement R a0 a1).trans h)
def bi_descents_3 (call : Oracle) (x0 : List Int) (x1 x2 x3 : Int) : Option (List TV) :=
  bif decide (x3 < x2) then
    (call ii_descents_6 [tA8 x0, tU64 x1, tI x3, tI x2, tI x3, tI x3, tI 0]).bind fun o2 =>
    call ii_descents_3 [tA8 (gA8 o2 1), tU64 (gU64 o2 2), tI (gI o2 3), tI (wi64 ((gI o2 4) + 1))]
  else
    some [tI 0, tU64 x1]
theorem ei_descents_3 (call : Oracle) (x0 : List Int) (x1 x2 x3 : Int) : run1 E call ii_descents_3 [tA8 x0, tU64 x1, tI x2, tI x3] = bi_descents_3 call x0 x1 x2 x3 := by kernel_rfl
theorem vi_descents_3 (x0 : List Int) (x1 x2 x3 : Int) {o : List TV} (h : bi_descents_3 R x0 x1 x2 x3 = some o) : R ii_descents_3 [tA8 x0, tU64 x1, tI x2, tI x3] = some o := ev_step ((ei_descents_3 R x0 x1 x2 x3).trans h)
def bi_descents_6 (call : Oracle) (x0 : List Int) (x1 x2 : Int) (x3 x4 : Int) (x5 x6 : Int) : Option (List TV) :=
  bif decide (x6 < x5) then
    bif (decide (0 ≤ x6) && decide (x6 < 8)) then
      bif (decide (0 ≤ x2) && decide (x2 < 8)) then
        bif decide ((List.getD x0 (Int.toNat x2) 0) < (List.getD x0 (Int.toNat x6) 0)) then
          bif decide (0 ≤ (wi64 ((wi64 (8 * x6)) + x2))) then
            call ii_descents_6 [tA8 x0, tU64 (bitsOr .u64 x1 (shl .u64 1 (wi64 ((wi64 (8 * x6)) + x2)))), tI x2, tI x3, tI x4, tI x5, tI (wi64 (x6 + 1))]
          else none
        else
          call ii_descents_6 [tA8 x0, tU64 x1, tI x2, tI x3, tI x4, tI x5, tI (wi64 (x6 + 1))]
      else none
    else none
  else
    some [tI 0, tA8 x0, tU64 x1, tI x3, tI x4]
theorem ei_descents_6 (call : Oracle) (x0 : List Int) (x1 x2 : Int) (x3 x4 : Int) (x5 x6 : Int) : run1 E call ii_descents_6 [tA8 x0, tU64 x1, tI x2, tI x3, tI x4, tI x5, tI x6] = bi_descents_6 call x0 x1 x2 x3 x4 x5 x6 := by kernel_rfl
theorem vi_descents_6 (x0 : List Int) (x1 x2 : Int) (x3 x4 : Int) (x5 x6 : Int) {o : List TV} (h : bi_descents_6 R x0 x1 x2 x3 x4 x5 x6 = some o) : R ii_descents_6 [tA8 x0, tU64 x1, tI x2, tI x3, tI x4, tI x5, tI x6] = some o := ev_step ((ei_descents_6 R x0 x1 x2 x3 x4 x5 x6).trans h)
def bi_descents (call : Oracle) (a0 : List Int) (a1 : Int) : Option (List TV) :=
  (call ii_descents_3 [tA8 a0, tU64 0, tI a1, tI 0]).bind fun o3 =>
  some [tU64 (gU64 o3 1)]
theorem ei_descents (call : Oracle) (a0 : List Int) (a1 : Int) : run1 E call ii_descents [tA8 a0, tI a1] = bi_descents call a0 a1 := by kernel_rfl
theorem vi_descents (a0 : List Int) (a1 : Int) {o : List TV} (h : bi_descents R a0 a1 = some o) : R ii_descents [tA8 a0, tI a1] = some o := ev_step ((ei_descents R a0 a1).trans h)
def bi_meet_4 (call : Oracle) (x0 x1 : List Int) (x2 x3 : Int) (x4 : Bool) : Option (List TV) :=
  bif x4 then
    (call ii_meet_7 [tA8 x0, tA8 x1, tI x2, tU64 x3, tB false, tI 1]).bind fun o5 =>
    call ii_meet_4 [tA8 (gA8 o5 1), tA8 (gA8 o5 2), tI (gI o5 3), tU64 (gU64 o5 4), tB (gB o5 5)]
  else
    some [tI 0, tA8 x0, tA8 x1, tI x2]
theorem ei_meet_4 (call : Oracle) (x0 x1 : List Int) (x2 x3 : Int) (x4 : Bool) : run1 E call ii_meet_4 [tA8 x0, tA8 x1, tI x2, tU64 x3, tB x4] = bi_meet_4 call x0 x1 x2 x3 x4 := by kernel_rfl
theorem vi_meet_4 (x0 x1 : List Int) (x2 x3 : Int) (x4 : Bool) {o : List TV} (h : bi_meet_4 R x0 x1 x2 x3 x4 = some o) : R ii_meet_4 [tA8 x0, tA8 x1, tI x2, tU64 x3, tB x4] = some o := ev_step ((ei_meet_4 R x0 x1 x2 x3 x4).trans h)
def bi_meet_7 (call : Oracle) (x0 x1 : List Int) (x2 x3 : Int) (x4 : Bool) (x5 : Int) : Option (List TV) :=
  bif decide (x5 < x2) then
    bif (decide (0 ≤ (wi64 (x5 - 1))) && decide ((wi64 (x5 - 1)) < 8)) then
      bif (decide (0 ≤ x5) && decide (x5 < 8)) then
        bif decide ((List.getD x1 (Int.toNat (wi64 (x5 - 1))) 0) < (List.getD x1 (Int.toNat x5) 0)) then
          bif decide (0 ≤ (wu8 ((wu8 (8 * (List.getD x1 (Int.toNat (wi64 (x5 - 1))) 0))) + (List.getD x1 (Int.toNat x5) 0)))) then
            bif ((bitsAnd .u64 (shr .u64 x3 (wu8 ((wu8 (8 * (List.getD x1 (Int.toNat (wi64 (x5 - 1))) 0))) + (List.getD x1 (Int.toNat x5) 0)))) 1) == 1) then
              bif (decide (0 ≤ (wi64 (x5 - 1))) && decide ((wi64 (x5 - 1)) < 8)) then
                bif (decide (0 ≤ x5) && decide (x5 < 8)) then
                  call ii_meet_7 [tA8 x0, tA8 (List.set (List.set x1 (Int.toNat (wi64 (x5 - 1))) (List.getD x1 (Int.toNat x5) 0)) (Int.toNat x5) (List.getD x1 (Int.toNat (wi64 (x5 - 1))) 0)), tI x2, tU64 x3, tB true, tI (wi64 (x5 + 1))]
                else none
              else none
            else
              call ii_meet_7 [tA8 x0, tA8 x1, tI x2, tU64 x3, tB x4, tI (wi64 (x5 + 1))]
          else none
        else
          call ii_meet_7 [tA8 x0, tA8 x1, tI x2, tU64 x3, tB x4, tI (wi64 (x5 + 1))]
      else none
    else none
  else
    some [tI 0, tA8 x0, tA8 x1, tI x2, tU64 x3, tB x4]
theorem ei_meet_7 (call : Oracle) (x0 x1 : List Int) (x2 x3 : Int) (x4 : Bool) (x5 : Int) : run1 E call ii_meet_7 [tA8 x0, tA8 x1, tI x2, tU64 x3, tB x4, tI x5] = bi_meet_7 call x0 x1 x2 x3 x4 x5 := by kernel_rfl
theorem vi_meet_7 (x0 x1 : List Int) (x2 x3 : Int) (x4 : Bool) (x5 : Int) {o : List TV} (h : bi_meet_7 R x0 x1 x2 x3 x4 x5 = some o) : R ii_meet_7 [tA8 x0, tA8 x1, tI x2, tU64 x3, tB x4, tI x5] = some o := ev_step ((ei_meet_7 R x0 x1 x2 x3 x4 x5).trans h)
def bi_meet (call : Oracle) (a0 a1 : List Int) (a2 : Int) : Option (List TV) :=
  (call ii_descents [tA8 a0, tI a2]).bind fun o1 =>
  (call ii_descents [tA8 a1, tI a2]).bind fun o2 =>
  (call ii_nothing [tI a2]).bind fun o3 =>
  (call ii_meet_4 [tA8 (List.replicate 8 0), tA8 (gA8 o3 0), tI a2, tU64 (bitsAnd .u64 (gU64 o1 0) (gU64 o2 0)), tB true]).bind fun o6 =>
  (call ii_backOf [tA8 (gA8 o6 2), tI (gI o6 3)]).bind fun o7 =>
  some [tA8 (gA8 o7 0)]
theorem ei_meet (call : Oracle) (a0 a1 : List Int) (a2 : Int) : run1 E call ii_meet [tA8 a0, tA8 a1, tI a2] = bi_meet call a0 a1 a2 := by kernel_rfl
theorem vi_meet (a0 a1 : List Int) (a2 : Int) {o : List TV} (h : bi_meet R a0 a1 a2 = some o) : R ii_meet [tA8 a0, tA8 a1, tI a2] = some o := ev_step ((ei_meet R a0 a1 a2).trans h)
def b__i_Normal__put_5 (call : Oracle) (x0 x1 : Int) (x2 : List (List Int)) (x3 x4 : Int) : Option (List TV) :=
  bif decide (0 < x4) then
    bif (decide (0 ≤ (wi64 (x4 - 1))) && decide ((wi64 (x4 - 1)) < ((List.length x2 : Nat) : Int))) then
      (call ii_complement [tA8 (List.getD x2 (Int.toNat (wi64 (x4 - 1))) (List.replicate 8 0)), tI x3]).bind fun o8 =>
      bif (decide (0 ≤ x4) && decide (x4 < ((List.length x2 : Nat) : Int))) then
        (call ii_meet [tA8 (gA8 o8 0), tA8 (List.getD x2 (Int.toNat x4) (List.replicate 8 0)), tI x3]).bind fun o9 =>
        (call ii_nothing [tI x3]).bind fun o10 =>
        bif ((gA8 o9 0) == (gA8 o10 0)) then
          some [tI 0, tI x0, tI x1, tLA8 x2, tI x3]
        else
          bif (decide (0 ≤ (wi64 (x4 - 1))) && decide ((wi64 (x4 - 1)) < ((List.length x2 : Nat) : Int))) then
            (call ii_then [tA8 (List.getD x2 (Int.toNat (wi64 (x4 - 1))) (List.replicate 8 0)), tA8 (gA8 o9 0), tI x3]).bind fun o11 =>
            bif (decide (0 ≤ (wi64 (x4 - 1))) && decide ((wi64 (x4 - 1)) < ((List.length x2 : Nat) : Int))) then
              (call ii_backOf [tA8 (gA8 o9 0), tI x3]).bind fun o12 =>
              bif (decide (0 ≤ x4) && decide (x4 < ((List.length (List.set x2 (Int.toNat (wi64 (x4 - 1))) (gA8 o11 0)) : Nat) : Int))) then
                (call ii_then [tA8 (gA8 o12 0), tA8 (List.getD (List.set x2 (Int.toNat (wi64 (x4 - 1))) (gA8 o11 0)) (Int.toNat x4) (List.replicate 8 0)), tI x3]).bind fun o13 =>
                bif (decide (0 ≤ x4) && decide (x4 < ((List.length (List.set x2 (Int.toNat (wi64 (x4 - 1))) (gA8 o11 0)) : Nat) : Int))) then
                  call i__i_Normal__put_5 [tI x0, tI x1, tLA8 (List.set (List.set x2 (Int.toNat (wi64 (x4 - 1))) (gA8 o11 0)) (Int.toNat x4) (gA8 o13 0)), tI x3, tI (wi64 (x4 - 1))]
                else none
              else none
            else none
          else none
      else none
    else none
  else
    some [tI 0, tI x0, tI x1, tLA8 x2, tI x3]
theorem e__i_Normal__put_5 (call : Oracle) (x0 x1 : Int) (x2 : List (List Int)) (x3 x4 : Int) : run1 E call i__i_Normal__put_5 [tI x0, tI x1, tLA8 x2, tI x3, tI x4] = b__i_Normal__put_5 call x0 x1 x2 x3 x4 := by kernel_rfl
theorem v__i_Normal__put_5 (x0 x1 : Int) (x2 : List (List Int)) (x3 x4 : Int) {o : List TV} (h : b__i_Normal__put_5 R x0 x1 x2 x3 x4 = some o) : R i__i_Normal__put_5 [tI x0, tI x1, tLA8 x2, tI x3, tI x4] = some o := ev_step ((e__i_Normal__put_5 R x0 x1 x2 x3 x4).trans h)
def b__i_Normal__put_11 (call : Oracle) (x0 x1 : Int) (x2 : List (List Int)) (x3 : Int) : Option (List TV) :=
  bif decide (0 < ((List.length x2 : Nat) : Int)) then
    bif decide (0 < ((List.length x2 : Nat) : Int)) then
      (call ii_halfTurn [tI x3]).bind fun o16 =>
      bif ((List.getD x2 0 (List.replicate 8 0)) == (gA8 o16 0)) then
        bif decide (1 ≤ ((List.length x2 : Nat) : Int)) then
          call i__i_Normal__put_11 [tI x0, tI (wi64 (x1 + 1)), tLA8 (List.drop 1 x2), tI x3]
        else none
      else
        some [tI 0, tI x0, tI x1, tLA8 x2, tI x3]
    else none
  else
    some [tI 0, tI x0, tI x1, tLA8 x2, tI x3]
theorem e__i_Normal__put_11 (call : Oracle) (x0 x1 : Int) (x2 : List (List Int)) (x3 : Int) : run1 E call i__i_Normal__put_11 [tI x0, tI x1, tLA8 x2, tI x3] = b__i_Normal__put_11 call x0 x1 x2 x3 := by kernel_rfl
theorem v__i_Normal__put_11 (x0 x1 : Int) (x2 : List (List Int)) (x3 : Int) {o : List TV} (h : b__i_Normal__put_11 R x0 x1 x2 x3 = some o) : R i__i_Normal__put_11 [tI x0, tI x1, tLA8 x2, tI x3] = some o := ev_step ((e__i_Normal__put_11 R x0 x1 x2 x3).trans h)
def b__i_Normal__put_14 (call : Oracle) (x0 x1 : Int) (x2 : List (List Int)) (x3 : Int) : Option (List TV) :=
  bif decide (0 < ((List.length x2 : Nat) : Int)) then
    bif (decide (0 ≤ (wi64 (((List.length x2 : Nat) : Int) - 1))) && decide ((wi64 (((List.length x2 : Nat) : Int) - 1)) < ((List.length x2 : Nat) : Int))) then
      (call ii_nothing [tI x3]).bind fun o19 =>
      bif ((List.getD x2 (Int.toNat (wi64 (((List.length x2 : Nat) : Int) - 1))) (List.replicate 8 0)) == (gA8 o19 0)) then
        bif (decide (0 ≤ (wi64 (((List.length x2 : Nat) : Int) - 1))) && decide ((wi64 (((List.length x2 : Nat) : Int) - 1)) ≤ ((List.length x2 : Nat) : Int))) then
          call i__i_Normal__put_14 [tI x0, tI x1, tLA8 (List.take (Int.toNat (wi64 (((List.length x2 : Nat) : Int) - 1))) x2), tI x3]
        else none
      else
        some [tI 0, tI x0, tI x1, tLA8 x2]
    else none
  else
    some [tI 0, tI x0, tI x1, tLA8 x2]
theorem e__i_Normal__put_14 (call : Oracle) (x0 x1 : Int) (x2 : List (List Int)) (x3 : Int) : run1 E call i__i_Normal__put_14 [tI x0, tI x1, tLA8 x2, tI x3] = b__i_Normal__put_14 call x0 x1 x2 x3 := by kernel_rfl
theorem v__i_Normal__put_14 (x0 x1 : Int) (x2 : List (List Int)) (x3 : Int) {o : List TV} (h : b__i_Normal__put_14 R x0 x1 x2 x3 = some o) : R i__i_Normal__put_14 [tI x0, tI x1, tLA8 x2, tI x3] = some o := ev_step ((e__i_Normal__put_14 R x0 x1 x2 x3).trans h)
def b__i_Normal__put (call : Oracle) (a0 : Int × Int × List (List Int)) (a1 : List Int) : Option (List TV) :=
  (call ii_nothing [tI a0.1]).bind fun o1 =>
  bif (a1 == (gA8 o1 0)) then
    some [tPIPILA8 (a0.1, (a0.2.1, a0.2.2))]
  else
    bif (apOk a0.2.2 [a1]) then
      (call i__i_Normal__put_5 [tI a0.1, tI a0.2.1, tLA8 (a0.2.2 ++ [a1]), tI a0.1, tI (wi64 (((List.length (a0.2.2 ++ [a1]) : Nat) : Int) - 1))]).bind fun o14 =>
      (call i__i_Normal__put_11 [tI (gI o14 1), tI (gI o14 2), tLA8 (gLA8 o14 3), tI (gI o14 4)]).bind fun o17 =>
      (call i__i_Normal__put_14 [tI (gI o17 1), tI (gI o17 2), tLA8 (gLA8 o17 3), tI (gI o17 4)]).bind fun o20 =>
      some [tPIPILA8 ((gI o20 1), ((gI o20 2), (gLA8 o20 3)))]
    else none
theorem e__i_Normal__put (call : Oracle) (a0 : Int × Int × List (List Int)) (a1 : List Int) : run1 E call i__i_Normal__put [tPIPILA8 a0, tA8 a1] = b__i_Normal__put call a0 a1 := by kernel_rfl
theorem v__i_Normal__put (a0 : Int × Int × List (List Int)) (a1 : List Int) {o : List TV} (h : b__i_Normal__put R a0 a1 = some o) : R i__i_Normal__put [tPIPILA8 a0, tA8 a1] = some o := ev_step ((e__i_Normal__put R a0 a1).trans h)
def bi_turn (call : Oracle) (a0 : List Int) (a1 : Int) : Option (List TV) :=
  (call ii_halfTurn [tI a1]).bind fun o1 =>
  (call ii_then [tA8 (gA8 o1 0), tA8 a0, tI a1]).bind fun o2 =>
  (call ii_halfTurn [tI a1]).bind fun o3 =>
  (call ii_then [tA8 (gA8 o2 0), tA8 (gA8 o3 0), tI a1]).bind fun o4 =>
  some [tA8 (gA8 o4 0)]
theorem ei_turn (call : Oracle) (a0 : List Int) (a1 : Int) : run1 E call ii_turn [tA8 a0, tI a1] = bi_turn call a0 a1 := by kernel_rfl
theorem vi_turn (a0 : List Int) (a1 : Int) {o : List TV} (h : bi_turn R a0 a1 = some o) : R ii_turn [tA8 a0, tI a1] = some o := ev_step ((ei_turn R a0 a1).trans h)
def b__i_Normal__turnBy_4 (call : Oracle) (x0 x1 : Int) (x2 : List (List Int)) (x3 x4 : Int) : Option (List TV) :=
  bif decide (x4 < x3) then
    bif (decide (0 ≤ x4) && decide (x4 < ((List.length x2 : Nat) : Int))) then
      (call ii_turn [tA8 (List.getD x2 (Int.toNat x4) (List.replicate 8 0)), tI x0]).bind fun o2 =>
      bif (decide (0 ≤ x4) && decide (x4 < ((List.length x2 : Nat) : Int))) then
        call i__i_Normal__turnBy_4 [tI x0, tI x1, tLA8 (List.set x2 (Int.toNat x4) (gA8 o2 0)), tI x3, tI (wi64 (x4 + 1))]
      else none
    else none
  else
    some [tI 0, tI x0, tI x1, tLA8 x2]
theorem e__i_Normal__turnBy_4 (call : Oracle) (x0 x1 : Int) (x2 : List (List Int)) (x3 x4 : Int) : run1 E call i__i_Normal__turnBy_4 [tI x0, tI x1, tLA8 x2, tI x3, tI x4] = b__i_Normal__turnBy_4 call x0 x1 x2 x3 x4 := by kernel_rfl
theorem v__i_Normal__turnBy_4 (x0 x1 : Int) (x2 : List (List Int)) (x3 x4 : Int) {o : List TV} (h : b__i_Normal__turnBy_4 R x0 x1 x2 x3 x4 = some o) : R i__i_Normal__turnBy_4 [tI x0, tI x1, tLA8 x2, tI x3, tI x4] = some o := ev_step ((e__i_Normal__turnBy_4 R x0 x1 x2 x3 x4).trans h)
def b__i_Normal__turnBy (call : Oracle) (a0 : Int × Int × List (List Int)) (a1 : Int) : Option (List TV) :=
  bif decide (a0.1 < 2) then
    some [tPIPILA8 (a0.1, (a0.2.1, a0.2.2))]
  else
    bif ((Int.tmod a1 2) != 0) then
      (call i__i_Normal__turnBy_4 [tI a0.1, tI (wi64 (a0.2.1 + a1)), tLA8 a0.2.2, tI ((List.length a0.2.2 : Nat) : Int), tI 0]).bind fun o3 =>
      some [tPIPILA8 ((gI o3 1), ((gI o3 2), (gLA8 o3 3)))]
    else
      some [tPIPILA8 (a0.1, ((wi64 (a0.2.1 + a1)), a0.2.2))]
theorem e__i_Normal__turnBy (call : Oracle) (a0 : Int × Int × List (List Int)) (a1 : Int) : run1 E call i__i_Normal__turnBy [tPIPILA8 a0, tI a1] = b__i_Normal__turnBy call a0 a1 := by kernel_rfl
theorem v__i_Normal__turnBy (a0 : Int × Int × List (List Int)) (a1 : Int) {o : List TV} (h : b__i_Normal__turnBy R a0 a1 = some o) : R i__i_Normal__turnBy [tPIPILA8 a0, tI a1] = some o := ev_step ((e__i_Normal__turnBy R a0 a1).trans h)
def bi_leftComplement (call : Oracle) (a0 : List Int) (a1 : Int) : Option (List TV) :=
  (call ii_halfTurn [tI a1]).bind fun o1 =>
  (call ii_backOf [tA8 a0, tI a1]).bind fun o2 =>
  (call ii_then [tA8 (gA8 o1 0), tA8 (gA8 o2 0), tI a1]).bind fun o3 =>
  some [tA8 (gA8 o3 0)]
theorem ei_leftComplement (call : Oracle) (a0 : List Int) (a1 : Int) : run1 E call ii_leftComplement [tA8 a0, tI a1] = bi_leftComplement call a0 a1 := by kernel_rfl
theorem vi_leftComplement (a0 : List Int) (a1 : Int) {o : List TV} (h : bi_leftComplement R a0 a1 = some o) : R ii_leftComplement [tA8 a0, tI a1] = some o := ev_step ((ei_leftComplement R a0 a1).trans h)
def b__i_Normal__putInverse (call : Oracle) (a0 : Int × Int × List (List Int)) (a1 : List Int) : Option (List TV) :=
  (call i__i_Normal__turnBy [tPIPILA8 (a0.1, (a0.2.1, a0.2.2)), tI (-1)]).bind fun o1 =>
  (call ii_leftComplement [tA8 a1, tI ((gPIPILA8 o1 0).1)]).bind fun o2 =>
  (call i__i_Normal__put [tPIPILA8 ((gPIPILA8 o1 0).1, (((gPIPILA8 o1 0).2).1, ((gPIPILA8 o1 0).2).2)), tA8 (gA8 o2 0)]).bind fun o3 =>
  some [tPIPILA8 ((gPIPILA8 o3 0).1, (((gPIPILA8 o3 0).2).1, ((gPIPILA8 o3 0).2).2))]
theorem e__i_Normal__putInverse (call : Oracle) (a0 : Int × Int × List (List Int)) (a1 : List Int) : run1 E call i__i_Normal__putInverse [tPIPILA8 a0, tA8 a1] = b__i_Normal__putInverse call a0 a1 := by kernel_rfl
theorem v__i_Normal__putInverse (a0 : Int × Int × List (List Int)) (a1 : List Int) {o : List TV} (h : b__i_Normal__putInverse R a0 a1 = some o) : R i__i_Normal__putInverse [tPIPILA8 a0, tA8 a1] = some o := ev_step ((e__i_Normal__putInverse R a0 a1).trans h)
def bi_normalOf_3 (call : Oracle) (x0 : Int) (x1 : List Int) (x2 x3 : Int) (x4 : List (List Int)) (x5 x6 : Int) (x7 : List (List Int)) (x8 x9 : Int) : Option (List TV) :=
  bif decide (x9 < x8) then
    bif (decide (0 ≤ x9) && decide (x9 < ((List.length x1 : Nat) : Int))) then
      bif decide (0 < (List.getD x1 (Int.toNat x9) 0)) then
        (call ii_exchange [tI (List.getD x1 (Int.toNat x9) 0), tI x0]).bind fun o5 =>
        (call i__i_Normal__put [tPIPILA8 (x5, (x6, x7)), tA8 (gA8 o5 0)]).bind fun o6 =>
        call ii_normalOf_3 [tI x0, tLI x1, tI x2, tI x3, tLA8 x4, tI ((gPIPILA8 o6 0).1), tI (((gPIPILA8 o6 0).2).1), tLA8 (((gPIPILA8 o6 0).2).2), tI x8, tI (wi64 (x9 + 1))]
      else
        (call ii_exchange [tI (wi64 (0 - (List.getD x1 (Int.toNat x9) 0))), tI x0]).bind fun o7 =>
        (call i__i_Normal__putInverse [tPIPILA8 (x5, (x6, x7)), tA8 (gA8 o7 0)]).bind fun o8 =>
        call ii_normalOf_3 [tI x0, tLI x1, tI x2, tI x3, tLA8 x4, tI ((gPIPILA8 o8 0).1), tI (((gPIPILA8 o8 0).2).1), tLA8 (((gPIPILA8 o8 0).2).2), tI x8, tI (wi64 (x9 + 1))]
    else none
  else
    some [tI 0, tI x2, tI x3, tLA8 x4, tI x5, tI x6, tLA8 x7]
theorem ei_normalOf_3 (call : Oracle) (x0 : Int) (x1 : List Int) (x2 x3 : Int) (x4 : List (List Int)) (x5 x6 : Int) (x7 : List (List Int)) (x8 x9 : Int) : run1 E call ii_normalOf_3 [tI x0, tLI x1, tI x2, tI x3, tLA8 x4, tI x5, tI x6, tLA8 x7, tI x8, tI x9] = bi_normalOf_3 call x0 x1 x2 x3 x4 x5 x6 x7 x8 x9 := by kernel_rfl
theorem vi_normalOf_3 (x0 : Int) (x1 : List Int) (x2 x3 : Int) (x4 : List (List Int)) (x5 x6 : Int) (x7 : List (List Int)) (x8 x9 : Int) {o : List TV} (h : bi_normalOf_3 R x0 x1 x2 x3 x4 x5 x6 x7 x8 x9 = some o) : R ii_normalOf_3 [tI x0, tLI x1, tI x2, tI x3, tLA8 x4, tI x5, tI x6, tLA8 x7, tI x8, tI x9] = some o := ev_step ((ei_normalOf_3 R x0 x1 x2 x3 x4 x5 x6 x7 x8 x9).trans h)
def bi_normalOf (call : Oracle) (a0 : Int × List Int) : Option (List TV) :=
  (call ii_normalOf_3 [tI a0.1, tLI a0.2, tI 0, tI 0, tLA8 [], tI a0.1, tI 0, tLA8 [], tI ((List.length a0.2 : Nat) : Int), tI 0]).bind fun o9 =>
  some [tPIPILA8 ((gI o9 4), ((gI o9 5), (gLA8 o9 6)))]
theorem ei_normalOf (call : Oracle) (a0 : Int × List Int) : run1 E call ii_normalOf [tPILI a0] = bi_normalOf call a0 := by kernel_rfl
theorem vi_normalOf (a0 : Int × List Int) {o : List TV} (h : bi_normalOf R a0 = some o) : R ii_normalOf [tPILI a0] = some o := ev_step ((ei_normalOf R a0).trans h)
def bg_Equal___i_Simple_i_Simple__4 (call : Oracle) (x0 x1 : List (List Int)) (x2 x3 : Int) : Option (List TV) :=
  bif decide (x3 < x2) then
    bif (decide (0 ≤ x3) && decide (x3 < ((List.length x0 : Nat) : Int))) then
      bif (decide (0 ≤ x3) && decide (x3 < ((List.length x1 : Nat) : Int))) then
        bif ((List.getD x0 (Int.toNat x3) (List.replicate 8 0)) != (List.getD x1 (Int.toNat x3) (List.replicate 8 0))) then
          some [tI 1, tB false]
        else
          call ig_Equal___i_Simple_i_Simple__4 [tLA8 x0, tLA8 x1, tI x2, tI (wi64 (x3 + 1))]
      else none
    else none
  else
    some [tI 0]
theorem eg_Equal___i_Simple_i_Simple__4 (call : Oracle) (x0 x1 : List (List Int)) (x2 x3 : Int) : run1 E call ig_Equal___i_Simple_i_Simple__4 [tLA8 x0, tLA8 x1, tI x2, tI x3] = bg_Equal___i_Simple_i_Simple__4 call x0 x1 x2 x3 := by kernel_rfl
theorem vg_Equal___i_Simple_i_Simple__4 (x0 x1 : List (List Int)) (x2 x3 : Int) {o : List TV} (h : bg_Equal___i_Simple_i_Simple__4 R x0 x1 x2 x3 = some o) : R ig_Equal___i_Simple_i_Simple__4 [tLA8 x0, tLA8 x1, tI x2, tI x3] = some o := ev_step ((eg_Equal___i_Simple_i_Simple__4 R x0 x1 x2 x3).trans h)
def bg_Equal___i_Simple_i_Simple_ (call : Oracle) (a0 a1 : List (List Int)) : Option (List TV) :=
  bif (((List.length a0 : Nat) : Int) != ((List.length a1 : Nat) : Int)) then
    some [tB false]
  else
    (call ig_Equal___i_Simple_i_Simple__4 [tLA8 a0, tLA8 a1, tI ((List.length a0 : Nat) : Int), tI 0]).bind fun o1 =>
    bif ((gI o1 0) == 0) then
      some [tB true]
    else
      some [tB (gB o1 1)]
theorem eg_Equal___i_Simple_i_Simple_ (call : Oracle) (a0 a1 : List (List Int)) : run1 E call ig_Equal___i_Simple_i_Simple_ [tLA8 a0, tLA8 a1] = bg_Equal___i_Simple_i_Simple_ call a0 a1 := by kernel_rfl
theorem vg_Equal___i_Simple_i_Simple_ (a0 a1 : List (List Int)) {o : List TV} (h : bg_Equal___i_Simple_i_Simple_ R a0 a1 = some o) : R ig_Equal___i_Simple_i_Simple_ [tLA8 a0, tLA8 a1] = some o := ev_step ((eg_Equal___i_Simple_i_Simple_ R a0 a1).trans h)
def bi_sameNormal (call : Oracle) (a0 a1 : Int × Int × List (List Int)) : Option (List TV) :=
  bif (a0.1 == a1.1) then
    bif (a0.2.1 == a1.2.1) then
      (call ig_Equal___i_Simple_i_Simple_ [tLA8 a0.2.2, tLA8 a1.2.2]).bind fun o1 =>
      some [tB (gB o1 0)]
    else
      some [tB false]
  else
    some [tB false]
theorem ei_sameNormal (call : Oracle) (a0 a1 : Int × Int × List (List Int)) : run1 E call ii_sameNormal [tPIPILA8 a0, tPIPILA8 a1] = bi_sameNormal call a0 a1 := by kernel_rfl
theorem vi_sameNormal (a0 a1 : Int × Int × List (List Int)) {o : List TV} (h : bi_sameNormal R a0 a1 = some o) : R ii_sameNormal [tPIPILA8 a0, tPIPILA8 a1] = some o := ev_step ((ei_sameNormal R a0 a1).trans h)
def bi_SameBraid (call : Oracle) (a0 a1 : Int × List Int) : Option (List TV) :=
  (call ii_IsBraid [tPILI (a0.1, a0.2)]).bind fun o1 =>
  bif (!(gB o1 0)) then
    some [tB false, tI 1]
  else
    (call ii_IsBraid [tPILI (a1.1, a1.2)]).bind fun o2 =>
    bif (!(gB o2 0)) then
      some [tB false, tI 1]
    else
      bif (a0.1 != a1.1) then
        some [tB false, tI 2]
      else
        (call ii_normalOf [tPILI (a0.1, a0.2)]).bind fun o3 =>
        (call ii_normalOf [tPILI (a1.1, a1.2)]).bind fun o4 =>
        (call ii_sameNormal [tPIPILA8 ((gPIPILA8 o3 0).1, (((gPIPILA8 o3 0).2).1, ((gPIPILA8 o3 0).2).2)), tPIPILA8 ((gPIPILA8 o4 0).1, (((gPIPILA8 o4 0).2).1, ((gPIPILA8 o4 0).2).2))]).bind fun o5 =>
        some [tB (gB o5 0), tI 0]
theorem ei_SameBraid (call : Oracle) (a0 a1 : Int × List Int) : run1 E call ii_SameBraid [tPILI a0, tPILI a1] = bi_SameBraid call a0 a1 := by kernel_rfl
theorem vi_SameBraid (a0 a1 : Int × List Int) {o : List TV} (h : bi_SameBraid R a0 a1 = some o) : R ii_SameBraid [tPILI a0, tPILI a1] = some o := ev_step ((ei_SameBraid R a0 a1).trans h)
def bs_l01Inverse_3 (call : Oracle) (x0 x1 : List Int) (x2 : Int) : Option (List TV) :=
  bif decide (0 ≤ x2) then
    bif (decide (0 ≤ x2) && decide (x2 < ((List.length x0 : Nat) : Int))) then
      bif (apOk x1 [(wi64 (0 - (List.getD x0 (Int.toNat x2) 0)))]) then
        call is_l01Inverse_3 [tLI x0, tLI (x1 ++ [(wi64 (0 - (List.getD x0 (Int.toNat x2) 0)))]), tI (wi64 (x2 - 1))]
      else none
    else none
  else
    some [tI 0, tLI x1]
theorem es_l01Inverse_3 (call : Oracle) (x0 x1 : List Int) (x2 : Int) : run1 E call is_l01Inverse_3 [tLI x0, tLI x1, tI x2] = bs_l01Inverse_3 call x0 x1 x2 := by kernel_rfl
theorem vs_l01Inverse_3 (x0 x1 : List Int) (x2 : Int) {o : List TV} (h : bs_l01Inverse_3 R x0 x1 x2 = some o) : R is_l01Inverse_3 [tLI x0, tLI x1, tI x2] = some o := ev_step ((es_l01Inverse_3 R x0 x1 x2).trans h)
def bs_l01Inverse (call : Oracle) (a0 : List Int) : Option (List TV) :=
  (call is_l01Inverse_3 [tLI a0, tLI [], tI (wi64 (((List.length a0 : Nat) : Int) - 1))]).bind fun o1 =>
  some [tLI (gLI o1 1)]
theorem es_l01Inverse (call : Oracle) (a0 : List Int) : run1 E call is_l01Inverse [tLI a0] = bs_l01Inverse call a0 := by kernel_rfl
theorem vs_l01Inverse (a0 : List Int) {o : List TV} (h : bs_l01Inverse R a0 = some o) : R is_l01Inverse [tLI a0] = some o := ev_step ((es_l01Inverse R a0).trans h)
def bs_l06Trivial (call : Oracle) (a0 : List Int × Int × Int) : Option (List TV) :=
  (call is_l01Next [tPLU8PIU64 (a0.1, (a0.2.1, a0.2.2)), tI 4]).bind fun o1 =>
  (call is_l01Draw [tPLU8PIU64 ((gPLU8PIU64 o1 1).1, (((gPLU8PIU64 o1 1).2).1, ((gPLU8PIU64 o1 1).2).2)), tI (wi64 (2 + (gI o1 0))), tI 8]).bind fun o2 =>
  (call is_l01Own [tLI (gLI o2 0)]).bind fun o3 =>
  (call is_l01Inverse [tLI (gLI o2 0)]).bind fun o4 =>
  bif (apOk (gLI o3 0) (gLI o4 0)) then
    bif decide (2 < (wi64 (2 + (gI o1 0)))) then
      (call is_l01Next [tPLU8PIU64 ((gPLU8PIU64 o2 1).1, (((gPLU8PIU64 o2 1).2).1, ((gPLU8PIU64 o2 1).2).2)), tI (wi64 ((wi64 (2 + (gI o1 0))) - 2))]).bind fun o5 =>
      (call is_l01Next [tPLU8PIU64 ((gPLU8PIU64 o5 1).1, (((gPLU8PIU64 o5 1).2).1, ((gPLU8PIU64 o5 1).2).2)), tI (wi64 (((List.length ((gLI o3 0) ++ (gLI o4 0)) : Nat) : Int) + 1))]).bind fun o6 =>
      bif (decide (0 ≤ (gI o6 0)) && decide ((gI o6 0) ≤ ((List.length ((gLI o3 0) ++ (gLI o4 0)) : Nat) : Int))) then
        (call is_l01Own [tLI (List.take (Int.toNat (gI o6 0)) ((gLI o3 0) ++ (gLI o4 0)))]).bind fun o7 =>
        bif (apOk (gLI o7 0) [(wi64 (1 + (gI o5 0))), (wi64 ((wi64 (1 + (gI o5 0))) + 1)), (wi64 (1 + (gI o5 0))), (wi64 ((wi64 (0 - (wi64 (1 + (gI o5 0))))) - 1)), (wi64 (0 - (wi64 (1 + (gI o5 0))))), (wi64 ((wi64 (0 - (wi64 (1 + (gI o5 0))))) - 1))]) then
          bif (decide (0 ≤ (gI o6 0)) && decide ((gI o6 0) ≤ ((List.length ((gLI o3 0) ++ (gLI o4 0)) : Nat) : Int))) then
            bif (apOk ((gLI o7 0) ++ [(wi64 (1 + (gI o5 0))), (wi64 ((wi64 (1 + (gI o5 0))) + 1)), (wi64 (1 + (gI o5 0))), (wi64 ((wi64 (0 - (wi64 (1 + (gI o5 0))))) - 1)), (wi64 (0 - (wi64 (1 + (gI o5 0))))), (wi64 ((wi64 (0 - (wi64 (1 + (gI o5 0))))) - 1))]) (List.drop (Int.toNat (gI o6 0)) ((gLI o3 0) ++ (gLI o4 0)))) then
              (call is_l01Next [tPLU8PIU64 ((gPLU8PIU64 o6 1).1, (((gPLU8PIU64 o6 1).2).1, ((gPLU8PIU64 o6 1).2).2)), tI 3]).bind fun o8 =>
              bif ((gI o8 0) == 0) then
                (call is_l01Pick [tPLU8PIU64 ((gPLU8PIU64 o8 1).1, (((gPLU8PIU64 o8 1).2).1, ((gPLU8PIU64 o8 1).2).2)), tLI [1, (-1)]]).bind fun o9 =>
                (call is_l01Next [tPLU8PIU64 ((gPLU8PIU64 o9 1).1, (((gPLU8PIU64 o9 1).2).1, ((gPLU8PIU64 o9 1).2).2)), tI (wi64 ((wi64 (2 + (gI o1 0))) - 1))]).bind fun o10 =>
                bif (apOk (((gLI o7 0) ++ [(wi64 (1 + (gI o5 0))), (wi64 ((wi64 (1 + (gI o5 0))) + 1)), (wi64 (1 + (gI o5 0))), (wi64 ((wi64 (0 - (wi64 (1 + (gI o5 0))))) - 1)), (wi64 (0 - (wi64 (1 + (gI o5 0))))), (wi64 ((wi64 (0 - (wi64 (1 + (gI o5 0))))) - 1))]) ++ (List.drop (Int.toNat (gI o6 0)) ((gLI o3 0) ++ (gLI o4 0)))) [(wi64 ((gI o9 0) * (wi64 (1 + (gI o10 0)))))]) then
                  some [tPILI ((wi64 (2 + (gI o1 0))), ((((gLI o7 0) ++ [(wi64 (1 + (gI o5 0))), (wi64 ((wi64 (1 + (gI o5 0))) + 1)), (wi64 (1 + (gI o5 0))), (wi64 ((wi64 (0 - (wi64 (1 + (gI o5 0))))) - 1)), (wi64 (0 - (wi64 (1 + (gI o5 0))))), (wi64 ((wi64 (0 - (wi64 (1 + (gI o5 0))))) - 1))]) ++ (List.drop (Int.toNat (gI o6 0)) ((gLI o3 0) ++ (gLI o4 0)))) ++ [(wi64 ((gI o9 0) * (wi64 (1 + (gI o10 0)))))])), tPLU8PIU64 ((gPLU8PIU64 o10 1).1, (((gPLU8PIU64 o10 1).2).1, ((gPLU8PIU64 o10 1).2).2))]
                else none
              else
                some [tPILI ((wi64 (2 + (gI o1 0))), (((gLI o7 0) ++ [(wi64 (1 + (gI o5 0))), (wi64 ((wi64 (1 + (gI o5 0))) + 1)), (wi64 (1 + (gI o5 0))), (wi64 ((wi64 (0 - (wi64 (1 + (gI o5 0))))) - 1)), (wi64 (0 - (wi64 (1 + (gI o5 0))))), (wi64 ((wi64 (0 - (wi64 (1 + (gI o5 0))))) - 1))]) ++ (List.drop (Int.toNat (gI o6 0)) ((gLI o3 0) ++ (gLI o4 0))))), tPLU8PIU64 ((gPLU8PIU64 o8 1).1, (((gPLU8PIU64 o8 1).2).1, ((gPLU8PIU64 o8 1).2).2))]
            else none
          else none
        else none
      else none
    else
      (call is_l01Next [tPLU8PIU64 ((gPLU8PIU64 o2 1).1, (((gPLU8PIU64 o2 1).2).1, ((gPLU8PIU64 o2 1).2).2)), tI 3]).bind fun o11 =>
      bif ((gI o11 0) == 0) then
        (call is_l01Pick [tPLU8PIU64 ((gPLU8PIU64 o11 1).1, (((gPLU8PIU64 o11 1).2).1, ((gPLU8PIU64 o11 1).2).2)), tLI [1, (-1)]]).bind fun o12 =>
        (call is_l01Next [tPLU8PIU64 ((gPLU8PIU64 o12 1).1, (((gPLU8PIU64 o12 1).2).1, ((gPLU8PIU64 o12 1).2).2)), tI (wi64 ((wi64 (2 + (gI o1 0))) - 1))]).bind fun o13 =>
        bif (apOk ((gLI o3 0) ++ (gLI o4 0)) [(wi64 ((gI o12 0) * (wi64 (1 + (gI o13 0)))))]) then
          some [tPILI ((wi64 (2 + (gI o1 0))), (((gLI o3 0) ++ (gLI o4 0)) ++ [(wi64 ((gI o12 0) * (wi64 (1 + (gI o13 0)))))])), tPLU8PIU64 ((gPLU8PIU64 o13 1).1, (((gPLU8PIU64 o13 1).2).1, ((gPLU8PIU64 o13 1).2).2))]
        else none
      else
        some [tPILI ((wi64 (2 + (gI o1 0))), ((gLI o3 0) ++ (gLI o4 0))), tPLU8PIU64 ((gPLU8PIU64 o11 1).1, (((gPLU8PIU64 o11 1).2).1, ((gPLU8PIU64 o11 1).2).2))]
  else none
theorem es_l06Trivial (call : Oracle) (a0 : List Int × Int × Int) : run1 E call is_l06Trivial [tPLU8PIU64 a0] = bs_l06Trivial call a0 := by kernel_rfl
theorem vs_l06Trivial (a0 : List Int × Int × Int) {o : List TV} (h : bs_l06Trivial R a0 = some o) : R is_l06Trivial [tPLU8PIU64 a0] = some o := ev_step ((es_l06Trivial R a0).trans h)
def bs_l01Two (call : Oracle) (a0 : List Int) : Option (List TV) :=
  (call is_l01From [tLU8 a0]).bind fun o1 =>
  (call is_l01Spoil [tPLU8PIU64 ((gPLU8PIU64 o1 0).1, (((gPLU8PIU64 o1 0).2).1, ((gPLU8PIU64 o1 0).2).2))]).bind fun o2 =>
  (call is_l01Next [tPLU8PIU64 ((gPLU8PIU64 o2 1).1, (((gPLU8PIU64 o2 1).2).1, ((gPLU8PIU64 o2 1).2).2)), tI 16]).bind fun o3 =>
  bif ((gI o3 0) == 0) then
    (call is_l01Spoil [tPLU8PIU64 ((gPLU8PIU64 o3 1).1, (((gPLU8PIU64 o3 1).2).1, ((gPLU8PIU64 o3 1).2).2))]).bind fun o4 =>
    some [tPILI ((gPILI o2 0).1, (gPILI o2 0).2), tPILI ((gPILI o4 0).1, (gPILI o4 0).2)]
  else
    (call is_l01Pick [tPLU8PIU64 ((gPLU8PIU64 o3 1).1, (((gPLU8PIU64 o3 1).2).1, ((gPLU8PIU64 o3 1).2).2)), tLI [4, 10, 20]]).bind fun o5 =>
    (call is_l01Draw [tPLU8PIU64 ((gPLU8PIU64 o5 1).1, (((gPLU8PIU64 o5 1).2).1, ((gPLU8PIU64 o5 1).2).2)), tI (mn (mx ((gPILI o2 0).1) 1) 8), tI (gI o5 0)]).bind fun o6 =>
    (call is_l01Broken [tPLU8PIU64 ((gPLU8PIU64 o6 1).1, (((gPLU8PIU64 o6 1).2).1, ((gPLU8PIU64 o6 1).2).2)), tPILI ((mn (mx ((gPILI o2 0).1) 1) 8), (gLI o6 0))]).bind fun o7 =>
    some [tPILI ((gPILI o2 0).1, (gPILI o2 0).2), tPILI ((gPILI o7 0).1, (gPILI o7 0).2)]
theorem es_l01Two (call : Oracle) (a0 : List Int) : run1 E call is_l01Two [tLU8 a0] = bs_l01Two call a0 := by kernel_rfl
theorem vs_l01Two (a0 : List Int) {o : List TV} (h : bs_l01Two R a0 = some o) : R is_l01Two [tLU8 a0] = some o := ev_step ((es_l01Two R a0).trans h)
def bs_DrawEqualByBands (call : Oracle) (a0 : List Int) : Option (List TV) :=
  (call is_l01From [tLU8 a0]).bind fun o1 =>
  (call is_l01Next [tPLU8PIU64 ((gPLU8PIU64 o1 0).1, (((gPLU8PIU64 o1 0).2).1, ((gPLU8PIU64 o1 0).2).2)), tI 2]).bind fun o2 =>
  bif ((gI o2 0) == 0) then
    (call is_l06Trivial [tPLU8PIU64 ((gPLU8PIU64 o2 1).1, (((gPLU8PIU64 o2 1).2).1, ((gPLU8PIU64 o2 1).2).2))]).bind fun o3 =>
    some [tPILI ((gPILI o3 0).1, (gPILI o3 0).2), tPILI ((gPILI o3 0).1, [])]
  else
    (call is_l01Two [tLU8 a0]).bind fun o4 =>
    some [tPILI ((gPILI o4 0).1, (gPILI o4 0).2), tPILI ((gPILI o4 1).1, (gPILI o4 1).2)]
theorem es_DrawEqualByBands (call : Oracle) (a0 : List Int) : run1 E call is_DrawEqualByBands [tLU8 a0] = bs_DrawEqualByBands call a0 := by kernel_rfl
theorem vs_DrawEqualByBands (a0 : List Int) {o : List TV} (h : bs_DrawEqualByBands R a0 = some o) : R is_DrawEqualByBands [tLU8 a0] = some o := ev_step ((es_DrawEqualByBands R a0).trans h)
def bg_Equal___i_Part_i_Part__4 (call : Oracle) (x0 x1 : List (List Int)) (x2 x3 : Int) : Option (List TV) :=
  bif decide (x3 < x2) then
    bif (decide (0 ≤ x3) && decide (x3 < ((List.length x0 : Nat) : Int))) then
      bif (decide (0 ≤ x3) && decide (x3 < ((List.length x1 : Nat) : Int))) then
        bif ((List.getD x0 (Int.toNat x3) (List.replicate 8 0)) != (List.getD x1 (Int.toNat x3) (List.replicate 8 0))) then
          some [tI 1, tB false]
        else
          call ig_Equal___i_Part_i_Part__4 [tLA8 x0, tLA8 x1, tI x2, tI (wi64 (x3 + 1))]
      else none
    else none
  else
    some [tI 0]
theorem eg_Equal___i_Part_i_Part__4 (call : Oracle) (x0 x1 : List (List Int)) (x2 x3 : Int) : run1 E call ig_Equal___i_Part_i_Part__4 [tLA8 x0, tLA8 x1, tI x2, tI x3] = bg_Equal___i_Part_i_Part__4 call x0 x1 x2 x3 := by kernel_rfl
theorem vg_Equal___i_Part_i_Part__4 (x0 x1 : List (List Int)) (x2 x3 : Int) {o : List TV} (h : bg_Equal___i_Part_i_Part__4 R x0 x1 x2 x3 = some o) : R ig_Equal___i_Part_i_Part__4 [tLA8 x0, tLA8 x1, tI x2, tI x3] = some o := ev_step ((eg_Equal___i_Part_i_Part__4 R x0 x1 x2 x3).trans h)
def bg_Equal___i_Part_i_Part_ (call : Oracle) (a0 a1 : List (List Int)) : Option (List TV) :=
  bif (((List.length a0 : Nat) : Int) != ((List.length a1 : Nat) : Int)) then
    some [tB false]
  else
    (call ig_Equal___i_Part_i_Part__4 [tLA8 a0, tLA8 a1, tI ((List.length a0 : Nat) : Int), tI 0]).bind fun o1 =>
    bif ((gI o1 0) == 0) then
      some [tB true]
    else
      some [tB (gB o1 1)]
theorem eg_Equal___i_Part_i_Part_ (call : Oracle) (a0 a1 : List (List Int)) : run1 E call ig_Equal___i_Part_i_Part_ [tLA8 a0, tLA8 a1] = bg_Equal___i_Part_i_Part_ call a0 a1 := by kernel_rfl
theorem vg_Equal___i_Part_i_Part_ (a0 a1 : List (List Int)) {o : List TV} (h : bg_Equal___i_Part_i_Part_ R a0 a1 = some o) : R ig_Equal___i_Part_i_Part_ [tLA8 a0, tLA8 a1] = some o := ev_step ((eg_Equal___i_Part_i_Part_ R a0 a1).trans h)
def bi_EqualByBands (call : Oracle) (a0 a1 : Int × List Int) : Option (List TV) :=
  (call ii_IsBraid [tPILI (a0.1, a0.2)]).bind fun o1 =>
  bif (!(gB o1 0)) then
    some [tB false, tI 1]
  else
    (call ii_IsBraid [tPILI (a1.1, a1.2)]).bind fun o2 =>
    bif (!(gB o2 0)) then
      some [tB false, tI 1]
    else
      bif (a0.1 != a1.1) then
        some [tB false, tI 2]
      else
        (call ii_dualOf [tPILI (a0.1, a0.2)]).bind fun o3 =>
        (call ii_dualOf [tPILI (a1.1, a1.2)]).bind fun o4 =>
        bif (((gPIPILA8 o3 0).2).1 == ((gPIPILA8 o4 0).2).1) then
          (call ig_Equal___i_Part_i_Part_ [tLA8 (((gPIPILA8 o3 0).2).2), tLA8 (((gPIPILA8 o4 0).2).2)]).bind fun o5 =>
          some [tB (gB o5 0), tI 0]
        else
          some [tB false, tI 0]
theorem ei_EqualByBands (call : Oracle) (a0 a1 : Int × List Int) : run1 E call ii_EqualByBands [tPILI a0, tPILI a1] = bi_EqualByBands call a0 a1 := by kernel_rfl
theorem vi_EqualByBands (a0 a1 : Int × List Int) {o : List TV} (h : bi_EqualByBands R a0 a1 = some o) : R ii_EqualByBands [tPILI a0, tPILI a1] = some o := ev_step ((ei_EqualByBands R a0 a1).trans h)
def bs_l07Same_4 (call : Oracle) (x0 x1 : Int) (x2 : List (List Int)) (x3 x4 : Int) (x5 : List (List Int)) (x6 : Int) : Option (List TV) :=
  bif decide (x6 < ((List.length x2 : Nat) : Int)) then
    bif (decide (0 ≤ x6) && decide (x6 < ((List.length x2 : Nat) : Int))) then
      bif (decide (0 ≤ x6) && decide (x6 < ((List.length x5 : Nat) : Int))) then
        bif ((List.getD x2 (Int.toNat x6) (List.replicate 8 0)) != (List.getD x5 (Int.toNat x6) (List.replicate 8 0))) then
          some [tI 1, tB false]
        else
          call is_l07Same_4 [tI x0, tI x1, tLA8 x2, tI x3, tI x4, tLA8 x5, tI (wi64 (x6 + 1))]
      else none
    else none
  else
    some [tI 0]
theorem es_l07Same_4 (call : Oracle) (x0 x1 : Int) (x2 : List (List Int)) (x3 x4 : Int) (x5 : List (List Int)) (x6 : Int) : run1 E call is_l07Same_4 [tI x0, tI x1, tLA8 x2, tI x3, tI x4, tLA8 x5, tI x6] = bs_l07Same_4 call x0 x1 x2 x3 x4 x5 x6 := by kernel_rfl
theorem vs_l07Same_4 (x0 x1 : Int) (x2 : List (List Int)) (x3 x4 : Int) (x5 : List (List Int)) (x6 : Int) {o : List TV} (h : bs_l07Same_4 R x0 x1 x2 x3 x4 x5 x6 = some o) : R is_l07Same_4 [tI x0, tI x1, tLA8 x2, tI x3, tI x4, tLA8 x5, tI x6] = some o := ev_step ((es_l07Same_4 R x0 x1 x2 x3 x4 x5 x6).trans h)
def bs_l07Same (call : Oracle) (a0 a1 : Int × Int × List (List Int)) : Option (List TV) :=
  bif (a0.1 != a1.1) then
    some [tB false]
  else
    bif (a0.2.1 != a1.2.1) then
      some [tB false]
    else
      bif (((List.length a0.2.2 : Nat) : Int) != ((List.length a1.2.2 : Nat) : Int)) then
        some [tB false]
      else
        (call is_l07Same_4 [tI a0.1, tI a0.2.1, tLA8 a0.2.2, tI a1.1, tI a1.2.1, tLA8 a1.2.2, tI 0]).bind fun o1 =>
        bif ((gI o1 0) == 0) then
          some [tB true]
        else
          some [tB (gB o1 1)]
theorem es_l07Same (call : Oracle) (a0 a1 : Int × Int × List (List Int)) : run1 E call is_l07Same [tPIPILA8 a0, tPIPILA8 a1] = bs_l07Same call a0 a1 := by kernel_rfl
theorem vs_l07Same (a0 a1 : Int × Int × List (List Int)) {o : List TV} (h : bs_l07Same R a0 a1 = some o) : R is_l07Same [tPIPILA8 a0, tPIPILA8 a1] = some o := ev_step ((es_l07Same R a0 a1).trans h)
def bs_EqualByBands (call : Oracle) (a0 a1 : Int × List Int) : Option (List TV) :=
  (call is_l01Is [tPILI (a0.1, a0.2)]).bind fun o1 =>
  bif (!(gB o1 0)) then
    some [tB false, tI 1]
  else
    (call is_l01Is [tPILI (a1.1, a1.2)]).bind fun o2 =>
    bif (!(gB o2 0)) then
      some [tB false, tI 1]
    else
      bif (a0.1 != a1.1) then
        some [tB false, tI 2]
      else
        (call is_l07Form [tI a0.1, tLI a0.2]).bind fun o3 =>
        (call is_l07Form [tI a1.1, tLI a1.2]).bind fun o4 =>
        (call is_l07Same [tPIPILA8 ((gPIPILA8 o3 0).1, (((gPIPILA8 o3 0).2).1, ((gPIPILA8 o3 0).2).2)), tPIPILA8 ((gPIPILA8 o4 0).1, (((gPIPILA8 o4 0).2).1, ((gPIPILA8 o4 0).2).2))]).bind fun o5 =>
        some [tB (gB o5 0), tI 0]
theorem es_EqualByBands (call : Oracle) (a0 a1 : Int × List Int) : run1 E call is_EqualByBands [tPILI a0, tPILI a1] = bs_EqualByBands call a0 a1 := by kernel_rfl
theorem vs_EqualByBands (a0 a1 : Int × List Int) {o : List TV} (h : bs_EqualByBands R a0 a1 = some o) : R is_EqualByBands [tPILI a0, tPILI a1] = some o := ev_step ((es_EqualByBands R a0 a1).trans h)
def bs_l07Crossing_2 (call : Oracle) (x0 : List Int) (x1 x2 : Int) : Option (List TV) :=
  bif decide (x2 < x1) then
    (call is_l07Crossing_5 [tAi8 x0, tI x1, tI x2, tI (wi64 (x2 + 1))]).bind fun o6 =>
    bif ((gI o6 0) == 0) then
      call is_l07Crossing_2 [tAi8 (gAi8 o6 1), tI (gI o6 2), tI (wi64 ((gI o6 3) + 1))]
    else
      some [tI 1, tB (gB o6 1)]
  else
    some [tI 0]
theorem es_l07Crossing_2 (call : Oracle) (x0 : List Int) (x1 x2 : Int) : run1 E call is_l07Crossing_2 [tAi8 x0, tI x1, tI x2] = bs_l07Crossing_2 call x0 x1 x2 := by kernel_rfl
theorem vs_l07Crossing_2 (x0 : List Int) (x1 x2 : Int) {o : List TV} (h : bs_l07Crossing_2 R x0 x1 x2 = some o) : R is_l07Crossing_2 [tAi8 x0, tI x1, tI x2] = some o := ev_step ((es_l07Crossing_2 R x0 x1 x2).trans h)
def bs_l07Crossing_5 (call : Oracle) (x0 : List Int) (x1 x2 x3 : Int) : Option (List TV) :=
  bif decide (x3 < x1) then
    (call is_l07Crossing_8 [tAi8 x0, tI x1, tI x2, tI x3, tI (wi64 (x3 + 1))]).bind fun o4 =>
    bif ((gI o4 0) == 0) then
      call is_l07Crossing_5 [tAi8 (gAi8 o4 1), tI (gI o4 2), tI (gI o4 3), tI (wi64 ((gI o4 4) + 1))]
    else
      some [tI 1, tB (gB o4 1)]
  else
    some [tI 0, tAi8 x0, tI x1, tI x2]
theorem es_l07Crossing_5 (call : Oracle) (x0 : List Int) (x1 x2 x3 : Int) : run1 E call is_l07Crossing_5 [tAi8 x0, tI x1, tI x2, tI x3] = bs_l07Crossing_5 call x0 x1 x2 x3 := by kernel_rfl
theorem vs_l07Crossing_5 (x0 : List Int) (x1 x2 x3 : Int) {o : List TV} (h : bs_l07Crossing_5 R x0 x1 x2 x3 = some o) : R is_l07Crossing_5 [tAi8 x0, tI x1, tI x2, tI x3] = some o := ev_step ((es_l07Crossing_5 R x0 x1 x2 x3).trans h)
def bs_l07Crossing_8 (call : Oracle) (x0 : List Int) (x1 x2 : Int) (x3 x4 : Int) : Option (List TV) :=
  bif decide (x4 < x1) then
    (call is_l07Crossing_11 [tAi8 x0, tI x1, tI x2, tI x3, tI x4, tI (wi64 (x4 + 1))]).bind fun o2 =>
    bif ((gI o2 0) == 0) then
      call is_l07Crossing_8 [tAi8 (gAi8 o2 1), tI (gI o2 2), tI (gI o2 3), tI (gI o2 4), tI (wi64 ((gI o2 5) + 1))]
    else
      some [tI 1, tB (gB o2 1)]
  else
    some [tI 0, tAi8 x0, tI x1, tI x2, tI x3]
theorem es_l07Crossing_8 (call : Oracle) (x0 : List Int) (x1 x2 : Int) (x3 x4 : Int) : run1 E call is_l07Crossing_8 [tAi8 x0, tI x1, tI x2, tI x3, tI x4] = bs_l07Crossing_8 call x0 x1 x2 x3 x4 := by kernel_rfl
theorem vs_l07Crossing_8 (x0 : List Int) (x1 x2 : Int) (x3 x4 : Int) {o : List TV} (h : bs_l07Crossing_8 R x0 x1 x2 x3 x4 = some o) : R is_l07Crossing_8 [tAi8 x0, tI x1, tI x2, tI x3, tI x4] = some o := ev_step ((es_l07Crossing_8 R x0 x1 x2 x3 x4).trans h)
def bs_l07Crossing_11 (call : Oracle) (x0 : List Int) (x1 x2 : Int) (x3 x4 x5 : Int) : Option (List TV) :=
  bif decide (x5 < x1) then
    bif (decide (0 ≤ x2) && decide (x2 < 8)) then
      bif (decide (0 ≤ x4) && decide (x4 < 8)) then
        bif ((List.getD x0 (Int.toNat x2) 0) == (List.getD x0 (Int.toNat x4) 0)) then
          bif (decide (0 ≤ x3) && decide (x3 < 8)) then
            bif (decide (0 ≤ x5) && decide (x5 < 8)) then
              bif ((List.getD x0 (Int.toNat x3) 0) == (List.getD x0 (Int.toNat x5) 0)) then
                bif (decide (0 ≤ x2) && decide (x2 < 8)) then
                  bif (decide (0 ≤ x3) && decide (x3 < 8)) then
                    bif ((List.getD x0 (Int.toNat x2) 0) != (List.getD x0 (Int.toNat x3) 0)) then
                      some [tI 1, tB true]
                    else
                      call is_l07Crossing_11 [tAi8 x0, tI x1, tI x2, tI x3, tI x4, tI (wi64 (x5 + 1))]
                  else none
                else none
              else
                call is_l07Crossing_11 [tAi8 x0, tI x1, tI x2, tI x3, tI x4, tI (wi64 (x5 + 1))]
            else none
          else none
        else
          call is_l07Crossing_11 [tAi8 x0, tI x1, tI x2, tI x3, tI x4, tI (wi64 (x5 + 1))]
      else none
    else none
  else
    some [tI 0, tAi8 x0, tI x1, tI x2, tI x3, tI x4]
theorem es_l07Crossing_11 (call : Oracle) (x0 : List Int) (x1 x2 : Int) (x3 x4 x5 : Int) : run1 E call is_l07Crossing_11 [tAi8 x0, tI x1, tI x2, tI x3, tI x4, tI x5] = bs_l07Crossing_11 call x0 x1 x2 x3 x4 x5 := by kernel_rfl
theorem vs_l07Crossing_11 (x0 : List Int) (x1 x2 : Int) (x3 x4 x5 : Int) {o : List TV} (h : bs_l07Crossing_11 R x0 x1 x2 x3 x4 x5 = some o) : R is_l07Crossing_11 [tAi8 x0, tI x1, tI x2, tI x3, tI x4, tI x5] = some o := ev_step ((es_l07Crossing_11 R x0 x1 x2 x3 x4 x5).trans h)
def bs_l07Crossing (call : Oracle) (a0 : List Int) (a1 : Int) : Option (List TV) :=
  (call is_l07Crossing_2 [tAi8 a0, tI a1, tI 0]).bind fun o7 =>
  bif ((gI o7 0) == 0) then
    some [tB false]
  else
    some [tB (gB o7 1)]
theorem es_l07Crossing (call : Oracle) (a0 : List Int) (a1 : Int) : run1 E call is_l07Crossing [tAi8 a0, tI a1] = bs_l07Crossing call a0 a1 := by kernel_rfl
theorem vs_l07Crossing (a0 : List Int) (a1 : Int) {o : List TV} (h : bs_l07Crossing R a0 a1 = some o) : R is_l07Crossing [tAi8 a0, tI a1] = some o := ev_step ((es_l07Crossing R a0 a1).trans h)
def bs_l07Draw_3 (call : Oracle) (x0 x1 : Int) (x2 x3 x4 : List Int) (x5 x6 : Int) : Option (List TV) :=
  bif decide (0 < x6) then
    (call is_l01Next [tPLU8PIU64 (x2, (x0, x1)), tI x5]).bind fun o6 =>
    (call is_l01Next [tPLU8PIU64 ((gPLU8PIU64 o6 1).1, (((gPLU8PIU64 o6 1).2).1, ((gPLU8PIU64 o6 1).2).2)), tI x5]).bind fun o7 =>
    (call is_l07Draw_8 [tI (((gPLU8PIU64 o7 1).2).1), tU64 (((gPLU8PIU64 o7 1).2).2), tLU8 ((gPLU8PIU64 o7 1).1), tA8 x3, tAi8 x4, tAi8 x4, tI x5, tI x6, tI (gI o6 0), tI (gI o7 0), tI 0]).bind fun o8 =>
    (call is_l07Crossing [tAi8 (gAi8 o8 6), tI (gI o8 7)]).bind fun o9 =>
    bif (!(gB o9 0)) then
      call is_l07Draw_3 [tI (gI o8 1), tU64 (gU64 o8 2), tLU8 (gLU8 o8 3), tA8 (gA8 o8 4), tAi8 (gAi8 o8 6), tI (gI o8 7), tI (wi64 ((gI o8 8) - 1))]
    else
      call is_l07Draw_3 [tI (gI o8 1), tU64 (gU64 o8 2), tLU8 (gLU8 o8 3), tA8 (gA8 o8 4), tAi8 (gAi8 o8 5), tI (gI o8 7), tI (wi64 ((gI o8 8) - 1))]
  else
    some [tI 0, tI x0, tU64 x1, tLU8 x2, tA8 x3, tAi8 x4, tI x5]
theorem es_l07Draw_3 (call : Oracle) (x0 x1 : Int) (x2 x3 x4 : List Int) (x5 x6 : Int) : run1 E call is_l07Draw_3 [tI x0, tU64 x1, tLU8 x2, tA8 x3, tAi8 x4, tI x5, tI x6] = bs_l07Draw_3 call x0 x1 x2 x3 x4 x5 x6 := by kernel_rfl
theorem vs_l07Draw_3 (x0 x1 : Int) (x2 x3 x4 : List Int) (x5 x6 : Int) {o : List TV} (h : bs_l07Draw_3 R x0 x1 x2 x3 x4 x5 x6 = some o) : R is_l07Draw_3 [tI x0, tU64 x1, tLU8 x2, tA8 x3, tAi8 x4, tI x5, tI x6] = some o := ev_step ((es_l07Draw_3 R x0 x1 x2 x3 x4 x5 x6).trans h)
end
end Go.Ev.Yteclcmiopobnaaa
