/- Bodies, part 1. -/
import Derived.KernelRfl
import Derived.Test.YteclcmiopobnaaaEnv
set_option linter.unusedVariables false
namespace Go.Ev.Yteclcmiopobnaaa
open Go.Ev
/-- impl.mainOf -/
noncomputable def bi_mainOf (call : Oracle) (a0 : List Int) : Option (List TV) :=
  (call ii_mainOf_3 [tLI a0, tI 0, tB false, tI ((List.length a0 : Nat) : Int), tI 0]).bind fun o5 =>
  bif (gB o5 2) then
    some [tI 0]
  else
    some [tI (gI o5 1)]
theorem ei_mainOf (call : Oracle) (a0 : List Int) : run1 E call ii_mainOf [tLI a0] = bi_mainOf call a0 := by kernel_rfl
theorem vi_mainOf (a0 : List Int) {o : List TV} (h : bi_mainOf R a0 = some o) : R ii_mainOf [tLI a0] = some o := ev_step ((ei_mainOf R a0).trans h)
/-- impl.mainLetter -/
noncomputable def bi_mainLetter (call : Oracle) (a0 : List Int) : Option (List TV) :=
  (call ii_reduction [tLI a0]).bind fun o1 =>
  (call ii_mainOf [tLI (gLI o1 0)]).bind fun o2 =>
  some [tI (gI o2 0), tI (gI o1 1)]
theorem ei_mainLetter (call : Oracle) (a0 : List Int) : run1 E call ii_mainLetter [tLI a0] = bi_mainLetter call a0 := by kernel_rfl
theorem vi_mainLetter (a0 : List Int) {o : List TV} (h : bi_mainLetter R a0 = some o) : R ii_mainLetter [tLI a0] = some o := ev_step ((ei_mainLetter R a0).trans h)
/-- impl.MainLetter -/
noncomputable def bi_MainLetter (call : Oracle) (a0 : Int × List Int) : Option (List TV) :=
  (call ii_IsBraid [tPILI (a0.1, a0.2)]).bind fun o1 =>
  bif (!(gB o1 0)) then
    some [tI 0, tI 1]
  else
    (call ii_mainLetter [tLI a0.2]).bind fun o2 =>
    some [tI (gI o2 0), tI (gI o2 1)]
theorem ei_MainLetter (call : Oracle) (a0 : Int × List Int) : run1 E call ii_MainLetter [tPILI a0] = bi_MainLetter call a0 := by kernel_rfl
theorem vi_MainLetter (a0 : Int × List Int) {o : List TV} (h : bi_MainLetter R a0 = some o) : R ii_MainLetter [tPILI a0] = some o := ev_step ((ei_MainLetter R a0).trans h)
/-- spec.l06Main loop 3 -/
noncomputable def bs_l06Main_3 (call : Oracle) (x0 : List Int) (x1 : Int) (x2 : Int) : Option (List TV) :=
  bif decide (x2 < ((List.length x0 : Nat) : Int)) then
    bif (decide (0 ≤ x2) && decide (x2 < ((List.length x0 : Nat) : Int))) then
      (call is_l06Index [tI (List.getD x0 (Int.toNat x2) 0)]).bind fun o2 =>
      call is_l06Main_3 [tLI x0, tI (mn x1 (gI o2 0)), tI (wi64 (x2 + 1))]
    else none
  else
    some [tI 0, tLI x0, tI x1]
theorem es_l06Main_3 (call : Oracle) (x0 : List Int) (x1 : Int) (x2 : Int) : run1 E call is_l06Main_3 [tLI x0, tI x1, tI x2] = bs_l06Main_3 call x0 x1 x2 := by kernel_rfl
theorem vs_l06Main_3 (x0 : List Int) (x1 : Int) (x2 : Int) {o : List TV} (h : bs_l06Main_3 R x0 x1 x2 = some o) : R is_l06Main_3 [tLI x0, tI x1, tI x2] = some o := ev_step ((es_l06Main_3 R x0 x1 x2).trans h)
/-- spec.l06Main loop 8 -/
noncomputable def bs_l06Main_8 (call : Oracle) (x0 : List Int) (x1 : Int) (x2 : Bool) (x3 : Bool) (x4 : Int) : Option (List TV) :=
  bif decide (x4 < ((List.length x0 : Nat) : Int)) then
    bif x2 then
      bif x3 then
        call is_l06Main_8 [tLI x0, tI x1, tB true, tB true, tI (wi64 (x4 + 1))]
      else
        bif (decide (0 ≤ x4) && decide (x4 < ((List.length x0 : Nat) : Int))) then
          call is_l06Main_8 [tLI x0, tI x1, tB true, tB ((List.getD x0 (Int.toNat x4) 0) == (wi64 (0 - x1))), tI (wi64 (x4 + 1))]
        else none
    else
      bif (decide (0 ≤ x4) && decide (x4 < ((List.length x0 : Nat) : Int))) then
        bif x3 then
          call is_l06Main_8 [tLI x0, tI x1, tB ((List.getD x0 (Int.toNat x4) 0) == x1), tB true, tI (wi64 (x4 + 1))]
        else
          bif (decide (0 ≤ x4) && decide (x4 < ((List.length x0 : Nat) : Int))) then
            call is_l06Main_8 [tLI x0, tI x1, tB ((List.getD x0 (Int.toNat x4) 0) == x1), tB ((List.getD x0 (Int.toNat x4) 0) == (wi64 (0 - x1))), tI (wi64 (x4 + 1))]
          else none
      else none
  else
    some [tI 0, tI x1, tB x2, tB x3]
theorem es_l06Main_8 (call : Oracle) (x0 : List Int) (x1 : Int) (x2 : Bool) (x3 : Bool) (x4 : Int) : run1 E call is_l06Main_8 [tLI x0, tI x1, tB x2, tB x3, tI x4] = bs_l06Main_8 call x0 x1 x2 x3 x4 := by kernel_rfl
theorem vs_l06Main_8 (x0 : List Int) (x1 : Int) (x2 : Bool) (x3 : Bool) (x4 : Int) {o : List TV} (h : bs_l06Main_8 R x0 x1 x2 x3 x4 = some o) : R is_l06Main_8 [tLI x0, tI x1, tB x2, tB x3, tI x4] = some o := ev_step ((es_l06Main_8 R x0 x1 x2 x3 x4).trans h)
/-- spec.l06Main -/
noncomputable def bs_l06Main (call : Oracle) (a0 : List Int) : Option (List TV) :=
  (call is_l06Main_3 [tLI a0, tI 8, tI 0]).bind fun o3 =>
  (call is_l06Main_8 [tLI (gLI o3 1), tI (gI o3 2), tB false, tB false, tI 0]).bind fun o4 =>
  bif (gB o4 2) then
    bif (!(gB o4 3)) then
      some [tI (gI o4 1), tI 1]
    else
      bif (gB o4 3) then
        bif (!(gB o4 2)) then
          some [tI (gI o4 1), tI (-1)]
        else
          some [tI (gI o4 1), tI 0]
      else
        some [tI (gI o4 1), tI 0]
  else
    bif (gB o4 3) then
      bif (!(gB o4 2)) then
        some [tI (gI o4 1), tI (-1)]
      else
        some [tI (gI o4 1), tI 0]
    else
      some [tI (gI o4 1), tI 0]
theorem es_l06Main (call : Oracle) (a0 : List Int) : run1 E call is_l06Main [tLI a0] = bs_l06Main call a0 := by kernel_rfl
theorem vs_l06Main (a0 : List Int) {o : List TV} (h : bs_l06Main R a0 = some o) : R is_l06Main [tLI a0] = some o := ev_step ((es_l06Main R a0).trans h)
/-- spec.l06Letter -/
noncomputable def bs_l06Letter (call : Oracle) (a0 : List Int) : Option (List TV) :=
  (call is_l06Reduce [tLI a0]).bind fun o1 =>
  bif (!(gB o1 1)) then
    some [tI 0, tB false]
  else
    (call is_l06Main [tLI (gLI o1 0)]).bind fun o2 =>
    some [tI (wi64 ((gI o2 0) * (gI o2 1))), tB true]
theorem es_l06Letter (call : Oracle) (a0 : List Int) : run1 E call is_l06Letter [tLI a0] = bs_l06Letter call a0 := by kernel_rfl
theorem vs_l06Letter (a0 : List Int) {o : List TV} (h : bs_l06Letter R a0 = some o) : R is_l06Letter [tLI a0] = some o := ev_step ((es_l06Letter R a0).trans h)
/-- spec.MainLetter -/
noncomputable def bs_MainLetter (call : Oracle) (a0 : Int × List Int) : Option (List TV) :=
  (call is_l01Is [tPILI (a0.1, a0.2)]).bind fun o1 =>
  bif (!(gB o1 0)) then
    some [tI 0, tI 1]
  else
    (call is_l06Letter [tLI a0.2]).bind fun o2 =>
    bif (!(gB o2 1)) then
      some [tI 0, tI 3]
    else
      some [tI (gI o2 0), tI 0]
theorem es_MainLetter (call : Oracle) (a0 : Int × List Int) : run1 E call is_MainLetter [tPILI a0] = bs_MainLetter call a0 := by kernel_rfl
theorem vs_MainLetter (a0 : Int × List Int) {o : List TV} (h : bs_MainLetter R a0 = some o) : R is_MainLetter [tPILI a0] = some o := ev_step ((es_MainLetter R a0).trans h)
/-- impl.WordSign -/
noncomputable def bi_WordSign (call : Oracle) (a0 : Int × List Int) : Option (List TV) :=
  (call ii_IsBraid [tPILI (a0.1, a0.2)]).bind fun o1 =>
  bif (!(gB o1 0)) then
    some [tI 0, tI 1]
  else
    (call ii_mainOf [tLI a0.2]).bind fun o2 =>
    bif ((gI o2 0) == 0) then
      some [tI 0, tI 0]
    else
      (call ii_sign [tI (gI o2 0)]).bind fun o3 =>
      some [tI (gI o3 0), tI 0]
theorem ei_WordSign (call : Oracle) (a0 : Int × List Int) : run1 E call ii_WordSign [tPILI a0] = bi_WordSign call a0 := by kernel_rfl
theorem vi_WordSign (a0 : Int × List Int) {o : List TV} (h : bi_WordSign R a0 = some o) : R ii_WordSign [tPILI a0] = some o := ev_step ((ei_WordSign R a0).trans h)
/-- impl.IsTrivial -/
noncomputable def bi_IsTrivial (call : Oracle) (a0 : Int × List Int) : Option (List TV) :=
  (call ii_MainLetter [tPILI (a0.1, a0.2)]).bind fun o1 =>
  bif ((gI o1 0) == 0) then
    some [tB ((gI o1 1) == 0), tI (gI o1 1)]
  else
    some [tB false, tI (gI o1 1)]
theorem ei_IsTrivial (call : Oracle) (a0 : Int × List Int) : run1 E call ii_IsTrivial [tPILI a0] = bi_IsTrivial call a0 := by kernel_rfl
theorem vi_IsTrivial (a0 : Int × List Int) {o : List TV} (h : bi_IsTrivial R a0 = some o) : R ii_IsTrivial [tPILI a0] = some o := ev_step ((ei_IsTrivial R a0).trans h)
/-- impl.nothing loop 3 -/
noncomputable def bi_nothing_3 (call : Oracle) (x0 : List Int) (x1 : List Int) (x2 : Int) (x3 : Int) : Option (List TV) :=
  bif decide (x3 < x2) then
    bif (decide (0 ≤ x3) && decide (x3 < 8)) then
      call ii_nothing_3 [tA8 x0, tA8 (List.set x1 (Int.toNat x3) (wu8 (x3))), tI x2, tI (wi64 (x3 + 1))]
    else none
  else
    some [tI 0, tA8 x0, tA8 x1]
theorem ei_nothing_3 (call : Oracle) (x0 : List Int) (x1 : List Int) (x2 : Int) (x3 : Int) : run1 E call ii_nothing_3 [tA8 x0, tA8 x1, tI x2, tI x3] = bi_nothing_3 call x0 x1 x2 x3 := by kernel_rfl
theorem vi_nothing_3 (x0 : List Int) (x1 : List Int) (x2 : Int) (x3 : Int) {o : List TV} (h : bi_nothing_3 R x0 x1 x2 x3 = some o) : R ii_nothing_3 [tA8 x0, tA8 x1, tI x2, tI x3] = some o := ev_step ((ei_nothing_3 R x0 x1 x2 x3).trans h)
/-- impl.nothing -/
noncomputable def bi_nothing (call : Oracle) (a0 : Int) : Option (List TV) :=
  (call ii_nothing_3 [tA8 (List.replicate 8 0), tA8 (List.replicate 8 0), tI a0, tI 0]).bind fun o1 =>
  some [tA8 (gA8 o1 2)]
theorem ei_nothing (call : Oracle) (a0 : Int) : run1 E call ii_nothing [tI a0] = bi_nothing call a0 := by kernel_rfl
theorem vi_nothing (a0 : Int) {o : List TV} (h : bi_nothing R a0 = some o) : R ii_nothing [tI a0] = some o := ev_step ((ei_nothing R a0).trans h)
/-- impl.exchange -/
noncomputable def bi_exchange (call : Oracle) (a0 : Int) (a1 : Int) : Option (List TV) :=
  (call ii_nothing [tI a1]).bind fun o1 =>
  bif (decide (0 ≤ a0) && decide (a0 < 8)) then
    bif (decide (0 ≤ (wi64 (a0 - 1))) && decide ((wi64 (a0 - 1)) < 8)) then
      bif (decide (0 ≤ (wi64 (a0 - 1))) && decide ((wi64 (a0 - 1)) < 8)) then
        bif (decide (0 ≤ a0) && decide (a0 < 8)) then
          some [tA8 (List.set (List.set (gA8 o1 0) (Int.toNat (wi64 (a0 - 1))) (List.getD (gA8 o1 0) (Int.toNat a0) 0)) (Int.toNat a0) (List.getD (gA8 o1 0) (Int.toNat (wi64 (a0 - 1))) 0))]
        else none
      else none
    else none
  else none
theorem ei_exchange (call : Oracle) (a0 : Int) (a1 : Int) : run1 E call ii_exchange [tI a0, tI a1] = bi_exchange call a0 a1 := by kernel_rfl
theorem vi_exchange (a0 : Int) (a1 : Int) {o : List TV} (h : bi_exchange R a0 a1 = some o) : R ii_exchange [tI a0, tI a1] = some o := ev_step ((ei_exchange R a0 a1).trans h)
/-- impl.finePart -/
noncomputable def bi_finePart (call : Oracle) (a0 : Int) : Option (List TV) :=
  (call ii_nothing [tI a0]).bind fun o1 =>
  some [tA8 (gA8 o1 0)]
theorem ei_finePart (call : Oracle) (a0 : Int) : run1 E call ii_finePart [tI a0] = bi_finePart call a0 := by kernel_rfl
theorem vi_finePart (a0 : Int) {o : List TV} (h : bi_finePart R a0 = some o) : R ii_finePart [tI a0] = some o := ev_step ((ei_finePart R a0).trans h)
/-- impl.backOf loop 3 -/
noncomputable def bi_backOf_3 (call : Oracle) (x0 : List Int) (x1 : List Int) (x2 : List Int) (x3 : Int) (x4 : Int) : Option (List TV) :=
  bif decide (x4 < x3) then
    bif (decide (0 ≤ x4) && decide (x4 < 8)) then
      bif (decide (0 ≤ (List.getD x0 (Int.toNat x4) 0)) && decide ((List.getD x0 (Int.toNat x4) 0) < 8)) then
        call ii_backOf_3 [tA8 x0, tA8 x1, tA8 (List.set x2 (Int.toNat (List.getD x0 (Int.toNat x4) 0)) (wu8 (x4))), tI x3, tI (wi64 (x4 + 1))]
      else none
    else none
  else
    some [tI 0, tA8 x1, tA8 x2]
theorem ei_backOf_3 (call : Oracle) (x0 : List Int) (x1 : List Int) (x2 : List Int) (x3 : Int) (x4 : Int) : run1 E call ii_backOf_3 [tA8 x0, tA8 x1, tA8 x2, tI x3, tI x4] = bi_backOf_3 call x0 x1 x2 x3 x4 := by kernel_rfl
theorem vi_backOf_3 (x0 : List Int) (x1 : List Int) (x2 : List Int) (x3 : Int) (x4 : Int) {o : List TV} (h : bi_backOf_3 R x0 x1 x2 x3 x4 = some o) : R ii_backOf_3 [tA8 x0, tA8 x1, tA8 x2, tI x3, tI x4] = some o := ev_step ((ei_backOf_3 R x0 x1 x2 x3 x4).trans h)
/-- impl.backOf -/
noncomputable def bi_backOf (call : Oracle) (a0 : List Int) (a1 : Int) : Option (List TV) :=
  (call ii_backOf_3 [tA8 a0, tA8 (List.replicate 8 0), tA8 (List.replicate 8 0), tI a1, tI 0]).bind fun o1 =>
  some [tA8 (gA8 o1 2)]
theorem ei_backOf (call : Oracle) (a0 : List Int) (a1 : Int) : run1 E call ii_backOf [tA8 a0, tI a1] = bi_backOf call a0 a1 := by kernel_rfl
theorem vi_backOf (a0 : List Int) (a1 : Int) {o : List TV} (h : bi_backOf R a0 a1 = some o) : R ii_backOf [tA8 a0, tI a1] = some o := ev_step ((ei_backOf R a0 a1).trans h)
/-- impl.backPart -/
noncomputable def bi_backPart (call : Oracle) (a0 : List Int) (a1 : Int) : Option (List TV) :=
  (call ii_backOf [tA8 a0, tI a1]).bind fun o1 =>
  some [tA8 (gA8 o1 0)]
theorem ei_backPart (call : Oracle) (a0 : List Int) (a1 : Int) : run1 E call ii_backPart [tA8 a0, tI a1] = bi_backPart call a0 a1 := by kernel_rfl
theorem vi_backPart (a0 : List Int) (a1 : Int) {o : List TV} (h : bi_backPart R a0 a1 = some o) : R ii_backPart [tA8 a0, tI a1] = some o := ev_step ((ei_backPart R a0 a1).trans h)
/-- impl.wholePart loop 3 -/
noncomputable def bi_wholePart_3 (call : Oracle) (x0 : List Int) (x1 : List Int) (x2 : Int) (x3 : Int) (x4 : Int) : Option (List TV) :=
  bif decide (x4 < x3) then
    bif (x2 != 0) then
      bif (decide (0 ≤ x4) && decide (x4 < 8)) then
        call ii_wholePart_3 [tA8 x0, tA8 (List.set x1 (Int.toNat x4) (wu8 ((Int.tmod (wi64 (x4 + 1)) x2)))), tI x2, tI x3, tI (wi64 (x4 + 1))]
      else none
    else none
  else
    some [tI 0, tA8 x0, tA8 x1]
theorem ei_wholePart_3 (call : Oracle) (x0 : List Int) (x1 : List Int) (x2 : Int) (x3 : Int) (x4 : Int) : run1 E call ii_wholePart_3 [tA8 x0, tA8 x1, tI x2, tI x3, tI x4] = bi_wholePart_3 call x0 x1 x2 x3 x4 := by kernel_rfl
theorem vi_wholePart_3 (x0 : List Int) (x1 : List Int) (x2 : Int) (x3 : Int) (x4 : Int) {o : List TV} (h : bi_wholePart_3 R x0 x1 x2 x3 x4 = some o) : R ii_wholePart_3 [tA8 x0, tA8 x1, tI x2, tI x3, tI x4] = some o := ev_step ((ei_wholePart_3 R x0 x1 x2 x3 x4).trans h)
/-- impl.wholePart -/
noncomputable def bi_wholePart (call : Oracle) (a0 : Int) : Option (List TV) :=
  (call ii_wholePart_3 [tA8 (List.replicate 8 0), tA8 (List.replicate 8 0), tI a0, tI a0, tI 0]).bind fun o1 =>
  some [tA8 (gA8 o1 2)]
theorem ei_wholePart (call : Oracle) (a0 : Int) : run1 E call ii_wholePart [tI a0] = bi_wholePart call a0 := by kernel_rfl
theorem vi_wholePart (a0 : Int) {o : List TV} (h : bi_wholePart R a0 = some o) : R ii_wholePart [tI a0] = some o := ev_step ((ei_wholePart R a0).trans h)
/-- impl.then loop 3 -/
noncomputable def bi_then_3 (call : Oracle) (x0 : List Int) (x1 : List Int) (x2 : List Int) (x3 : List Int) (x4 : Int) (x5 : Int) : Option (List TV) :=
  bif decide (x5 < x4) then
    bif (decide (0 ≤ x5) && decide (x5 < 8)) then
      bif (decide (0 ≤ (List.getD x0 (Int.toNat x5) 0)) && decide ((List.getD x0 (Int.toNat x5) 0) < 8)) then
        bif (decide (0 ≤ x5) && decide (x5 < 8)) then
          call ii_then_3 [tA8 x0, tA8 x1, tA8 x2, tA8 (List.set x3 (Int.toNat x5) (List.getD x1 (Int.toNat (List.getD x0 (Int.toNat x5) 0)) 0)), tI x4, tI (wi64 (x5 + 1))]
        else none
      else none
    else none
  else
    some [tI 0, tA8 x2, tA8 x3]
theorem ei_then_3 (call : Oracle) (x0 : List Int) (x1 : List Int) (x2 : List Int) (x3 : List Int) (x4 : Int) (x5 : Int) : run1 E call ii_then_3 [tA8 x0, tA8 x1, tA8 x2, tA8 x3, tI x4, tI x5] = bi_then_3 call x0 x1 x2 x3 x4 x5 := by kernel_rfl
theorem vi_then_3 (x0 : List Int) (x1 : List Int) (x2 : List Int) (x3 : List Int) (x4 : Int) (x5 : Int) {o : List TV} (h : bi_then_3 R x0 x1 x2 x3 x4 x5 = some o) : R ii_then_3 [tA8 x0, tA8 x1, tA8 x2, tA8 x3, tI x4, tI x5] = some o := ev_step ((ei_then_3 R x0 x1 x2 x3 x4 x5).trans h)
/-- impl.then -/
noncomputable def bi_then (call : Oracle) (a0 : List Int) (a1 : List Int) (a2 : Int) : Option (List TV) :=
  (call ii_then_3 [tA8 a0, tA8 a1, tA8 (List.replicate 8 0), tA8 (List.replicate 8 0), tI a2, tI 0]).bind fun o1 =>
  some [tA8 (gA8 o1 2)]
theorem ei_then (call : Oracle) (a0 : List Int) (a1 : List Int) (a2 : Int) : run1 E call ii_then [tA8 a0, tA8 a1, tI a2] = bi_then call a0 a1 a2 := by kernel_rfl
theorem vi_then (a0 : List Int) (a1 : List Int) (a2 : Int) {o : List TV} (h : bi_then R a0 a1 a2 = some o) : R ii_then [tA8 a0, tA8 a1, tI a2] = some o := ev_step ((ei_then R a0 a1 a2).trans h)
/-- impl.thenPart -/
noncomputable def bi_thenPart (call : Oracle) (a0 : List Int) (a1 : List Int) (a2 : Int) : Option (List TV) :=
  (call ii_then [tA8 a0, tA8 a1, tI a2]).bind fun o1 =>
  some [tA8 (gA8 o1 0)]
theorem ei_thenPart (call : Oracle) (a0 : List Int) (a1 : List Int) (a2 : Int) : run1 E call ii_thenPart [tA8 a0, tA8 a1, tI a2] = bi_thenPart call a0 a1 a2 := by kernel_rfl
theorem vi_thenPart (a0 : List Int) (a1 : List Int) (a2 : Int) {o : List TV} (h : bi_thenPart R a0 a1 a2 = some o) : R ii_thenPart [tA8 a0, tA8 a1, tI a2] = some o := ev_step ((ei_thenPart R a0 a1 a2).trans h)
/-- impl.complementPart -/
noncomputable def bi_complementPart (call : Oracle) (a0 : List Int) (a1 : Int) : Option (List TV) :=
  (call ii_backPart [tA8 a0, tI a1]).bind fun o1 =>
  (call ii_wholePart [tI a1]).bind fun o2 =>
  (call ii_thenPart [tA8 (gA8 o1 0), tA8 (gA8 o2 0), tI a1]).bind fun o3 =>
  some [tA8 (gA8 o3 0)]
theorem ei_complementPart (call : Oracle) (a0 : List Int) (a1 : Int) : run1 E call ii_complementPart [tA8 a0, tI a1] = bi_complementPart call a0 a1 := by kernel_rfl
theorem vi_complementPart (a0 : List Int) (a1 : Int) {o : List TV} (h : bi_complementPart R a0 a1 = some o) : R ii_complementPart [tA8 a0, tI a1] = some o := ev_step ((ei_complementPart R a0 a1).trans h)
/-- impl.fineGroups -/
noncomputable def bi_fineGroups (call : Oracle) (a0 : Int) : Option (List TV) :=
  (call ii_strandsOf [tI a0]).bind fun o1 =>
  some [tLI (gLI o1 0)]
theorem ei_fineGroups (call : Oracle) (a0 : Int) : run1 E call ii_fineGroups [tI a0] = bi_fineGroups call a0 := by kernel_rfl
theorem vi_fineGroups (a0 : Int) {o : List TV} (h : bi_fineGroups R a0 = some o) : R ii_fineGroups [tI a0] = some o := ev_step ((ei_fineGroups R a0).trans h)
/-- (impl.groups).merge loop 2 -/
noncomputable def b_i_groups__merge_2 (call : Oracle) (x0 : List Int) (x1 : Int) (x2 : Int) (x3 : Int) (x4 : Int) : Option (List TV) :=
  bif decide (x4 < x3) then
    bif (decide (0 ≤ x4) && decide (x4 < ((List.length x0 : Nat) : Int))) then
      bif ((List.getD x0 (Int.toNat x4) 0) == x2) then
        bif (decide (0 ≤ x4) && decide (x4 < ((List.length x0 : Nat) : Int))) then
          call i_i_groups__merge_2 [tLI (List.set x0 (Int.toNat x4) x1), tI x1, tI x2, tI x3, tI (wi64 (x4 + 1))]
        else none
      else
        call i_i_groups__merge_2 [tLI x0, tI x1, tI x2, tI x3, tI (wi64 (x4 + 1))]
    else none
  else
    some [tI 0, tLI x0]
theorem e_i_groups__merge_2 (call : Oracle) (x0 : List Int) (x1 : Int) (x2 : Int) (x3 : Int) (x4 : Int) : run1 E call i_i_groups__merge_2 [tLI x0, tI x1, tI x2, tI x3, tI x4] = b_i_groups__merge_2 call x0 x1 x2 x3 x4 := by kernel_rfl
theorem v_i_groups__merge_2 (x0 : List Int) (x1 : Int) (x2 : Int) (x3 : Int) (x4 : Int) {o : List TV} (h : b_i_groups__merge_2 R x0 x1 x2 x3 x4 = some o) : R i_i_groups__merge_2 [tLI x0, tI x1, tI x2, tI x3, tI x4] = some o := ev_step ((e_i_groups__merge_2 R x0 x1 x2 x3 x4).trans h)
/-- (impl.groups).merge -/
noncomputable def b_i_groups__merge (call : Oracle) (a0 : List Int) (a1 : Int) (a2 : Int) : Option (List TV) :=
  bif (decide (0 ≤ a1) && decide (a1 < ((List.length a0 : Nat) : Int))) then
    bif (decide (0 ≤ a2) && decide (a2 < ((List.length a0 : Nat) : Int))) then
      bif (decide (0 ≤ a1) && decide (a1 < ((List.length a0 : Nat) : Int))) then
        bif (decide (0 ≤ a2) && decide (a2 < ((List.length a0 : Nat) : Int))) then
          (call i_i_groups__merge_2 [tLI a0, tI (mn (List.getD a0 (Int.toNat a1) 0) (List.getD a0 (Int.toNat a2) 0)), tI (mx (List.getD a0 (Int.toNat a1) 0) (List.getD a0 (Int.toNat a2) 0)), tI ((List.length a0 : Nat) : Int), tI 0]).bind fun o1 =>
          some [tLI (gLI o1 1)]
        else none
      else none
    else none
  else none
theorem e_i_groups__merge (call : Oracle) (a0 : List Int) (a1 : Int) (a2 : Int) : run1 E call i_i_groups__merge [tLI a0, tI a1, tI a2] = b_i_groups__merge call a0 a1 a2 := by kernel_rfl
theorem v_i_groups__merge (a0 : List Int) (a1 : Int) (a2 : Int) {o : List TV} (h : b_i_groups__merge R a0 a1 a2 = some o) : R i_i_groups__merge [tLI a0, tI a1, tI a2] = some o := ev_step ((e_i_groups__merge R a0 a1 a2).trans h)
/-- (impl.groups).part loop 3 -/
noncomputable def b_i_groups__part_3 (call : Oracle) (x0 : List Int) (x1 : List Int) (x2 : List Int) (x3 : Int) (x4 : Int) : Option (List TV) :=
  bif decide (x4 < x3) then
    bif (decide (0 ≤ x4) && decide (x4 < ((List.length x0 : Nat) : Int))) then
      bif (decide (0 ≤ x4) && decide (x4 < 8)) then
        (call i_i_groups__part_7 [tLI x0, tA8 x1, tA8 (List.set x2 (Int.toNat x4) (wu8 ((List.getD x0 (Int.toNat x4) 0)))), tI x4, tI (List.getD x0 (Int.toNat x4) 0), tI (wi64 (x4 + 1)), tI x3, tI x4]).bind fun o2 =>
        call i_i_groups__part_3 [tLI (gLI o2 1), tA8 (gA8 o2 2), tA8 (gA8 o2 3), tI (gI o2 4), tI (wi64 ((gI o2 5) + 1))]
      else none
    else none
  else
    some [tI 0, tA8 x1, tA8 x2]
theorem e_i_groups__part_3 (call : Oracle) (x0 : List Int) (x1 : List Int) (x2 : List Int) (x3 : Int) (x4 : Int) : run1 E call i_i_groups__part_3 [tLI x0, tA8 x1, tA8 x2, tI x3, tI x4] = b_i_groups__part_3 call x0 x1 x2 x3 x4 := by kernel_rfl
theorem v_i_groups__part_3 (x0 : List Int) (x1 : List Int) (x2 : List Int) (x3 : Int) (x4 : Int) {o : List TV} (h : b_i_groups__part_3 R x0 x1 x2 x3 x4 = some o) : R i_i_groups__part_3 [tLI x0, tA8 x1, tA8 x2, tI x3, tI x4] = some o := ev_step ((e_i_groups__part_3 R x0 x1 x2 x3 x4).trans h)
/-- (impl.groups).part loop 7 -/
noncomputable def b_i_groups__part_7 (call : Oracle) (x0 : List Int) (x1 : List Int) (x2 : List Int) (x3 : Int) (x4 : Int) (x5 : Int) (x6 : Int) (x7 : Int) : Option (List TV) :=
  bif decide (x5 < ((List.length x0 : Nat) : Int)) then
    bif (decide (0 ≤ x5) && decide (x5 < ((List.length x0 : Nat) : Int))) then
      bif ((List.getD x0 (Int.toNat x5) 0) == x4) then
        bif (decide (0 ≤ x3) && decide (x3 < 8)) then
          some [tI 0, tLI x0, tA8 x1, tA8 (List.set x2 (Int.toNat x3) (wu8 (x5))), tI x6, tI x7]
        else none
      else
        call i_i_groups__part_7 [tLI x0, tA8 x1, tA8 x2, tI x3, tI x4, tI (wi64 (x5 + 1)), tI x6, tI x7]
    else none
  else
    some [tI 0, tLI x0, tA8 x1, tA8 x2, tI x6, tI x7]
theorem e_i_groups__part_7 (call : Oracle) (x0 : List Int) (x1 : List Int) (x2 : List Int) (x3 : Int) (x4 : Int) (x5 : Int) (x6 : Int) (x7 : Int) : run1 E call i_i_groups__part_7 [tLI x0, tA8 x1, tA8 x2, tI x3, tI x4, tI x5, tI x6, tI x7] = b_i_groups__part_7 call x0 x1 x2 x3 x4 x5 x6 x7 := by kernel_rfl
theorem v_i_groups__part_7 (x0 : List Int) (x1 : List Int) (x2 : List Int) (x3 : Int) (x4 : Int) (x5 : Int) (x6 : Int) (x7 : Int) {o : List TV} (h : b_i_groups__part_7 R x0 x1 x2 x3 x4 x5 x6 x7 = some o) : R i_i_groups__part_7 [tLI x0, tA8 x1, tA8 x2, tI x3, tI x4, tI x5, tI x6, tI x7] = some o := ev_step ((e_i_groups__part_7 R x0 x1 x2 x3 x4 x5 x6 x7).trans h)
/-- (impl.groups).part -/
noncomputable def b_i_groups__part (call : Oracle) (a0 : List Int) : Option (List TV) :=
  (call i_i_groups__part_3 [tLI a0, tA8 (List.replicate 8 0), tA8 (List.replicate 8 0), tI ((List.length a0 : Nat) : Int), tI 0]).bind fun o3 =>
  some [tA8 (gA8 o3 2)]
theorem e_i_groups__part (call : Oracle) (a0 : List Int) : run1 E call i_i_groups__part [tLI a0] = b_i_groups__part call a0 := by kernel_rfl
theorem v_i_groups__part (a0 : List Int) {o : List TV} (h : b_i_groups__part R a0 = some o) : R i_i_groups__part [tLI a0] = some o := ev_step ((e_i_groups__part R a0).trans h)
/-- impl.groupsOf loop 3 -/
noncomputable def bi_groupsOf_3 (call : Oracle) (x0 : List Int) (x1 : List Int) (x2 : Int) (x3 : Int) (x4 : Int) : Option (List TV) :=
  bif decide (x4 < x3) then
    bif (decide (0 ≤ x4) && decide (x4 < 8)) then
      bif decide (x2 ≤ (wi64 ((List.getD x0 (Int.toNat x4) 0)))) then
        some [tI 1, tLI [], tB false]
      else
        (call i_i_groups__merge [tLI x1, tI x4, tI (wi64 ((List.getD x0 (Int.toNat x4) 0)))]).bind fun o3 =>
        call ii_groupsOf_3 [tA8 x0, tLI (gLI o3 0), tI x2, tI x3, tI (wi64 (x4 + 1))]
    else none
  else
    some [tI 0, tA8 x0, tLI x1]
theorem ei_groupsOf_3 (call : Oracle) (x0 : List Int) (x1 : List Int) (x2 : Int) (x3 : Int) (x4 : Int) : run1 E call ii_groupsOf_3 [tA8 x0, tLI x1, tI x2, tI x3, tI x4] = bi_groupsOf_3 call x0 x1 x2 x3 x4 := by kernel_rfl
theorem vi_groupsOf_3 (x0 : List Int) (x1 : List Int) (x2 : Int) (x3 : Int) (x4 : Int) {o : List TV} (h : bi_groupsOf_3 R x0 x1 x2 x3 x4 = some o) : R ii_groupsOf_3 [tA8 x0, tLI x1, tI x2, tI x3, tI x4] = some o := ev_step ((ei_groupsOf_3 R x0 x1 x2 x3 x4).trans h)
/-- impl.groupsOf -/
noncomputable def bi_groupsOf (call : Oracle) (a0 : List Int) (a1 : Int) : Option (List TV) :=
  (call ii_fineGroups [tI a1]).bind fun o1 =>
  (call ii_groupsOf_3 [tA8 a0, tLI (gLI o1 0), tI a1, tI a1, tI 0]).bind fun o4 =>
  bif ((gI o4 0) == 0) then
    (call i_i_groups__part [tLI (gLI o4 2)]).bind fun o5 =>
    some [tLI (gLI o4 2), tB ((gA8 o5 0) == (gA8 o4 1))]
  else
    some [tLI (gLI o4 1), tB (gB o4 2)]
theorem ei_groupsOf (call : Oracle) (a0 : List Int) (a1 : Int) : run1 E call ii_groupsOf [tA8 a0, tI a1] = bi_groupsOf call a0 a1 := by kernel_rfl
theorem vi_groupsOf (a0 : List Int) (a1 : Int) {o : List TV} (h : bi_groupsOf R a0 a1 = some o) : R ii_groupsOf [tA8 a0, tI a1] = some o := ev_step ((ei_groupsOf R a0 a1).trans h)
/-- impl.meetParts loop 5 -/
noncomputable def bi_meetParts_5 (call : Oracle) (x0 : List Int) (x1 : List Int) (x2 : List Int) (x3 : List Int) (x4 : Int) (x5 : Int) : Option (List TV) :=
  bif decide (x5 < x4) then
    (call ii_meetParts_8 [tA8 x0, tLI x1, tLI x2, tLI x3, tI x5, tI x4, tI x5, tI x5, tI 0]).bind fun o7 =>
    call ii_meetParts_5 [tA8 (gA8 o7 1), tLI (gLI o7 2), tLI (gLI o7 3), tLI (gLI o7 4), tI (gI o7 5), tI (wi64 ((gI o7 6) + 1))]
  else
    some [tI 0, tA8 x0, tLI x3]
theorem ei_meetParts_5 (call : Oracle) (x0 : List Int) (x1 : List Int) (x2 : List Int) (x3 : List Int) (x4 : Int) (x5 : Int) : run1 E call ii_meetParts_5 [tA8 x0, tLI x1, tLI x2, tLI x3, tI x4, tI x5] = bi_meetParts_5 call x0 x1 x2 x3 x4 x5 := by kernel_rfl
theorem vi_meetParts_5 (x0 : List Int) (x1 : List Int) (x2 : List Int) (x3 : List Int) (x4 : Int) (x5 : Int) {o : List TV} (h : bi_meetParts_5 R x0 x1 x2 x3 x4 x5 = some o) : R ii_meetParts_5 [tA8 x0, tLI x1, tLI x2, tLI x3, tI x4, tI x5] = some o := ev_step ((ei_meetParts_5 R x0 x1 x2 x3 x4 x5).trans h)
/-- impl.meetParts loop 8 -/
noncomputable def bi_meetParts_8 (call : Oracle) (x0 : List Int) (x1 : List Int) (x2 : List Int) (x3 : List Int) (x4 : Int) (x5 : Int) (x6 : Int) (x7 : Int) (x8 : Int) : Option (List TV) :=
  bif decide (x8 < x7) then
    bif (decide (0 ≤ x8) && decide (x8 < ((List.length x1 : Nat) : Int))) then
      bif (decide (0 ≤ x4) && decide (x4 < ((List.length x1 : Nat) : Int))) then
        bif ((List.getD x1 (Int.toNat x8) 0) == (List.getD x1 (Int.toNat x4) 0)) then
          bif (decide (0 ≤ x8) && decide (x8 < ((List.length x2 : Nat) : Int))) then
            bif (decide (0 ≤ x4) && decide (x4 < ((List.length x2 : Nat) : Int))) then
              bif ((List.getD x2 (Int.toNat x8) 0) == (List.getD x2 (Int.toNat x4) 0)) then
                (call i_i_groups__merge [tLI x3, tI x8, tI x4]).bind fun o5 =>
                call ii_meetParts_8 [tA8 x0, tLI x1, tLI x2, tLI (gLI o5 0), tI x4, tI x5, tI x6, tI x7, tI (wi64 (x8 + 1))]
              else
                call ii_meetParts_8 [tA8 x0, tLI x1, tLI x2, tLI x3, tI x4, tI x5, tI x6, tI x7, tI (wi64 (x8 + 1))]
            else none
          else none
        else
          call ii_meetParts_8 [tA8 x0, tLI x1, tLI x2, tLI x3, tI x4, tI x5, tI x6, tI x7, tI (wi64 (x8 + 1))]
      else none
    else none
  else
    some [tI 0, tA8 x0, tLI x1, tLI x2, tLI x3, tI x5, tI x6]
theorem ei_meetParts_8 (call : Oracle) (x0 : List Int) (x1 : List Int) (x2 : List Int) (x3 : List Int) (x4 : Int) (x5 : Int) (x6 : Int) (x7 : Int) (x8 : Int) : run1 E call ii_meetParts_8 [tA8 x0, tLI x1, tLI x2, tLI x3, tI x4, tI x5, tI x6, tI x7, tI x8] = bi_meetParts_8 call x0 x1 x2 x3 x4 x5 x6 x7 x8 := by kernel_rfl
theorem vi_meetParts_8 (x0 : List Int) (x1 : List Int) (x2 : List Int) (x3 : List Int) (x4 : Int) (x5 : Int) (x6 : Int) (x7 : Int) (x8 : Int) {o : List TV} (h : bi_meetParts_8 R x0 x1 x2 x3 x4 x5 x6 x7 x8 = some o) : R ii_meetParts_8 [tA8 x0, tLI x1, tLI x2, tLI x3, tI x4, tI x5, tI x6, tI x7, tI x8] = some o := ev_step ((ei_meetParts_8 R x0 x1 x2 x3 x4 x5 x6 x7 x8).trans h)
/-- impl.meetParts -/
noncomputable def bi_meetParts (call : Oracle) (a0 : List Int) (a1 : List Int) (a2 : Int) : Option (List TV) :=
  (call ii_groupsOf [tA8 a0, tI a2]).bind fun o1 =>
  (call ii_groupsOf [tA8 a1, tI a2]).bind fun o2 =>
  (call ii_fineGroups [tI a2]).bind fun o3 =>
  (call ii_meetParts_5 [tA8 (List.replicate 8 0), tLI (gLI o1 0), tLI (gLI o2 0), tLI (gLI o3 0), tI a2, tI 0]).bind fun o8 =>
  (call i_i_groups__part [tLI (gLI o8 2)]).bind fun o9 =>
  some [tA8 (gA8 o9 0)]
theorem ei_meetParts (call : Oracle) (a0 : List Int) (a1 : List Int) (a2 : Int) : run1 E call ii_meetParts [tA8 a0, tA8 a1, tI a2] = bi_meetParts call a0 a1 a2 := by kernel_rfl
theorem vi_meetParts (a0 : List Int) (a1 : List Int) (a2 : Int) {o : List TV} (h : bi_meetParts R a0 a1 a2 = some o) : R ii_meetParts [tA8 a0, tA8 a1, tI a2] = some o := ev_step ((ei_meetParts R a0 a1 a2).trans h)
/-- (*impl.Dual).put loop 5 -/
noncomputable def b__i_Dual__put_5 (call : Oracle) (x0 : Int) (x1 : Int) (x2 : List (List Int)) (x3 : Int) (x4 : Int) : Option (List TV) :=
  bif decide (0 < x4) then
    bif (decide (0 ≤ (wi64 (x4 - 1))) && decide ((wi64 (x4 - 1)) < ((List.length x2 : Nat) : Int))) then
      (call ii_complementPart [tA8 (List.getD x2 (Int.toNat (wi64 (x4 - 1))) (List.replicate 8 0)), tI x3]).bind fun o8 =>
      bif (decide (0 ≤ x4) && decide (x4 < ((List.length x2 : Nat) : Int))) then
        (call ii_meetParts [tA8 (gA8 o8 0), tA8 (List.getD x2 (Int.toNat x4) (List.replicate 8 0)), tI x3]).bind fun o9 =>
        (call ii_finePart [tI x3]).bind fun o10 =>
        bif ((gA8 o9 0) == (gA8 o10 0)) then
          some [tI 0, tI x0, tI x1, tLA8 x2, tI x3]
        else
          bif (decide (0 ≤ (wi64 (x4 - 1))) && decide ((wi64 (x4 - 1)) < ((List.length x2 : Nat) : Int))) then
            (call ii_thenPart [tA8 (List.getD x2 (Int.toNat (wi64 (x4 - 1))) (List.replicate 8 0)), tA8 (gA8 o9 0), tI x3]).bind fun o11 =>
            bif (decide (0 ≤ (wi64 (x4 - 1))) && decide ((wi64 (x4 - 1)) < ((List.length x2 : Nat) : Int))) then
              (call ii_backPart [tA8 (gA8 o9 0), tI x3]).bind fun o12 =>
              bif (decide (0 ≤ x4) && decide (x4 < ((List.length (List.set x2 (Int.toNat (wi64 (x4 - 1))) (gA8 o11 0)) : Nat) : Int))) then
                (call ii_thenPart [tA8 (gA8 o12 0), tA8 (List.getD (List.set x2 (Int.toNat (wi64 (x4 - 1))) (gA8 o11 0)) (Int.toNat x4) (List.replicate 8 0)), tI x3]).bind fun o13 =>
                bif (decide (0 ≤ x4) && decide (x4 < ((List.length (List.set x2 (Int.toNat (wi64 (x4 - 1))) (gA8 o11 0)) : Nat) : Int))) then
                  call i__i_Dual__put_5 [tI x0, tI x1, tLA8 (List.set (List.set x2 (Int.toNat (wi64 (x4 - 1))) (gA8 o11 0)) (Int.toNat x4) (gA8 o13 0)), tI x3, tI (wi64 (x4 - 1))]
                else none
              else none
            else none
          else none
      else none
    else none
  else
    some [tI 0, tI x0, tI x1, tLA8 x2, tI x3]
theorem e__i_Dual__put_5 (call : Oracle) (x0 : Int) (x1 : Int) (x2 : List (List Int)) (x3 : Int) (x4 : Int) : run1 E call i__i_Dual__put_5 [tI x0, tI x1, tLA8 x2, tI x3, tI x4] = b__i_Dual__put_5 call x0 x1 x2 x3 x4 := by kernel_rfl
theorem v__i_Dual__put_5 (x0 : Int) (x1 : Int) (x2 : List (List Int)) (x3 : Int) (x4 : Int) {o : List TV} (h : b__i_Dual__put_5 R x0 x1 x2 x3 x4 = some o) : R i__i_Dual__put_5 [tI x0, tI x1, tLA8 x2, tI x3, tI x4] = some o := ev_step ((e__i_Dual__put_5 R x0 x1 x2 x3 x4).trans h)
/-- (*impl.Dual).put loop 11 -/
noncomputable def b__i_Dual__put_11 (call : Oracle) (x0 : Int) (x1 : Int) (x2 : List (List Int)) (x3 : Int) : Option (List TV) :=
  bif decide (0 < ((List.length x2 : Nat) : Int)) then
    bif decide (0 < ((List.length x2 : Nat) : Int)) then
      (call ii_wholePart [tI x3]).bind fun o16 =>
      bif ((List.getD x2 0 (List.replicate 8 0)) == (gA8 o16 0)) then
        bif decide (1 ≤ ((List.length x2 : Nat) : Int)) then
          call i__i_Dual__put_11 [tI x0, tI (wi64 (x1 + 1)), tLA8 (List.drop 1 x2), tI x3]
        else none
      else
        some [tI 0, tI x0, tI x1, tLA8 x2, tI x3]
    else none
  else
    some [tI 0, tI x0, tI x1, tLA8 x2, tI x3]
theorem e__i_Dual__put_11 (call : Oracle) (x0 : Int) (x1 : Int) (x2 : List (List Int)) (x3 : Int) : run1 E call i__i_Dual__put_11 [tI x0, tI x1, tLA8 x2, tI x3] = b__i_Dual__put_11 call x0 x1 x2 x3 := by kernel_rfl
theorem v__i_Dual__put_11 (x0 : Int) (x1 : Int) (x2 : List (List Int)) (x3 : Int) {o : List TV} (h : b__i_Dual__put_11 R x0 x1 x2 x3 = some o) : R i__i_Dual__put_11 [tI x0, tI x1, tLA8 x2, tI x3] = some o := ev_step ((e__i_Dual__put_11 R x0 x1 x2 x3).trans h)
/-- (*impl.Dual).put loop 14 -/
noncomputable def b__i_Dual__put_14 (call : Oracle) (x0 : Int) (x1 : Int) (x2 : List (List Int)) (x3 : Int) : Option (List TV) :=
  bif decide (0 < ((List.length x2 : Nat) : Int)) then
    bif (decide (0 ≤ (wi64 (((List.length x2 : Nat) : Int) - 1))) && decide ((wi64 (((List.length x2 : Nat) : Int) - 1)) < ((List.length x2 : Nat) : Int))) then
      (call ii_finePart [tI x3]).bind fun o19 =>
      bif ((List.getD x2 (Int.toNat (wi64 (((List.length x2 : Nat) : Int) - 1))) (List.replicate 8 0)) == (gA8 o19 0)) then
        bif (decide (0 ≤ (wi64 (((List.length x2 : Nat) : Int) - 1))) && decide ((wi64 (((List.length x2 : Nat) : Int) - 1)) ≤ ((List.length x2 : Nat) : Int))) then
          call i__i_Dual__put_14 [tI x0, tI x1, tLA8 (List.take (Int.toNat (wi64 (((List.length x2 : Nat) : Int) - 1))) x2), tI x3]
        else none
      else
        some [tI 0, tI x0, tI x1, tLA8 x2]
    else none
  else
    some [tI 0, tI x0, tI x1, tLA8 x2]
theorem e__i_Dual__put_14 (call : Oracle) (x0 : Int) (x1 : Int) (x2 : List (List Int)) (x3 : Int) : run1 E call i__i_Dual__put_14 [tI x0, tI x1, tLA8 x2, tI x3] = b__i_Dual__put_14 call x0 x1 x2 x3 := by kernel_rfl
theorem v__i_Dual__put_14 (x0 : Int) (x1 : Int) (x2 : List (List Int)) (x3 : Int) {o : List TV} (h : b__i_Dual__put_14 R x0 x1 x2 x3 = some o) : R i__i_Dual__put_14 [tI x0, tI x1, tLA8 x2, tI x3] = some o := ev_step ((e__i_Dual__put_14 R x0 x1 x2 x3).trans h)
/-- (*impl.Dual).put -/
noncomputable def b__i_Dual__put (call : Oracle) (a0 : Int × Int × List (List Int)) (a1 : List Int) : Option (List TV) :=
  (call ii_finePart [tI a0.1]).bind fun o1 =>
  bif (a1 == (gA8 o1 0)) then
    some [tPIPILA8 (a0.1, (a0.2.1, a0.2.2))]
  else
    bif (apOk a0.2.2 [a1]) then
      (call i__i_Dual__put_5 [tI a0.1, tI a0.2.1, tLA8 (a0.2.2 ++ [a1]), tI a0.1, tI (wi64 (((List.length (a0.2.2 ++ [a1]) : Nat) : Int) - 1))]).bind fun o14 =>
      (call i__i_Dual__put_11 [tI (gI o14 1), tI (gI o14 2), tLA8 (gLA8 o14 3), tI (gI o14 4)]).bind fun o17 =>
      (call i__i_Dual__put_14 [tI (gI o17 1), tI (gI o17 2), tLA8 (gLA8 o17 3), tI (gI o17 4)]).bind fun o20 =>
      some [tPIPILA8 ((gI o20 1), ((gI o20 2), (gLA8 o20 3)))]
    else none
theorem e__i_Dual__put (call : Oracle) (a0 : Int × Int × List (List Int)) (a1 : List Int) : run1 E call i__i_Dual__put [tPIPILA8 a0, tA8 a1] = b__i_Dual__put call a0 a1 := by kernel_rfl
theorem v__i_Dual__put (a0 : Int × Int × List (List Int)) (a1 : List Int) {o : List TV} (h : b__i_Dual__put R a0 a1 = some o) : R i__i_Dual__put [tPIPILA8 a0, tA8 a1] = some o := ev_step ((e__i_Dual__put R a0 a1).trans h)
/-- impl.turnPart loop 4 -/
noncomputable def bi_turnPart_4 (call : Oracle) (x0 : List Int) (x1 : List Int) (x2 : List Int) (x3 : Int) (x4 : Int) (x5 : Int) (x6 : Int) : Option (List TV) :=
  bif decide (x6 < x5) then
    bif (x3 != 0) then
      bif (decide (0 ≤ x6) && decide (x6 < 8)) then
        bif (x3 != 0) then
          bif (decide (0 ≤ (Int.tmod (wi64 (x6 + x4)) x3)) && decide ((Int.tmod (wi64 (x6 + x4)) x3) < 8)) then
            call ii_turnPart_4 [tA8 x0, tA8 x1, tA8 (List.set x2 (Int.toNat (Int.tmod (wi64 (x6 + x4)) x3)) (wu8 ((Int.tmod (wi64 ((wi64 ((List.getD x0 (Int.toNat x6) 0))) + x4)) x3)))), tI x3, tI x4, tI x5, tI (wi64 (x6 + 1))]
          else none
        else none
      else none
    else none
  else
    some [tI 0, tA8 x1, tA8 x2]
theorem ei_turnPart_4 (call : Oracle) (x0 : List Int) (x1 : List Int) (x2 : List Int) (x3 : Int) (x4 : Int) (x5 : Int) (x6 : Int) : run1 E call ii_turnPart_4 [tA8 x0, tA8 x1, tA8 x2, tI x3, tI x4, tI x5, tI x6] = bi_turnPart_4 call x0 x1 x2 x3 x4 x5 x6 := by kernel_rfl
theorem vi_turnPart_4 (x0 : List Int) (x1 : List Int) (x2 : List Int) (x3 : Int) (x4 : Int) (x5 : Int) (x6 : Int) {o : List TV} (h : bi_turnPart_4 R x0 x1 x2 x3 x4 x5 x6 = some o) : R ii_turnPart_4 [tA8 x0, tA8 x1, tA8 x2, tI x3, tI x4, tI x5, tI x6] = some o := ev_step ((ei_turnPart_4 R x0 x1 x2 x3 x4 x5 x6).trans h)
/-- impl.turnPart -/
noncomputable def bi_turnPart (call : Oracle) (a0 : List Int) (a1 : Int) (a2 : Int) : Option (List TV) :=
  bif (a1 != 0) then
    bif (a1 != 0) then
      (call ii_turnPart_4 [tA8 a0, tA8 (List.replicate 8 0), tA8 (List.replicate 8 0), tI a1, tI (Int.tmod (wi64 ((Int.tmod a2 a1) + a1)) a1), tI a1, tI 0]).bind fun o1 =>
      some [tA8 (gA8 o1 2)]
    else none
  else none
theorem ei_turnPart (call : Oracle) (a0 : List Int) (a1 : Int) (a2 : Int) : run1 E call ii_turnPart [tA8 a0, tI a1, tI a2] = bi_turnPart call a0 a1 a2 := by kernel_rfl
theorem vi_turnPart (a0 : List Int) (a1 : Int) (a2 : Int) {o : List TV} (h : bi_turnPart R a0 a1 a2 = some o) : R ii_turnPart [tA8 a0, tI a1, tI a2] = some o := ev_step ((ei_turnPart R a0 a1 a2).trans h)
/-- (*impl.Dual).putInverse loop 4 -/
noncomputable def b__i_Dual__putInverse_4 (call : Oracle) (x0 : Int) (x1 : Int) (x2 : List (List Int)) (x3 : List Int) (x4 : Int) (x5 : Int) (x6 : Int) : Option (List TV) :=
  bif decide (x6 < x5) then
    bif (decide (0 ≤ x6) && decide (x6 < ((List.length x2 : Nat) : Int))) then
      (call ii_turnPart [tA8 (List.getD x2 (Int.toNat x6) (List.replicate 8 0)), tI x4, tI (-1)]).bind fun o2 =>
      bif (decide (0 ≤ x6) && decide (x6 < ((List.length x2 : Nat) : Int))) then
        call i__i_Dual__putInverse_4 [tI x0, tI x1, tLA8 (List.set x2 (Int.toNat x6) (gA8 o2 0)), tA8 x3, tI x4, tI x5, tI (wi64 (x6 + 1))]
      else none
    else none
  else
    some [tI 0, tI x0, tI x1, tLA8 x2, tA8 x3, tI x4]
theorem e__i_Dual__putInverse_4 (call : Oracle) (x0 : Int) (x1 : Int) (x2 : List (List Int)) (x3 : List Int) (x4 : Int) (x5 : Int) (x6 : Int) : run1 E call i__i_Dual__putInverse_4 [tI x0, tI x1, tLA8 x2, tA8 x3, tI x4, tI x5, tI x6] = b__i_Dual__putInverse_4 call x0 x1 x2 x3 x4 x5 x6 := by kernel_rfl
theorem v__i_Dual__putInverse_4 (x0 : Int) (x1 : Int) (x2 : List (List Int)) (x3 : List Int) (x4 : Int) (x5 : Int) (x6 : Int) {o : List TV} (h : b__i_Dual__putInverse_4 R x0 x1 x2 x3 x4 x5 x6 = some o) : R i__i_Dual__putInverse_4 [tI x0, tI x1, tLA8 x2, tA8 x3, tI x4, tI x5, tI x6] = some o := ev_step ((e__i_Dual__putInverse_4 R x0 x1 x2 x3 x4 x5 x6).trans h)
/-- (*impl.Dual).putInverse -/
noncomputable def b__i_Dual__putInverse (call : Oracle) (a0 : Int × Int × List (List Int)) (a1 : List Int) : Option (List TV) :=
  (call i__i_Dual__putInverse_4 [tI a0.1, tI (wi64 (a0.2.1 - 1)), tLA8 a0.2.2, tA8 a1, tI a0.1, tI ((List.length a0.2.2 : Nat) : Int), tI 0]).bind fun o3 =>
  (call ii_wholePart [tI (gI o3 5)]).bind fun o4 =>
  (call ii_backPart [tA8 (gA8 o3 4), tI (gI o3 5)]).bind fun o5 =>
  (call ii_thenPart [tA8 (gA8 o4 0), tA8 (gA8 o5 0), tI (gI o3 5)]).bind fun o6 =>
  (call i__i_Dual__put [tPIPILA8 ((gI o3 1), ((gI o3 2), (gLA8 o3 3))), tA8 (gA8 o6 0)]).bind fun o7 =>
  some [tPIPILA8 ((gPIPILA8 o7 0).1, (((gPIPILA8 o7 0).2).1, ((gPIPILA8 o7 0).2).2))]
theorem e__i_Dual__putInverse (call : Oracle) (a0 : Int × Int × List (List Int)) (a1 : List Int) : run1 E call i__i_Dual__putInverse [tPIPILA8 a0, tA8 a1] = b__i_Dual__putInverse call a0 a1 := by kernel_rfl
theorem v__i_Dual__putInverse (a0 : Int × Int × List (List Int)) (a1 : List Int) {o : List TV} (h : b__i_Dual__putInverse R a0 a1 = some o) : R i__i_Dual__putInverse [tPIPILA8 a0, tA8 a1] = some o := ev_step ((e__i_Dual__putInverse R a0 a1).trans h)
/-- impl.dualOf loop 3 -/
noncomputable def bi_dualOf_3 (call : Oracle) (x0 : Int) (x1 : List Int) (x2 : Int) (x3 : Int) (x4 : List (List Int)) (x5 : Int) (x6 : Int) (x7 : List (List Int)) (x8 : Int) (x9 : Int) : Option (List TV) :=
  bif decide (x9 < x8) then
    bif (decide (0 ≤ x9) && decide (x9 < ((List.length x1 : Nat) : Int))) then
      (call ii_size [tI (List.getD x1 (Int.toNat x9) 0)]).bind fun o5 =>
      (call ii_exchange [tI (gI o5 0), tI x0]).bind fun o6 =>
      bif decide (0 < (List.getD x1 (Int.toNat x9) 0)) then
        (call i__i_Dual__put [tPIPILA8 (x5, (x6, x7)), tA8 (gA8 o6 0)]).bind fun o7 =>
        call ii_dualOf_3 [tI x0, tLI x1, tI x2, tI x3, tLA8 x4, tI ((gPIPILA8 o7 0).1), tI (((gPIPILA8 o7 0).2).1), tLA8 (((gPIPILA8 o7 0).2).2), tI x8, tI (wi64 (x9 + 1))]
      else
        (call i__i_Dual__putInverse [tPIPILA8 (x5, (x6, x7)), tA8 (gA8 o6 0)]).bind fun o8 =>
        call ii_dualOf_3 [tI x0, tLI x1, tI x2, tI x3, tLA8 x4, tI ((gPIPILA8 o8 0).1), tI (((gPIPILA8 o8 0).2).1), tLA8 (((gPIPILA8 o8 0).2).2), tI x8, tI (wi64 (x9 + 1))]
    else none
  else
    some [tI 0, tI x2, tI x3, tLA8 x4, tI x5, tI x6, tLA8 x7]
theorem ei_dualOf_3 (call : Oracle) (x0 : Int) (x1 : List Int) (x2 : Int) (x3 : Int) (x4 : List (List Int)) (x5 : Int) (x6 : Int) (x7 : List (List Int)) (x8 : Int) (x9 : Int) : run1 E call ii_dualOf_3 [tI x0, tLI x1, tI x2, tI x3, tLA8 x4, tI x5, tI x6, tLA8 x7, tI x8, tI x9] = bi_dualOf_3 call x0 x1 x2 x3 x4 x5 x6 x7 x8 x9 := by kernel_rfl
theorem vi_dualOf_3 (x0 : Int) (x1 : List Int) (x2 : Int) (x3 : Int) (x4 : List (List Int)) (x5 : Int) (x6 : Int) (x7 : List (List Int)) (x8 : Int) (x9 : Int) {o : List TV} (h : bi_dualOf_3 R x0 x1 x2 x3 x4 x5 x6 x7 x8 x9 = some o) : R ii_dualOf_3 [tI x0, tLI x1, tI x2, tI x3, tLA8 x4, tI x5, tI x6, tLA8 x7, tI x8, tI x9] = some o := ev_step ((ei_dualOf_3 R x0 x1 x2 x3 x4 x5 x6 x7 x8 x9).trans h)
/-- impl.dualOf -/
noncomputable def bi_dualOf (call : Oracle) (a0 : Int × List Int) : Option (List TV) :=
  (call ii_dualOf_3 [tI a0.1, tLI a0.2, tI 0, tI 0, tLA8 [], tI a0.1, tI 0, tLA8 [], tI ((List.length a0.2 : Nat) : Int), tI 0]).bind fun o9 =>
  some [tPIPILA8 ((gI o9 4), ((gI o9 5), (gLA8 o9 6)))]
theorem ei_dualOf (call : Oracle) (a0 : Int × List Int) : run1 E call ii_dualOf [tPILI a0] = bi_dualOf call a0 := by kernel_rfl
theorem vi_dualOf (a0 : Int × List Int) {o : List TV} (h : bi_dualOf R a0 = some o) : R ii_dualOf [tPILI a0] = some o := ev_step ((ei_dualOf R a0).trans h)
/-- slices.Equal[[]impl.Part,impl.Part] loop 4 -/
noncomputable def bg_Equal___i_Part_i_Part__4 (call : Oracle) (x0 : List (List Int)) (x1 : List (List Int)) (x2 : Int) (x3 : Int) : Option (List TV) :=
  bif decide (x3 < x2) then
    bif (decide (0 ≤ x3) && decide (x3 < ((List.length x0 : Nat) : Int))) then
      bif (decide (0 ≤ x3) && decide (x3 < ((List.length x1 : Nat) : Int))) then
        bif ((List.getD x0 (Int.toNat x3) (List.replicate 8 0)) != (List.getD x1 (Int.toNat x3) (List.replicate 8 0))) then
          some [tI 1, tB false]
        else
          call ig_Equal___i_Part_i_Part__4 [tLA8 x0, tLA8 x1, tI x2, tI (wi64 (x3 + 1))]
      else none
    else none
  else
    some [tI 0]
theorem eg_Equal___i_Part_i_Part__4 (call : Oracle) (x0 : List (List Int)) (x1 : List (List Int)) (x2 : Int) (x3 : Int) : run1 E call ig_Equal___i_Part_i_Part__4 [tLA8 x0, tLA8 x1, tI x2, tI x3] = bg_Equal___i_Part_i_Part__4 call x0 x1 x2 x3 := by kernel_rfl
theorem vg_Equal___i_Part_i_Part__4 (x0 : List (List Int)) (x1 : List (List Int)) (x2 : Int) (x3 : Int) {o : List TV} (h : bg_Equal___i_Part_i_Part__4 R x0 x1 x2 x3 = some o) : R ig_Equal___i_Part_i_Part__4 [tLA8 x0, tLA8 x1, tI x2, tI x3] = some o := ev_step ((eg_Equal___i_Part_i_Part__4 R x0 x1 x2 x3).trans h)
/-- slices.Equal[[]impl.Part,impl.Part] -/
noncomputable def bg_Equal___i_Part_i_Part_ (call : Oracle) (a0 : List (List Int)) (a1 : List (List Int)) : Option (List TV) :=
  bif (((List.length a0 : Nat) : Int) != ((List.length a1 : Nat) : Int)) then
    some [tB false]
  else
    (call ig_Equal___i_Part_i_Part__4 [tLA8 a0, tLA8 a1, tI ((List.length a0 : Nat) : Int), tI 0]).bind fun o1 =>
    bif ((gI o1 0) == 0) then
      some [tB true]
    else
      some [tB (gB o1 1)]
theorem eg_Equal___i_Part_i_Part_ (call : Oracle) (a0 : List (List Int)) (a1 : List (List Int)) : run1 E call ig_Equal___i_Part_i_Part_ [tLA8 a0, tLA8 a1] = bg_Equal___i_Part_i_Part_ call a0 a1 := by kernel_rfl
theorem vg_Equal___i_Part_i_Part_ (a0 : List (List Int)) (a1 : List (List Int)) {o : List TV} (h : bg_Equal___i_Part_i_Part_ R a0 a1 = some o) : R ig_Equal___i_Part_i_Part_ [tLA8 a0, tLA8 a1] = some o := ev_step ((eg_Equal___i_Part_i_Part_ R a0 a1).trans h)
/-- impl.EqualByBands -/
noncomputable def bi_EqualByBands (call : Oracle) (a0 : Int × List Int) (a1 : Int × List Int) : Option (List TV) :=
  (call ii_IsBraid [tPILI (a0.1, a0.2)]).bind fun o1 =>
  bif (!(gB o1 0)) then
    some [tB false, tI 1]
  else
    (call ii_IsBraid [tPILI (a1.1, a1.2)]).bind fun o2 =>
    bif (!(gB o2 0)) then
      some [tB false, tI 1]
    else
      bif (a0.1 != a1.1) then
        some [tB false, tI 2]
      else
        (call ii_dualOf [tPILI (a0.1, a0.2)]).bind fun o3 =>
        (call ii_dualOf [tPILI (a1.1, a1.2)]).bind fun o4 =>
        bif (((gPIPILA8 o3 0).2).1 == ((gPIPILA8 o4 0).2).1) then
          (call ig_Equal___i_Part_i_Part_ [tLA8 (((gPIPILA8 o3 0).2).2), tLA8 (((gPIPILA8 o4 0).2).2)]).bind fun o5 =>
          some [tB (gB o5 0), tI 0]
        else
          some [tB false, tI 0]
theorem ei_EqualByBands (call : Oracle) (a0 : Int × List Int) (a1 : Int × List Int) : run1 E call ii_EqualByBands [tPILI a0, tPILI a1] = bi_EqualByBands call a0 a1 := by kernel_rfl
theorem vi_EqualByBands (a0 : Int × List Int) (a1 : Int × List Int) {o : List TV} (h : bi_EqualByBands R a0 a1 = some o) : R ii_EqualByBands [tPILI a0, tPILI a1] = some o := ev_step ((ei_EqualByBands R a0 a1).trans h)
/-- spec.DrawWordSign -/
noncomputable def bs_DrawWordSign (call : Oracle) (a0 : List Int) : Option (List TV) :=
  (call is_l01From [tLU8 a0]).bind fun o1 =>
  (call is_l01Spoil [tPLU8PIU64 ((gPLU8PIU64 o1 0).1, (((gPLU8PIU64 o1 0).2).1, ((gPLU8PIU64 o1 0).2).2))]).bind fun o2 =>
  bif decide (3 < ((List.length ((gPILI o2 0).2) : Nat) : Int)) then
    (call is_l01Next [tPLU8PIU64 ((gPLU8PIU64 o2 1).1, (((gPLU8PIU64 o2 1).2).1, ((gPLU8PIU64 o2 1).2).2)), tI 2]).bind fun o3 =>
    bif ((gI o3 0) == 0) then
      (call is_l01Next [tPLU8PIU64 ((gPLU8PIU64 o3 1).1, (((gPLU8PIU64 o3 1).2).1, ((gPLU8PIU64 o3 1).2).2)), tI 3]).bind fun o4 =>
      bif (decide (0 ≤ (wi64 (1 + (gI o4 0)))) && decide ((wi64 (1 + (gI o4 0))) ≤ ((List.length ((gPILI o2 0).2) : Nat) : Int))) then
        (call is_l01Own [tLI (List.take (Int.toNat (wi64 (1 + (gI o4 0)))) ((gPILI o2 0).2))]).bind fun o5 =>
        some [tPILI ((gPILI o2 0).1, (gLI o5 0))]
      else none
    else
      some [tPILI ((gPILI o2 0).1, (gPILI o2 0).2)]
  else
    some [tPILI ((gPILI o2 0).1, (gPILI o2 0).2)]
theorem es_DrawWordSign (call : Oracle) (a0 : List Int) : run1 E call is_DrawWordSign [tLU8 a0] = bs_DrawWordSign call a0 := by kernel_rfl
theorem vs_DrawWordSign (a0 : List Int) {o : List TV} (h : bs_DrawWordSign R a0 = some o) : R is_DrawWordSign [tLU8 a0] = some o := ev_step ((es_DrawWordSign R a0).trans h)
/-- spec.WordSign -/
noncomputable def bs_WordSign (call : Oracle) (a0 : Int × List Int) : Option (List TV) :=
  (call is_l01Is [tPILI (a0.1, a0.2)]).bind fun o1 =>
  bif (!(gB o1 0)) then
    some [tI 0, tI 1]
  else
    (call is_l06Main [tLI a0.2]).bind fun o2 =>
    some [tI (gI o2 1), tI 0]
theorem es_WordSign (call : Oracle) (a0 : Int × List Int) : run1 E call is_WordSign [tPILI a0] = bs_WordSign call a0 := by kernel_rfl
theorem vs_WordSign (a0 : Int × List Int) {o : List TV} (h : bs_WordSign R a0 = some o) : R is_WordSign [tPILI a0] = some o := ev_step ((es_WordSign R a0).trans h)
/-- spec.l01Inverse loop 3 -/
noncomputable def bs_l01Inverse_3 (call : Oracle) (x0 : List Int) (x1 : List Int) (x2 : Int) : Option (List TV) :=
  bif decide (0 ≤ x2) then
    bif (decide (0 ≤ x2) && decide (x2 < ((List.length x0 : Nat) : Int))) then
      bif (apOk x1 [(wi64 (0 - (List.getD x0 (Int.toNat x2) 0)))]) then
        call is_l01Inverse_3 [tLI x0, tLI (x1 ++ [(wi64 (0 - (List.getD x0 (Int.toNat x2) 0)))]), tI (wi64 (x2 - 1))]
      else none
    else none
  else
    some [tI 0, tLI x1]
theorem es_l01Inverse_3 (call : Oracle) (x0 : List Int) (x1 : List Int) (x2 : Int) : run1 E call is_l01Inverse_3 [tLI x0, tLI x1, tI x2] = bs_l01Inverse_3 call x0 x1 x2 := by kernel_rfl
theorem vs_l01Inverse_3 (x0 : List Int) (x1 : List Int) (x2 : Int) {o : List TV} (h : bs_l01Inverse_3 R x0 x1 x2 = some o) : R is_l01Inverse_3 [tLI x0, tLI x1, tI x2] = some o := ev_step ((es_l01Inverse_3 R x0 x1 x2).trans h)
/-- spec.l01Inverse -/
noncomputable def bs_l01Inverse (call : Oracle) (a0 : List Int) : Option (List TV) :=
  (call is_l01Inverse_3 [tLI a0, tLI [], tI (wi64 (((List.length a0 : Nat) : Int) - 1))]).bind fun o1 =>
  some [tLI (gLI o1 1)]
theorem es_l01Inverse (call : Oracle) (a0 : List Int) : run1 E call is_l01Inverse [tLI a0] = bs_l01Inverse call a0 := by kernel_rfl
theorem vs_l01Inverse (a0 : List Int) {o : List TV} (h : bs_l01Inverse R a0 = some o) : R is_l01Inverse [tLI a0] = some o := ev_step ((es_l01Inverse R a0).trans h)
/-- spec.l06Trivial -/
noncomputable def bs_l06Trivial (call : Oracle) (a0 : List Int × Int × Int) : Option (List TV) :=
  (call is_l01Next [tPLU8PIU64 (a0.1, (a0.2.1, a0.2.2)), tI 4]).bind fun o1 =>
  (call is_l01Draw [tPLU8PIU64 ((gPLU8PIU64 o1 1).1, (((gPLU8PIU64 o1 1).2).1, ((gPLU8PIU64 o1 1).2).2)), tI (wi64 (2 + (gI o1 0))), tI 8]).bind fun o2 =>
  (call is_l01Own [tLI (gLI o2 0)]).bind fun o3 =>
  (call is_l01Inverse [tLI (gLI o2 0)]).bind fun o4 =>
  bif (apOk (gLI o3 0) (gLI o4 0)) then
    bif decide (2 < (wi64 (2 + (gI o1 0)))) then
      (call is_l01Next [tPLU8PIU64 ((gPLU8PIU64 o2 1).1, (((gPLU8PIU64 o2 1).2).1, ((gPLU8PIU64 o2 1).2).2)), tI (wi64 ((wi64 (2 + (gI o1 0))) - 2))]).bind fun o5 =>
      (call is_l01Next [tPLU8PIU64 ((gPLU8PIU64 o5 1).1, (((gPLU8PIU64 o5 1).2).1, ((gPLU8PIU64 o5 1).2).2)), tI (wi64 (((List.length ((gLI o3 0) ++ (gLI o4 0)) : Nat) : Int) + 1))]).bind fun o6 =>
      bif (decide (0 ≤ (gI o6 0)) && decide ((gI o6 0) ≤ ((List.length ((gLI o3 0) ++ (gLI o4 0)) : Nat) : Int))) then
        (call is_l01Own [tLI (List.take (Int.toNat (gI o6 0)) ((gLI o3 0) ++ (gLI o4 0)))]).bind fun o7 =>
        bif (apOk (gLI o7 0) [(wi64 (1 + (gI o5 0))), (wi64 ((wi64 (1 + (gI o5 0))) + 1)), (wi64 (1 + (gI o5 0))), (wi64 ((wi64 (0 - (wi64 (1 + (gI o5 0))))) - 1)), (wi64 (0 - (wi64 (1 + (gI o5 0))))), (wi64 ((wi64 (0 - (wi64 (1 + (gI o5 0))))) - 1))]) then
          bif (decide (0 ≤ (gI o6 0)) && decide ((gI o6 0) ≤ ((List.length ((gLI o3 0) ++ (gLI o4 0)) : Nat) : Int))) then
            bif (apOk ((gLI o7 0) ++ [(wi64 (1 + (gI o5 0))), (wi64 ((wi64 (1 + (gI o5 0))) + 1)), (wi64 (1 + (gI o5 0))), (wi64 ((wi64 (0 - (wi64 (1 + (gI o5 0))))) - 1)), (wi64 (0 - (wi64 (1 + (gI o5 0))))), (wi64 ((wi64 (0 - (wi64 (1 + (gI o5 0))))) - 1))]) (List.drop (Int.toNat (gI o6 0)) ((gLI o3 0) ++ (gLI o4 0)))) then
              (call is_l01Next [tPLU8PIU64 ((gPLU8PIU64 o6 1).1, (((gPLU8PIU64 o6 1).2).1, ((gPLU8PIU64 o6 1).2).2)), tI 3]).bind fun o8 =>
              bif ((gI o8 0) == 0) then
                (call is_l01Pick [tPLU8PIU64 ((gPLU8PIU64 o8 1).1, (((gPLU8PIU64 o8 1).2).1, ((gPLU8PIU64 o8 1).2).2)), tLI [1, (-1)]]).bind fun o9 =>
                (call is_l01Next [tPLU8PIU64 ((gPLU8PIU64 o9 1).1, (((gPLU8PIU64 o9 1).2).1, ((gPLU8PIU64 o9 1).2).2)), tI (wi64 ((wi64 (2 + (gI o1 0))) - 1))]).bind fun o10 =>
                bif (apOk (((gLI o7 0) ++ [(wi64 (1 + (gI o5 0))), (wi64 ((wi64 (1 + (gI o5 0))) + 1)), (wi64 (1 + (gI o5 0))), (wi64 ((wi64 (0 - (wi64 (1 + (gI o5 0))))) - 1)), (wi64 (0 - (wi64 (1 + (gI o5 0))))), (wi64 ((wi64 (0 - (wi64 (1 + (gI o5 0))))) - 1))]) ++ (List.drop (Int.toNat (gI o6 0)) ((gLI o3 0) ++ (gLI o4 0)))) [(wi64 ((gI o9 0) * (wi64 (1 + (gI o10 0)))))]) then
                  some [tPILI ((wi64 (2 + (gI o1 0))), ((((gLI o7 0) ++ [(wi64 (1 + (gI o5 0))), (wi64 ((wi64 (1 + (gI o5 0))) + 1)), (wi64 (1 + (gI o5 0))), (wi64 ((wi64 (0 - (wi64 (1 + (gI o5 0))))) - 1)), (wi64 (0 - (wi64 (1 + (gI o5 0))))), (wi64 ((wi64 (0 - (wi64 (1 + (gI o5 0))))) - 1))]) ++ (List.drop (Int.toNat (gI o6 0)) ((gLI o3 0) ++ (gLI o4 0)))) ++ [(wi64 ((gI o9 0) * (wi64 (1 + (gI o10 0)))))])), tPLU8PIU64 ((gPLU8PIU64 o10 1).1, (((gPLU8PIU64 o10 1).2).1, ((gPLU8PIU64 o10 1).2).2))]
                else none
              else
                some [tPILI ((wi64 (2 + (gI o1 0))), (((gLI o7 0) ++ [(wi64 (1 + (gI o5 0))), (wi64 ((wi64 (1 + (gI o5 0))) + 1)), (wi64 (1 + (gI o5 0))), (wi64 ((wi64 (0 - (wi64 (1 + (gI o5 0))))) - 1)), (wi64 (0 - (wi64 (1 + (gI o5 0))))), (wi64 ((wi64 (0 - (wi64 (1 + (gI o5 0))))) - 1))]) ++ (List.drop (Int.toNat (gI o6 0)) ((gLI o3 0) ++ (gLI o4 0))))), tPLU8PIU64 ((gPLU8PIU64 o8 1).1, (((gPLU8PIU64 o8 1).2).1, ((gPLU8PIU64 o8 1).2).2))]
            else none
          else none
        else none
      else none
    else
      (call is_l01Next [tPLU8PIU64 ((gPLU8PIU64 o2 1).1, (((gPLU8PIU64 o2 1).2).1, ((gPLU8PIU64 o2 1).2).2)), tI 3]).bind fun o11 =>
      bif ((gI o11 0) == 0) then
        (call is_l01Pick [tPLU8PIU64 ((gPLU8PIU64 o11 1).1, (((gPLU8PIU64 o11 1).2).1, ((gPLU8PIU64 o11 1).2).2)), tLI [1, (-1)]]).bind fun o12 =>
        (call is_l01Next [tPLU8PIU64 ((gPLU8PIU64 o12 1).1, (((gPLU8PIU64 o12 1).2).1, ((gPLU8PIU64 o12 1).2).2)), tI (wi64 ((wi64 (2 + (gI o1 0))) - 1))]).bind fun o13 =>
        bif (apOk ((gLI o3 0) ++ (gLI o4 0)) [(wi64 ((gI o12 0) * (wi64 (1 + (gI o13 0)))))]) then
          some [tPILI ((wi64 (2 + (gI o1 0))), (((gLI o3 0) ++ (gLI o4 0)) ++ [(wi64 ((gI o12 0) * (wi64 (1 + (gI o13 0)))))])), tPLU8PIU64 ((gPLU8PIU64 o13 1).1, (((gPLU8PIU64 o13 1).2).1, ((gPLU8PIU64 o13 1).2).2))]
        else none
      else
        some [tPILI ((wi64 (2 + (gI o1 0))), ((gLI o3 0) ++ (gLI o4 0))), tPLU8PIU64 ((gPLU8PIU64 o11 1).1, (((gPLU8PIU64 o11 1).2).1, ((gPLU8PIU64 o11 1).2).2))]
  else none
theorem es_l06Trivial (call : Oracle) (a0 : List Int × Int × Int) : run1 E call is_l06Trivial [tPLU8PIU64 a0] = bs_l06Trivial call a0 := by kernel_rfl
theorem vs_l06Trivial (a0 : List Int × Int × Int) {o : List TV} (h : bs_l06Trivial R a0 = some o) : R is_l06Trivial [tPLU8PIU64 a0] = some o := ev_step ((es_l06Trivial R a0).trans h)
/-- spec.DrawMainLetter -/
noncomputable def bs_DrawMainLetter (call : Oracle) (a0 : List Int) : Option (List TV) :=
  (call is_l01From [tLU8 a0]).bind fun o1 =>
  (call is_l01Next [tPLU8PIU64 ((gPLU8PIU64 o1 0).1, (((gPLU8PIU64 o1 0).2).1, ((gPLU8PIU64 o1 0).2).2)), tI 2]).bind fun o2 =>
  bif ((gI o2 0) == 0) then
    (call is_l06Trivial [tPLU8PIU64 ((gPLU8PIU64 o2 1).1, (((gPLU8PIU64 o2 1).2).1, ((gPLU8PIU64 o2 1).2).2))]).bind fun o3 =>
    some [tPILI ((gPILI o3 0).1, (gPILI o3 0).2)]
  else
    (call is_l06Draw [tPLU8PIU64 ((gPLU8PIU64 o2 1).1, (((gPLU8PIU64 o2 1).2).1, ((gPLU8PIU64 o2 1).2).2))]).bind fun o4 =>
    some [tPILI ((gPILI o4 0).1, (gPILI o4 0).2)]
theorem es_DrawMainLetter (call : Oracle) (a0 : List Int) : run1 E call is_DrawMainLetter [tLU8 a0] = bs_DrawMainLetter call a0 := by kernel_rfl
theorem vs_DrawMainLetter (a0 : List Int) {o : List TV} (h : bs_DrawMainLetter R a0 = some o) : R is_DrawMainLetter [tLU8 a0] = some o := ev_step ((es_DrawMainLetter R a0).trans h)
/-- spec.DrawIsTrivial -/
noncomputable def bs_DrawIsTrivial (call : Oracle) (a0 : List Int) : Option (List TV) :=
  (call is_DrawMainLetter [tLU8 a0]).bind fun o1 =>
  some [tPILI ((gPILI o1 0).1, (gPILI o1 0).2)]
theorem es_DrawIsTrivial (call : Oracle) (a0 : List Int) : run1 E call is_DrawIsTrivial [tLU8 a0] = bs_DrawIsTrivial call a0 := by kernel_rfl
theorem vs_DrawIsTrivial (a0 : List Int) {o : List TV} (h : bs_DrawIsTrivial R a0 = some o) : R is_DrawIsTrivial [tLU8 a0] = some o := ev_step ((es_DrawIsTrivial R a0).trans h)
/-- spec.IsTrivial -/
noncomputable def bs_IsTrivial (call : Oracle) (a0 : Int × List Int) : Option (List TV) :=
  (call is_MainLetter [tPILI (a0.1, a0.2)]).bind fun o1 =>
  bif ((gI o1 1) == 0) then
    some [tB ((gI o1 0) == 0), tI (gI o1 1)]
  else
    some [tB false, tI (gI o1 1)]
theorem es_IsTrivial (call : Oracle) (a0 : Int × List Int) : run1 E call is_IsTrivial [tPILI a0] = bs_IsTrivial call a0 := by kernel_rfl
theorem vs_IsTrivial (a0 : Int × List Int) {o : List TV} (h : bs_IsTrivial R a0 = some o) : R is_IsTrivial [tPILI a0] = some o := ev_step ((es_IsTrivial R a0).trans h)
/-- laws.FnHandles join 20 -/
noncomputable def bw_FnHandles_j20 (call : Oracle) (x0 : List Int) : Option (List TV) :=
  (call is_DrawHandleFree [tLU8 x0]).bind fun o43 =>
  (call ii_HandleFree [tPILI ((gPILI o43 0).1, (gPILI o43 0).2)]).bind fun o44 =>
  (call is_HandleFree [tPILI ((gPILI o43 0).1, (gPILI o43 0).2)]).bind fun o45 =>
  (call ii_MainLetter [tPILI ((gPILI o43 0).1, (gPILI o43 0).2)]).bind fun o46 =>
  (call is_MainLetter [tPILI ((gPILI o43 0).1, (gPILI o43 0).2)]).bind fun o47 =>
  bif ((gI o44 1) != (gI o45 1)) then
    some [tI 0, tB false]
  else
    (call iw_braid5 [tPILI ((gPILI o44 0).1, (gPILI o44 0).2), tPILI ((gPILI o45 0).1, (gPILI o45 0).2)]).bind fun o48 =>
    bif (!(gB o48 0)) then
      some [tI 0, tB false]
    else
      bif ((gI o46 1) != (gI o47 1)) then
        some [tI 0, tB false]
      else
        bif ((gI o46 0) != (gI o47 0)) then
          some [tI 0, tB false]
        else
          bif ((gI o44 1) == 0) then
            (call ii_FirstHandle [tPILI ((gPILI o44 0).1, (gPILI o44 0).2)]).bind fun o49 =>
            (call ii_WordSign [tPILI ((gPILI o44 0).1, (gPILI o44 0).2)]).bind fun o50 =>
            (call ii_IsTrivial [tPILI ((gPILI o43 0).1, (gPILI o43 0).2)]).bind fun o51 =>
            (call ii_EqualByBands [tPILI ((gPILI o43 0).1, (gPILI o43 0).2), tPILI ((gPILI o44 0).1, (gPILI o44 0).2)]).bind fun o52 =>
            bif ((gI o49 1) != 4) then
              some [tI 0, tB false]
            else
              bif ((gI o50 1) != 0) then
                some [tI 0, tB false]
              else
                bif ((gI o51 1) != 0) then
                  some [tI 0, tB false]
                else
                  bif ((gI o52 1) != 0) then
                    some [tI 0, tB false]
                  else
                    bif (!(gB o52 0)) then
                      some [tI 0, tB false]
                    else
                      bif ((gB o51 0) != (((List.length ((gPILI o44 0).2) : Nat) : Int) == 0)) then
                        some [tI 0, tB false]
                      else
                        bif (((gI o50 0) == 0) != (gB o51 0)) then
                          some [tI 0, tB false]
                        else
                          bif ((decide (0 < (gI o50 0))) != (decide (0 < (gI o46 0)))) then
                            some [tI 0, tB false]
                          else
                            (call iw_FnHandles_j34 [tLU8 x0]).bind fun o53 =>
                            some [tI 0, tB (gB o53 1)]
          else
            (call iw_FnHandles_j34 [tLU8 x0]).bind fun o54 =>
            some [tI 0, tB (gB o54 1)]
theorem ew_FnHandles_j20 (call : Oracle) (x0 : List Int) : run1 E call iw_FnHandles_j20 [tLU8 x0] = bw_FnHandles_j20 call x0 := by kernel_rfl
theorem vw_FnHandles_j20 (x0 : List Int) {o : List TV} (h : bw_FnHandles_j20 R x0 = some o) : R iw_FnHandles_j20 [tLU8 x0] = some o := ev_step ((ew_FnHandles_j20 R x0).trans h)
/-- laws.FnHandles join 34 -/
noncomputable def bw_FnHandles_j34 (call : Oracle) (x0 : List Int) : Option (List TV) :=
  (call is_DrawWordSign [tLU8 x0]).bind fun o33 =>
  (call ii_WordSign [tPILI ((gPILI o33 0).1, (gPILI o33 0).2)]).bind fun o34 =>
  (call is_WordSign [tPILI ((gPILI o33 0).1, (gPILI o33 0).2)]).bind fun o35 =>
  (call is_DrawIsTrivial [tLU8 x0]).bind fun o36 =>
  (call ii_IsTrivial [tPILI ((gPILI o36 0).1, (gPILI o36 0).2)]).bind fun o37 =>
  (call is_IsTrivial [tPILI ((gPILI o36 0).1, (gPILI o36 0).2)]).bind fun o38 =>
  (call ii_MainLetter [tPILI ((gPILI o36 0).1, (gPILI o36 0).2)]).bind fun o39 =>
  (call is_MainLetter [tPILI ((gPILI o36 0).1, (gPILI o36 0).2)]).bind fun o40 =>
  bif ((gI o34 1) == (gI o35 1)) then
    bif ((gI o34 0) == (gI o35 0)) then
      bif ((gI o37 1) == (gI o38 1)) then
        bif ((gB o37 0) == (gB o38 0)) then
          bif ((gI o39 1) == (gI o40 1)) then
            some [tI 0, tB ((gI o39 0) == (gI o40 0))]
          else
            some [tI 0, tB false]
        else
          some [tI 0, tB false]
      else
        some [tI 0, tB false]
    else
      some [tI 0, tB false]
  else
    some [tI 0, tB false]
theorem ew_FnHandles_j34 (call : Oracle) (x0 : List Int) : run1 E call iw_FnHandles_j34 [tLU8 x0] = bw_FnHandles_j34 call x0 := by kernel_rfl
theorem vw_FnHandles_j34 (x0 : List Int) {o : List TV} (h : bw_FnHandles_j34 R x0 = some o) : R iw_FnHandles_j34 [tLU8 x0] = some o := ev_step ((ew_FnHandles_j34 R x0).trans h)
end Go.Ev.Yteclcmiopobnaaa
