/- Bodies, part 1. -/
import Derived.KernelRfl
import Derived.Test.YtffepojldjodcaaEnv
set_option linter.unusedVariables false
namespace Go.Ev.Ytffepojldjodcaa
open Go.Ev
/-- impl.SortBraids loop 11 -/
noncomputable def bi_SortBraids_11 (call : Oracle) (x0 : List (Int × List Int)) (x1 : List Int) (x2 : List Int) (x3 : Int) (x4 : Int) (x5 : Int) (x6 : Int) (x7 : Int) : Option (List TV) :=
  bif decide (x7 < x6) then
    bif (decide (0 ≤ x7) && decide (x7 < ((List.length x0 : Nat) : Int))) then
      bif (decide (0 ≤ x3) && decide (x3 < ((List.length x0 : Nat) : Int))) then
        (call ii_compare [tPILI ((List.getD x0 (Int.toNat x7) (0, [])).1, (List.getD x0 (Int.toNat x7) (0, [])).2), tPILI ((List.getD x0 (Int.toNat x3) (0, [])).1, (List.getD x0 (Int.toNat x3) (0, [])).2)]).bind fun o4 =>
        bif ((gI o4 1) != 0) then
          some [tI 1, tLI [], tI (gI o4 1)]
        else
          bif decide (0 < (gI o4 0)) then
            bif (decide (0 ≤ x7) && decide (x7 < ((List.length x2 : Nat) : Int))) then
              bif (decide (0 ≤ x7) && decide (x7 < ((List.length x2 : Nat) : Int))) then
                call ii_SortBraids_11 [tLPILI x0, tLI x1, tLI (List.set x2 (Int.toNat x7) (wi64 ((List.getD x2 (Int.toNat x7) 0) + 1))), tI x3, tI x4, tI x5, tI x6, tI (wi64 (x7 + 1))]
              else none
            else none
          else
            bif (decide (0 ≤ x3) && decide (x3 < ((List.length x2 : Nat) : Int))) then
              bif (decide (0 ≤ x3) && decide (x3 < ((List.length x2 : Nat) : Int))) then
                call ii_SortBraids_11 [tLPILI x0, tLI x1, tLI (List.set x2 (Int.toNat x3) (wi64 ((List.getD x2 (Int.toNat x3) 0) + 1))), tI x3, tI x4, tI x5, tI x6, tI (wi64 (x7 + 1))]
              else none
            else none
      else none
    else none
  else
    some [tI 0, tLPILI x0, tLI x1, tLI x2, tI x4, tI x5]
theorem ei_SortBraids_11 (call : Oracle) (x0 : List (Int × List Int)) (x1 : List Int) (x2 : List Int) (x3 : Int) (x4 : Int) (x5 : Int) (x6 : Int) (x7 : Int) : run1 E call ii_SortBraids_11 [tLPILI x0, tLI x1, tLI x2, tI x3, tI x4, tI x5, tI x6, tI x7] = bi_SortBraids_11 call x0 x1 x2 x3 x4 x5 x6 x7 := by kernel_rfl
theorem vi_SortBraids_11 (x0 : List (Int × List Int)) (x1 : List Int) (x2 : List Int) (x3 : Int) (x4 : Int) (x5 : Int) (x6 : Int) (x7 : Int) {o : List TV} (h : bi_SortBraids_11 R x0 x1 x2 x3 x4 x5 x6 x7 = some o) : R ii_SortBraids_11 [tLPILI x0, tLI x1, tLI x2, tI x3, tI x4, tI x5, tI x6, tI x7] = some o := ev_step ((ei_SortBraids_11 R x0 x1 x2 x3 x4 x5 x6 x7).trans h)
/-- impl.SortBraids loop 22 -/
noncomputable def bi_SortBraids_22 (call : Oracle) (x0 : List Int) (x1 : List Int) (x2 : Int) (x3 : Int) : Option (List TV) :=
  bif decide (x3 < x2) then
    bif (decide (0 ≤ x3) && decide (x3 < ((List.length x1 : Nat) : Int))) then
      bif (decide (0 ≤ (List.getD x1 (Int.toNat x3) 0)) && decide ((List.getD x1 (Int.toNat x3) 0) < ((List.length x0 : Nat) : Int))) then
        call ii_SortBraids_22 [tLI (List.set x0 (Int.toNat (List.getD x1 (Int.toNat x3) 0)) x3), tLI x1, tI x2, tI (wi64 (x3 + 1))]
      else none
    else none
  else
    some [tI 0, tLI x0]
theorem ei_SortBraids_22 (call : Oracle) (x0 : List Int) (x1 : List Int) (x2 : Int) (x3 : Int) : run1 E call ii_SortBraids_22 [tLI x0, tLI x1, tI x2, tI x3] = bi_SortBraids_22 call x0 x1 x2 x3 := by kernel_rfl
theorem vi_SortBraids_22 (x0 : List Int) (x1 : List Int) (x2 : Int) (x3 : Int) {o : List TV} (h : bi_SortBraids_22 R x0 x1 x2 x3 = some o) : R ii_SortBraids_22 [tLI x0, tLI x1, tI x2, tI x3] = some o := ev_step ((ei_SortBraids_22 R x0 x1 x2 x3).trans h)
/-- impl.SortBraids -/
noncomputable def bi_SortBraids (call : Oracle) (a0 : List (Int × List Int)) : Option (List TV) :=
  (call ig_ContainsFunc___i_Braid_i_Braid_ [tLPILI a0]).bind fun o1 =>
  bif (gB o1 0) then
    some [tLI [], tI 1]
  else
    bif decide (10 < ((List.length a0 : Nat) : Int)) then
      some [tLI [], tI 2]
    else
      (call ig_ContainsFunc___i_Braid_i_Braid__v2 [tLPILI a0, tLPILI a0]).bind fun o2 =>
      bif (gB o2 0) then
        some [tLI [], tI 2]
      else
        bif (mkOk ((List.length a0 : Nat) : Int)) then
          bif (mkOk ((List.length a0 : Nat) : Int)) then
            (call ii_SortBraids_8 [tLPILI a0, tLI (List.replicate (Int.toNat ((List.length a0 : Nat) : Int)) 0), tLI (List.replicate (Int.toNat ((List.length a0 : Nat) : Int)) 0), tI ((List.length a0 : Nat) : Int), tI 0]).bind fun o7 =>
            bif ((gI o7 0) == 0) then
              (call ii_SortBraids_22 [tLI (gLI o7 1), tLI (gLI o7 2), tI ((List.length (gLI o7 2) : Nat) : Int), tI 0]).bind fun o8 =>
              some [tLI (gLI o8 1), tI 0]
            else
              some [tLI (gLI o7 1), tI (gI o7 2)]
          else none
        else none
theorem ei_SortBraids (call : Oracle) (a0 : List (Int × List Int)) : run1 E call ii_SortBraids [tLPILI a0] = bi_SortBraids call a0 := by kernel_rfl
theorem vi_SortBraids (a0 : List (Int × List Int)) {o : List TV} (h : bi_SortBraids R a0 = some o) : R ii_SortBraids [tLPILI a0] = some o := ev_step ((ei_SortBraids R a0).trans h)
/-- laws.eqInt64S loop 4 -/
noncomputable def bw_eqInt64S_4 (call : Oracle) (x0 : List Int) (x1 : List Int) (x2 : Int) : Option (List TV) :=
  bif decide (x2 < ((List.length x0 : Nat) : Int)) then
    bif (decide (0 ≤ x2) && decide (x2 < ((List.length x0 : Nat) : Int))) then
      bif (decide (0 ≤ x2) && decide (x2 < ((List.length x1 : Nat) : Int))) then
        bif ((List.getD x0 (Int.toNat x2) 0) != (List.getD x1 (Int.toNat x2) 0)) then
          some [tI 1, tB false]
        else
          call iw_eqInt64S_4 [tLI x0, tLI x1, tI (wi64 (x2 + 1))]
      else none
    else none
  else
    some [tI 0]
theorem ew_eqInt64S_4 (call : Oracle) (x0 : List Int) (x1 : List Int) (x2 : Int) : run1 E call iw_eqInt64S_4 [tLI x0, tLI x1, tI x2] = bw_eqInt64S_4 call x0 x1 x2 := by kernel_rfl
theorem vw_eqInt64S_4 (x0 : List Int) (x1 : List Int) (x2 : Int) {o : List TV} (h : bw_eqInt64S_4 R x0 x1 x2 = some o) : R iw_eqInt64S_4 [tLI x0, tLI x1, tI x2] = some o := ev_step ((ew_eqInt64S_4 R x0 x1 x2).trans h)
/-- laws.eqInt64S -/
noncomputable def bw_eqInt64S (call : Oracle) (a0 : List Int) (a1 : List Int) : Option (List TV) :=
  bif (((List.length a0 : Nat) : Int) != ((List.length a1 : Nat) : Int)) then
    some [tB false]
  else
    (call iw_eqInt64S_4 [tLI a0, tLI a1, tI 0]).bind fun o1 =>
    bif ((gI o1 0) == 0) then
      some [tB true]
    else
      some [tB (gB o1 1)]
theorem ew_eqInt64S (call : Oracle) (a0 : List Int) (a1 : List Int) : run1 E call iw_eqInt64S [tLI a0, tLI a1] = bw_eqInt64S call a0 a1 := by kernel_rfl
theorem vw_eqInt64S (a0 : List Int) (a1 : List Int) {o : List TV} (h : bw_eqInt64S R a0 a1 = some o) : R iw_eqInt64S [tLI a0, tLI a1] = some o := ev_step ((ew_eqInt64S R a0 a1).trans h)
/-- laws.eqBraid -/
noncomputable def bw_eqBraid (call : Oracle) (a0 : Int × List Int) (a1 : Int × List Int) : Option (List TV) :=
  bif (a0.1 != a1.1) then
    some [tB false]
  else
    (call iw_eqInt64S [tLI a0.2, tLI a1.2]).bind fun o1 =>
    bif (!(gB o1 0)) then
      some [tB false]
    else
      some [tB true]
theorem ew_eqBraid (call : Oracle) (a0 : Int × List Int) (a1 : Int × List Int) : run1 E call iw_eqBraid [tPILI a0, tPILI a1] = bw_eqBraid call a0 a1 := by kernel_rfl
theorem vw_eqBraid (a0 : Int × List Int) (a1 : Int × List Int) {o : List TV} (h : bw_eqBraid R a0 a1 = some o) : R iw_eqBraid [tPILI a0, tPILI a1] = some o := ev_step ((ew_eqBraid R a0 a1).trans h)
/-- laws.eqBraidS loop 4 -/
noncomputable def bw_eqBraidS_4 (call : Oracle) (x0 : List (Int × List Int)) (x1 : List (Int × List Int)) (x2 : Int) : Option (List TV) :=
  bif decide (x2 < ((List.length x0 : Nat) : Int)) then
    bif (decide (0 ≤ x2) && decide (x2 < ((List.length x0 : Nat) : Int))) then
      bif (decide (0 ≤ x2) && decide (x2 < ((List.length x1 : Nat) : Int))) then
        (call iw_eqBraid [tPILI ((List.getD x0 (Int.toNat x2) (0, [])).1, (List.getD x0 (Int.toNat x2) (0, [])).2), tPILI ((List.getD x1 (Int.toNat x2) (0, [])).1, (List.getD x1 (Int.toNat x2) (0, [])).2)]).bind fun o2 =>
        bif (!(gB o2 0)) then
          some [tI 1, tB false]
        else
          call iw_eqBraidS_4 [tLPILI x0, tLPILI x1, tI (wi64 (x2 + 1))]
      else none
    else none
  else
    some [tI 0]
theorem ew_eqBraidS_4 (call : Oracle) (x0 : List (Int × List Int)) (x1 : List (Int × List Int)) (x2 : Int) : run1 E call iw_eqBraidS_4 [tLPILI x0, tLPILI x1, tI x2] = bw_eqBraidS_4 call x0 x1 x2 := by kernel_rfl
theorem vw_eqBraidS_4 (x0 : List (Int × List Int)) (x1 : List (Int × List Int)) (x2 : Int) {o : List TV} (h : bw_eqBraidS_4 R x0 x1 x2 = some o) : R iw_eqBraidS_4 [tLPILI x0, tLPILI x1, tI x2] = some o := ev_step ((ew_eqBraidS_4 R x0 x1 x2).trans h)
/-- laws.eqBraidS -/
noncomputable def bw_eqBraidS (call : Oracle) (a0 : List (Int × List Int)) (a1 : List (Int × List Int)) : Option (List TV) :=
  bif (((List.length a0 : Nat) : Int) != ((List.length a1 : Nat) : Int)) then
    some [tB false]
  else
    (call iw_eqBraidS_4 [tLPILI a0, tLPILI a1, tI 0]).bind fun o3 =>
    bif ((gI o3 0) == 0) then
      some [tB true]
    else
      some [tB (gB o3 1)]
theorem ew_eqBraidS (call : Oracle) (a0 : List (Int × List Int)) (a1 : List (Int × List Int)) : run1 E call iw_eqBraidS [tLPILI a0, tLPILI a1] = bw_eqBraidS call a0 a1 := by kernel_rfl
theorem vw_eqBraidS (a0 : List (Int × List Int)) (a1 : List (Int × List Int)) {o : List TV} (h : bw_eqBraidS R a0 a1 = some o) : R iw_eqBraidS [tLPILI a0, tLPILI a1] = some o := ev_step ((ew_eqBraidS R a0 a1).trans h)
/-- laws.markInt64S loop 2 -/
noncomputable def bw_markInt64S_2 (call : Oracle) (x0 : List Int) (x1 : Int) (x2 : Int) : Option (List TV) :=
  bif decide (x2 < ((List.length x0 : Nat) : Int)) then
    bif (decide (0 ≤ x2) && decide (x2 < ((List.length x0 : Nat) : Int))) then
      call iw_markInt64S_2 [tLI (List.set x0 (Int.toNat x2) x1), tI (wi64 (x1 + 1)), tI (wi64 (x2 + 1))]
    else none
  else
    some [tI 0, tLI x0, tI x1]
theorem ew_markInt64S_2 (call : Oracle) (x0 : List Int) (x1 : Int) (x2 : Int) : run1 E call iw_markInt64S_2 [tLI x0, tI x1, tI x2] = bw_markInt64S_2 call x0 x1 x2 := by kernel_rfl
theorem vw_markInt64S_2 (x0 : List Int) (x1 : Int) (x2 : Int) {o : List TV} (h : bw_markInt64S_2 R x0 x1 x2 = some o) : R iw_markInt64S_2 [tLI x0, tI x1, tI x2] = some o := ev_step ((ew_markInt64S_2 R x0 x1 x2).trans h)
/-- laws.markInt64S -/
noncomputable def bw_markInt64S (call : Oracle) (a0 : List Int) (a1 : Int) : Option (List TV) :=
  (call iw_markInt64S_2 [tLI a0, tI a1, tI 0]).bind fun o1 =>
  some [tI (gI o1 2), tLI (gLI o1 1)]
theorem ew_markInt64S (call : Oracle) (a0 : List Int) (a1 : Int) : run1 E call iw_markInt64S [tLI a0, tI a1] = bw_markInt64S call a0 a1 := by kernel_rfl
theorem vw_markInt64S (a0 : List Int) (a1 : Int) {o : List TV} (h : bw_markInt64S R a0 a1 = some o) : R iw_markInt64S [tLI a0, tI a1] = some o := ev_step ((ew_markInt64S R a0 a1).trans h)
/-- laws.markBraidS loop 2 -/
noncomputable def bw_markBraidS_2 (call : Oracle) (x0 : List (Int × List Int)) (x1 : Int) (x2 : Int) : Option (List TV) :=
  bif decide (x2 < ((List.length x0 : Nat) : Int)) then
    bif (decide (0 ≤ x2) && decide (x2 < ((List.length x0 : Nat) : Int))) then
      bif (decide (0 ≤ x2) && decide (x2 < ((List.length (List.set x0 (Int.toNat x2) (x1, (List.getD x0 (Int.toNat x2) (0, [])).2)) : Nat) : Int))) then
        (call iw_markInt64S [tLI ((List.getD (List.set x0 (Int.toNat x2) (x1, (List.getD x0 (Int.toNat x2) (0, [])).2)) (Int.toNat x2) (0, [])).2), tI (wi64 (x1 + 1))]).bind fun o2 =>
        call iw_markBraidS_2 [tLPILI (List.set (List.set x0 (Int.toNat x2) (x1, (List.getD x0 (Int.toNat x2) (0, [])).2)) (Int.toNat x2) ((List.getD (List.set x0 (Int.toNat x2) (x1, (List.getD x0 (Int.toNat x2) (0, [])).2)) (Int.toNat x2) (0, [])).1, (gLI o2 1))), tI (gI o2 0), tI (wi64 (x2 + 1))]
      else none
    else none
  else
    some [tI 0, tLPILI x0, tI x1]
theorem ew_markBraidS_2 (call : Oracle) (x0 : List (Int × List Int)) (x1 : Int) (x2 : Int) : run1 E call iw_markBraidS_2 [tLPILI x0, tI x1, tI x2] = bw_markBraidS_2 call x0 x1 x2 := by kernel_rfl
theorem vw_markBraidS_2 (x0 : List (Int × List Int)) (x1 : Int) (x2 : Int) {o : List TV} (h : bw_markBraidS_2 R x0 x1 x2 = some o) : R iw_markBraidS_2 [tLPILI x0, tI x1, tI x2] = some o := ev_step ((ew_markBraidS_2 R x0 x1 x2).trans h)
/-- laws.markBraidS -/
noncomputable def bw_markBraidS (call : Oracle) (a0 : List (Int × List Int)) (a1 : Int) : Option (List TV) :=
  (call iw_markBraidS_2 [tLPILI a0, tI a1, tI 0]).bind fun o3 =>
  some [tI (gI o3 2), tLPILI (gLPILI o3 1)]
theorem ew_markBraidS (call : Oracle) (a0 : List (Int × List Int)) (a1 : Int) : run1 E call iw_markBraidS [tLPILI a0, tI a1] = bw_markBraidS call a0 a1 := by kernel_rfl
theorem vw_markBraidS (a0 : List (Int × List Int)) (a1 : Int) {o : List TV} (h : bw_markBraidS R a0 a1 = some o) : R iw_markBraidS [tLPILI a0, tI a1] = some o := ev_step ((ew_markBraidS R a0 a1).trans h)
/-- laws.heldInt64S loop 2 -/
noncomputable def bw_heldInt64S_2 (call : Oracle) (x0 : List Int) (x1 : Int) (x2 : Int) : Option (List TV) :=
  bif decide (x2 < ((List.length x0 : Nat) : Int)) then
    bif (decide (0 ≤ x2) && decide (x2 < ((List.length x0 : Nat) : Int))) then
      bif ((List.getD x0 (Int.toNat x2) 0) != x1) then
        some [tI 1, tI (-1)]
      else
        call iw_heldInt64S_2 [tLI x0, tI (wi64 (x1 + 1)), tI (wi64 (x2 + 1))]
    else none
  else
    some [tI 0, tI x1]
theorem ew_heldInt64S_2 (call : Oracle) (x0 : List Int) (x1 : Int) (x2 : Int) : run1 E call iw_heldInt64S_2 [tLI x0, tI x1, tI x2] = bw_heldInt64S_2 call x0 x1 x2 := by kernel_rfl
theorem vw_heldInt64S_2 (x0 : List Int) (x1 : Int) (x2 : Int) {o : List TV} (h : bw_heldInt64S_2 R x0 x1 x2 = some o) : R iw_heldInt64S_2 [tLI x0, tI x1, tI x2] = some o := ev_step ((ew_heldInt64S_2 R x0 x1 x2).trans h)
/-- laws.heldInt64S -/
noncomputable def bw_heldInt64S (call : Oracle) (a0 : List Int) (a1 : Int) : Option (List TV) :=
  (call iw_heldInt64S_2 [tLI a0, tI a1, tI 0]).bind fun o1 =>
  bif ((gI o1 0) == 0) then
    some [tI (gI o1 1)]
  else
    some [tI (gI o1 1)]
theorem ew_heldInt64S (call : Oracle) (a0 : List Int) (a1 : Int) : run1 E call iw_heldInt64S [tLI a0, tI a1] = bw_heldInt64S call a0 a1 := by kernel_rfl
theorem vw_heldInt64S (a0 : List Int) (a1 : Int) {o : List TV} (h : bw_heldInt64S R a0 a1 = some o) : R iw_heldInt64S [tLI a0, tI a1] = some o := ev_step ((ew_heldInt64S R a0 a1).trans h)
/-- laws.FnExactSortBraids -/
noncomputable def bw_FnExactSortBraids (call : Oracle) (a0 : List (Int × List Int)) : Option (List TV) :=
  (call iw_szBraidS [tLPILI a0, tI 1048576]).bind fun o1 =>
  bif decide ((gI o1 0) < 0) then
    some [tB true]
  else
    (call iw_toBraidS [tLPILI a0]).bind fun o2 =>
    (call is_SortBraids [tLPILI (gLPILI o2 0)]).bind fun o3 =>
    (call iw_toBraidS [tLPILI a0]).bind fun o4 =>
    (call ii_SortBraids [tLPILI (gLPILI o4 0)]).bind fun o5 =>
    (call iw_eqInt64S [tLI (gLI o5 0), tLI (gLI o3 0)]).bind fun o6 =>
    bif (!(gB o6 0)) then
      some [tB false]
    else
      bif ((gI o5 1) != (gI o3 1)) then
        some [tB false]
      else
        (call iw_toBraidS [tLPILI a0]).bind fun o7 =>
        (call iw_eqBraidS [tLPILI (gLPILI o4 0), tLPILI (gLPILI o7 0)]).bind fun o8 =>
        bif (!(gB o8 0)) then
          some [tB false]
        else
          (call iw_markBraidS [tLPILI (gLPILI o4 0), tI 1]).bind fun o9 =>
          bif decide ((gI o9 0) < 0) then
            some [tB false]
          else
            (call iw_eqInt64S [tLI (gLI o5 0), tLI (gLI o3 0)]).bind fun o10 =>
            bif (!(gB o10 0)) then
              some [tB false]
            else
              bif ((gI o5 1) != (gI o3 1)) then
                some [tB false]
              else
                (call iw_markInt64S [tLI (gLI o5 0), tI 1]).bind fun o11 =>
                (call iw_heldInt64S [tLI (gLI o11 1), tI 1]).bind fun o12 =>
                bif decide ((gI o12 0) < 0) then
                  some [tB false]
                else
                  bif ((gI o12 0) != (gI o11 0)) then
                    some [tB false]
                  else
                    (call iw_toBraidS [tLPILI a0]).bind fun o13 =>
                    (call ii_SortBraids [tLPILI (gLPILI o13 0)]).bind fun o14 =>
                    (call iw_eqInt64S [tLI (gLI o14 0), tLI (gLI o3 0)]).bind fun o15 =>
                    bif (!(gB o15 0)) then
                      some [tB false]
                    else
                      bif ((gI o14 1) != (gI o3 1)) then
                        some [tB false]
                      else
                        (call iw_heldInt64S [tLI (gLI o11 1), tI 1]).bind fun o16 =>
                        bif decide ((gI o16 0) < 0) then
                          some [tB false]
                        else
                          bif ((gI o16 0) != (gI o11 0)) then
                            some [tB false]
                          else
                            some [tB true]
theorem ew_FnExactSortBraids (call : Oracle) (a0 : List (Int × List Int)) : run1 E call iw_FnExactSortBraids [tLPILI a0] = bw_FnExactSortBraids call a0 := by kernel_rfl
theorem vw_FnExactSortBraids (a0 : List (Int × List Int)) {o : List TV} (h : bw_FnExactSortBraids R a0 = some o) : R iw_FnExactSortBraids [tLPILI a0] = some o := ev_step ((ew_FnExactSortBraids R a0).trans h)
end Go.Ev.Ytffepojldjodcaa
