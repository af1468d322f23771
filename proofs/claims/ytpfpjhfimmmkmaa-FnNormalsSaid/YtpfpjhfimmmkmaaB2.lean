/- Bodies, part 2. -/
import Derived.KernelRfl
import Derived.Test.YtpfpjhfimmmkmaaEnv
set_option linter.unusedVariables false
namespace Go.Ev.Ytpfpjhfimmmkmaa
open Go.Ev
/-- spec.l02Begins loop 3 -/
noncomputable def bs_l02Begins_3 (call : Oracle) (x0 : List Int) (x1 : List Int) (x2 : Int) (x3 : Int) : Option (List TV) :=
  bif decide (x3 < x2) then
    bif (decide (0 ≤ (wi64 (x3 - 1))) && decide ((wi64 (x3 - 1)) < 8)) then
      bif (decide (0 ≤ x3) && decide (x3 < 8)) then
        bif decide ((List.getD x0 (Int.toNat x3) 0) < (List.getD x0 (Int.toNat (wi64 (x3 - 1))) 0)) then
          bif (apOk x1 [x3]) then
            call is_l02Begins_3 [tA8 x0, tLI (x1 ++ [x3]), tI x2, tI (wi64 (x3 + 1))]
          else none
        else
          call is_l02Begins_3 [tA8 x0, tLI x1, tI x2, tI (wi64 (x3 + 1))]
      else none
    else none
  else
    some [tI 0, tLI x1]
theorem es_l02Begins_3 (call : Oracle) (x0 : List Int) (x1 : List Int) (x2 : Int) (x3 : Int) : run1 E call is_l02Begins_3 [tA8 x0, tLI x1, tI x2, tI x3] = bs_l02Begins_3 call x0 x1 x2 x3 := by kernel_rfl
theorem vs_l02Begins_3 (x0 : List Int) (x1 : List Int) (x2 : Int) (x3 : Int) {o : List TV} (h : bs_l02Begins_3 R x0 x1 x2 x3 = some o) : R is_l02Begins_3 [tA8 x0, tLI x1, tI x2, tI x3] = some o := ev_step ((es_l02Begins_3 R x0 x1 x2 x3).trans h)
/-- spec.l02Begins -/
noncomputable def bs_l02Begins (call : Oracle) (a0 : List Int) (a1 : Int) : Option (List TV) :=
  (call is_l02Begins_3 [tA8 a0, tLI [], tI a1, tI 1]).bind fun o1 =>
  some [tLI (gLI o1 1)]
theorem es_l02Begins (call : Oracle) (a0 : List Int) (a1 : Int) : run1 E call is_l02Begins [tA8 a0, tI a1] = bs_l02Begins call a0 a1 := by kernel_rfl
theorem vs_l02Begins (a0 : List Int) (a1 : Int) {o : List TV} (h : bs_l02Begins R a0 a1 = some o) : R is_l02Begins [tA8 a0, tI a1] = some o := ev_step ((es_l02Begins R a0 a1).trans h)
/-- spec.l02Word loop 2 -/
noncomputable def bs_l02Word_2 (call : Oracle) (x0 : List Int) (x1 : List Int) (x2 : Int) : Option (List TV) :=
  (call is_l02Begins [tA8 x0, tI x2]).bind fun o4 =>
  bif (((List.length (gLI o4 0) : Nat) : Int) == 0) then
    some [tI 0, tLI x1]
  else
    bif decide (0 < ((List.length (gLI o4 0) : Nat) : Int)) then
      bif (apOk x1 [(List.getD (gLI o4 0) 0 0)]) then
        bif decide (0 < ((List.length (gLI o4 0) : Nat) : Int)) then
          (call is_l02Exchange [tI x2, tI (List.getD (gLI o4 0) 0 0)]).bind fun o5 =>
          (call is_l02Then [tA8 (gA8 o5 0), tA8 x0, tI x2]).bind fun o6 =>
          call is_l02Word_2 [tA8 (gA8 o6 0), tLI (x1 ++ [(List.getD (gLI o4 0) 0 0)]), tI x2]
        else none
      else none
    else none
theorem es_l02Word_2 (call : Oracle) (x0 : List Int) (x1 : List Int) (x2 : Int) : run1 E call is_l02Word_2 [tA8 x0, tLI x1, tI x2] = bs_l02Word_2 call x0 x1 x2 := by kernel_rfl
theorem vs_l02Word_2 (x0 : List Int) (x1 : List Int) (x2 : Int) {o : List TV} (h : bs_l02Word_2 R x0 x1 x2 = some o) : R is_l02Word_2 [tA8 x0, tLI x1, tI x2] = some o := ev_step ((es_l02Word_2 R x0 x1 x2).trans h)
/-- spec.l02Word -/
noncomputable def bs_l02Word (call : Oracle) (a0 : Int) (a1 : List Int) : Option (List TV) :=
  (call is_l02Word_2 [tA8 a1, tLI [], tI a0]).bind fun o7 =>
  some [tLI (gLI o7 1)]
theorem es_l02Word (call : Oracle) (a0 : Int) (a1 : List Int) : run1 E call is_l02Word [tI a0, tA8 a1] = bs_l02Word call a0 a1 := by kernel_rfl
theorem vs_l02Word (a0 : Int) (a1 : List Int) {o : List TV} (h : bs_l02Word R a0 a1 = some o) : R is_l02Word [tI a0, tA8 a1] = some o := ev_step ((es_l02Word R a0 a1).trans h)
/-- spec.l03Word loop 3 -/
noncomputable def bs_l03Word_3 (call : Oracle) (x0 : Int) (x1 : Int) (x2 : List (List Int)) (x3 : List Int) (x4 : List Int) (x5 : Int) : Option (List TV) :=
  bif decide (x5 < x1) then
    bif (apOk x4 x3) then
      call is_l03Word_3 [tI x0, tI x1, tLA8 x2, tLI x3, tLI (x4 ++ x3), tI (wi64 (x5 + 1))]
    else none
  else
    some [tI 0, tI x0, tI x1, tLA8 x2, tLI x3, tLI x4]
theorem es_l03Word_3 (call : Oracle) (x0 : Int) (x1 : Int) (x2 : List (List Int)) (x3 : List Int) (x4 : List Int) (x5 : Int) : run1 E call is_l03Word_3 [tI x0, tI x1, tLA8 x2, tLI x3, tLI x4, tI x5] = bs_l03Word_3 call x0 x1 x2 x3 x4 x5 := by kernel_rfl
theorem vs_l03Word_3 (x0 : Int) (x1 : Int) (x2 : List (List Int)) (x3 : List Int) (x4 : List Int) (x5 : Int) {o : List TV} (h : bs_l03Word_3 R x0 x1 x2 x3 x4 x5 = some o) : R is_l03Word_3 [tI x0, tI x1, tLA8 x2, tLI x3, tLI x4, tI x5] = some o := ev_step ((es_l03Word_3 R x0 x1 x2 x3 x4 x5).trans h)
/-- spec.l03Word loop 7 -/
noncomputable def bs_l03Word_7 (call : Oracle) (x0 : Int) (x1 : Int) (x2 : List (List Int)) (x3 : List Int) (x4 : List Int) (x5 : Int) : Option (List TV) :=
  bif decide (x5 < 0) then
    (call is_l03Word_10 [tI x0, tI x1, tLA8 x2, tLI x3, tLI x4, tI x5, tI (wi64 (((List.length x3 : Nat) : Int) - 1))]).bind fun o5 =>
    call is_l03Word_7 [tI (gI o5 1), tI (gI o5 2), tLA8 (gLA8 o5 3), tLI (gLI o5 4), tLI (gLI o5 5), tI (wi64 ((gI o5 6) + 1))]
  else
    some [tI 0, tI x0, tI x1, tLA8 x2, tLI x4]
theorem es_l03Word_7 (call : Oracle) (x0 : Int) (x1 : Int) (x2 : List (List Int)) (x3 : List Int) (x4 : List Int) (x5 : Int) : run1 E call is_l03Word_7 [tI x0, tI x1, tLA8 x2, tLI x3, tLI x4, tI x5] = bs_l03Word_7 call x0 x1 x2 x3 x4 x5 := by kernel_rfl
theorem vs_l03Word_7 (x0 : Int) (x1 : Int) (x2 : List (List Int)) (x3 : List Int) (x4 : List Int) (x5 : Int) {o : List TV} (h : bs_l03Word_7 R x0 x1 x2 x3 x4 x5 = some o) : R is_l03Word_7 [tI x0, tI x1, tLA8 x2, tLI x3, tLI x4, tI x5] = some o := ev_step ((es_l03Word_7 R x0 x1 x2 x3 x4 x5).trans h)
/-- spec.l03Word loop 10 -/
noncomputable def bs_l03Word_10 (call : Oracle) (x0 : Int) (x1 : Int) (x2 : List (List Int)) (x3 : List Int) (x4 : List Int) (x5 : Int) (x6 : Int) : Option (List TV) :=
  bif decide (0 ≤ x6) then
    bif (decide (0 ≤ x6) && decide (x6 < ((List.length x3 : Nat) : Int))) then
      bif (apOk x4 [(wi64 (0 - (List.getD x3 (Int.toNat x6) 0)))]) then
        call is_l03Word_10 [tI x0, tI x1, tLA8 x2, tLI x3, tLI (x4 ++ [(wi64 (0 - (List.getD x3 (Int.toNat x6) 0)))]), tI x5, tI (wi64 (x6 - 1))]
      else none
    else none
  else
    some [tI 0, tI x0, tI x1, tLA8 x2, tLI x3, tLI x4, tI x5]
theorem es_l03Word_10 (call : Oracle) (x0 : Int) (x1 : Int) (x2 : List (List Int)) (x3 : List Int) (x4 : List Int) (x5 : Int) (x6 : Int) : run1 E call is_l03Word_10 [tI x0, tI x1, tLA8 x2, tLI x3, tLI x4, tI x5, tI x6] = bs_l03Word_10 call x0 x1 x2 x3 x4 x5 x6 := by kernel_rfl
theorem vs_l03Word_10 (x0 : Int) (x1 : Int) (x2 : List (List Int)) (x3 : List Int) (x4 : List Int) (x5 : Int) (x6 : Int) {o : List TV} (h : bs_l03Word_10 R x0 x1 x2 x3 x4 x5 x6 = some o) : R is_l03Word_10 [tI x0, tI x1, tLA8 x2, tLI x3, tLI x4, tI x5, tI x6] = some o := ev_step ((es_l03Word_10 R x0 x1 x2 x3 x4 x5 x6).trans h)
/-- spec.l03Word loop 14 -/
noncomputable def bs_l03Word_14 (call : Oracle) (x0 : Int) (x1 : Int) (x2 : List (List Int)) (x3 : List Int) (x4 : Int) : Option (List TV) :=
  bif decide (x4 < ((List.length x2 : Nat) : Int)) then
    bif (decide (0 ≤ x4) && decide (x4 < ((List.length x2 : Nat) : Int))) then
      (call is_l02Word [tI x0, tA8 (List.getD x2 (Int.toNat x4) (List.replicate 8 0))]).bind fun o8 =>
      bif (apOk x3 (gLI o8 0)) then
        call is_l03Word_14 [tI x0, tI x1, tLA8 x2, tLI (x3 ++ (gLI o8 0)), tI (wi64 (x4 + 1))]
      else none
    else none
  else
    some [tI 0, tLI x3]
theorem es_l03Word_14 (call : Oracle) (x0 : Int) (x1 : Int) (x2 : List (List Int)) (x3 : List Int) (x4 : Int) : run1 E call is_l03Word_14 [tI x0, tI x1, tLA8 x2, tLI x3, tI x4] = bs_l03Word_14 call x0 x1 x2 x3 x4 := by kernel_rfl
theorem vs_l03Word_14 (x0 : Int) (x1 : Int) (x2 : List (List Int)) (x3 : List Int) (x4 : Int) {o : List TV} (h : bs_l03Word_14 R x0 x1 x2 x3 x4 = some o) : R is_l03Word_14 [tI x0, tI x1, tLA8 x2, tLI x3, tI x4] = some o := ev_step ((es_l03Word_14 R x0 x1 x2 x3 x4).trans h)
/-- spec.l03Word -/
noncomputable def bs_l03Word (call : Oracle) (a0 : Int × Int × List (List Int)) : Option (List TV) :=
  (call is_l02Half [tI a0.1]).bind fun o1 =>
  (call is_l02Word [tI a0.1, tA8 (gA8 o1 0)]).bind fun o2 =>
  (call is_l03Word_3 [tI a0.1, tI a0.2.1, tLA8 a0.2.2, tLI (gLI o2 0), tLI [], tI 0]).bind fun o3 =>
  (call is_l03Word_7 [tI (gI o3 1), tI (gI o3 2), tLA8 (gLA8 o3 3), tLI (gLI o3 4), tLI (gLI o3 5), tI (gI o3 2)]).bind fun o6 =>
  (call is_l03Word_14 [tI (gI o6 1), tI (gI o6 2), tLA8 (gLA8 o6 3), tLI (gLI o6 4), tI 0]).bind fun o9 =>
  some [tLI (gLI o9 1)]
theorem es_l03Word (call : Oracle) (a0 : Int × Int × List (List Int)) : run1 E call is_l03Word [tPIPILA8 a0] = bs_l03Word call a0 := by kernel_rfl
theorem vs_l03Word (a0 : Int × Int × List (List Int)) {o : List TV} (h : bs_l03Word R a0 = some o) : R is_l03Word [tPIPILA8 a0] = some o := ev_step ((es_l03Word R a0).trans h)
/-- spec.WordOfNormal -/
noncomputable def bs_WordOfNormal (call : Oracle) (a0 : Int × Int × List (List Int)) : Option (List TV) :=
  (call is_l03Is [tPIPILA8 (a0.1, (a0.2.1, a0.2.2))]).bind fun o1 =>
  bif (!(gB o1 0)) then
    some [tLI [], tI 1]
  else
    (call is_l03Word [tPIPILA8 (a0.1, (a0.2.1, a0.2.2))]).bind fun o2 =>
    bif decide (200 < ((List.length (gLI o2 0) : Nat) : Int)) then
      some [tLI [], tI 3]
    else
      some [tLI (gLI o2 0), tI 0]
theorem es_WordOfNormal (call : Oracle) (a0 : Int × Int × List (List Int)) : run1 E call is_WordOfNormal [tPIPILA8 a0] = bs_WordOfNormal call a0 := by kernel_rfl
theorem vs_WordOfNormal (a0 : Int × Int × List (List Int)) {o : List TV} (h : bs_WordOfNormal R a0 = some o) : R is_WordOfNormal [tPIPILA8 a0] = some o := ev_step ((es_WordOfNormal R a0).trans h)
/-- laws.likeInts loop 4 -/
noncomputable def bw_likeInts_4 (call : Oracle) (x0 : List Int) (x1 : List Int) (x2 : Int) : Option (List TV) :=
  bif decide (x2 < ((List.length x0 : Nat) : Int)) then
    bif (decide (0 ≤ x2) && decide (x2 < ((List.length x0 : Nat) : Int))) then
      bif (decide (0 ≤ x2) && decide (x2 < ((List.length x1 : Nat) : Int))) then
        bif ((List.getD x0 (Int.toNat x2) 0) != (List.getD x1 (Int.toNat x2) 0)) then
          some [tI 1, tB false]
        else
          call iw_likeInts_4 [tLI x0, tLI x1, tI (wi64 (x2 + 1))]
      else none
    else none
  else
    some [tI 0]
theorem ew_likeInts_4 (call : Oracle) (x0 : List Int) (x1 : List Int) (x2 : Int) : run1 E call iw_likeInts_4 [tLI x0, tLI x1, tI x2] = bw_likeInts_4 call x0 x1 x2 := by kernel_rfl
theorem vw_likeInts_4 (x0 : List Int) (x1 : List Int) (x2 : Int) {o : List TV} (h : bw_likeInts_4 R x0 x1 x2 = some o) : R iw_likeInts_4 [tLI x0, tLI x1, tI x2] = some o := ev_step ((ew_likeInts_4 R x0 x1 x2).trans h)
/-- laws.likeInts -/
noncomputable def bw_likeInts (call : Oracle) (a0 : List Int) (a1 : List Int) : Option (List TV) :=
  bif (((List.length a0 : Nat) : Int) != ((List.length a1 : Nat) : Int)) then
    some [tB false]
  else
    (call iw_likeInts_4 [tLI a0, tLI a1, tI 0]).bind fun o1 =>
    bif ((gI o1 0) == 0) then
      some [tB true]
    else
      some [tB (gB o1 1)]
theorem ew_likeInts (call : Oracle) (a0 : List Int) (a1 : List Int) : run1 E call iw_likeInts [tLI a0, tLI a1] = bw_likeInts call a0 a1 := by kernel_rfl
theorem vw_likeInts (a0 : List Int) (a1 : List Int) {o : List TV} (h : bw_likeInts R a0 a1 = some o) : R iw_likeInts [tLI a0, tLI a1] = some o := ev_step ((ew_likeInts R a0 a1).trans h)
/-- spec.IsNormal -/
noncomputable def bs_IsNormal (call : Oracle) (a0 : Int × Int × List (List Int)) : Option (List TV) :=
  (call is_l03Is [tPIPILA8 (a0.1, (a0.2.1, a0.2.2))]).bind fun o1 =>
  some [tB (gB o1 0)]
theorem es_IsNormal (call : Oracle) (a0 : Int × Int × List (List Int)) : run1 E call is_IsNormal [tPIPILA8 a0] = bs_IsNormal call a0 := by kernel_rfl
theorem vs_IsNormal (a0 : Int × Int × List (List Int)) {o : List TV} (h : bs_IsNormal R a0 = some o) : R is_IsNormal [tPIPILA8 a0] = some o := ev_step ((es_IsNormal R a0).trans h)
/-- spec.DrawSameBraid -/
noncomputable def bs_DrawSameBraid (call : Oracle) (a0 : List Int) : Option (List TV) :=
  (call is_l01From [tLU8 a0]).bind fun o1 =>
  (call is_l01Spoil [tPLU8PIU64 ((gPLU8PIU64 o1 0).1, (((gPLU8PIU64 o1 0).2).1, ((gPLU8PIU64 o1 0).2).2))]).bind fun o2 =>
  (call is_l01Is [tPILI ((gPILI o2 0).1, (gPILI o2 0).2)]).bind fun o3 =>
  bif (gB o3 0) then
    (call is_l01Next [tPLU8PIU64 ((gPLU8PIU64 o2 1).1, (((gPLU8PIU64 o2 1).2).1, ((gPLU8PIU64 o2 1).2).2)), tI 2]).bind fun o4 =>
    bif ((gI o4 0) == 0) then
      (call is_l03Of [tI ((gPILI o2 0).1), tLI ((gPILI o2 0).2)]).bind fun o5 =>
      (call is_l03Word [tPIPILA8 ((gPIPILA8 o5 0).1, (((gPIPILA8 o5 0).2).1, ((gPIPILA8 o5 0).2).2))]).bind fun o6 =>
      bif decide (((List.length (gLI o6 0) : Nat) : Int) ≤ 200) then
        some [tPILI ((gPILI o2 0).1, (gPILI o2 0).2), tPILI ((gPILI o2 0).1, (gLI o6 0))]
      else
        (call is_l01Spoil [tPLU8PIU64 ((gPLU8PIU64 o4 1).1, (((gPLU8PIU64 o4 1).2).1, ((gPLU8PIU64 o4 1).2).2))]).bind fun o7 =>
        (call is_l01Is [tPILI ((gPILI o2 0).1, (gPILI o2 0).2)]).bind fun o8 =>
        bif (gB o8 0) then
          (call is_l01Next [tPLU8PIU64 ((gPLU8PIU64 o7 1).1, (((gPLU8PIU64 o7 1).2).1, ((gPLU8PIU64 o7 1).2).2)), tI 4]).bind fun o9 =>
          bif decide (0 < (gI o9 0)) then
            (call is_l01Draw [tPLU8PIU64 ((gPLU8PIU64 o9 1).1, (((gPLU8PIU64 o9 1).2).1, ((gPLU8PIU64 o9 1).2).2)), tI ((gPILI o2 0).1), tI 12]).bind fun o10 =>
            some [tPILI ((gPILI o2 0).1, (gPILI o2 0).2), tPILI ((gPILI o2 0).1, (gLI o10 0))]
          else
            some [tPILI ((gPILI o2 0).1, (gPILI o2 0).2), tPILI ((gPILI o7 0).1, (gPILI o7 0).2)]
        else
          some [tPILI ((gPILI o2 0).1, (gPILI o2 0).2), tPILI ((gPILI o7 0).1, (gPILI o7 0).2)]
    else
      (call is_l01Spoil [tPLU8PIU64 ((gPLU8PIU64 o4 1).1, (((gPLU8PIU64 o4 1).2).1, ((gPLU8PIU64 o4 1).2).2))]).bind fun o11 =>
      (call is_l01Is [tPILI ((gPILI o2 0).1, (gPILI o2 0).2)]).bind fun o12 =>
      bif (gB o12 0) then
        (call is_l01Next [tPLU8PIU64 ((gPLU8PIU64 o11 1).1, (((gPLU8PIU64 o11 1).2).1, ((gPLU8PIU64 o11 1).2).2)), tI 4]).bind fun o13 =>
        bif decide (0 < (gI o13 0)) then
          (call is_l01Draw [tPLU8PIU64 ((gPLU8PIU64 o13 1).1, (((gPLU8PIU64 o13 1).2).1, ((gPLU8PIU64 o13 1).2).2)), tI ((gPILI o2 0).1), tI 12]).bind fun o14 =>
          some [tPILI ((gPILI o2 0).1, (gPILI o2 0).2), tPILI ((gPILI o2 0).1, (gLI o14 0))]
        else
          some [tPILI ((gPILI o2 0).1, (gPILI o2 0).2), tPILI ((gPILI o11 0).1, (gPILI o11 0).2)]
      else
        some [tPILI ((gPILI o2 0).1, (gPILI o2 0).2), tPILI ((gPILI o11 0).1, (gPILI o11 0).2)]
  else
    (call is_l01Spoil [tPLU8PIU64 ((gPLU8PIU64 o2 1).1, (((gPLU8PIU64 o2 1).2).1, ((gPLU8PIU64 o2 1).2).2))]).bind fun o15 =>
    (call is_l01Is [tPILI ((gPILI o2 0).1, (gPILI o2 0).2)]).bind fun o16 =>
    bif (gB o16 0) then
      (call is_l01Next [tPLU8PIU64 ((gPLU8PIU64 o15 1).1, (((gPLU8PIU64 o15 1).2).1, ((gPLU8PIU64 o15 1).2).2)), tI 4]).bind fun o17 =>
      bif decide (0 < (gI o17 0)) then
        (call is_l01Draw [tPLU8PIU64 ((gPLU8PIU64 o17 1).1, (((gPLU8PIU64 o17 1).2).1, ((gPLU8PIU64 o17 1).2).2)), tI ((gPILI o2 0).1), tI 12]).bind fun o18 =>
        some [tPILI ((gPILI o2 0).1, (gPILI o2 0).2), tPILI ((gPILI o2 0).1, (gLI o18 0))]
      else
        some [tPILI ((gPILI o2 0).1, (gPILI o2 0).2), tPILI ((gPILI o15 0).1, (gPILI o15 0).2)]
    else
      some [tPILI ((gPILI o2 0).1, (gPILI o2 0).2), tPILI ((gPILI o15 0).1, (gPILI o15 0).2)]
theorem es_DrawSameBraid (call : Oracle) (a0 : List Int) : run1 E call is_DrawSameBraid [tLU8 a0] = bs_DrawSameBraid call a0 := by kernel_rfl
theorem vs_DrawSameBraid (a0 : List Int) {o : List TV} (h : bs_DrawSameBraid R a0 = some o) : R is_DrawSameBraid [tLU8 a0] = some o := ev_step ((es_DrawSameBraid R a0).trans h)
/-- slices.Equal[[]impl.Simple,impl.Simple] loop 4 -/
noncomputable def bg_Equal___i_Simple_i_Simple__4 (call : Oracle) (x0 : List (List Int)) (x1 : List (List Int)) (x2 : Int) (x3 : Int) : Option (List TV) :=
  bif decide (x3 < x2) then
    bif (decide (0 ≤ x3) && decide (x3 < ((List.length x0 : Nat) : Int))) then
      bif (decide (0 ≤ x3) && decide (x3 < ((List.length x1 : Nat) : Int))) then
        bif ((List.getD x0 (Int.toNat x3) (List.replicate 8 0)) != (List.getD x1 (Int.toNat x3) (List.replicate 8 0))) then
          some [tI 1, tB false]
        else
          call ig_Equal___i_Simple_i_Simple__4 [tLA8 x0, tLA8 x1, tI x2, tI (wi64 (x3 + 1))]
      else none
    else none
  else
    some [tI 0]
theorem eg_Equal___i_Simple_i_Simple__4 (call : Oracle) (x0 : List (List Int)) (x1 : List (List Int)) (x2 : Int) (x3 : Int) : run1 E call ig_Equal___i_Simple_i_Simple__4 [tLA8 x0, tLA8 x1, tI x2, tI x3] = bg_Equal___i_Simple_i_Simple__4 call x0 x1 x2 x3 := by kernel_rfl
theorem vg_Equal___i_Simple_i_Simple__4 (x0 : List (List Int)) (x1 : List (List Int)) (x2 : Int) (x3 : Int) {o : List TV} (h : bg_Equal___i_Simple_i_Simple__4 R x0 x1 x2 x3 = some o) : R ig_Equal___i_Simple_i_Simple__4 [tLA8 x0, tLA8 x1, tI x2, tI x3] = some o := ev_step ((eg_Equal___i_Simple_i_Simple__4 R x0 x1 x2 x3).trans h)
/-- slices.Equal[[]impl.Simple,impl.Simple] -/
noncomputable def bg_Equal___i_Simple_i_Simple_ (call : Oracle) (a0 : List (List Int)) (a1 : List (List Int)) : Option (List TV) :=
  bif (((List.length a0 : Nat) : Int) != ((List.length a1 : Nat) : Int)) then
    some [tB false]
  else
    (call ig_Equal___i_Simple_i_Simple__4 [tLA8 a0, tLA8 a1, tI ((List.length a0 : Nat) : Int), tI 0]).bind fun o1 =>
    bif ((gI o1 0) == 0) then
      some [tB true]
    else
      some [tB (gB o1 1)]
theorem eg_Equal___i_Simple_i_Simple_ (call : Oracle) (a0 : List (List Int)) (a1 : List (List Int)) : run1 E call ig_Equal___i_Simple_i_Simple_ [tLA8 a0, tLA8 a1] = bg_Equal___i_Simple_i_Simple_ call a0 a1 := by kernel_rfl
theorem vg_Equal___i_Simple_i_Simple_ (a0 : List (List Int)) (a1 : List (List Int)) {o : List TV} (h : bg_Equal___i_Simple_i_Simple_ R a0 a1 = some o) : R ig_Equal___i_Simple_i_Simple_ [tLA8 a0, tLA8 a1] = some o := ev_step ((eg_Equal___i_Simple_i_Simple_ R a0 a1).trans h)
/-- impl.sameNormal -/
noncomputable def bi_sameNormal (call : Oracle) (a0 : Int × Int × List (List Int)) (a1 : Int × Int × List (List Int)) : Option (List TV) :=
  bif (a0.1 == a1.1) then
    bif (a0.2.1 == a1.2.1) then
      (call ig_Equal___i_Simple_i_Simple_ [tLA8 a0.2.2, tLA8 a1.2.2]).bind fun o1 =>
      some [tB (gB o1 0)]
    else
      some [tB false]
  else
    some [tB false]
theorem ei_sameNormal (call : Oracle) (a0 : Int × Int × List (List Int)) (a1 : Int × Int × List (List Int)) : run1 E call ii_sameNormal [tPIPILA8 a0, tPIPILA8 a1] = bi_sameNormal call a0 a1 := by kernel_rfl
theorem vi_sameNormal (a0 : Int × Int × List (List Int)) (a1 : Int × Int × List (List Int)) {o : List TV} (h : bi_sameNormal R a0 a1 = some o) : R ii_sameNormal [tPIPILA8 a0, tPIPILA8 a1] = some o := ev_step ((ei_sameNormal R a0 a1).trans h)
/-- impl.SameBraid -/
noncomputable def bi_SameBraid (call : Oracle) (a0 : Int × List Int) (a1 : Int × List Int) : Option (List TV) :=
  (call ii_IsBraid [tPILI (a0.1, a0.2)]).bind fun o1 =>
  bif (!(gB o1 0)) then
    some [tB false, tI 1]
  else
    (call ii_IsBraid [tPILI (a1.1, a1.2)]).bind fun o2 =>
    bif (!(gB o2 0)) then
      some [tB false, tI 1]
    else
      bif (a0.1 != a1.1) then
        some [tB false, tI 2]
      else
        (call ii_normalOf [tPILI (a0.1, a0.2)]).bind fun o3 =>
        (call ii_normalOf [tPILI (a1.1, a1.2)]).bind fun o4 =>
        (call ii_sameNormal [tPIPILA8 ((gPIPILA8 o3 0).1, (((gPIPILA8 o3 0).2).1, ((gPIPILA8 o3 0).2).2)), tPIPILA8 ((gPIPILA8 o4 0).1, (((gPIPILA8 o4 0).2).1, ((gPIPILA8 o4 0).2).2))]).bind fun o5 =>
        some [tB (gB o5 0), tI 0]
theorem ei_SameBraid (call : Oracle) (a0 : Int × List Int) (a1 : Int × List Int) : run1 E call ii_SameBraid [tPILI a0, tPILI a1] = bi_SameBraid call a0 a1 := by kernel_rfl
theorem vi_SameBraid (a0 : Int × List Int) (a1 : Int × List Int) {o : List TV} (h : bi_SameBraid R a0 a1 = some o) : R ii_SameBraid [tPILI a0, tPILI a1] = some o := ev_step ((ei_SameBraid R a0 a1).trans h)
/-- spec.l03Like loop 4 -/
noncomputable def bs_l03Like_4 (call : Oracle) (x0 : Int) (x1 : Int) (x2 : List (List Int)) (x3 : Int) (x4 : Int) (x5 : List (List Int)) (x6 : Int) : Option (List TV) :=
  bif decide (x6 < ((List.length x2 : Nat) : Int)) then
    bif (decide (0 ≤ x6) && decide (x6 < ((List.length x2 : Nat) : Int))) then
      bif (decide (0 ≤ x6) && decide (x6 < ((List.length x5 : Nat) : Int))) then
        bif ((List.getD x2 (Int.toNat x6) (List.replicate 8 0)) != (List.getD x5 (Int.toNat x6) (List.replicate 8 0))) then
          some [tI 1, tB false]
        else
          call is_l03Like_4 [tI x0, tI x1, tLA8 x2, tI x3, tI x4, tLA8 x5, tI (wi64 (x6 + 1))]
      else none
    else none
  else
    some [tI 0]
theorem es_l03Like_4 (call : Oracle) (x0 : Int) (x1 : Int) (x2 : List (List Int)) (x3 : Int) (x4 : Int) (x5 : List (List Int)) (x6 : Int) : run1 E call is_l03Like_4 [tI x0, tI x1, tLA8 x2, tI x3, tI x4, tLA8 x5, tI x6] = bs_l03Like_4 call x0 x1 x2 x3 x4 x5 x6 := by kernel_rfl
theorem vs_l03Like_4 (x0 : Int) (x1 : Int) (x2 : List (List Int)) (x3 : Int) (x4 : Int) (x5 : List (List Int)) (x6 : Int) {o : List TV} (h : bs_l03Like_4 R x0 x1 x2 x3 x4 x5 x6 = some o) : R is_l03Like_4 [tI x0, tI x1, tLA8 x2, tI x3, tI x4, tLA8 x5, tI x6] = some o := ev_step ((es_l03Like_4 R x0 x1 x2 x3 x4 x5 x6).trans h)
/-- spec.l03Like -/
noncomputable def bs_l03Like (call : Oracle) (a0 : Int × Int × List (List Int)) (a1 : Int × Int × List (List Int)) : Option (List TV) :=
  bif (a0.1 != a1.1) then
    some [tB false]
  else
    bif (a0.2.1 != a1.2.1) then
      some [tB false]
    else
      bif (((List.length a0.2.2 : Nat) : Int) != ((List.length a1.2.2 : Nat) : Int)) then
        some [tB false]
      else
        (call is_l03Like_4 [tI a0.1, tI a0.2.1, tLA8 a0.2.2, tI a1.1, tI a1.2.1, tLA8 a1.2.2, tI 0]).bind fun o1 =>
        bif ((gI o1 0) == 0) then
          some [tB true]
        else
          some [tB (gB o1 1)]
theorem es_l03Like (call : Oracle) (a0 : Int × Int × List (List Int)) (a1 : Int × Int × List (List Int)) : run1 E call is_l03Like [tPIPILA8 a0, tPIPILA8 a1] = bs_l03Like call a0 a1 := by kernel_rfl
theorem vs_l03Like (a0 : Int × Int × List (List Int)) (a1 : Int × Int × List (List Int)) {o : List TV} (h : bs_l03Like R a0 a1 = some o) : R is_l03Like [tPIPILA8 a0, tPIPILA8 a1] = some o := ev_step ((es_l03Like R a0 a1).trans h)
/-- spec.l03Equal -/
noncomputable def bs_l03Equal (call : Oracle) (a0 : Int) (a1 : List Int) (a2 : List Int) : Option (List TV) :=
  (call is_l03Of [tI a0, tLI a1]).bind fun o1 =>
  (call is_l03Of [tI a0, tLI a2]).bind fun o2 =>
  (call is_l03Like [tPIPILA8 ((gPIPILA8 o1 0).1, (((gPIPILA8 o1 0).2).1, ((gPIPILA8 o1 0).2).2)), tPIPILA8 ((gPIPILA8 o2 0).1, (((gPIPILA8 o2 0).2).1, ((gPIPILA8 o2 0).2).2))]).bind fun o3 =>
  some [tB (gB o3 0)]
theorem es_l03Equal (call : Oracle) (a0 : Int) (a1 : List Int) (a2 : List Int) : run1 E call is_l03Equal [tI a0, tLI a1, tLI a2] = bs_l03Equal call a0 a1 a2 := by kernel_rfl
theorem vs_l03Equal (a0 : Int) (a1 : List Int) (a2 : List Int) {o : List TV} (h : bs_l03Equal R a0 a1 a2 = some o) : R is_l03Equal [tI a0, tLI a1, tLI a2] = some o := ev_step ((es_l03Equal R a0 a1 a2).trans h)
/-- spec.SameBraid -/
noncomputable def bs_SameBraid (call : Oracle) (a0 : Int × List Int) (a1 : Int × List Int) : Option (List TV) :=
  (call is_l01Is [tPILI (a0.1, a0.2)]).bind fun o1 =>
  bif (!(gB o1 0)) then
    some [tB false, tI 1]
  else
    (call is_l01Is [tPILI (a1.1, a1.2)]).bind fun o2 =>
    bif (!(gB o2 0)) then
      some [tB false, tI 1]
    else
      bif (a0.1 != a1.1) then
        some [tB false, tI 2]
      else
        (call is_l03Equal [tI a0.1, tLI a0.2, tLI a1.2]).bind fun o3 =>
        some [tB (gB o3 0), tI 0]
theorem es_SameBraid (call : Oracle) (a0 : Int × List Int) (a1 : Int × List Int) : run1 E call is_SameBraid [tPILI a0, tPILI a1] = bs_SameBraid call a0 a1 := by kernel_rfl
theorem vs_SameBraid (a0 : Int × List Int) (a1 : Int × List Int) {o : List TV} (h : bs_SameBraid R a0 a1 = some o) : R is_SameBraid [tPILI a0, tPILI a1] = some o := ev_step ((es_SameBraid R a0 a1).trans h)
/-- spec.DrawLengthsOf -/
noncomputable def bs_DrawLengthsOf (call : Oracle) (a0 : List Int) : Option (List TV) :=
  (call is_l01From [tLU8 a0]).bind fun o1 =>
  (call is_l03Some [tPLU8PIU64 ((gPLU8PIU64 o1 0).1, (((gPLU8PIU64 o1 0).2).1, ((gPLU8PIU64 o1 0).2).2))]).bind fun o2 =>
  some [tPIPILA8 ((gPIPILA8 o2 0).1, (((gPIPILA8 o2 0).2).1, ((gPIPILA8 o2 0).2).2))]
theorem es_DrawLengthsOf (call : Oracle) (a0 : List Int) : run1 E call is_DrawLengthsOf [tLU8 a0] = bs_DrawLengthsOf call a0 := by kernel_rfl
theorem vs_DrawLengthsOf (a0 : List Int) {o : List TV} (h : bs_DrawLengthsOf R a0 = some o) : R is_DrawLengthsOf [tLU8 a0] = some o := ev_step ((es_DrawLengthsOf R a0).trans h)
/-- impl.LengthsOf -/
noncomputable def bi_LengthsOf (call : Oracle) (a0 : Int × Int × List (List Int)) : Option (List TV) :=
  (call ii_IsNormal [tPIPILA8 (a0.1, (a0.2.1, a0.2.2))]).bind fun o1 =>
  bif (!(gB o1 0)) then
    some [tLI [], tI 1]
  else
    some [tLI [a0.2.1, (wi64 (a0.2.1 + ((List.length a0.2.2 : Nat) : Int))), ((List.length a0.2.2 : Nat) : Int)], tI 0]
theorem ei_LengthsOf (call : Oracle) (a0 : Int × Int × List (List Int)) : run1 E call ii_LengthsOf [tPIPILA8 a0] = bi_LengthsOf call a0 := by kernel_rfl
theorem vi_LengthsOf (a0 : Int × Int × List (List Int)) {o : List TV} (h : bi_LengthsOf R a0 = some o) : R ii_LengthsOf [tPIPILA8 a0] = some o := ev_step ((ei_LengthsOf R a0).trans h)
/-- spec.LengthsOf -/
noncomputable def bs_LengthsOf (call : Oracle) (a0 : Int × Int × List (List Int)) : Option (List TV) :=
  (call is_l03Is [tPIPILA8 (a0.1, (a0.2.1, a0.2.2))]).bind fun o1 =>
  bif (!(gB o1 0)) then
    some [tLI [], tI 1]
  else
    some [tLI [a0.2.1, (wi64 (a0.2.1 + ((List.length a0.2.2 : Nat) : Int))), ((List.length a0.2.2 : Nat) : Int)], tI 0]
theorem es_LengthsOf (call : Oracle) (a0 : Int × Int × List (List Int)) : run1 E call is_LengthsOf [tPIPILA8 a0] = bs_LengthsOf call a0 := by kernel_rfl
theorem vs_LengthsOf (a0 : Int × Int × List (List Int)) {o : List TV} (h : bs_LengthsOf R a0 = some o) : R is_LengthsOf [tPIPILA8 a0] = some o := ev_step ((es_LengthsOf R a0).trans h)
/-- impl.IsPositive -/
noncomputable def bi_IsPositive (call : Oracle) (a0 : Int × Int × List (List Int)) : Option (List TV) :=
  (call ii_IsNormal [tPIPILA8 (a0.1, (a0.2.1, a0.2.2))]).bind fun o1 =>
  bif (!(gB o1 0)) then
    some [tB false, tI 1]
  else
    some [tB (decide (0 ≤ a0.2.1)), tI 0]
theorem ei_IsPositive (call : Oracle) (a0 : Int × Int × List (List Int)) : run1 E call ii_IsPositive [tPIPILA8 a0] = bi_IsPositive call a0 := by kernel_rfl
theorem vi_IsPositive (a0 : Int × Int × List (List Int)) {o : List TV} (h : bi_IsPositive R a0 = some o) : R ii_IsPositive [tPIPILA8 a0] = some o := ev_step ((ei_IsPositive R a0).trans h)
/-- spec.IsPositive -/
noncomputable def bs_IsPositive (call : Oracle) (a0 : Int × Int × List (List Int)) : Option (List TV) :=
  (call is_l03Is [tPIPILA8 (a0.1, (a0.2.1, a0.2.2))]).bind fun o1 =>
  bif (!(gB o1 0)) then
    some [tB false, tI 1]
  else
    some [tB (decide (0 ≤ a0.2.1)), tI 0]
theorem es_IsPositive (call : Oracle) (a0 : Int × Int × List (List Int)) : run1 E call is_IsPositive [tPIPILA8 a0] = bs_IsPositive call a0 := by kernel_rfl
theorem vs_IsPositive (a0 : Int × Int × List (List Int)) {o : List TV} (h : bs_IsPositive R a0 = some o) : R is_IsPositive [tPIPILA8 a0] = some o := ev_step ((es_IsPositive R a0).trans h)
/-- impl.sign -/
noncomputable def bi_sign (call : Oracle) (a0 : Int) : Option (List TV) :=
  bif decide (0 < a0) then
    some [tI 1]
  else
    some [tI (-1)]
theorem ei_sign (call : Oracle) (a0 : Int) : run1 E call ii_sign [tI a0] = bi_sign call a0 := by kernel_rfl
theorem vi_sign (a0 : Int) {o : List TV} (h : bi_sign R a0 = some o) : R ii_sign [tI a0] = some o := ev_step ((ei_sign R a0).trans h)
/-- impl.SumOf loop 5 -/
noncomputable def bi_SumOf_5 (call : Oracle) (x0 : List Int) (x1 : Int) (x2 : Int) (x3 : Int) : Option (List TV) :=
  bif decide (x3 < x2) then
    bif (decide (0 ≤ x3) && decide (x3 < ((List.length x0 : Nat) : Int))) then
      (call ii_sign [tI (List.getD x0 (Int.toNat x3) 0)]).bind fun o3 =>
      call ii_SumOf_5 [tLI x0, tI (wi64 (x1 + (gI o3 0))), tI x2, tI (wi64 (x3 + 1))]
    else none
  else
    some [tI 0, tI x1]
theorem ei_SumOf_5 (call : Oracle) (x0 : List Int) (x1 : Int) (x2 : Int) (x3 : Int) : run1 E call ii_SumOf_5 [tLI x0, tI x1, tI x2, tI x3] = bi_SumOf_5 call x0 x1 x2 x3 := by kernel_rfl
theorem vi_SumOf_5 (x0 : List Int) (x1 : Int) (x2 : Int) (x3 : Int) {o : List TV} (h : bi_SumOf_5 R x0 x1 x2 x3 = some o) : R ii_SumOf_5 [tLI x0, tI x1, tI x2, tI x3] = some o := ev_step ((ei_SumOf_5 R x0 x1 x2 x3).trans h)
/-- impl.SumOf -/
noncomputable def bi_SumOf (call : Oracle) (a0 : Int × List Int) : Option (List TV) :=
  (call ii_IsBraid [tPILI (a0.1, a0.2)]).bind fun o1 =>
  bif (!(gB o1 0)) then
    some [tI 0, tI 1]
  else
    (call ii_SumOf_5 [tLI a0.2, tI 0, tI ((List.length a0.2 : Nat) : Int), tI 0]).bind fun o4 =>
    some [tI (gI o4 1), tI 0]
theorem ei_SumOf (call : Oracle) (a0 : Int × List Int) : run1 E call ii_SumOf [tPILI a0] = bi_SumOf call a0 := by kernel_rfl
theorem vi_SumOf (a0 : Int × List Int) {o : List TV} (h : bi_SumOf R a0 = some o) : R ii_SumOf [tPILI a0] = some o := ev_step ((ei_SumOf R a0).trans h)
/-- impl.lengthOf loop 3 -/
noncomputable def bi_lengthOf_3 (call : Oracle) (x0 : Int) (x1 : Int) : Option (List TV) :=
  bif (x1 != 0) then
    call ii_lengthOf_3 [tI (wi64 (x0 + 1)), tU64 (bitsAnd .u64 x1 (wu64 (x1 - 1)))]
  else
    some [tI 0, tI x0]
theorem ei_lengthOf_3 (call : Oracle) (x0 : Int) (x1 : Int) : run1 E call ii_lengthOf_3 [tI x0, tU64 x1] = bi_lengthOf_3 call x0 x1 := by kernel_rfl
theorem vi_lengthOf_3 (x0 : Int) (x1 : Int) {o : List TV} (h : bi_lengthOf_3 R x0 x1 = some o) : R ii_lengthOf_3 [tI x0, tU64 x1] = some o := ev_step ((ei_lengthOf_3 R x0 x1).trans h)
/-- impl.lengthOf -/
noncomputable def bi_lengthOf (call : Oracle) (a0 : List Int) (a1 : Int) : Option (List TV) :=
  (call ii_descents [tA8 a0, tI a1]).bind fun o1 =>
  (call ii_lengthOf_3 [tI 0, tU64 (gU64 o1 0)]).bind fun o2 =>
  some [tI (gI o2 1)]
theorem ei_lengthOf (call : Oracle) (a0 : List Int) (a1 : Int) : run1 E call ii_lengthOf [tA8 a0, tI a1] = bi_lengthOf call a0 a1 := by kernel_rfl
theorem vi_lengthOf (a0 : List Int) (a1 : Int) {o : List TV} (h : bi_lengthOf R a0 a1 = some o) : R ii_lengthOf [tA8 a0, tI a1] = some o := ev_step ((ei_lengthOf R a0 a1).trans h)
/-- impl.LengthOfSimple -/
noncomputable def bi_LengthOfSimple (call : Oracle) (a0 : List Int) (a1 : Int) : Option (List TV) :=
  (call ii_IsSimple [tA8 a0, tI a1]).bind fun o1 =>
  bif (!(gB o1 0)) then
    some [tI 0, tI 1]
  else
    (call ii_lengthOf [tA8 a0, tI a1]).bind fun o2 =>
    some [tI (gI o2 0), tI 0]
theorem ei_LengthOfSimple (call : Oracle) (a0 : List Int) (a1 : Int) : run1 E call ii_LengthOfSimple [tA8 a0, tI a1] = bi_LengthOfSimple call a0 a1 := by kernel_rfl
theorem vi_LengthOfSimple (a0 : List Int) (a1 : Int) {o : List TV} (h : bi_LengthOfSimple R a0 a1 = some o) : R ii_LengthOfSimple [tA8 a0, tI a1] = some o := ev_step ((ei_LengthOfSimple R a0 a1).trans h)
/-- laws.FnNormals loop 51 -/
noncomputable def bw_FnNormals_51 (call : Oracle) (x0 : Int) (x1 : Int) (x2 : List (List Int)) (x3 : Int) (x4 : Int) (x5 : Int) (x6 : Int) (x7 : Int) : Option (List TV) :=
  bif decide (x7 < ((List.length x2 : Nat) : Int)) then
    bif (decide (0 ≤ x7) && decide (x7 < ((List.length x2 : Nat) : Int))) then
      (call ii_LengthOfSimple [tA8 (List.getD x2 (Int.toNat x7) (List.replicate 8 0)), tI x5]).bind fun o33 =>
      bif ((gI o33 1) != 0) then
        some [tI 1, tB false]
      else
        call iw_FnNormals_51 [tI x0, tI x1, tLA8 x2, tI x3, tI x4, tI x5, tI (wi64 (x6 + (gI o33 0))), tI (wi64 (x7 + 1))]
    else none
  else
    some [tI 0, tI x0, tI x1, tLA8 x2, tI x3, tI x4, tI x6]
theorem ew_FnNormals_51 (call : Oracle) (x0 : Int) (x1 : Int) (x2 : List (List Int)) (x3 : Int) (x4 : Int) (x5 : Int) (x6 : Int) (x7 : Int) : run1 E call iw_FnNormals_51 [tI x0, tI x1, tLA8 x2, tI x3, tI x4, tI x5, tI x6, tI x7] = bw_FnNormals_51 call x0 x1 x2 x3 x4 x5 x6 x7 := by kernel_rfl
theorem vw_FnNormals_51 (x0 : Int) (x1 : Int) (x2 : List (List Int)) (x3 : Int) (x4 : Int) (x5 : Int) (x6 : Int) (x7 : Int) {o : List TV} (h : bw_FnNormals_51 R x0 x1 x2 x3 x4 x5 x6 x7 = some o) : R iw_FnNormals_51 [tI x0, tI x1, tLA8 x2, tI x3, tI x4, tI x5, tI x6, tI x7] = some o := ev_step ((ew_FnNormals_51 R x0 x1 x2 x3 x4 x5 x6 x7).trans h)
/-- laws.FnNormals join 36 -/
noncomputable def bw_FnNormals_j36 (call : Oracle) (x0 : Int) (x1 : List Int) (x2 : Int) (x3 : Int) (x4 : List (List Int)) (x5 : Int) (x6 : List Int) (x7 : Int) (x8 : Int) (x9 : List (List Int)) (x10 : Int) (x11 : List Int) (x12 : Int) (x13 : List Int) (x14 : Int) (x15 : Int) (x16 : Bool) (x17 : Int) : Option (List TV) :=
  bif (x15 == 0) then
    (call ii_NormalOf [tPILI (x5, x6)]).bind fun o48 =>
    bif ((gI o48 1) != 0) then
      some [tI 0, tB false]
    else
      bif (((gPIPILA8 o48 0).2).1 != x8) then
        some [tI 0, tB false]
      else
        bif (((List.length (((gPIPILA8 o48 0).2).2) : Nat) : Int) != ((List.length x9 : Nat) : Int)) then
          some [tI 0, tB false]
        else
          (call iw_FnNormals_j40 [tI x0, tLI x1, tI x2, tI x3, tLA8 x4, tI x10, tLI x11, tI x12, tLI x13, tI x14, tB x16, tI x17]).bind fun o49 =>
          some [tI 0, tB (gB o49 1)]
  else
    (call iw_FnNormals_j40 [tI x0, tLI x1, tI x2, tI x3, tLA8 x4, tI x10, tLI x11, tI x12, tLI x13, tI x14, tB x16, tI x17]).bind fun o50 =>
    some [tI 0, tB (gB o50 1)]
theorem ew_FnNormals_j36 (call : Oracle) (x0 : Int) (x1 : List Int) (x2 : Int) (x3 : Int) (x4 : List (List Int)) (x5 : Int) (x6 : List Int) (x7 : Int) (x8 : Int) (x9 : List (List Int)) (x10 : Int) (x11 : List Int) (x12 : Int) (x13 : List Int) (x14 : Int) (x15 : Int) (x16 : Bool) (x17 : Int) : run1 E call iw_FnNormals_j36 [tI x0, tLI x1, tI x2, tI x3, tLA8 x4, tI x5, tLI x6, tI x7, tI x8, tLA8 x9, tI x10, tLI x11, tI x12, tLI x13, tI x14, tI x15, tB x16, tI x17] = bw_FnNormals_j36 call x0 x1 x2 x3 x4 x5 x6 x7 x8 x9 x10 x11 x12 x13 x14 x15 x16 x17 := by kernel_rfl
theorem vw_FnNormals_j36 (x0 : Int) (x1 : List Int) (x2 : Int) (x3 : Int) (x4 : List (List Int)) (x5 : Int) (x6 : List Int) (x7 : Int) (x8 : Int) (x9 : List (List Int)) (x10 : Int) (x11 : List Int) (x12 : Int) (x13 : List Int) (x14 : Int) (x15 : Int) (x16 : Bool) (x17 : Int) {o : List TV} (h : bw_FnNormals_j36 R x0 x1 x2 x3 x4 x5 x6 x7 x8 x9 x10 x11 x12 x13 x14 x15 x16 x17 = some o) : R iw_FnNormals_j36 [tI x0, tLI x1, tI x2, tI x3, tLA8 x4, tI x5, tLI x6, tI x7, tI x8, tLA8 x9, tI x10, tLI x11, tI x12, tLI x13, tI x14, tI x15, tB x16, tI x17] = some o := ev_step ((ew_FnNormals_j36 R x0 x1 x2 x3 x4 x5 x6 x7 x8 x9 x10 x11 x12 x13 x14 x15 x16 x17).trans h)
/-- laws.FnNormals join 40 -/
noncomputable def bw_FnNormals_j40 (call : Oracle) (x0 : Int) (x1 : List Int) (x2 : Int) (x3 : Int) (x4 : List (List Int)) (x5 : Int) (x6 : List Int) (x7 : Int) (x8 : List Int) (x9 : Int) (x10 : Bool) (x11 : Int) : Option (List TV) :=
  bif (x11 == 0) then
    (call ii_NormalOf [tPILI (x5, x6)]).bind fun o41 =>
    (call ii_NormalOf [tPILI (x7, x8)]).bind fun o42 =>
    bif ((gI o41 1) != 0) then
      some [tI 0, tB false]
    else
      bif ((gI o42 1) != 0) then
        some [tI 0, tB false]
      else
        (call iw_normal9 [tPIPILA8 ((gPIPILA8 o41 0).1, (((gPIPILA8 o41 0).2).1, ((gPIPILA8 o41 0).2).2)), tPIPILA8 ((gPIPILA8 o42 0).1, (((gPIPILA8 o42 0).2).1, ((gPIPILA8 o42 0).2).2))]).bind fun o43 =>
        bif ((gB o43 0) != x10) then
          some [tI 0, tB false]
        else
          (call iw_FnNormals_j45 [tI x0, tLI x1, tI x2, tI x3, tLA8 x4, tI x9]).bind fun o44 =>
          some [tI 0, tB (gB o44 1)]
  else
    (call iw_FnNormals_j45 [tI x0, tLI x1, tI x2, tI x3, tLA8 x4, tI x9]).bind fun o45 =>
    some [tI 0, tB (gB o45 1)]
theorem ew_FnNormals_j40 (call : Oracle) (x0 : Int) (x1 : List Int) (x2 : Int) (x3 : Int) (x4 : List (List Int)) (x5 : Int) (x6 : List Int) (x7 : Int) (x8 : List Int) (x9 : Int) (x10 : Bool) (x11 : Int) : run1 E call iw_FnNormals_j40 [tI x0, tLI x1, tI x2, tI x3, tLA8 x4, tI x5, tLI x6, tI x7, tLI x8, tI x9, tB x10, tI x11] = bw_FnNormals_j40 call x0 x1 x2 x3 x4 x5 x6 x7 x8 x9 x10 x11 := by kernel_rfl
theorem vw_FnNormals_j40 (x0 : Int) (x1 : List Int) (x2 : Int) (x3 : Int) (x4 : List (List Int)) (x5 : Int) (x6 : List Int) (x7 : Int) (x8 : List Int) (x9 : Int) (x10 : Bool) (x11 : Int) {o : List TV} (h : bw_FnNormals_j40 R x0 x1 x2 x3 x4 x5 x6 x7 x8 x9 x10 x11 = some o) : R iw_FnNormals_j40 [tI x0, tLI x1, tI x2, tI x3, tLA8 x4, tI x5, tLI x6, tI x7, tLI x8, tI x9, tB x10, tI x11] = some o := ev_step ((ew_FnNormals_j40 R x0 x1 x2 x3 x4 x5 x6 x7 x8 x9 x10 x11).trans h)
/-- laws.FnNormals join 45 -/
noncomputable def bw_FnNormals_j45 (call : Oracle) (x0 : Int) (x1 : List Int) (x2 : Int) (x3 : Int) (x4 : List (List Int)) (x5 : Int) : Option (List TV) :=
  bif (x5 != 0) then
    some [tI 0, tB (((List.length x4 : Nat) : Int) == 0)]
  else
    (call ii_SumOf [tPILI (x0, x1)]).bind fun o36 =>
    (call iw_FnNormals_51 [tI x2, tI x3, tLA8 x4, tI (gI o36 0), tI (gI o36 1), tI x0, tI (wi64 (Int.tdiv (wi64 ((wi64 (x3 * x0)) * (wi64 (x0 - 1)))) 2)), tI 0]).bind fun o37 =>
    bif ((gI o37 0) == 0) then
      bif ((gI o37 5) == 0) then
        bif ((gI o37 4) == (gI o37 6)) then
          (call ii_IsNormal [tPIPILA8 ((gI o37 1), ((gI o37 2), (gLA8 o37 3)))]).bind fun o38 =>
          some [tI 0, tB (gB o38 0)]
        else
          some [tI 0, tB false]
      else
        some [tI 0, tB false]
    else
      some [tI 0, tB (gB o37 1)]
theorem ew_FnNormals_j45 (call : Oracle) (x0 : Int) (x1 : List Int) (x2 : Int) (x3 : Int) (x4 : List (List Int)) (x5 : Int) : run1 E call iw_FnNormals_j45 [tI x0, tLI x1, tI x2, tI x3, tLA8 x4, tI x5] = bw_FnNormals_j45 call x0 x1 x2 x3 x4 x5 := by kernel_rfl
theorem vw_FnNormals_j45 (x0 : Int) (x1 : List Int) (x2 : Int) (x3 : Int) (x4 : List (List Int)) (x5 : Int) {o : List TV} (h : bw_FnNormals_j45 R x0 x1 x2 x3 x4 x5 = some o) : R iw_FnNormals_j45 [tI x0, tLI x1, tI x2, tI x3, tLA8 x4, tI x5] = some o := ev_step ((ew_FnNormals_j45 R x0 x1 x2 x3 x4 x5).trans h)
/-- laws.FnNormals -/
noncomputable def bw_FnNormals (call : Oracle) (a0 : List Int) : Option (List TV) :=
  (call iw_big [tLU8 a0]).bind fun o1 =>
  bif (gB o1 0) then
    some [tB true]
  else
    (call is_DrawNormalOf [tLU8 a0]).bind fun o2 =>
    (call ii_NormalOf [tPILI ((gPILI o2 0).1, (gPILI o2 0).2)]).bind fun o3 =>
    (call is_NormalOf [tPILI ((gPILI o2 0).1, (gPILI o2 0).2)]).bind fun o4 =>
    bif ((gI o3 1) != (gI o4 1)) then
      some [tB false]
    else
      (call iw_normal9 [tPIPILA8 ((gPIPILA8 o3 0).1, (((gPIPILA8 o3 0).2).1, ((gPIPILA8 o3 0).2).2)), tPIPILA8 ((gPIPILA8 o4 0).1, (((gPIPILA8 o4 0).2).1, ((gPIPILA8 o4 0).2).2))]).bind fun o5 =>
      bif (!(gB o5 0)) then
        some [tB false]
      else
        (call is_DrawRightNormalOf [tLU8 a0]).bind fun o6 =>
        (call ii_RightNormalOf [tPILI ((gPILI o6 0).1, (gPILI o6 0).2)]).bind fun o7 =>
        (call is_RightNormalOf [tPILI ((gPILI o6 0).1, (gPILI o6 0).2)]).bind fun o8 =>
        bif ((gI o7 1) != (gI o8 1)) then
          some [tB false]
        else
          (call iw_normal9 [tPIPILA8 ((gPIPILA8 o7 0).1, (((gPIPILA8 o7 0).2).1, ((gPIPILA8 o7 0).2).2)), tPIPILA8 ((gPIPILA8 o8 0).1, (((gPIPILA8 o8 0).2).1, ((gPIPILA8 o8 0).2).2))]).bind fun o9 =>
          bif (!(gB o9 0)) then
            some [tB false]
          else
            (call is_DrawWordOfNormal [tLU8 a0]).bind fun o10 =>
            (call ii_WordOfNormal [tPIPILA8 ((gPIPILA8 o10 0).1, (((gPIPILA8 o10 0).2).1, ((gPIPILA8 o10 0).2).2))]).bind fun o11 =>
            (call is_WordOfNormal [tPIPILA8 ((gPIPILA8 o10 0).1, (((gPIPILA8 o10 0).2).1, ((gPIPILA8 o10 0).2).2))]).bind fun o12 =>
            bif ((gI o11 1) != (gI o12 1)) then
              some [tB false]
            else
              (call iw_likeInts [tLI (gLI o11 0), tLI (gLI o12 0)]).bind fun o13 =>
              bif (!(gB o13 0)) then
                some [tB false]
              else
                (call ii_IsNormal [tPIPILA8 ((gPIPILA8 o10 0).1, (((gPIPILA8 o10 0).2).1, ((gPIPILA8 o10 0).2).2))]).bind fun o14 =>
                (call is_IsNormal [tPIPILA8 ((gPIPILA8 o10 0).1, (((gPIPILA8 o10 0).2).1, ((gPIPILA8 o10 0).2).2))]).bind fun o15 =>
                bif ((gB o14 0) != (gB o15 0)) then
                  some [tB false]
                else
                  (call is_DrawSameBraid [tLU8 a0]).bind fun o16 =>
                  (call ii_SameBraid [tPILI ((gPILI o16 0).1, (gPILI o16 0).2), tPILI ((gPILI o16 1).1, (gPILI o16 1).2)]).bind fun o17 =>
                  (call is_SameBraid [tPILI ((gPILI o16 0).1, (gPILI o16 0).2), tPILI ((gPILI o16 1).1, (gPILI o16 1).2)]).bind fun o18 =>
                  bif ((gI o17 1) != (gI o18 1)) then
                    some [tB false]
                  else
                    bif ((gB o17 0) != (gB o18 0)) then
                      some [tB false]
                    else
                      (call is_DrawLengthsOf [tLU8 a0]).bind fun o19 =>
                      (call ii_LengthsOf [tPIPILA8 ((gPIPILA8 o19 0).1, (((gPIPILA8 o19 0).2).1, ((gPIPILA8 o19 0).2).2))]).bind fun o20 =>
                      (call is_LengthsOf [tPIPILA8 ((gPIPILA8 o19 0).1, (((gPIPILA8 o19 0).2).1, ((gPIPILA8 o19 0).2).2))]).bind fun o21 =>
                      bif ((gI o20 1) != (gI o21 1)) then
                        some [tB false]
                      else
                        (call iw_likeInts [tLI (gLI o20 0), tLI (gLI o21 0)]).bind fun o22 =>
                        bif (!(gB o22 0)) then
                          some [tB false]
                        else
                          (call ii_IsPositive [tPIPILA8 ((gPIPILA8 o19 0).1, (((gPIPILA8 o19 0).2).1, ((gPIPILA8 o19 0).2).2))]).bind fun o23 =>
                          (call is_IsPositive [tPIPILA8 ((gPIPILA8 o19 0).1, (((gPIPILA8 o19 0).2).1, ((gPIPILA8 o19 0).2).2))]).bind fun o24 =>
                          bif ((gI o23 1) != (gI o24 1)) then
                            some [tB false]
                          else
                            bif ((gB o23 0) != (gB o24 0)) then
                              some [tB false]
                            else
                              bif ((gI o11 1) == 0) then
                                (call ii_NormalOf [tPILI ((gPIPILA8 o10 0).1, (gLI o11 0))]).bind fun o25 =>
                                bif ((gI o25 1) != 0) then
                                  some [tB false]
                                else
                                  (call iw_normal9 [tPIPILA8 ((gPIPILA8 o25 0).1, (((gPIPILA8 o25 0).2).1, ((gPIPILA8 o25 0).2).2)), tPIPILA8 ((gPIPILA8 o10 0).1, (((gPIPILA8 o10 0).2).1, ((gPIPILA8 o10 0).2).2))]).bind fun o26 =>
                                  bif (!(gB o26 0)) then
                                    some [tB false]
                                  else
                                    (call iw_FnNormals_j36 [tI ((gPILI o2 0).1), tLI ((gPILI o2 0).2), tI ((gPIPILA8 o3 0).1), tI (((gPIPILA8 o3 0).2).1), tLA8 (((gPIPILA8 o3 0).2).2), tI ((gPILI o6 0).1), tLI ((gPILI o6 0).2), tI ((gPIPILA8 o7 0).1), tI (((gPIPILA8 o7 0).2).1), tLA8 (((gPIPILA8 o7 0).2).2), tI ((gPILI o16 0).1), tLI ((gPILI o16 0).2), tI ((gPILI o16 1).1), tLI ((gPILI o16 1).2), tI (gI o3 1), tI (gI o7 1), tB (gB o17 0), tI (gI o17 1)]).bind fun o51 =>
                                    some [tB (gB o51 1)]
                              else
                                (call iw_FnNormals_j36 [tI ((gPILI o2 0).1), tLI ((gPILI o2 0).2), tI ((gPIPILA8 o3 0).1), tI (((gPIPILA8 o3 0).2).1), tLA8 (((gPIPILA8 o3 0).2).2), tI ((gPILI o6 0).1), tLI ((gPILI o6 0).2), tI ((gPIPILA8 o7 0).1), tI (((gPIPILA8 o7 0).2).1), tLA8 (((gPIPILA8 o7 0).2).2), tI ((gPILI o16 0).1), tLI ((gPILI o16 0).2), tI ((gPILI o16 1).1), tLI ((gPILI o16 1).2), tI (gI o3 1), tI (gI o7 1), tB (gB o17 0), tI (gI o17 1)]).bind fun o52 =>
                                some [tB (gB o52 1)]
theorem ew_FnNormals (call : Oracle) (a0 : List Int) : run1 E call iw_FnNormals [tLU8 a0] = bw_FnNormals call a0 := by kernel_rfl
theorem vw_FnNormals (a0 : List Int) {o : List TV} (h : bw_FnNormals R a0 = some o) : R iw_FnNormals [tLU8 a0] = some o := ev_step ((ew_FnNormals R a0).trans h)
/-- spec.l03Pair -/
noncomputable def bs_l03Pair (call : Oracle) (a0 : List Int) : Option (List TV) :=
  (call is_l01From [tLU8 a0]).bind fun o1 =>
  (call is_l03Some [tPLU8PIU64 ((gPLU8PIU64 o1 0).1, (((gPLU8PIU64 o1 0).2).1, ((gPLU8PIU64 o1 0).2).2))]).bind fun o2 =>
  (call is_l03Is [tPIPILA8 ((gPIPILA8 o2 0).1, (((gPIPILA8 o2 0).2).1, ((gPIPILA8 o2 0).2).2))]).bind fun o3 =>
  bif (gB o3 0) then
    (call is_l01Next [tPLU8PIU64 ((gPLU8PIU64 o2 1).1, (((gPLU8PIU64 o2 1).2).1, ((gPLU8PIU64 o2 1).2).2)), tI 12]).bind fun o4 =>
    bif decide (0 < (gI o4 0)) then
      (call is_l03Draw [tPLU8PIU64 ((gPLU8PIU64 o4 1).1, (((gPLU8PIU64 o4 1).2).1, ((gPLU8PIU64 o4 1).2).2)), tI ((gPIPILA8 o2 0).1)]).bind fun o5 =>
      some [tPIPILA8 ((gPIPILA8 o2 0).1, (((gPIPILA8 o2 0).2).1, ((gPIPILA8 o2 0).2).2)), tPIPILA8 ((gPIPILA8 o5 0).1, (((gPIPILA8 o5 0).2).1, ((gPIPILA8 o5 0).2).2))]
    else
      (call is_l03Some [tPLU8PIU64 ((gPLU8PIU64 o4 1).1, (((gPLU8PIU64 o4 1).2).1, ((gPLU8PIU64 o4 1).2).2))]).bind fun o6 =>
      some [tPIPILA8 ((gPIPILA8 o2 0).1, (((gPIPILA8 o2 0).2).1, ((gPIPILA8 o2 0).2).2)), tPIPILA8 ((gPIPILA8 o6 0).1, (((gPIPILA8 o6 0).2).1, ((gPIPILA8 o6 0).2).2))]
  else
    (call is_l03Some [tPLU8PIU64 ((gPLU8PIU64 o2 1).1, (((gPLU8PIU64 o2 1).2).1, ((gPLU8PIU64 o2 1).2).2))]).bind fun o7 =>
    some [tPIPILA8 ((gPIPILA8 o2 0).1, (((gPIPILA8 o2 0).2).1, ((gPIPILA8 o2 0).2).2)), tPIPILA8 ((gPIPILA8 o7 0).1, (((gPIPILA8 o7 0).2).1, ((gPIPILA8 o7 0).2).2))]
theorem es_l03Pair (call : Oracle) (a0 : List Int) : run1 E call is_l03Pair [tLU8 a0] = bs_l03Pair call a0 := by kernel_rfl
theorem vs_l03Pair (a0 : List Int) {o : List TV} (h : bs_l03Pair R a0 = some o) : R is_l03Pair [tLU8 a0] = some o := ev_step ((es_l03Pair R a0).trans h)
/-- spec.DrawMultiplyNormals -/
noncomputable def bs_DrawMultiplyNormals (call : Oracle) (a0 : List Int) : Option (List TV) :=
  (call is_l03Pair [tLU8 a0]).bind fun o1 =>
  some [tPIPILA8 ((gPIPILA8 o1 0).1, (((gPIPILA8 o1 0).2).1, ((gPIPILA8 o1 0).2).2)), tPIPILA8 ((gPIPILA8 o1 1).1, (((gPIPILA8 o1 1).2).1, ((gPIPILA8 o1 1).2).2))]
theorem es_DrawMultiplyNormals (call : Oracle) (a0 : List Int) : run1 E call is_DrawMultiplyNormals [tLU8 a0] = bs_DrawMultiplyNormals call a0 := by kernel_rfl
theorem vs_DrawMultiplyNormals (a0 : List Int) {o : List TV} (h : bs_DrawMultiplyNormals R a0 = some o) : R is_DrawMultiplyNormals [tLU8 a0] = some o := ev_step ((es_DrawMultiplyNormals R a0).trans h)
/-- impl.areSameCount -/
noncomputable def bi_areSameCount (call : Oracle) (a0 : Int × Int × List (List Int)) (a1 : Int × Int × List (List Int)) : Option (List TV) :=
  (call ii_IsNormal [tPIPILA8 (a0.1, (a0.2.1, a0.2.2))]).bind fun o1 =>
  bif (!(gB o1 0)) then
    some [tI 1]
  else
    (call ii_IsNormal [tPIPILA8 (a1.1, (a1.2.1, a1.2.2))]).bind fun o2 =>
    bif (!(gB o2 0)) then
      some [tI 1]
    else
      bif (a0.1 != a1.1) then
        some [tI 2]
      else
        some [tI 0]
theorem ei_areSameCount (call : Oracle) (a0 : Int × Int × List (List Int)) (a1 : Int × Int × List (List Int)) : run1 E call ii_areSameCount [tPIPILA8 a0, tPIPILA8 a1] = bi_areSameCount call a0 a1 := by kernel_rfl
theorem vi_areSameCount (a0 : Int × Int × List (List Int)) (a1 : Int × Int × List (List Int)) {o : List TV} (h : bi_areSameCount R a0 a1 = some o) : R ii_areSameCount [tPIPILA8 a0, tPIPILA8 a1] = some o := ev_step ((ei_areSameCount R a0 a1).trans h)
/-- impl.copyNormal -/
noncomputable def bi_copyNormal (call : Oracle) (a0 : Int × Int × List (List Int)) : Option (List TV) :=
  bif (apOk [] a0.2.2) then
    some [tPIPILA8 (a0.1, (a0.2.1, a0.2.2))]
  else none
theorem ei_copyNormal (call : Oracle) (a0 : Int × Int × List (List Int)) : run1 E call ii_copyNormal [tPIPILA8 a0] = bi_copyNormal call a0 := by kernel_rfl
theorem vi_copyNormal (a0 : Int × Int × List (List Int)) {o : List TV} (h : bi_copyNormal R a0 = some o) : R ii_copyNormal [tPIPILA8 a0] = some o := ev_step ((ei_copyNormal R a0).trans h)
/-- impl.product loop 4 -/
noncomputable def bi_product_4 (call : Oracle) (x0 : Int) (x1 : Int) (x2 : List (List Int)) (x3 : Int) (x4 : Int) (x5 : List (List Int)) (x6 : List (List Int)) (x7 : Int) (x8 : Int) : Option (List TV) :=
  bif decide (x8 < x7) then
    bif (decide (0 ≤ x8) && decide (x8 < ((List.length x6 : Nat) : Int))) then
      (call i__i_Normal__put [tPIPILA8 (x3, (x4, x5)), tA8 (List.getD x6 (Int.toNat x8) (List.replicate 8 0))]).bind fun o4 =>
      call ii_product_4 [tI x0, tI x1, tLA8 x2, tI ((gPIPILA8 o4 0).1), tI (((gPIPILA8 o4 0).2).1), tLA8 (((gPIPILA8 o4 0).2).2), tLA8 x6, tI x7, tI (wi64 (x8 + 1))]
    else none
  else
    some [tI 0, tI x0, tI x1, tLA8 x2, tI x3, tI x4, tLA8 x5]
theorem ei_product_4 (call : Oracle) (x0 : Int) (x1 : Int) (x2 : List (List Int)) (x3 : Int) (x4 : Int) (x5 : List (List Int)) (x6 : List (List Int)) (x7 : Int) (x8 : Int) : run1 E call ii_product_4 [tI x0, tI x1, tLA8 x2, tI x3, tI x4, tLA8 x5, tLA8 x6, tI x7, tI x8] = bi_product_4 call x0 x1 x2 x3 x4 x5 x6 x7 x8 := by kernel_rfl
theorem vi_product_4 (x0 : Int) (x1 : Int) (x2 : List (List Int)) (x3 : Int) (x4 : Int) (x5 : List (List Int)) (x6 : List (List Int)) (x7 : Int) (x8 : Int) {o : List TV} (h : bi_product_4 R x0 x1 x2 x3 x4 x5 x6 x7 x8 = some o) : R ii_product_4 [tI x0, tI x1, tLA8 x2, tI x3, tI x4, tLA8 x5, tLA8 x6, tI x7, tI x8] = some o := ev_step ((ei_product_4 R x0 x1 x2 x3 x4 x5 x6 x7 x8).trans h)
/-- impl.product -/
noncomputable def bi_product (call : Oracle) (a0 : Int × Int × List (List Int)) (a1 : Int × Int × List (List Int)) : Option (List TV) :=
  (call ii_copyNormal [tPIPILA8 (a0.1, (a0.2.1, a0.2.2))]).bind fun o1 =>
  (call i__i_Normal__turnBy [tPIPILA8 ((gPIPILA8 o1 0).1, (((gPIPILA8 o1 0).2).1, ((gPIPILA8 o1 0).2).2)), tI a1.2.1]).bind fun o2 =>
  (call ii_product_4 [tI 0, tI 0, tLA8 [], tI ((gPIPILA8 o2 0).1), tI (((gPIPILA8 o2 0).2).1), tLA8 (((gPIPILA8 o2 0).2).2), tLA8 a1.2.2, tI ((List.length a1.2.2 : Nat) : Int), tI 0]).bind fun o5 =>
  some [tPIPILA8 ((gI o5 4), ((gI o5 5), (gLA8 o5 6)))]
theorem ei_product (call : Oracle) (a0 : Int × Int × List (List Int)) (a1 : Int × Int × List (List Int)) : run1 E call ii_product [tPIPILA8 a0, tPIPILA8 a1] = bi_product call a0 a1 := by kernel_rfl
theorem vi_product (a0 : Int × Int × List (List Int)) (a1 : Int × Int × List (List Int)) {o : List TV} (h : bi_product R a0 a1 = some o) : R ii_product [tPIPILA8 a0, tPIPILA8 a1] = some o := ev_step ((ei_product R a0 a1).trans h)
/-- impl.MultiplyNormals -/
noncomputable def bi_MultiplyNormals (call : Oracle) (a0 : Int × Int × List (List Int)) (a1 : Int × Int × List (List Int)) : Option (List TV) :=
  (call ii_areSameCount [tPIPILA8 (a0.1, (a0.2.1, a0.2.2)), tPIPILA8 (a1.1, (a1.2.1, a1.2.2))]).bind fun o1 =>
  bif ((gI o1 0) != 0) then
    some [tPIPILA8 (0, (0, [])), tI (gI o1 0)]
  else
    (call ii_product [tPIPILA8 (a0.1, (a0.2.1, a0.2.2)), tPIPILA8 (a1.1, (a1.2.1, a1.2.2))]).bind fun o2 =>
    (call ii_limited [tPIPILA8 ((gPIPILA8 o2 0).1, (((gPIPILA8 o2 0).2).1, ((gPIPILA8 o2 0).2).2))]).bind fun o3 =>
    some [tPIPILA8 ((gPIPILA8 o3 0).1, (((gPIPILA8 o3 0).2).1, ((gPIPILA8 o3 0).2).2)), tI (gI o3 1)]
theorem ei_MultiplyNormals (call : Oracle) (a0 : Int × Int × List (List Int)) (a1 : Int × Int × List (List Int)) : run1 E call ii_MultiplyNormals [tPIPILA8 a0, tPIPILA8 a1] = bi_MultiplyNormals call a0 a1 := by kernel_rfl
theorem vi_MultiplyNormals (a0 : Int × Int × List (List Int)) (a1 : Int × Int × List (List Int)) {o : List TV} (h : bi_MultiplyNormals R a0 a1 = some o) : R ii_MultiplyNormals [tPIPILA8 a0, tPIPILA8 a1] = some o := ev_step ((ei_MultiplyNormals R a0 a1).trans h)
/-- spec.l03Both -/
noncomputable def bs_l03Both (call : Oracle) (a0 : Int × Int × List (List Int)) (a1 : Int × Int × List (List Int)) : Option (List TV) :=
  (call is_l03Is [tPIPILA8 (a0.1, (a0.2.1, a0.2.2))]).bind fun o1 =>
  bif (!(gB o1 0)) then
    some [tI 1]
  else
    (call is_l03Is [tPIPILA8 (a1.1, (a1.2.1, a1.2.2))]).bind fun o2 =>
    bif (!(gB o2 0)) then
      some [tI 1]
    else
      bif (a0.1 != a1.1) then
        some [tI 2]
      else
        some [tI 0]
theorem es_l03Both (call : Oracle) (a0 : Int × Int × List (List Int)) (a1 : Int × Int × List (List Int)) : run1 E call is_l03Both [tPIPILA8 a0, tPIPILA8 a1] = bs_l03Both call a0 a1 := by kernel_rfl
theorem vs_l03Both (a0 : Int × Int × List (List Int)) (a1 : Int × Int × List (List Int)) {o : List TV} (h : bs_l03Both R a0 a1 = some o) : R is_l03Both [tPIPILA8 a0, tPIPILA8 a1] = some o := ev_step ((es_l03Both R a0 a1).trans h)
/-- spec.l03Product -/
noncomputable def bs_l03Product (call : Oracle) (a0 : Int × Int × List (List Int)) (a1 : Int × Int × List (List Int)) : Option (List TV) :=
  (call is_l03Turned [tLA8 a0.2.2, tI a0.1, tI a1.2.1]).bind fun o1 =>
  bif (apOk (gLA8 o1 0) a1.2.2) then
    (call is_l03Make [tI a0.1, tI (wi64 (a0.2.1 + a1.2.1)), tLA8 ((gLA8 o1 0) ++ a1.2.2)]).bind fun o2 =>
    some [tPIPILA8 ((gPIPILA8 o2 0).1, (((gPIPILA8 o2 0).2).1, ((gPIPILA8 o2 0).2).2))]
  else none
theorem es_l03Product (call : Oracle) (a0 : Int × Int × List (List Int)) (a1 : Int × Int × List (List Int)) : run1 E call is_l03Product [tPIPILA8 a0, tPIPILA8 a1] = bs_l03Product call a0 a1 := by kernel_rfl
theorem vs_l03Product (a0 : Int × Int × List (List Int)) (a1 : Int × Int × List (List Int)) {o : List TV} (h : bs_l03Product R a0 a1 = some o) : R is_l03Product [tPIPILA8 a0, tPIPILA8 a1] = some o := ev_step ((es_l03Product R a0 a1).trans h)
/-- spec.MultiplyNormals -/
noncomputable def bs_MultiplyNormals (call : Oracle) (a0 : Int × Int × List (List Int)) (a1 : Int × Int × List (List Int)) : Option (List TV) :=
  (call is_l03Both [tPIPILA8 (a0.1, (a0.2.1, a0.2.2)), tPIPILA8 (a1.1, (a1.2.1, a1.2.2))]).bind fun o1 =>
  bif ((gI o1 0) != 0) then
    some [tPIPILA8 (0, (0, [])), tI (gI o1 0)]
  else
    (call is_l03Product [tPIPILA8 (a0.1, (a0.2.1, a0.2.2)), tPIPILA8 (a1.1, (a1.2.1, a1.2.2))]).bind fun o2 =>
    (call is_l03Fit [tPIPILA8 ((gPIPILA8 o2 0).1, (((gPIPILA8 o2 0).2).1, ((gPIPILA8 o2 0).2).2))]).bind fun o3 =>
    some [tPIPILA8 ((gPIPILA8 o3 0).1, (((gPIPILA8 o3 0).2).1, ((gPIPILA8 o3 0).2).2)), tI (gI o3 1)]
theorem es_MultiplyNormals (call : Oracle) (a0 : Int × Int × List (List Int)) (a1 : Int × Int × List (List Int)) : run1 E call is_MultiplyNormals [tPIPILA8 a0, tPIPILA8 a1] = bs_MultiplyNormals call a0 a1 := by kernel_rfl
theorem vs_MultiplyNormals (a0 : Int × Int × List (List Int)) (a1 : Int × Int × List (List Int)) {o : List TV} (h : bs_MultiplyNormals R a0 a1 = some o) : R is_MultiplyNormals [tPIPILA8 a0, tPIPILA8 a1] = some o := ev_step ((es_MultiplyNormals R a0 a1).trans h)
/-- spec.DrawInverseNormal -/
noncomputable def bs_DrawInverseNormal (call : Oracle) (a0 : List Int) : Option (List TV) :=
  (call is_l01From [tLU8 a0]).bind fun o1 =>
  (call is_l03Some [tPLU8PIU64 ((gPLU8PIU64 o1 0).1, (((gPLU8PIU64 o1 0).2).1, ((gPLU8PIU64 o1 0).2).2))]).bind fun o2 =>
  some [tPIPILA8 ((gPIPILA8 o2 0).1, (((gPIPILA8 o2 0).2).1, ((gPIPILA8 o2 0).2).2))]
theorem es_DrawInverseNormal (call : Oracle) (a0 : List Int) : run1 E call is_DrawInverseNormal [tLU8 a0] = bs_DrawInverseNormal call a0 := by kernel_rfl
theorem vs_DrawInverseNormal (a0 : List Int) {o : List TV} (h : bs_DrawInverseNormal R a0 = some o) : R is_DrawInverseNormal [tLU8 a0] = some o := ev_step ((es_DrawInverseNormal R a0).trans h)
/-- impl.inverse loop 3 -/
noncomputable def bi_inverse_3 (call : Oracle) (x0 : Int) (x1 : Int) (x2 : List (List Int)) (x3 : Int) (x4 : Int) (x5 : List (List Int)) (x6 : Int) (x7 : Int) (x8 : List (List Int)) (x9 : Int) : Option (List TV) :=
  bif decide (0 ≤ x9) then
    bif (decide (0 ≤ x9) && decide (x9 < ((List.length x2 : Nat) : Int))) then
      (call i__i_Normal__putInverse [tPIPILA8 (x6, (x7, x8)), tA8 (List.getD x2 (Int.toNat x9) (List.replicate 8 0))]).bind fun o2 =>
      call ii_inverse_3 [tI x0, tI x1, tLA8 x2, tI x3, tI x4, tLA8 x5, tI ((gPIPILA8 o2 0).1), tI (((gPIPILA8 o2 0).2).1), tLA8 (((gPIPILA8 o2 0).2).2), tI (wi64 (x9 - 1))]
    else none
  else
    some [tI 0, tI x0, tI x1, tLA8 x2, tI x3, tI x4, tLA8 x5, tI x6, tI x7, tLA8 x8]
theorem ei_inverse_3 (call : Oracle) (x0 : Int) (x1 : Int) (x2 : List (List Int)) (x3 : Int) (x4 : Int) (x5 : List (List Int)) (x6 : Int) (x7 : Int) (x8 : List (List Int)) (x9 : Int) : run1 E call ii_inverse_3 [tI x0, tI x1, tLA8 x2, tI x3, tI x4, tLA8 x5, tI x6, tI x7, tLA8 x8, tI x9] = bi_inverse_3 call x0 x1 x2 x3 x4 x5 x6 x7 x8 x9 := by kernel_rfl
theorem vi_inverse_3 (x0 : Int) (x1 : Int) (x2 : List (List Int)) (x3 : Int) (x4 : Int) (x5 : List (List Int)) (x6 : Int) (x7 : Int) (x8 : List (List Int)) (x9 : Int) {o : List TV} (h : bi_inverse_3 R x0 x1 x2 x3 x4 x5 x6 x7 x8 x9 = some o) : R ii_inverse_3 [tI x0, tI x1, tLA8 x2, tI x3, tI x4, tLA8 x5, tI x6, tI x7, tLA8 x8, tI x9] = some o := ev_step ((ei_inverse_3 R x0 x1 x2 x3 x4 x5 x6 x7 x8 x9).trans h)
/-- impl.inverse -/
noncomputable def bi_inverse (call : Oracle) (a0 : Int × Int × List (List Int)) : Option (List TV) :=
  (call ii_inverse_3 [tI a0.1, tI a0.2.1, tLA8 a0.2.2, tI 0, tI 0, tLA8 [], tI a0.1, tI 0, tLA8 [], tI (wi64 (((List.length a0.2.2 : Nat) : Int) - 1))]).bind fun o3 =>
  (call i__i_Normal__turnBy [tPIPILA8 ((gI o3 7), ((gI o3 8), (gLA8 o3 9))), tI (wi64 (0 - (gI o3 2)))]).bind fun o4 =>
  some [tPIPILA8 ((gPIPILA8 o4 0).1, (((gPIPILA8 o4 0).2).1, ((gPIPILA8 o4 0).2).2))]
theorem ei_inverse (call : Oracle) (a0 : Int × Int × List (List Int)) : run1 E call ii_inverse [tPIPILA8 a0] = bi_inverse call a0 := by kernel_rfl
theorem vi_inverse (a0 : Int × Int × List (List Int)) {o : List TV} (h : bi_inverse R a0 = some o) : R ii_inverse [tPIPILA8 a0] = some o := ev_step ((ei_inverse R a0).trans h)
/-- impl.InverseNormal -/
noncomputable def bi_InverseNormal (call : Oracle) (a0 : Int × Int × List (List Int)) : Option (List TV) :=
  (call ii_IsNormal [tPIPILA8 (a0.1, (a0.2.1, a0.2.2))]).bind fun o1 =>
  bif (!(gB o1 0)) then
    some [tPIPILA8 (0, (0, [])), tI 1]
  else
    (call ii_inverse [tPIPILA8 (a0.1, (a0.2.1, a0.2.2))]).bind fun o2 =>
    (call ii_limited [tPIPILA8 ((gPIPILA8 o2 0).1, (((gPIPILA8 o2 0).2).1, ((gPIPILA8 o2 0).2).2))]).bind fun o3 =>
    some [tPIPILA8 ((gPIPILA8 o3 0).1, (((gPIPILA8 o3 0).2).1, ((gPIPILA8 o3 0).2).2)), tI (gI o3 1)]
theorem ei_InverseNormal (call : Oracle) (a0 : Int × Int × List (List Int)) : run1 E call ii_InverseNormal [tPIPILA8 a0] = bi_InverseNormal call a0 := by kernel_rfl
theorem vi_InverseNormal (a0 : Int × Int × List (List Int)) {o : List TV} (h : bi_InverseNormal R a0 = some o) : R ii_InverseNormal [tPIPILA8 a0] = some o := ev_step ((ei_InverseNormal R a0).trans h)
/-- spec.l03Inverse loop 3 -/
noncomputable def bs_l03Inverse_3 (call : Oracle) (x0 : Int) (x1 : Int) (x2 : List (List Int)) (x3 : Int) (x4 : Int) (x5 : List (List Int)) (x6 : Int) (x7 : Int) (x8 : List (List Int)) (x9 : Int) : Option (List TV) :=
  bif decide (0 ≤ x9) then
    bif (decide (0 ≤ x9) && decide (x9 < ((List.length x2 : Nat) : Int))) then
      (call is_l03Times [tPIPILA8 (x6, (x7, x8)), tA8 (List.getD x2 (Int.toNat x9) (List.replicate 8 0)), tB true]).bind fun o2 =>
      call is_l03Inverse_3 [tI x0, tI x1, tLA8 x2, tI x3, tI x4, tLA8 x5, tI ((gPIPILA8 o2 0).1), tI (((gPIPILA8 o2 0).2).1), tLA8 (((gPIPILA8 o2 0).2).2), tI (wi64 (x9 - 1))]
    else none
  else
    some [tI 0, tI x0, tI x1, tLA8 x2, tI x3, tI x4, tLA8 x5, tI x6, tI x7, tLA8 x8]
theorem es_l03Inverse_3 (call : Oracle) (x0 : Int) (x1 : Int) (x2 : List (List Int)) (x3 : Int) (x4 : Int) (x5 : List (List Int)) (x6 : Int) (x7 : Int) (x8 : List (List Int)) (x9 : Int) : run1 E call is_l03Inverse_3 [tI x0, tI x1, tLA8 x2, tI x3, tI x4, tLA8 x5, tI x6, tI x7, tLA8 x8, tI x9] = bs_l03Inverse_3 call x0 x1 x2 x3 x4 x5 x6 x7 x8 x9 := by kernel_rfl
theorem vs_l03Inverse_3 (x0 : Int) (x1 : Int) (x2 : List (List Int)) (x3 : Int) (x4 : Int) (x5 : List (List Int)) (x6 : Int) (x7 : Int) (x8 : List (List Int)) (x9 : Int) {o : List TV} (h : bs_l03Inverse_3 R x0 x1 x2 x3 x4 x5 x6 x7 x8 x9 = some o) : R is_l03Inverse_3 [tI x0, tI x1, tLA8 x2, tI x3, tI x4, tLA8 x5, tI x6, tI x7, tLA8 x8, tI x9] = some o := ev_step ((es_l03Inverse_3 R x0 x1 x2 x3 x4 x5 x6 x7 x8 x9).trans h)
end Go.Ev.Ytpfpjhfimmmkmaa
