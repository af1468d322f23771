/- Bodies, part 1. -/
import Derived.KernelRfl
import Derived.Test.YtadjhggdddbicaaEnv
set_option linter.unusedVariables false
namespace Go.Ev.Ytadjhggdddbicaa
open Go.Ev
/-- spec.l07Two -/
noncomputable def bs_l07Two (call : Oracle) (a0 : List Int) (a1 : List Int) (a2 : Int) : Option (List TV) :=
  (call is_l07Is [tA8 a0, tI a2]).bind fun o1 =>
  bif (!(gB o1 0)) then
    some [tI 1]
  else
    (call is_l07Is [tA8 a1, tI a2]).bind fun o2 =>
    bif (!(gB o2 0)) then
      some [tI 1]
    else
      some [tI 0]
theorem es_l07Two (call : Oracle) (a0 : List Int) (a1 : List Int) (a2 : Int) : run1 E call is_l07Two [tA8 a0, tA8 a1, tI a2] = bs_l07Two call a0 a1 a2 := by kernel_rfl
theorem vs_l07Two (a0 : List Int) (a1 : List Int) (a2 : Int) {o : List TV} (h : bs_l07Two R a0 a1 a2 = some o) : R is_l07Two [tA8 a0, tA8 a1, tI a2] = some o := ev_step ((es_l07Two R a0 a1 a2).trans h)
/-- spec.l07Meet loop 5 -/
noncomputable def bs_l07Meet_5 (call : Oracle) (x0 : List Int) (x1 : List Int) (x2 : List Int) (x3 : List Int) (x4 : Int) (x5 : Int) : Option (List TV) :=
  bif decide (0 ≤ x5) then
    (call is_l07Meet_8 [tA8 x0, tAi8 x1, tAi8 x2, tAi8 x3, tI x4, tI x5, tI 7]).bind fun o4 =>
    call is_l07Meet_5 [tA8 (gA8 o4 1), tAi8 (gAi8 o4 2), tAi8 (gAi8 o4 3), tAi8 (gAi8 o4 4), tI (gI o4 5), tI (wi64 ((gI o4 6) - 1))]
  else
    some [tI 0, tA8 x0, tAi8 x3, tI x4]
theorem es_l07Meet_5 (call : Oracle) (x0 : List Int) (x1 : List Int) (x2 : List Int) (x3 : List Int) (x4 : Int) (x5 : Int) : run1 E call is_l07Meet_5 [tA8 x0, tAi8 x1, tAi8 x2, tAi8 x3, tI x4, tI x5] = bs_l07Meet_5 call x0 x1 x2 x3 x4 x5 := by kernel_rfl
theorem vs_l07Meet_5 (x0 : List Int) (x1 : List Int) (x2 : List Int) (x3 : List Int) (x4 : Int) (x5 : Int) {o : List TV} (h : bs_l07Meet_5 R x0 x1 x2 x3 x4 x5 = some o) : R is_l07Meet_5 [tA8 x0, tAi8 x1, tAi8 x2, tAi8 x3, tI x4, tI x5] = some o := ev_step ((es_l07Meet_5 R x0 x1 x2 x3 x4 x5).trans h)
/-- spec.l07Meet loop 8 -/
noncomputable def bs_l07Meet_8 (call : Oracle) (x0 : List Int) (x1 : List Int) (x2 : List Int) (x3 : List Int) (x4 : Int) (x5 : Int) (x6 : Int) : Option (List TV) :=
  bif decide (0 ≤ x6) then
    bif decide (x6 < x4) then
      bif (decide (0 ≤ x6) && decide (x6 < 8)) then
        bif (decide (0 ≤ x5) && decide (x5 < 8)) then
          bif ((List.getD x1 (Int.toNat x6) 0) == (List.getD x1 (Int.toNat x5) 0)) then
            bif (decide (0 ≤ x6) && decide (x6 < 8)) then
              bif (decide (0 ≤ x5) && decide (x5 < 8)) then
                bif ((List.getD x2 (Int.toNat x6) 0) == (List.getD x2 (Int.toNat x5) 0)) then
                  bif (decide (0 ≤ x5) && decide (x5 < 8)) then
                    call is_l07Meet_8 [tA8 x0, tAi8 x1, tAi8 x2, tAi8 (List.set x3 (Int.toNat x5) x6), tI x4, tI x5, tI (wi64 (x6 - 1))]
                  else none
                else
                  call is_l07Meet_8 [tA8 x0, tAi8 x1, tAi8 x2, tAi8 x3, tI x4, tI x5, tI (wi64 (x6 - 1))]
              else none
            else none
          else
            call is_l07Meet_8 [tA8 x0, tAi8 x1, tAi8 x2, tAi8 x3, tI x4, tI x5, tI (wi64 (x6 - 1))]
        else none
      else none
    else
      call is_l07Meet_8 [tA8 x0, tAi8 x1, tAi8 x2, tAi8 x3, tI x4, tI x5, tI (wi64 (x6 - 1))]
  else
    some [tI 0, tA8 x0, tAi8 x1, tAi8 x2, tAi8 x3, tI x4, tI x5]
theorem es_l07Meet_8 (call : Oracle) (x0 : List Int) (x1 : List Int) (x2 : List Int) (x3 : List Int) (x4 : Int) (x5 : Int) (x6 : Int) : run1 E call is_l07Meet_8 [tA8 x0, tAi8 x1, tAi8 x2, tAi8 x3, tI x4, tI x5, tI x6] = bs_l07Meet_8 call x0 x1 x2 x3 x4 x5 x6 := by kernel_rfl
theorem vs_l07Meet_8 (x0 : List Int) (x1 : List Int) (x2 : List Int) (x3 : List Int) (x4 : Int) (x5 : Int) (x6 : Int) {o : List TV} (h : bs_l07Meet_8 R x0 x1 x2 x3 x4 x5 x6 = some o) : R is_l07Meet_8 [tA8 x0, tAi8 x1, tAi8 x2, tAi8 x3, tI x4, tI x5, tI x6] = some o := ev_step ((es_l07Meet_8 R x0 x1 x2 x3 x4 x5 x6).trans h)
/-- spec.l07Meet -/
noncomputable def bs_l07Meet (call : Oracle) (a0 : List Int) (a1 : List Int) (a2 : Int) : Option (List TV) :=
  (call is_l07Least [tA8 a0, tI a2]).bind fun o1 =>
  (call is_l07Least [tA8 a1, tI a2]).bind fun o2 =>
  (call is_l07Meet_5 [tA8 (List.replicate 8 0), tAi8 (gAi8 o1 0), tAi8 (gAi8 o2 0), tAi8 (List.replicate 8 0), tI a2, tI (wi64 (a2 - 1))]).bind fun o5 =>
  (call is_l07Made [tAi8 (gAi8 o5 2), tI (gI o5 3)]).bind fun o6 =>
  some [tA8 (gA8 o6 0)]
theorem es_l07Meet (call : Oracle) (a0 : List Int) (a1 : List Int) (a2 : Int) : run1 E call is_l07Meet [tA8 a0, tA8 a1, tI a2] = bs_l07Meet call a0 a1 a2 := by kernel_rfl
theorem vs_l07Meet (a0 : List Int) (a1 : List Int) (a2 : Int) {o : List TV} (h : bs_l07Meet R a0 a1 a2 = some o) : R is_l07Meet [tA8 a0, tA8 a1, tI a2] = some o := ev_step ((es_l07Meet R a0 a1 a2).trans h)
/-- spec.MeetOfParts -/
noncomputable def bs_MeetOfParts (call : Oracle) (a0 : List Int) (a1 : List Int) (a2 : Int) : Option (List TV) :=
  (call is_l07Two [tA8 a0, tA8 a1, tI a2]).bind fun o1 =>
  bif ((gI o1 0) != 0) then
    some [tA8 (List.replicate 8 0), tI (gI o1 0)]
  else
    (call is_l07Meet [tA8 a0, tA8 a1, tI a2]).bind fun o2 =>
    some [tA8 (gA8 o2 0), tI 0]
theorem es_MeetOfParts (call : Oracle) (a0 : List Int) (a1 : List Int) (a2 : Int) : run1 E call is_MeetOfParts [tA8 a0, tA8 a1, tI a2] = bs_MeetOfParts call a0 a1 a2 := by kernel_rfl
theorem vs_MeetOfParts (a0 : List Int) (a1 : List Int) (a2 : Int) {o : List TV} (h : bs_MeetOfParts R a0 a1 a2 = some o) : R is_MeetOfParts [tA8 a0, tA8 a1, tI a2] = some o := ev_step ((es_MeetOfParts R a0 a1 a2).trans h)
/-- impl.meetParts loop 5 -/
noncomputable def bi_meetParts_5 (call : Oracle) (x0 : List Int) (x1 : List Int) (x2 : List Int) (x3 : List Int) (x4 : Int) (x5 : Int) : Option (List TV) :=
  bif decide (x5 < x4) then
    (call ii_meetParts_8 [tA8 x0, tLI x1, tLI x2, tLI x3, tI x5, tI x4, tI x5, tI x5, tI 0]).bind fun o7 =>
    call ii_meetParts_5 [tA8 (gA8 o7 1), tLI (gLI o7 2), tLI (gLI o7 3), tLI (gLI o7 4), tI (gI o7 5), tI (wi64 ((gI o7 6) + 1))]
  else
    some [tI 0, tA8 x0, tLI x3]
theorem ei_meetParts_5 (call : Oracle) (x0 : List Int) (x1 : List Int) (x2 : List Int) (x3 : List Int) (x4 : Int) (x5 : Int) : run1 E call ii_meetParts_5 [tA8 x0, tLI x1, tLI x2, tLI x3, tI x4, tI x5] = bi_meetParts_5 call x0 x1 x2 x3 x4 x5 := by kernel_rfl
theorem vi_meetParts_5 (x0 : List Int) (x1 : List Int) (x2 : List Int) (x3 : List Int) (x4 : Int) (x5 : Int) {o : List TV} (h : bi_meetParts_5 R x0 x1 x2 x3 x4 x5 = some o) : R ii_meetParts_5 [tA8 x0, tLI x1, tLI x2, tLI x3, tI x4, tI x5] = some o := ev_step ((ei_meetParts_5 R x0 x1 x2 x3 x4 x5).trans h)
/-- impl.meetParts loop 8 -/
noncomputable def bi_meetParts_8 (call : Oracle) (x0 : List Int) (x1 : List Int) (x2 : List Int) (x3 : List Int) (x4 : Int) (x5 : Int) (x6 : Int) (x7 : Int) (x8 : Int) : Option (List TV) :=
  bif decide (x8 < x7) then
    bif (decide (0 ≤ x8) && decide (x8 < ((List.length x1 : Nat) : Int))) then
      bif (decide (0 ≤ x4) && decide (x4 < ((List.length x1 : Nat) : Int))) then
        bif ((List.getD x1 (Int.toNat x8) 0) == (List.getD x1 (Int.toNat x4) 0)) then
          bif (decide (0 ≤ x8) && decide (x8 < ((List.length x2 : Nat) : Int))) then
            bif (decide (0 ≤ x4) && decide (x4 < ((List.length x2 : Nat) : Int))) then
              bif ((List.getD x2 (Int.toNat x8) 0) == (List.getD x2 (Int.toNat x4) 0)) then
                (call i_i_groups__merge [tLI x3, tI x8, tI x4]).bind fun o5 =>
                call ii_meetParts_8 [tA8 x0, tLI x1, tLI x2, tLI (gLI o5 0), tI x4, tI x5, tI x6, tI x7, tI (wi64 (x8 + 1))]
              else
                call ii_meetParts_8 [tA8 x0, tLI x1, tLI x2, tLI x3, tI x4, tI x5, tI x6, tI x7, tI (wi64 (x8 + 1))]
            else none
          else none
        else
          call ii_meetParts_8 [tA8 x0, tLI x1, tLI x2, tLI x3, tI x4, tI x5, tI x6, tI x7, tI (wi64 (x8 + 1))]
      else none
    else none
  else
    some [tI 0, tA8 x0, tLI x1, tLI x2, tLI x3, tI x5, tI x6]
theorem ei_meetParts_8 (call : Oracle) (x0 : List Int) (x1 : List Int) (x2 : List Int) (x3 : List Int) (x4 : Int) (x5 : Int) (x6 : Int) (x7 : Int) (x8 : Int) : run1 E call ii_meetParts_8 [tA8 x0, tLI x1, tLI x2, tLI x3, tI x4, tI x5, tI x6, tI x7, tI x8] = bi_meetParts_8 call x0 x1 x2 x3 x4 x5 x6 x7 x8 := by kernel_rfl
theorem vi_meetParts_8 (x0 : List Int) (x1 : List Int) (x2 : List Int) (x3 : List Int) (x4 : Int) (x5 : Int) (x6 : Int) (x7 : Int) (x8 : Int) {o : List TV} (h : bi_meetParts_8 R x0 x1 x2 x3 x4 x5 x6 x7 x8 = some o) : R ii_meetParts_8 [tA8 x0, tLI x1, tLI x2, tLI x3, tI x4, tI x5, tI x6, tI x7, tI x8] = some o := ev_step ((ei_meetParts_8 R x0 x1 x2 x3 x4 x5 x6 x7 x8).trans h)
/-- impl.meetParts -/
noncomputable def bi_meetParts (call : Oracle) (a0 : List Int) (a1 : List Int) (a2 : Int) : Option (List TV) :=
  (call ii_groupsOf [tA8 a0, tI a2]).bind fun o1 =>
  (call ii_groupsOf [tA8 a1, tI a2]).bind fun o2 =>
  (call ii_fineGroups [tI a2]).bind fun o3 =>
  (call ii_meetParts_5 [tA8 (List.replicate 8 0), tLI (gLI o1 0), tLI (gLI o2 0), tLI (gLI o3 0), tI a2, tI 0]).bind fun o8 =>
  (call i_i_groups__part [tLI (gLI o8 2)]).bind fun o9 =>
  some [tA8 (gA8 o9 0)]
theorem ei_meetParts (call : Oracle) (a0 : List Int) (a1 : List Int) (a2 : Int) : run1 E call ii_meetParts [tA8 a0, tA8 a1, tI a2] = bi_meetParts call a0 a1 a2 := by kernel_rfl
theorem vi_meetParts (a0 : List Int) (a1 : List Int) (a2 : Int) {o : List TV} (h : bi_meetParts R a0 a1 a2 = some o) : R ii_meetParts [tA8 a0, tA8 a1, tI a2] = some o := ev_step ((ei_meetParts R a0 a1 a2).trans h)
/-- impl.MeetOfParts -/
noncomputable def bi_MeetOfParts (call : Oracle) (a0 : List Int) (a1 : List Int) (a2 : Int) : Option (List TV) :=
  (call ii_IsPart [tA8 a0, tI a2]).bind fun o1 =>
  bif (!(gB o1 0)) then
    some [tA8 (List.replicate 8 0), tI 1]
  else
    (call ii_IsPart [tA8 a1, tI a2]).bind fun o2 =>
    bif (!(gB o2 0)) then
      some [tA8 (List.replicate 8 0), tI 1]
    else
      (call ii_meetParts [tA8 a0, tA8 a1, tI a2]).bind fun o3 =>
      some [tA8 (gA8 o3 0), tI 0]
theorem ei_MeetOfParts (call : Oracle) (a0 : List Int) (a1 : List Int) (a2 : Int) : run1 E call ii_MeetOfParts [tA8 a0, tA8 a1, tI a2] = bi_MeetOfParts call a0 a1 a2 := by kernel_rfl
theorem vi_MeetOfParts (a0 : List Int) (a1 : List Int) (a2 : Int) {o : List TV} (h : bi_MeetOfParts R a0 a1 a2 = some o) : R ii_MeetOfParts [tA8 a0, tA8 a1, tI a2] = some o := ev_step ((ei_MeetOfParts R a0 a1 a2).trans h)
/-- laws.FnExactMeetOfParts -/
noncomputable def bw_FnExactMeetOfParts (call : Oracle) (a0 : List Int) (a1 : List Int) (a2 : Int) : Option (List TV) :=
  (call iw_toPart [tA8 a0]).bind fun o1 =>
  (call iw_toPart [tA8 a1]).bind fun o2 =>
  (call is_MeetOfParts [tA8 (gA8 o1 0), tA8 (gA8 o2 0), tI a2]).bind fun o3 =>
  (call iw_toPart [tA8 a0]).bind fun o4 =>
  (call iw_toPart [tA8 a1]).bind fun o5 =>
  (call ii_MeetOfParts [tA8 (gA8 o4 0), tA8 (gA8 o5 0), tI a2]).bind fun o6 =>
  (call iw_eqPart [tA8 (gA8 o6 0), tA8 (gA8 o3 0)]).bind fun o7 =>
  bif (!(gB o7 0)) then
    some [tB false]
  else
    bif ((gI o6 1) != (gI o3 1)) then
      some [tB false]
    else
      some [tB true]
theorem ew_FnExactMeetOfParts (call : Oracle) (a0 : List Int) (a1 : List Int) (a2 : Int) : run1 E call iw_FnExactMeetOfParts [tA8 a0, tA8 a1, tI a2] = bw_FnExactMeetOfParts call a0 a1 a2 := by kernel_rfl
theorem vw_FnExactMeetOfParts (a0 : List Int) (a1 : List Int) (a2 : Int) {o : List TV} (h : bw_FnExactMeetOfParts R a0 a1 a2 = some o) : R iw_FnExactMeetOfParts [tA8 a0, tA8 a1, tI a2] = some o := ev_step ((ew_FnExactMeetOfParts R a0 a1 a2).trans h)
/-- spec.l07Back loop 3 -/
noncomputable def bs_l07Back_3 (call : Oracle) (x0 : List Int) (x1 : List Int) (x2 : List Int) (x3 : Int) (x4 : Int) : Option (List TV) :=
  bif decide (x4 < x3) then
    bif (decide (0 ≤ x4) && decide (x4 < 8)) then
      bif (decide (0 ≤ (List.getD x0 (Int.toNat x4) 0)) && decide ((List.getD x0 (Int.toNat x4) 0) < 8)) then
        call is_l07Back_3 [tA8 x0, tA8 x1, tA8 (List.set x2 (Int.toNat (List.getD x0 (Int.toNat x4) 0)) (wu8 (x4))), tI x3, tI (wi64 (x4 + 1))]
      else none
    else none
  else
    some [tI 0, tA8 x1, tA8 x2]
theorem es_l07Back_3 (call : Oracle) (x0 : List Int) (x1 : List Int) (x2 : List Int) (x3 : Int) (x4 : Int) : run1 E call is_l07Back_3 [tA8 x0, tA8 x1, tA8 x2, tI x3, tI x4] = bs_l07Back_3 call x0 x1 x2 x3 x4 := by kernel_rfl
theorem vs_l07Back_3 (x0 : List Int) (x1 : List Int) (x2 : List Int) (x3 : Int) (x4 : Int) {o : List TV} (h : bs_l07Back_3 R x0 x1 x2 x3 x4 = some o) : R is_l07Back_3 [tA8 x0, tA8 x1, tA8 x2, tI x3, tI x4] = some o := ev_step ((es_l07Back_3 R x0 x1 x2 x3 x4).trans h)
/-- spec.l07Back -/
noncomputable def bs_l07Back (call : Oracle) (a0 : List Int) (a1 : Int) : Option (List TV) :=
  (call is_l07Back_3 [tA8 a0, tA8 (List.replicate 8 0), tA8 (List.replicate 8 0), tI a1, tI 0]).bind fun o1 =>
  some [tA8 (gA8 o1 2)]
theorem es_l07Back (call : Oracle) (a0 : List Int) (a1 : Int) : run1 E call is_l07Back [tA8 a0, tI a1] = bs_l07Back call a0 a1 := by kernel_rfl
theorem vs_l07Back (a0 : List Int) (a1 : Int) {o : List TV} (h : bs_l07Back R a0 a1 = some o) : R is_l07Back [tA8 a0, tI a1] = some o := ev_step ((es_l07Back R a0 a1).trans h)
/-- spec.l07Whole loop 3 -/
noncomputable def bs_l07Whole_3 (call : Oracle) (x0 : List Int) (x1 : List Int) (x2 : Int) (x3 : Int) : Option (List TV) :=
  bif decide (x3 < x2) then
    bif (x2 != 0) then
      bif (decide (0 ≤ x3) && decide (x3 < 8)) then
        call is_l07Whole_3 [tA8 x0, tA8 (List.set x1 (Int.toNat x3) (wu8 ((Int.tmod (wi64 (x3 + 1)) x2)))), tI x2, tI (wi64 (x3 + 1))]
      else none
    else none
  else
    some [tI 0, tA8 x0, tA8 x1]
theorem es_l07Whole_3 (call : Oracle) (x0 : List Int) (x1 : List Int) (x2 : Int) (x3 : Int) : run1 E call is_l07Whole_3 [tA8 x0, tA8 x1, tI x2, tI x3] = bs_l07Whole_3 call x0 x1 x2 x3 := by kernel_rfl
theorem vs_l07Whole_3 (x0 : List Int) (x1 : List Int) (x2 : Int) (x3 : Int) {o : List TV} (h : bs_l07Whole_3 R x0 x1 x2 x3 = some o) : R is_l07Whole_3 [tA8 x0, tA8 x1, tI x2, tI x3] = some o := ev_step ((es_l07Whole_3 R x0 x1 x2 x3).trans h)
/-- spec.l07Whole -/
noncomputable def bs_l07Whole (call : Oracle) (a0 : Int) : Option (List TV) :=
  (call is_l07Whole_3 [tA8 (List.replicate 8 0), tA8 (List.replicate 8 0), tI a0, tI 0]).bind fun o1 =>
  some [tA8 (gA8 o1 2)]
theorem es_l07Whole (call : Oracle) (a0 : Int) : run1 E call is_l07Whole [tI a0] = bs_l07Whole call a0 := by kernel_rfl
theorem vs_l07Whole (a0 : Int) {o : List TV} (h : bs_l07Whole R a0 = some o) : R is_l07Whole [tI a0] = some o := ev_step ((es_l07Whole R a0).trans h)
/-- spec.l07Then loop 3 -/
noncomputable def bs_l07Then_3 (call : Oracle) (x0 : List Int) (x1 : List Int) (x2 : List Int) (x3 : List Int) (x4 : Int) (x5 : Int) : Option (List TV) :=
  bif decide (x5 < x4) then
    bif (decide (0 ≤ x5) && decide (x5 < 8)) then
      bif (decide (0 ≤ (List.getD x0 (Int.toNat x5) 0)) && decide ((List.getD x0 (Int.toNat x5) 0) < 8)) then
        bif (decide (0 ≤ x5) && decide (x5 < 8)) then
          call is_l07Then_3 [tA8 x0, tA8 x1, tA8 x2, tA8 (List.set x3 (Int.toNat x5) (List.getD x1 (Int.toNat (List.getD x0 (Int.toNat x5) 0)) 0)), tI x4, tI (wi64 (x5 + 1))]
        else none
      else none
    else none
  else
    some [tI 0, tA8 x2, tA8 x3]
theorem es_l07Then_3 (call : Oracle) (x0 : List Int) (x1 : List Int) (x2 : List Int) (x3 : List Int) (x4 : Int) (x5 : Int) : run1 E call is_l07Then_3 [tA8 x0, tA8 x1, tA8 x2, tA8 x3, tI x4, tI x5] = bs_l07Then_3 call x0 x1 x2 x3 x4 x5 := by kernel_rfl
theorem vs_l07Then_3 (x0 : List Int) (x1 : List Int) (x2 : List Int) (x3 : List Int) (x4 : Int) (x5 : Int) {o : List TV} (h : bs_l07Then_3 R x0 x1 x2 x3 x4 x5 = some o) : R is_l07Then_3 [tA8 x0, tA8 x1, tA8 x2, tA8 x3, tI x4, tI x5] = some o := ev_step ((es_l07Then_3 R x0 x1 x2 x3 x4 x5).trans h)
/-- spec.l07Then -/
noncomputable def bs_l07Then (call : Oracle) (a0 : List Int) (a1 : List Int) (a2 : Int) : Option (List TV) :=
  (call is_l07Then_3 [tA8 a0, tA8 a1, tA8 (List.replicate 8 0), tA8 (List.replicate 8 0), tI a2, tI 0]).bind fun o1 =>
  some [tA8 (gA8 o1 2)]
theorem es_l07Then (call : Oracle) (a0 : List Int) (a1 : List Int) (a2 : Int) : run1 E call is_l07Then [tA8 a0, tA8 a1, tI a2] = bs_l07Then call a0 a1 a2 := by kernel_rfl
theorem vs_l07Then (a0 : List Int) (a1 : List Int) (a2 : Int) {o : List TV} (h : bs_l07Then R a0 a1 a2 = some o) : R is_l07Then [tA8 a0, tA8 a1, tI a2] = some o := ev_step ((es_l07Then R a0 a1 a2).trans h)
/-- spec.l07Complement -/
noncomputable def bs_l07Complement (call : Oracle) (a0 : List Int) (a1 : Int) : Option (List TV) :=
  (call is_l07Back [tA8 a0, tI a1]).bind fun o1 =>
  (call is_l07Whole [tI a1]).bind fun o2 =>
  (call is_l07Then [tA8 (gA8 o1 0), tA8 (gA8 o2 0), tI a1]).bind fun o3 =>
  some [tA8 (gA8 o3 0)]
theorem es_l07Complement (call : Oracle) (a0 : List Int) (a1 : Int) : run1 E call is_l07Complement [tA8 a0, tI a1] = bs_l07Complement call a0 a1 := by kernel_rfl
theorem vs_l07Complement (a0 : List Int) (a1 : Int) {o : List TV} (h : bs_l07Complement R a0 a1 = some o) : R is_l07Complement [tA8 a0, tI a1] = some o := ev_step ((es_l07Complement R a0 a1).trans h)
/-- spec.ComplementOfPart -/
noncomputable def bs_ComplementOfPart (call : Oracle) (a0 : List Int) (a1 : Int) : Option (List TV) :=
  (call is_l07Is [tA8 a0, tI a1]).bind fun o1 =>
  bif (!(gB o1 0)) then
    some [tA8 (List.replicate 8 0), tI 1]
  else
    (call is_l07Complement [tA8 a0, tI a1]).bind fun o2 =>
    some [tA8 (gA8 o2 0), tI 0]
theorem es_ComplementOfPart (call : Oracle) (a0 : List Int) (a1 : Int) : run1 E call is_ComplementOfPart [tA8 a0, tI a1] = bs_ComplementOfPart call a0 a1 := by kernel_rfl
theorem vs_ComplementOfPart (a0 : List Int) (a1 : Int) {o : List TV} (h : bs_ComplementOfPart R a0 a1 = some o) : R is_ComplementOfPart [tA8 a0, tI a1] = some o := ev_step ((es_ComplementOfPart R a0 a1).trans h)
/-- impl.backOf loop 3 -/
noncomputable def bi_backOf_3 (call : Oracle) (x0 : List Int) (x1 : List Int) (x2 : List Int) (x3 : Int) (x4 : Int) : Option (List TV) :=
  bif decide (x4 < x3) then
    bif (decide (0 ≤ x4) && decide (x4 < 8)) then
      bif (decide (0 ≤ (List.getD x0 (Int.toNat x4) 0)) && decide ((List.getD x0 (Int.toNat x4) 0) < 8)) then
        call ii_backOf_3 [tA8 x0, tA8 x1, tA8 (List.set x2 (Int.toNat (List.getD x0 (Int.toNat x4) 0)) (wu8 (x4))), tI x3, tI (wi64 (x4 + 1))]
      else none
    else none
  else
    some [tI 0, tA8 x1, tA8 x2]
theorem ei_backOf_3 (call : Oracle) (x0 : List Int) (x1 : List Int) (x2 : List Int) (x3 : Int) (x4 : Int) : run1 E call ii_backOf_3 [tA8 x0, tA8 x1, tA8 x2, tI x3, tI x4] = bi_backOf_3 call x0 x1 x2 x3 x4 := by kernel_rfl
theorem vi_backOf_3 (x0 : List Int) (x1 : List Int) (x2 : List Int) (x3 : Int) (x4 : Int) {o : List TV} (h : bi_backOf_3 R x0 x1 x2 x3 x4 = some o) : R ii_backOf_3 [tA8 x0, tA8 x1, tA8 x2, tI x3, tI x4] = some o := ev_step ((ei_backOf_3 R x0 x1 x2 x3 x4).trans h)
/-- impl.backOf -/
noncomputable def bi_backOf (call : Oracle) (a0 : List Int) (a1 : Int) : Option (List TV) :=
  (call ii_backOf_3 [tA8 a0, tA8 (List.replicate 8 0), tA8 (List.replicate 8 0), tI a1, tI 0]).bind fun o1 =>
  some [tA8 (gA8 o1 2)]
theorem ei_backOf (call : Oracle) (a0 : List Int) (a1 : Int) : run1 E call ii_backOf [tA8 a0, tI a1] = bi_backOf call a0 a1 := by kernel_rfl
theorem vi_backOf (a0 : List Int) (a1 : Int) {o : List TV} (h : bi_backOf R a0 a1 = some o) : R ii_backOf [tA8 a0, tI a1] = some o := ev_step ((ei_backOf R a0 a1).trans h)
/-- impl.backPart -/
noncomputable def bi_backPart (call : Oracle) (a0 : List Int) (a1 : Int) : Option (List TV) :=
  (call ii_backOf [tA8 a0, tI a1]).bind fun o1 =>
  some [tA8 (gA8 o1 0)]
theorem ei_backPart (call : Oracle) (a0 : List Int) (a1 : Int) : run1 E call ii_backPart [tA8 a0, tI a1] = bi_backPart call a0 a1 := by kernel_rfl
theorem vi_backPart (a0 : List Int) (a1 : Int) {o : List TV} (h : bi_backPart R a0 a1 = some o) : R ii_backPart [tA8 a0, tI a1] = some o := ev_step ((ei_backPart R a0 a1).trans h)
/-- impl.wholePart loop 3 -/
noncomputable def bi_wholePart_3 (call : Oracle) (x0 : List Int) (x1 : List Int) (x2 : Int) (x3 : Int) (x4 : Int) : Option (List TV) :=
  bif decide (x4 < x3) then
    bif (x2 != 0) then
      bif (decide (0 ≤ x4) && decide (x4 < 8)) then
        call ii_wholePart_3 [tA8 x0, tA8 (List.set x1 (Int.toNat x4) (wu8 ((Int.tmod (wi64 (x4 + 1)) x2)))), tI x2, tI x3, tI (wi64 (x4 + 1))]
      else none
    else none
  else
    some [tI 0, tA8 x0, tA8 x1]
theorem ei_wholePart_3 (call : Oracle) (x0 : List Int) (x1 : List Int) (x2 : Int) (x3 : Int) (x4 : Int) : run1 E call ii_wholePart_3 [tA8 x0, tA8 x1, tI x2, tI x3, tI x4] = bi_wholePart_3 call x0 x1 x2 x3 x4 := by kernel_rfl
theorem vi_wholePart_3 (x0 : List Int) (x1 : List Int) (x2 : Int) (x3 : Int) (x4 : Int) {o : List TV} (h : bi_wholePart_3 R x0 x1 x2 x3 x4 = some o) : R ii_wholePart_3 [tA8 x0, tA8 x1, tI x2, tI x3, tI x4] = some o := ev_step ((ei_wholePart_3 R x0 x1 x2 x3 x4).trans h)
/-- impl.wholePart -/
noncomputable def bi_wholePart (call : Oracle) (a0 : Int) : Option (List TV) :=
  (call ii_wholePart_3 [tA8 (List.replicate 8 0), tA8 (List.replicate 8 0), tI a0, tI a0, tI 0]).bind fun o1 =>
  some [tA8 (gA8 o1 2)]
theorem ei_wholePart (call : Oracle) (a0 : Int) : run1 E call ii_wholePart [tI a0] = bi_wholePart call a0 := by kernel_rfl
theorem vi_wholePart (a0 : Int) {o : List TV} (h : bi_wholePart R a0 = some o) : R ii_wholePart [tI a0] = some o := ev_step ((ei_wholePart R a0).trans h)
/-- impl.then loop 3 -/
noncomputable def bi_then_3 (call : Oracle) (x0 : List Int) (x1 : List Int) (x2 : List Int) (x3 : List Int) (x4 : Int) (x5 : Int) : Option (List TV) :=
  bif decide (x5 < x4) then
    bif (decide (0 ≤ x5) && decide (x5 < 8)) then
      bif (decide (0 ≤ (List.getD x0 (Int.toNat x5) 0)) && decide ((List.getD x0 (Int.toNat x5) 0) < 8)) then
        bif (decide (0 ≤ x5) && decide (x5 < 8)) then
          call ii_then_3 [tA8 x0, tA8 x1, tA8 x2, tA8 (List.set x3 (Int.toNat x5) (List.getD x1 (Int.toNat (List.getD x0 (Int.toNat x5) 0)) 0)), tI x4, tI (wi64 (x5 + 1))]
        else none
      else none
    else none
  else
    some [tI 0, tA8 x2, tA8 x3]
theorem ei_then_3 (call : Oracle) (x0 : List Int) (x1 : List Int) (x2 : List Int) (x3 : List Int) (x4 : Int) (x5 : Int) : run1 E call ii_then_3 [tA8 x0, tA8 x1, tA8 x2, tA8 x3, tI x4, tI x5] = bi_then_3 call x0 x1 x2 x3 x4 x5 := by kernel_rfl
theorem vi_then_3 (x0 : List Int) (x1 : List Int) (x2 : List Int) (x3 : List Int) (x4 : Int) (x5 : Int) {o : List TV} (h : bi_then_3 R x0 x1 x2 x3 x4 x5 = some o) : R ii_then_3 [tA8 x0, tA8 x1, tA8 x2, tA8 x3, tI x4, tI x5] = some o := ev_step ((ei_then_3 R x0 x1 x2 x3 x4 x5).trans h)
/-- impl.then -/
noncomputable def bi_then (call : Oracle) (a0 : List Int) (a1 : List Int) (a2 : Int) : Option (List TV) :=
  (call ii_then_3 [tA8 a0, tA8 a1, tA8 (List.replicate 8 0), tA8 (List.replicate 8 0), tI a2, tI 0]).bind fun o1 =>
  some [tA8 (gA8 o1 2)]
theorem ei_then (call : Oracle) (a0 : List Int) (a1 : List Int) (a2 : Int) : run1 E call ii_then [tA8 a0, tA8 a1, tI a2] = bi_then call a0 a1 a2 := by kernel_rfl
theorem vi_then (a0 : List Int) (a1 : List Int) (a2 : Int) {o : List TV} (h : bi_then R a0 a1 a2 = some o) : R ii_then [tA8 a0, tA8 a1, tI a2] = some o := ev_step ((ei_then R a0 a1 a2).trans h)
/-- impl.thenPart -/
noncomputable def bi_thenPart (call : Oracle) (a0 : List Int) (a1 : List Int) (a2 : Int) : Option (List TV) :=
  (call ii_then [tA8 a0, tA8 a1, tI a2]).bind fun o1 =>
  some [tA8 (gA8 o1 0)]
theorem ei_thenPart (call : Oracle) (a0 : List Int) (a1 : List Int) (a2 : Int) : run1 E call ii_thenPart [tA8 a0, tA8 a1, tI a2] = bi_thenPart call a0 a1 a2 := by kernel_rfl
theorem vi_thenPart (a0 : List Int) (a1 : List Int) (a2 : Int) {o : List TV} (h : bi_thenPart R a0 a1 a2 = some o) : R ii_thenPart [tA8 a0, tA8 a1, tI a2] = some o := ev_step ((ei_thenPart R a0 a1 a2).trans h)
/-- impl.complementPart -/
noncomputable def bi_complementPart (call : Oracle) (a0 : List Int) (a1 : Int) : Option (List TV) :=
  (call ii_backPart [tA8 a0, tI a1]).bind fun o1 =>
  (call ii_wholePart [tI a1]).bind fun o2 =>
  (call ii_thenPart [tA8 (gA8 o1 0), tA8 (gA8 o2 0), tI a1]).bind fun o3 =>
  some [tA8 (gA8 o3 0)]
theorem ei_complementPart (call : Oracle) (a0 : List Int) (a1 : Int) : run1 E call ii_complementPart [tA8 a0, tI a1] = bi_complementPart call a0 a1 := by kernel_rfl
theorem vi_complementPart (a0 : List Int) (a1 : Int) {o : List TV} (h : bi_complementPart R a0 a1 = some o) : R ii_complementPart [tA8 a0, tI a1] = some o := ev_step ((ei_complementPart R a0 a1).trans h)
/-- impl.ComplementOfPart -/
noncomputable def bi_ComplementOfPart (call : Oracle) (a0 : List Int) (a1 : Int) : Option (List TV) :=
  (call ii_IsPart [tA8 a0, tI a1]).bind fun o1 =>
  bif (!(gB o1 0)) then
    some [tA8 (List.replicate 8 0), tI 1]
  else
    (call ii_complementPart [tA8 a0, tI a1]).bind fun o2 =>
    some [tA8 (gA8 o2 0), tI 0]
theorem ei_ComplementOfPart (call : Oracle) (a0 : List Int) (a1 : Int) : run1 E call ii_ComplementOfPart [tA8 a0, tI a1] = bi_ComplementOfPart call a0 a1 := by kernel_rfl
theorem vi_ComplementOfPart (a0 : List Int) (a1 : Int) {o : List TV} (h : bi_ComplementOfPart R a0 a1 = some o) : R ii_ComplementOfPart [tA8 a0, tI a1] = some o := ev_step ((ei_ComplementOfPart R a0 a1).trans h)
/-- laws.FnExactComplementOfPart -/
noncomputable def bw_FnExactComplementOfPart (call : Oracle) (a0 : List Int) (a1 : Int) : Option (List TV) :=
  (call iw_toPart [tA8 a0]).bind fun o1 =>
  (call is_ComplementOfPart [tA8 (gA8 o1 0), tI a1]).bind fun o2 =>
  (call iw_toPart [tA8 a0]).bind fun o3 =>
  (call ii_ComplementOfPart [tA8 (gA8 o3 0), tI a1]).bind fun o4 =>
  (call iw_eqPart [tA8 (gA8 o4 0), tA8 (gA8 o2 0)]).bind fun o5 =>
  bif (!(gB o5 0)) then
    some [tB false]
  else
    bif ((gI o4 1) != (gI o2 1)) then
      some [tB false]
    else
      some [tB true]
theorem ew_FnExactComplementOfPart (call : Oracle) (a0 : List Int) (a1 : Int) : run1 E call iw_FnExactComplementOfPart [tA8 a0, tI a1] = bw_FnExactComplementOfPart call a0 a1 := by kernel_rfl
theorem vw_FnExactComplementOfPart (a0 : List Int) (a1 : Int) {o : List TV} (h : bw_FnExactComplementOfPart R a0 a1 = some o) : R iw_FnExactComplementOfPart [tA8 a0, tI a1] = some o := ev_step ((ew_FnExactComplementOfPart R a0 a1).trans h)
/-- spec.JoinOfParts -/
noncomputable def bs_JoinOfParts (call : Oracle) (a0 : List Int) (a1 : List Int) (a2 : Int) : Option (List TV) :=
  (call is_l07Two [tA8 a0, tA8 a1, tI a2]).bind fun o1 =>
  bif ((gI o1 0) != 0) then
    some [tA8 (List.replicate 8 0), tI (gI o1 0)]
  else
    (call is_l07Complement [tA8 a0, tI a2]).bind fun o2 =>
    (call is_l07Complement [tA8 a1, tI a2]).bind fun o3 =>
    (call is_l07Meet [tA8 (gA8 o2 0), tA8 (gA8 o3 0), tI a2]).bind fun o4 =>
    (call is_l07Whole [tI a2]).bind fun o5 =>
    (call is_l07Back [tA8 (gA8 o4 0), tI a2]).bind fun o6 =>
    (call is_l07Then [tA8 (gA8 o5 0), tA8 (gA8 o6 0), tI a2]).bind fun o7 =>
    some [tA8 (gA8 o7 0), tI 0]
theorem es_JoinOfParts (call : Oracle) (a0 : List Int) (a1 : List Int) (a2 : Int) : run1 E call is_JoinOfParts [tA8 a0, tA8 a1, tI a2] = bs_JoinOfParts call a0 a1 a2 := by kernel_rfl
theorem vs_JoinOfParts (a0 : List Int) (a1 : List Int) (a2 : Int) {o : List TV} (h : bs_JoinOfParts R a0 a1 a2 = some o) : R is_JoinOfParts [tA8 a0, tA8 a1, tI a2] = some o := ev_step ((es_JoinOfParts R a0 a1 a2).trans h)
/-- impl.JoinOfParts loop 5 -/
noncomputable def bi_JoinOfParts_5 (call : Oracle) (x0 : List Int) (x1 : List Int) (x2 : List Int) (x3 : Int) (x4 : Int) : Option (List TV) :=
  bif decide (x4 < x3) then
    bif (decide (0 ≤ x4) && decide (x4 < 8)) then
      (call i_i_groups__merge [tLI x2, tI x4, tI (wi64 ((List.getD x0 (Int.toNat x4) 0)))]).bind fun o5 =>
      call ii_JoinOfParts_5 [tA8 x0, tA8 x1, tLI (gLI o5 0), tI x3, tI (wi64 (x4 + 1))]
    else none
  else
    some [tI 0, tA8 x1, tLI x2]
theorem ei_JoinOfParts_5 (call : Oracle) (x0 : List Int) (x1 : List Int) (x2 : List Int) (x3 : Int) (x4 : Int) : run1 E call ii_JoinOfParts_5 [tA8 x0, tA8 x1, tLI x2, tI x3, tI x4] = bi_JoinOfParts_5 call x0 x1 x2 x3 x4 := by kernel_rfl
theorem vi_JoinOfParts_5 (x0 : List Int) (x1 : List Int) (x2 : List Int) (x3 : Int) (x4 : Int) {o : List TV} (h : bi_JoinOfParts_5 R x0 x1 x2 x3 x4 = some o) : R ii_JoinOfParts_5 [tA8 x0, tA8 x1, tLI x2, tI x3, tI x4] = some o := ev_step ((ei_JoinOfParts_5 R x0 x1 x2 x3 x4).trans h)
/-- impl.JoinOfParts loop 9 -/
noncomputable def bi_JoinOfParts_9 (call : Oracle) (x0 : List Int) (x1 : List Int) : Option (List TV) :=
  (call i_i_groups__crossing [tLI x1]).bind fun o10 =>
  bif (!(gB o10 2)) then
    (call i_i_groups__part [tLI x1]).bind fun o11 =>
    some [tI 0, tA8 (gA8 o11 0), tI 0]
  else
    (call i_i_groups__merge [tLI x1, tI (gI o10 0), tI (gI o10 1)]).bind fun o12 =>
    call ii_JoinOfParts_9 [tA8 x0, tLI (gLI o12 0)]
theorem ei_JoinOfParts_9 (call : Oracle) (x0 : List Int) (x1 : List Int) : run1 E call ii_JoinOfParts_9 [tA8 x0, tLI x1] = bi_JoinOfParts_9 call x0 x1 := by kernel_rfl
theorem vi_JoinOfParts_9 (x0 : List Int) (x1 : List Int) {o : List TV} (h : bi_JoinOfParts_9 R x0 x1 = some o) : R ii_JoinOfParts_9 [tA8 x0, tLI x1] = some o := ev_step ((ei_JoinOfParts_9 R x0 x1).trans h)
/-- impl.JoinOfParts -/
noncomputable def bi_JoinOfParts (call : Oracle) (a0 : List Int) (a1 : List Int) (a2 : Int) : Option (List TV) :=
  (call ii_IsPart [tA8 a0, tI a2]).bind fun o1 =>
  bif (!(gB o1 0)) then
    some [tA8 (List.replicate 8 0), tI 1]
  else
    (call ii_IsPart [tA8 a1, tI a2]).bind fun o2 =>
    bif (!(gB o2 0)) then
      some [tA8 (List.replicate 8 0), tI 1]
    else
      (call ii_groupsOf [tA8 a0, tI a2]).bind fun o3 =>
      (call ii_JoinOfParts_5 [tA8 a1, tA8 (List.replicate 8 0), tLI (gLI o3 0), tI a2, tI 0]).bind fun o6 =>
      (call ii_JoinOfParts_9 [tA8 (gA8 o6 1), tLI (gLI o6 2)]).bind fun o13 =>
      some [tA8 (gA8 o13 1), tI (gI o13 2)]
theorem ei_JoinOfParts (call : Oracle) (a0 : List Int) (a1 : List Int) (a2 : Int) : run1 E call ii_JoinOfParts [tA8 a0, tA8 a1, tI a2] = bi_JoinOfParts call a0 a1 a2 := by kernel_rfl
theorem vi_JoinOfParts (a0 : List Int) (a1 : List Int) (a2 : Int) {o : List TV} (h : bi_JoinOfParts R a0 a1 a2 = some o) : R ii_JoinOfParts [tA8 a0, tA8 a1, tI a2] = some o := ev_step ((ei_JoinOfParts R a0 a1 a2).trans h)
/-- laws.FnExactJoinOfParts -/
noncomputable def bw_FnExactJoinOfParts (call : Oracle) (a0 : List Int) (a1 : List Int) (a2 : Int) : Option (List TV) :=
  (call iw_toPart [tA8 a0]).bind fun o1 =>
  (call iw_toPart [tA8 a1]).bind fun o2 =>
  (call is_JoinOfParts [tA8 (gA8 o1 0), tA8 (gA8 o2 0), tI a2]).bind fun o3 =>
  (call iw_toPart [tA8 a0]).bind fun o4 =>
  (call iw_toPart [tA8 a1]).bind fun o5 =>
  (call ii_JoinOfParts [tA8 (gA8 o4 0), tA8 (gA8 o5 0), tI a2]).bind fun o6 =>
  (call iw_eqPart [tA8 (gA8 o6 0), tA8 (gA8 o3 0)]).bind fun o7 =>
  bif (!(gB o7 0)) then
    some [tB false]
  else
    bif ((gI o6 1) != (gI o3 1)) then
      some [tB false]
    else
      some [tB true]
theorem ew_FnExactJoinOfParts (call : Oracle) (a0 : List Int) (a1 : List Int) (a2 : Int) : run1 E call iw_FnExactJoinOfParts [tA8 a0, tA8 a1, tI a2] = bw_FnExactJoinOfParts call a0 a1 a2 := by kernel_rfl
theorem vw_FnExactJoinOfParts (a0 : List Int) (a1 : List Int) (a2 : Int) {o : List TV} (h : bw_FnExactJoinOfParts R a0 a1 a2 = some o) : R iw_FnExactJoinOfParts [tA8 a0, tA8 a1, tI a2] = some o := ev_step ((ew_FnExactJoinOfParts R a0 a1 a2).trans h)
/-- laws.szPartS -/
noncomputable def bw_szPartS (call : Oracle) (a0 : List (List Int)) (a1 : Int) : Option (List TV) :=
  bif decide ((wi64 (a1 - ((List.length a0 : Nat) : Int))) < 0) then
    some [tI (-1)]
  else
    some [tI (wi64 (a1 - ((List.length a0 : Nat) : Int)))]
theorem ew_szPartS (call : Oracle) (a0 : List (List Int)) (a1 : Int) : run1 E call iw_szPartS [tLA8 a0, tI a1] = bw_szPartS call a0 a1 := by kernel_rfl
theorem vw_szPartS (a0 : List (List Int)) (a1 : Int) {o : List TV} (h : bw_szPartS R a0 a1 = some o) : R iw_szPartS [tLA8 a0, tI a1] = some o := ev_step ((ew_szPartS R a0 a1).trans h)
/-- laws.szDual -/
noncomputable def bw_szDual (call : Oracle) (a0 : Int × Int × List (List Int)) (a1 : Int) : Option (List TV) :=
  (call iw_szPartS [tLA8 a0.2.2, tI a1]).bind fun o1 =>
  bif decide ((gI o1 0) < 0) then
    some [tI (-1)]
  else
    some [tI (gI o1 0)]
theorem ew_szDual (call : Oracle) (a0 : Int × Int × List (List Int)) (a1 : Int) : run1 E call iw_szDual [tPIPILA8 a0, tI a1] = bw_szDual call a0 a1 := by kernel_rfl
theorem vw_szDual (a0 : Int × Int × List (List Int)) (a1 : Int) {o : List TV} (h : bw_szDual R a0 a1 = some o) : R iw_szDual [tPIPILA8 a0, tI a1] = some o := ev_step ((ew_szDual R a0 a1).trans h)
/-- laws.toPartS loop 3 -/
noncomputable def bw_toPartS_3 (call : Oracle) (x0 : List (List Int)) (x1 : List (List Int)) (x2 : Int) : Option (List TV) :=
  bif decide (x2 < ((List.length x0 : Nat) : Int)) then
    bif (decide (0 ≤ x2) && decide (x2 < ((List.length x0 : Nat) : Int))) then
      (call iw_toPart [tA8 (List.getD x0 (Int.toNat x2) (List.replicate 8 0))]).bind fun o2 =>
      bif (decide (0 ≤ x2) && decide (x2 < ((List.length x1 : Nat) : Int))) then
        call iw_toPartS_3 [tLA8 x0, tLA8 (List.set x1 (Int.toNat x2) (gA8 o2 0)), tI (wi64 (x2 + 1))]
      else none
    else none
  else
    some [tI 0, tLA8 x1]
theorem ew_toPartS_3 (call : Oracle) (x0 : List (List Int)) (x1 : List (List Int)) (x2 : Int) : run1 E call iw_toPartS_3 [tLA8 x0, tLA8 x1, tI x2] = bw_toPartS_3 call x0 x1 x2 := by kernel_rfl
theorem vw_toPartS_3 (x0 : List (List Int)) (x1 : List (List Int)) (x2 : Int) {o : List TV} (h : bw_toPartS_3 R x0 x1 x2 = some o) : R iw_toPartS_3 [tLA8 x0, tLA8 x1, tI x2] = some o := ev_step ((ew_toPartS_3 R x0 x1 x2).trans h)
/-- laws.toPartS -/
noncomputable def bw_toPartS (call : Oracle) (a0 : List (List Int)) : Option (List TV) :=
  bif (mkOk ((List.length a0 : Nat) : Int)) then
    (call iw_toPartS_3 [tLA8 a0, tLA8 (List.replicate (Int.toNat ((List.length a0 : Nat) : Int)) (List.replicate 8 0)), tI 0]).bind fun o3 =>
    some [tLA8 (gLA8 o3 1)]
  else none
theorem ew_toPartS (call : Oracle) (a0 : List (List Int)) : run1 E call iw_toPartS [tLA8 a0] = bw_toPartS call a0 := by kernel_rfl
theorem vw_toPartS (a0 : List (List Int)) {o : List TV} (h : bw_toPartS R a0 = some o) : R iw_toPartS [tLA8 a0] = some o := ev_step ((ew_toPartS R a0).trans h)
/-- laws.toDual -/
noncomputable def bw_toDual (call : Oracle) (a0 : Int × Int × List (List Int)) : Option (List TV) :=
  (call iw_toPartS [tLA8 a0.2.2]).bind fun o1 =>
  some [tPIPILA8 (a0.1, (a0.2.1, (gLA8 o1 0)))]
theorem ew_toDual (call : Oracle) (a0 : Int × Int × List (List Int)) : run1 E call iw_toDual [tPIPILA8 a0] = bw_toDual call a0 := by kernel_rfl
theorem vw_toDual (a0 : Int × Int × List (List Int)) {o : List TV} (h : bw_toDual R a0 = some o) : R iw_toDual [tPIPILA8 a0] = some o := ev_step ((ew_toDual R a0).trans h)
/-- spec.l01Strands loop 3 -/
noncomputable def bs_l01Strands_3 (call : Oracle) (x0 : List Int) (x1 : List Int) (x2 : List Int) (x3 : Int) (x4 : Int) : Option (List TV) :=
  bif decide (x4 < x3) then
    bif (decide (0 ≤ x4) && decide (x4 < 8)) then
      call is_l01Strands_3 [tLI x0, tA8 x1, tA8 (List.set x2 (Int.toNat x4) (wu8 (x4))), tI x3, tI (wi64 (x4 + 1))]
    else none
  else
    some [tI 0, tLI x0, tA8 x1, tA8 x2]
theorem es_l01Strands_3 (call : Oracle) (x0 : List Int) (x1 : List Int) (x2 : List Int) (x3 : Int) (x4 : Int) : run1 E call is_l01Strands_3 [tLI x0, tA8 x1, tA8 x2, tI x3, tI x4] = bs_l01Strands_3 call x0 x1 x2 x3 x4 := by kernel_rfl
theorem vs_l01Strands_3 (x0 : List Int) (x1 : List Int) (x2 : List Int) (x3 : Int) (x4 : Int) {o : List TV} (h : bs_l01Strands_3 R x0 x1 x2 x3 x4 = some o) : R is_l01Strands_3 [tLI x0, tA8 x1, tA8 x2, tI x3, tI x4] = some o := ev_step ((es_l01Strands_3 R x0 x1 x2 x3 x4).trans h)
/-- spec.l01Strands loop 7 -/
noncomputable def bs_l01Strands_7 (call : Oracle) (x0 : List Int) (x1 : List Int) (x2 : List Int) (x3 : Int) : Option (List TV) :=
  bif decide (x3 < ((List.length x0 : Nat) : Int)) then
    bif (decide (0 ≤ x3) && decide (x3 < ((List.length x0 : Nat) : Int))) then
      bif (decide (0 ≤ x3) && decide (x3 < ((List.length x0 : Nat) : Int))) then
        bif (decide (0 ≤ (mx (List.getD x0 (Int.toNat x3) 0) (wi64 (0 - (List.getD x0 (Int.toNat x3) 0))))) && decide ((mx (List.getD x0 (Int.toNat x3) 0) (wi64 (0 - (List.getD x0 (Int.toNat x3) 0)))) < 8)) then
          bif (decide (0 ≤ (wi64 ((mx (List.getD x0 (Int.toNat x3) 0) (wi64 (0 - (List.getD x0 (Int.toNat x3) 0)))) - 1))) && decide ((wi64 ((mx (List.getD x0 (Int.toNat x3) 0) (wi64 (0 - (List.getD x0 (Int.toNat x3) 0)))) - 1)) < 8)) then
            bif (decide (0 ≤ (mx (List.getD x0 (Int.toNat x3) 0) (wi64 (0 - (List.getD x0 (Int.toNat x3) 0))))) && decide ((mx (List.getD x0 (Int.toNat x3) 0) (wi64 (0 - (List.getD x0 (Int.toNat x3) 0)))) < 8)) then
              bif (decide (0 ≤ (wi64 ((mx (List.getD x0 (Int.toNat x3) 0) (wi64 (0 - (List.getD x0 (Int.toNat x3) 0)))) - 1))) && decide ((wi64 ((mx (List.getD x0 (Int.toNat x3) 0) (wi64 (0 - (List.getD x0 (Int.toNat x3) 0)))) - 1)) < 8)) then
                call is_l01Strands_7 [tLI x0, tA8 x1, tA8 (List.set (List.set x2 (Int.toNat (mx (List.getD x0 (Int.toNat x3) 0) (wi64 (0 - (List.getD x0 (Int.toNat x3) 0))))) (List.getD x2 (Int.toNat (wi64 ((mx (List.getD x0 (Int.toNat x3) 0) (wi64 (0 - (List.getD x0 (Int.toNat x3) 0)))) - 1))) 0)) (Int.toNat (wi64 ((mx (List.getD x0 (Int.toNat x3) 0) (wi64 (0 - (List.getD x0 (Int.toNat x3) 0)))) - 1))) (List.getD x2 (Int.toNat (mx (List.getD x0 (Int.toNat x3) 0) (wi64 (0 - (List.getD x0 (Int.toNat x3) 0))))) 0)), tI (wi64 (x3 + 1))]
              else none
            else none
          else none
        else none
      else none
    else none
  else
    some [tI 0, tA8 x1, tA8 x2]
theorem es_l01Strands_7 (call : Oracle) (x0 : List Int) (x1 : List Int) (x2 : List Int) (x3 : Int) : run1 E call is_l01Strands_7 [tLI x0, tA8 x1, tA8 x2, tI x3] = bs_l01Strands_7 call x0 x1 x2 x3 := by kernel_rfl
theorem vs_l01Strands_7 (x0 : List Int) (x1 : List Int) (x2 : List Int) (x3 : Int) {o : List TV} (h : bs_l01Strands_7 R x0 x1 x2 x3 = some o) : R is_l01Strands_7 [tLI x0, tA8 x1, tA8 x2, tI x3] = some o := ev_step ((es_l01Strands_7 R x0 x1 x2 x3).trans h)
/-- spec.l01Strands -/
noncomputable def bs_l01Strands (call : Oracle) (a0 : Int) (a1 : List Int) : Option (List TV) :=
  (call is_l01Strands_3 [tLI a1, tA8 (List.replicate 8 0), tA8 (List.replicate 8 0), tI a0, tI 0]).bind fun o1 =>
  (call is_l01Strands_7 [tLI (gLI o1 1), tA8 (gA8 o1 2), tA8 (gA8 o1 3), tI 0]).bind fun o2 =>
  some [tA8 (gA8 o2 2)]
theorem es_l01Strands (call : Oracle) (a0 : Int) (a1 : List Int) : run1 E call is_l01Strands [tI a0, tLI a1] = bs_l01Strands call a0 a1 := by kernel_rfl
theorem vs_l01Strands (a0 : Int) (a1 : List Int) {o : List TV} (h : bs_l01Strands R a0 a1 = some o) : R is_l01Strands [tI a0, tLI a1] = some o := ev_step ((es_l01Strands R a0 a1).trans h)
/-- spec.l01Perm loop 3 -/
noncomputable def bs_l01Perm_3 (call : Oracle) (x0 : List Int) (x1 : List Int) (x2 : List Int) (x3 : Int) (x4 : Int) : Option (List TV) :=
  bif decide (x4 < x3) then
    bif (decide (0 ≤ x4) && decide (x4 < 8)) then
      bif (decide (0 ≤ (List.getD x1 (Int.toNat x4) 0)) && decide ((List.getD x1 (Int.toNat x4) 0) < 8)) then
        call is_l01Perm_3 [tA8 x0, tA8 x1, tA8 (List.set x2 (Int.toNat (List.getD x1 (Int.toNat x4) 0)) (wu8 (x4))), tI x3, tI (wi64 (x4 + 1))]
      else none
    else none
  else
    some [tI 0, tA8 x0, tA8 x2]
theorem es_l01Perm_3 (call : Oracle) (x0 : List Int) (x1 : List Int) (x2 : List Int) (x3 : Int) (x4 : Int) : run1 E call is_l01Perm_3 [tA8 x0, tA8 x1, tA8 x2, tI x3, tI x4] = bs_l01Perm_3 call x0 x1 x2 x3 x4 := by kernel_rfl
theorem vs_l01Perm_3 (x0 : List Int) (x1 : List Int) (x2 : List Int) (x3 : Int) (x4 : Int) {o : List TV} (h : bs_l01Perm_3 R x0 x1 x2 x3 x4 = some o) : R is_l01Perm_3 [tA8 x0, tA8 x1, tA8 x2, tI x3, tI x4] = some o := ev_step ((es_l01Perm_3 R x0 x1 x2 x3 x4).trans h)
/-- spec.l01Perm -/
noncomputable def bs_l01Perm (call : Oracle) (a0 : Int) (a1 : List Int) : Option (List TV) :=
  (call is_l01Strands [tI a0, tLI a1]).bind fun o1 =>
  (call is_l01Perm_3 [tA8 (List.replicate 8 0), tA8 (gA8 o1 0), tA8 (List.replicate 8 0), tI a0, tI 0]).bind fun o2 =>
  some [tA8 (gA8 o2 2)]
theorem es_l01Perm (call : Oracle) (a0 : Int) (a1 : List Int) : run1 E call is_l01Perm [tI a0, tLI a1] = bs_l01Perm call a0 a1 := by kernel_rfl
theorem vs_l01Perm (a0 : Int) (a1 : List Int) {o : List TV} (h : bs_l01Perm R a0 a1 = some o) : R is_l01Perm [tI a0, tLI a1] = some o := ev_step ((es_l01Perm R a0 a1).trans h)
/-- spec.l07Fine -/
noncomputable def bs_l07Fine (call : Oracle) (a0 : Int) : Option (List TV) :=
  (call is_l01Perm [tI a0, tLI []]).bind fun o1 =>
  some [tA8 (gA8 o1 0)]
theorem es_l07Fine (call : Oracle) (a0 : Int) : run1 E call is_l07Fine [tI a0] = bs_l07Fine call a0 := by kernel_rfl
theorem vs_l07Fine (a0 : Int) {o : List TV} (h : bs_l07Fine R a0 = some o) : R is_l07Fine [tI a0] = some o := ev_step ((es_l07Fine R a0).trans h)
/-- spec.l07Dual loop 5 -/
noncomputable def bs_l07Dual_5 (call : Oracle) (x0 : Int) (x1 : Int) (x2 : List (List Int)) (x3 : Int) (x4 : Int) : Option (List TV) :=
  bif decide (x4 < ((List.length x2 : Nat) : Int)) then
    bif (decide (0 ≤ x4) && decide (x4 < ((List.length x2 : Nat) : Int))) then
      (call is_l07Is [tA8 (List.getD x2 (Int.toNat x4) (List.replicate 8 0)), tI x3]).bind fun o9 =>
      bif (!(gB o9 0)) then
        some [tI 1, tB false]
      else
        (call is_l07Fine [tI x3]).bind fun o10 =>
        bif ((List.getD x2 (Int.toNat x4) (List.replicate 8 0)) == (gA8 o10 0)) then
          some [tI 1, tB false]
        else
          (call is_l07Whole [tI x3]).bind fun o11 =>
          bif ((List.getD x2 (Int.toNat x4) (List.replicate 8 0)) == (gA8 o11 0)) then
            some [tI 1, tB false]
          else
            bif decide (0 < x4) then
              bif (decide (0 ≤ (wi64 (x4 - 1))) && decide ((wi64 (x4 - 1)) < ((List.length x2 : Nat) : Int))) then
                (call is_l07Complement [tA8 (List.getD x2 (Int.toNat (wi64 (x4 - 1))) (List.replicate 8 0)), tI x3]).bind fun o12 =>
                (call is_l07Meet [tA8 (gA8 o12 0), tA8 (List.getD x2 (Int.toNat x4) (List.replicate 8 0)), tI x3]).bind fun o13 =>
                (call is_l07Fine [tI x3]).bind fun o14 =>
                bif ((gA8 o13 0) != (gA8 o14 0)) then
                  some [tI 1, tB false]
                else
                  call is_l07Dual_5 [tI x0, tI x1, tLA8 x2, tI x3, tI (wi64 (x4 + 1))]
              else none
            else
              call is_l07Dual_5 [tI x0, tI x1, tLA8 x2, tI x3, tI (wi64 (x4 + 1))]
    else none
  else
    some [tI 0]
theorem es_l07Dual_5 (call : Oracle) (x0 : Int) (x1 : Int) (x2 : List (List Int)) (x3 : Int) (x4 : Int) : run1 E call is_l07Dual_5 [tI x0, tI x1, tLA8 x2, tI x3, tI x4] = bs_l07Dual_5 call x0 x1 x2 x3 x4 := by kernel_rfl
theorem vs_l07Dual_5 (x0 : Int) (x1 : Int) (x2 : List (List Int)) (x3 : Int) (x4 : Int) {o : List TV} (h : bs_l07Dual_5 R x0 x1 x2 x3 x4 = some o) : R is_l07Dual_5 [tI x0, tI x1, tLA8 x2, tI x3, tI x4] = some o := ev_step ((es_l07Dual_5 R x0 x1 x2 x3 x4).trans h)
/-- spec.l07Dual -/
noncomputable def bs_l07Dual (call : Oracle) (a0 : Int × Int × List (List Int)) : Option (List TV) :=
  (call is_l01In [tI a0.1, tI 1, tI 8]).bind fun o1 =>
  bif (!(gB o1 0)) then
    some [tB false]
  else
    (call is_l01In [tI a0.2.1, tI (-400), tI 400]).bind fun o2 =>
    bif (!(gB o2 0)) then
      some [tB false]
    else
      bif decide (400 < ((List.length a0.2.2 : Nat) : Int)) then
        some [tB false]
      else
        bif decide (a0.1 < 2) then
          bif (a0.2.1 != 0) then
            some [tB false]
          else
            (call is_l07Dual_5 [tI a0.1, tI a0.2.1, tLA8 a0.2.2, tI a0.1, tI 0]).bind fun o15 =>
            bif ((gI o15 0) == 0) then
              some [tB true]
            else
              some [tB (gB o15 1)]
        else
          (call is_l07Dual_5 [tI a0.1, tI a0.2.1, tLA8 a0.2.2, tI a0.1, tI 0]).bind fun o16 =>
          bif ((gI o16 0) == 0) then
            some [tB true]
          else
            some [tB (gB o16 1)]
theorem es_l07Dual (call : Oracle) (a0 : Int × Int × List (List Int)) : run1 E call is_l07Dual [tPIPILA8 a0] = bs_l07Dual call a0 := by kernel_rfl
theorem vs_l07Dual (a0 : Int × Int × List (List Int)) {o : List TV} (h : bs_l07Dual R a0 = some o) : R is_l07Dual [tPIPILA8 a0] = some o := ev_step ((es_l07Dual R a0).trans h)
/-- spec.IsDual -/
noncomputable def bs_IsDual (call : Oracle) (a0 : Int × Int × List (List Int)) : Option (List TV) :=
  (call is_l07Dual [tPIPILA8 (a0.1, (a0.2.1, a0.2.2))]).bind fun o1 =>
  some [tB (gB o1 0)]
theorem es_IsDual (call : Oracle) (a0 : Int × Int × List (List Int)) : run1 E call is_IsDual [tPIPILA8 a0] = bs_IsDual call a0 := by kernel_rfl
theorem vs_IsDual (a0 : Int × Int × List (List Int)) {o : List TV} (h : bs_IsDual R a0 = some o) : R is_IsDual [tPIPILA8 a0] = some o := ev_step ((es_IsDual R a0).trans h)
/-- impl.nothing loop 3 -/
noncomputable def bi_nothing_3 (call : Oracle) (x0 : List Int) (x1 : List Int) (x2 : Int) (x3 : Int) : Option (List TV) :=
  bif decide (x3 < x2) then
    bif (decide (0 ≤ x3) && decide (x3 < 8)) then
      call ii_nothing_3 [tA8 x0, tA8 (List.set x1 (Int.toNat x3) (wu8 (x3))), tI x2, tI (wi64 (x3 + 1))]
    else none
  else
    some [tI 0, tA8 x0, tA8 x1]
theorem ei_nothing_3 (call : Oracle) (x0 : List Int) (x1 : List Int) (x2 : Int) (x3 : Int) : run1 E call ii_nothing_3 [tA8 x0, tA8 x1, tI x2, tI x3] = bi_nothing_3 call x0 x1 x2 x3 := by kernel_rfl
theorem vi_nothing_3 (x0 : List Int) (x1 : List Int) (x2 : Int) (x3 : Int) {o : List TV} (h : bi_nothing_3 R x0 x1 x2 x3 = some o) : R ii_nothing_3 [tA8 x0, tA8 x1, tI x2, tI x3] = some o := ev_step ((ei_nothing_3 R x0 x1 x2 x3).trans h)
/-- impl.nothing -/
noncomputable def bi_nothing (call : Oracle) (a0 : Int) : Option (List TV) :=
  (call ii_nothing_3 [tA8 (List.replicate 8 0), tA8 (List.replicate 8 0), tI a0, tI 0]).bind fun o1 =>
  some [tA8 (gA8 o1 2)]
theorem ei_nothing (call : Oracle) (a0 : Int) : run1 E call ii_nothing [tI a0] = bi_nothing call a0 := by kernel_rfl
theorem vi_nothing (a0 : Int) {o : List TV} (h : bi_nothing R a0 = some o) : R ii_nothing [tI a0] = some o := ev_step ((ei_nothing R a0).trans h)
/-- impl.finePart -/
noncomputable def bi_finePart (call : Oracle) (a0 : Int) : Option (List TV) :=
  (call ii_nothing [tI a0]).bind fun o1 =>
  some [tA8 (gA8 o1 0)]
theorem ei_finePart (call : Oracle) (a0 : Int) : run1 E call ii_finePart [tI a0] = bi_finePart call a0 := by kernel_rfl
theorem vi_finePart (a0 : Int) {o : List TV} (h : bi_finePart R a0 = some o) : R ii_finePart [tI a0] = some o := ev_step ((ei_finePart R a0).trans h)
/-- impl.IsDual loop 5 -/
noncomputable def bi_IsDual_5 (call : Oracle) (x0 : Int) (x1 : Int) (x2 : List (List Int)) (x3 : Int) (x4 : Int) (x5 : Int) : Option (List TV) :=
  bif decide (x5 < x4) then
    bif (decide (0 ≤ x5) && decide (x5 < ((List.length x2 : Nat) : Int))) then
      (call ii_IsPart [tA8 (List.getD x2 (Int.toNat x5) (List.replicate 8 0)), tI x3]).bind fun o9 =>
      bif (!(gB o9 0)) then
        some [tI 1, tB false]
      else
        (call ii_finePart [tI x3]).bind fun o10 =>
        bif ((List.getD x2 (Int.toNat x5) (List.replicate 8 0)) == (gA8 o10 0)) then
          some [tI 1, tB false]
        else
          (call ii_wholePart [tI x3]).bind fun o11 =>
          bif ((List.getD x2 (Int.toNat x5) (List.replicate 8 0)) == (gA8 o11 0)) then
            some [tI 1, tB false]
          else
            bif decide (0 < x5) then
              bif (decide (0 ≤ (wi64 (x5 - 1))) && decide ((wi64 (x5 - 1)) < ((List.length x2 : Nat) : Int))) then
                (call ii_complementPart [tA8 (List.getD x2 (Int.toNat (wi64 (x5 - 1))) (List.replicate 8 0)), tI x3]).bind fun o12 =>
                (call ii_meetParts [tA8 (gA8 o12 0), tA8 (List.getD x2 (Int.toNat x5) (List.replicate 8 0)), tI x3]).bind fun o13 =>
                (call ii_finePart [tI x3]).bind fun o14 =>
                bif ((gA8 o13 0) != (gA8 o14 0)) then
                  some [tI 1, tB false]
                else
                  call ii_IsDual_5 [tI x0, tI x1, tLA8 x2, tI x3, tI x4, tI (wi64 (x5 + 1))]
              else none
            else
              call ii_IsDual_5 [tI x0, tI x1, tLA8 x2, tI x3, tI x4, tI (wi64 (x5 + 1))]
    else none
  else
    some [tI 0]
theorem ei_IsDual_5 (call : Oracle) (x0 : Int) (x1 : Int) (x2 : List (List Int)) (x3 : Int) (x4 : Int) (x5 : Int) : run1 E call ii_IsDual_5 [tI x0, tI x1, tLA8 x2, tI x3, tI x4, tI x5] = bi_IsDual_5 call x0 x1 x2 x3 x4 x5 := by kernel_rfl
theorem vi_IsDual_5 (x0 : Int) (x1 : Int) (x2 : List (List Int)) (x3 : Int) (x4 : Int) (x5 : Int) {o : List TV} (h : bi_IsDual_5 R x0 x1 x2 x3 x4 x5 = some o) : R ii_IsDual_5 [tI x0, tI x1, tLA8 x2, tI x3, tI x4, tI x5] = some o := ev_step ((ei_IsDual_5 R x0 x1 x2 x3 x4 x5).trans h)
/-- impl.IsDual -/
noncomputable def bi_IsDual (call : Oracle) (a0 : Int × Int × List (List Int)) : Option (List TV) :=
  (call ii_isCount [tI a0.1]).bind fun o1 =>
  bif (!(gB o1 0)) then
    some [tB false]
  else
    (call ii_within [tI a0.2.1, tI (-400), tI 400]).bind fun o2 =>
    bif (!(gB o2 0)) then
      some [tB false]
    else
      bif decide (400 < ((List.length a0.2.2 : Nat) : Int)) then
        some [tB false]
      else
        bif (a0.1 == 1) then
          bif (a0.2.1 != 0) then
            some [tB false]
          else
            (call ii_IsDual_5 [tI a0.1, tI a0.2.1, tLA8 a0.2.2, tI a0.1, tI ((List.length a0.2.2 : Nat) : Int), tI 0]).bind fun o15 =>
            bif ((gI o15 0) == 0) then
              some [tB true]
            else
              some [tB (gB o15 1)]
        else
          (call ii_IsDual_5 [tI a0.1, tI a0.2.1, tLA8 a0.2.2, tI a0.1, tI ((List.length a0.2.2 : Nat) : Int), tI 0]).bind fun o16 =>
          bif ((gI o16 0) == 0) then
            some [tB true]
          else
            some [tB (gB o16 1)]
theorem ei_IsDual (call : Oracle) (a0 : Int × Int × List (List Int)) : run1 E call ii_IsDual [tPIPILA8 a0] = bi_IsDual call a0 := by kernel_rfl
theorem vi_IsDual (a0 : Int × Int × List (List Int)) {o : List TV} (h : bi_IsDual R a0 = some o) : R ii_IsDual [tPIPILA8 a0] = some o := ev_step ((ei_IsDual R a0).trans h)
/-- laws.eqPartS loop 4 -/
noncomputable def bw_eqPartS_4 (call : Oracle) (x0 : List (List Int)) (x1 : List (List Int)) (x2 : Int) : Option (List TV) :=
  bif decide (x2 < ((List.length x0 : Nat) : Int)) then
    bif (decide (0 ≤ x2) && decide (x2 < ((List.length x0 : Nat) : Int))) then
      bif (decide (0 ≤ x2) && decide (x2 < ((List.length x1 : Nat) : Int))) then
        (call iw_eqPart [tA8 (List.getD x0 (Int.toNat x2) (List.replicate 8 0)), tA8 (List.getD x1 (Int.toNat x2) (List.replicate 8 0))]).bind fun o2 =>
        bif (!(gB o2 0)) then
          some [tI 1, tB false]
        else
          call iw_eqPartS_4 [tLA8 x0, tLA8 x1, tI (wi64 (x2 + 1))]
      else none
    else none
  else
    some [tI 0]
theorem ew_eqPartS_4 (call : Oracle) (x0 : List (List Int)) (x1 : List (List Int)) (x2 : Int) : run1 E call iw_eqPartS_4 [tLA8 x0, tLA8 x1, tI x2] = bw_eqPartS_4 call x0 x1 x2 := by kernel_rfl
theorem vw_eqPartS_4 (x0 : List (List Int)) (x1 : List (List Int)) (x2 : Int) {o : List TV} (h : bw_eqPartS_4 R x0 x1 x2 = some o) : R iw_eqPartS_4 [tLA8 x0, tLA8 x1, tI x2] = some o := ev_step ((ew_eqPartS_4 R x0 x1 x2).trans h)
/-- laws.eqPartS -/
noncomputable def bw_eqPartS (call : Oracle) (a0 : List (List Int)) (a1 : List (List Int)) : Option (List TV) :=
  bif (((List.length a0 : Nat) : Int) != ((List.length a1 : Nat) : Int)) then
    some [tB false]
  else
    (call iw_eqPartS_4 [tLA8 a0, tLA8 a1, tI 0]).bind fun o3 =>
    bif ((gI o3 0) == 0) then
      some [tB true]
    else
      some [tB (gB o3 1)]
theorem ew_eqPartS (call : Oracle) (a0 : List (List Int)) (a1 : List (List Int)) : run1 E call iw_eqPartS [tLA8 a0, tLA8 a1] = bw_eqPartS call a0 a1 := by kernel_rfl
theorem vw_eqPartS (a0 : List (List Int)) (a1 : List (List Int)) {o : List TV} (h : bw_eqPartS R a0 a1 = some o) : R iw_eqPartS [tLA8 a0, tLA8 a1] = some o := ev_step ((ew_eqPartS R a0 a1).trans h)
/-- laws.eqDual -/
noncomputable def bw_eqDual (call : Oracle) (a0 : Int × Int × List (List Int)) (a1 : Int × Int × List (List Int)) : Option (List TV) :=
  bif (a0.1 != a1.1) then
    some [tB false]
  else
    bif (a0.2.1 != a1.2.1) then
      some [tB false]
    else
      (call iw_eqPartS [tLA8 a0.2.2, tLA8 a1.2.2]).bind fun o1 =>
      bif (!(gB o1 0)) then
        some [tB false]
      else
        some [tB true]
theorem ew_eqDual (call : Oracle) (a0 : Int × Int × List (List Int)) (a1 : Int × Int × List (List Int)) : run1 E call iw_eqDual [tPIPILA8 a0, tPIPILA8 a1] = bw_eqDual call a0 a1 := by kernel_rfl
theorem vw_eqDual (a0 : Int × Int × List (List Int)) (a1 : Int × Int × List (List Int)) {o : List TV} (h : bw_eqDual R a0 a1 = some o) : R iw_eqDual [tPIPILA8 a0, tPIPILA8 a1] = some o := ev_step ((ew_eqDual R a0 a1).trans h)
/-- laws.FnExactIsDual -/
noncomputable def bw_FnExactIsDual (call : Oracle) (a0 : Int × Int × List (List Int)) : Option (List TV) :=
  (call iw_szDual [tPIPILA8 (a0.1, (a0.2.1, a0.2.2)), tI 1048576]).bind fun o1 =>
  bif decide ((gI o1 0) < 0) then
    some [tB true]
  else
    (call iw_toDual [tPIPILA8 (a0.1, (a0.2.1, a0.2.2))]).bind fun o2 =>
    (call is_IsDual [tPIPILA8 ((gPIPILA8 o2 0).1, (((gPIPILA8 o2 0).2).1, ((gPIPILA8 o2 0).2).2))]).bind fun o3 =>
    (call iw_toDual [tPIPILA8 (a0.1, (a0.2.1, a0.2.2))]).bind fun o4 =>
    (call ii_IsDual [tPIPILA8 ((gPIPILA8 o4 0).1, (((gPIPILA8 o4 0).2).1, ((gPIPILA8 o4 0).2).2))]).bind fun o5 =>
    bif ((gB o5 0) != (gB o3 0)) then
      some [tB false]
    else
      (call iw_toDual [tPIPILA8 (a0.1, (a0.2.1, a0.2.2))]).bind fun o6 =>
      (call iw_eqDual [tPIPILA8 ((gPIPILA8 o4 0).1, (((gPIPILA8 o4 0).2).1, ((gPIPILA8 o4 0).2).2)), tPIPILA8 ((gPIPILA8 o6 0).1, (((gPIPILA8 o6 0).2).1, ((gPIPILA8 o6 0).2).2))]).bind fun o7 =>
      bif (!(gB o7 0)) then
        some [tB false]
      else
        some [tB true]
theorem ew_FnExactIsDual (call : Oracle) (a0 : Int × Int × List (List Int)) : run1 E call iw_FnExactIsDual [tPIPILA8 a0] = bw_FnExactIsDual call a0 := by kernel_rfl
theorem vw_FnExactIsDual (a0 : Int × Int × List (List Int)) {o : List TV} (h : bw_FnExactIsDual R a0 = some o) : R iw_FnExactIsDual [tPIPILA8 a0] = some o := ev_step ((ew_FnExactIsDual R a0).trans h)
/-- laws.szInt64S -/
noncomputable def bw_szInt64S (call : Oracle) (a0 : List Int) (a1 : Int) : Option (List TV) :=
  bif decide ((wi64 (a1 - ((List.length a0 : Nat) : Int))) < 0) then
    some [tI (-1)]
  else
    some [tI (wi64 (a1 - ((List.length a0 : Nat) : Int)))]
theorem ew_szInt64S (call : Oracle) (a0 : List Int) (a1 : Int) : run1 E call iw_szInt64S [tLI a0, tI a1] = bw_szInt64S call a0 a1 := by kernel_rfl
theorem vw_szInt64S (a0 : List Int) (a1 : Int) {o : List TV} (h : bw_szInt64S R a0 a1 = some o) : R iw_szInt64S [tLI a0, tI a1] = some o := ev_step ((ew_szInt64S R a0 a1).trans h)
/-- laws.szBraid -/
noncomputable def bw_szBraid (call : Oracle) (a0 : Int × List Int) (a1 : Int) : Option (List TV) :=
  (call iw_szInt64S [tLI a0.2, tI a1]).bind fun o1 =>
  bif decide ((gI o1 0) < 0) then
    some [tI (-1)]
  else
    some [tI (gI o1 0)]
theorem ew_szBraid (call : Oracle) (a0 : Int × List Int) (a1 : Int) : run1 E call iw_szBraid [tPILI a0, tI a1] = bw_szBraid call a0 a1 := by kernel_rfl
theorem vw_szBraid (a0 : Int × List Int) (a1 : Int) {o : List TV} (h : bw_szBraid R a0 a1 = some o) : R iw_szBraid [tPILI a0, tI a1] = some o := ev_step ((ew_szBraid R a0 a1).trans h)
/-- laws.toInt64S loop 3 -/
noncomputable def bw_toInt64S_3 (call : Oracle) (x0 : List Int) (x1 : List Int) (x2 : Int) : Option (List TV) :=
  bif decide (x2 < ((List.length x0 : Nat) : Int)) then
    bif (decide (0 ≤ x2) && decide (x2 < ((List.length x0 : Nat) : Int))) then
      bif (decide (0 ≤ x2) && decide (x2 < ((List.length x1 : Nat) : Int))) then
        call iw_toInt64S_3 [tLI x0, tLI (List.set x1 (Int.toNat x2) (List.getD x0 (Int.toNat x2) 0)), tI (wi64 (x2 + 1))]
      else none
    else none
  else
    some [tI 0, tLI x1]
theorem ew_toInt64S_3 (call : Oracle) (x0 : List Int) (x1 : List Int) (x2 : Int) : run1 E call iw_toInt64S_3 [tLI x0, tLI x1, tI x2] = bw_toInt64S_3 call x0 x1 x2 := by kernel_rfl
theorem vw_toInt64S_3 (x0 : List Int) (x1 : List Int) (x2 : Int) {o : List TV} (h : bw_toInt64S_3 R x0 x1 x2 = some o) : R iw_toInt64S_3 [tLI x0, tLI x1, tI x2] = some o := ev_step ((ew_toInt64S_3 R x0 x1 x2).trans h)
/-- laws.toInt64S -/
noncomputable def bw_toInt64S (call : Oracle) (a0 : List Int) : Option (List TV) :=
  bif (mkOk ((List.length a0 : Nat) : Int)) then
    (call iw_toInt64S_3 [tLI a0, tLI (List.replicate (Int.toNat ((List.length a0 : Nat) : Int)) 0), tI 0]).bind fun o1 =>
    some [tLI (gLI o1 1)]
  else none
theorem ew_toInt64S (call : Oracle) (a0 : List Int) : run1 E call iw_toInt64S [tLI a0] = bw_toInt64S call a0 := by kernel_rfl
theorem vw_toInt64S (a0 : List Int) {o : List TV} (h : bw_toInt64S R a0 = some o) : R iw_toInt64S [tLI a0] = some o := ev_step ((ew_toInt64S R a0).trans h)
/-- laws.toBraid -/
noncomputable def bw_toBraid (call : Oracle) (a0 : Int × List Int) : Option (List TV) :=
  (call iw_toInt64S [tLI a0.2]).bind fun o1 =>
  some [tPILI (a0.1, (gLI o1 0))]
theorem ew_toBraid (call : Oracle) (a0 : Int × List Int) : run1 E call iw_toBraid [tPILI a0] = bw_toBraid call a0 := by kernel_rfl
theorem vw_toBraid (a0 : Int × List Int) {o : List TV} (h : bw_toBraid R a0 = some o) : R iw_toBraid [tPILI a0] = some o := ev_step ((ew_toBraid R a0).trans h)
/-- spec.l01Is loop 4 -/
noncomputable def bs_l01Is_4 (call : Oracle) (x0 : Int) (x1 : List Int) (x2 : Int) : Option (List TV) :=
  bif decide (x2 < ((List.length x1 : Nat) : Int)) then
    bif (decide (0 ≤ x2) && decide (x2 < ((List.length x1 : Nat) : Int))) then
      (call is_l01In [tI (List.getD x1 (Int.toNat x2) 0), tI 1, tI (wi64 (x0 - 1))]).bind fun o4 =>
      bif (!(gB o4 0)) then
        (call is_l01In [tI (wi64 (0 - (List.getD x1 (Int.toNat x2) 0))), tI 1, tI (wi64 (x0 - 1))]).bind fun o5 =>
        bif (!(gB o5 0)) then
          some [tI 1, tB false]
        else
          call is_l01Is_4 [tI x0, tLI x1, tI (wi64 (x2 + 1))]
      else
        call is_l01Is_4 [tI x0, tLI x1, tI (wi64 (x2 + 1))]
    else none
  else
    some [tI 0]
theorem es_l01Is_4 (call : Oracle) (x0 : Int) (x1 : List Int) (x2 : Int) : run1 E call is_l01Is_4 [tI x0, tLI x1, tI x2] = bs_l01Is_4 call x0 x1 x2 := by kernel_rfl
theorem vs_l01Is_4 (x0 : Int) (x1 : List Int) (x2 : Int) {o : List TV} (h : bs_l01Is_4 R x0 x1 x2 = some o) : R is_l01Is_4 [tI x0, tLI x1, tI x2] = some o := ev_step ((es_l01Is_4 R x0 x1 x2).trans h)
/-- spec.l01Is -/
noncomputable def bs_l01Is (call : Oracle) (a0 : Int × List Int) : Option (List TV) :=
  (call is_l01In [tI a0.1, tI 1, tI 8]).bind fun o1 =>
  bif (!(gB o1 0)) then
    some [tB false]
  else
    bif decide (200 < ((List.length a0.2 : Nat) : Int)) then
      some [tB false]
    else
      (call is_l01Is_4 [tI a0.1, tLI a0.2, tI 0]).bind fun o6 =>
      bif ((gI o6 0) == 0) then
        some [tB true]
      else
        some [tB (gB o6 1)]
theorem es_l01Is (call : Oracle) (a0 : Int × List Int) : run1 E call is_l01Is [tPILI a0] = bs_l01Is call a0 := by kernel_rfl
theorem vs_l01Is (a0 : Int × List Int) {o : List TV} (h : bs_l01Is R a0 = some o) : R is_l01Is [tPILI a0] = some o := ev_step ((es_l01Is R a0).trans h)
/-- spec.l07Put loop 4 -/
noncomputable def bs_l07Put_4 (call : Oracle) (x0 : Int) (x1 : Int) (x2 : List (List Int)) (x3 : Int) (x4 : Int) (x5 : List (List Int)) (x6 : List (List Int)) (x7 : Int) (x8 : Int) : Option (List TV) :=
  bif decide (0 < x8) then
    bif (decide (0 ≤ (wi64 (x8 - 1))) && decide ((wi64 (x8 - 1)) < ((List.length x6 : Nat) : Int))) then
      (call is_l07Complement [tA8 (List.getD x6 (Int.toNat (wi64 (x8 - 1))) (List.replicate 8 0)), tI x7]).bind fun o6 =>
      bif (decide (0 ≤ x8) && decide (x8 < ((List.length x6 : Nat) : Int))) then
        (call is_l07Meet [tA8 (gA8 o6 0), tA8 (List.getD x6 (Int.toNat x8) (List.replicate 8 0)), tI x7]).bind fun o7 =>
        bif (decide (0 ≤ (wi64 (x8 - 1))) && decide ((wi64 (x8 - 1)) < ((List.length x6 : Nat) : Int))) then
          (call is_l07Then [tA8 (List.getD x6 (Int.toNat (wi64 (x8 - 1))) (List.replicate 8 0)), tA8 (gA8 o7 0), tI x7]).bind fun o8 =>
          bif (decide (0 ≤ (wi64 (x8 - 1))) && decide ((wi64 (x8 - 1)) < ((List.length x6 : Nat) : Int))) then
            (call is_l07Back [tA8 (gA8 o7 0), tI x7]).bind fun o9 =>
            bif (decide (0 ≤ x8) && decide (x8 < ((List.length (List.set x6 (Int.toNat (wi64 (x8 - 1))) (gA8 o8 0)) : Nat) : Int))) then
              (call is_l07Then [tA8 (gA8 o9 0), tA8 (List.getD (List.set x6 (Int.toNat (wi64 (x8 - 1))) (gA8 o8 0)) (Int.toNat x8) (List.replicate 8 0)), tI x7]).bind fun o10 =>
              bif (decide (0 ≤ x8) && decide (x8 < ((List.length (List.set x6 (Int.toNat (wi64 (x8 - 1))) (gA8 o8 0)) : Nat) : Int))) then
                call is_l07Put_4 [tI x0, tI x1, tLA8 x2, tI x3, tI x4, tLA8 x5, tLA8 (List.set (List.set x6 (Int.toNat (wi64 (x8 - 1))) (gA8 o8 0)) (Int.toNat x8) (gA8 o10 0)), tI x7, tI (wi64 (x8 - 1))]
              else none
            else none
          else none
        else none
      else none
    else none
  else
    some [tI 0, tI x0, tI x1, tLA8 x2, tI x3, tI x4, tLA8 x5, tLA8 x6, tI x7]
theorem es_l07Put_4 (call : Oracle) (x0 : Int) (x1 : Int) (x2 : List (List Int)) (x3 : Int) (x4 : Int) (x5 : List (List Int)) (x6 : List (List Int)) (x7 : Int) (x8 : Int) : run1 E call is_l07Put_4 [tI x0, tI x1, tLA8 x2, tI x3, tI x4, tLA8 x5, tLA8 x6, tI x7, tI x8] = bs_l07Put_4 call x0 x1 x2 x3 x4 x5 x6 x7 x8 := by kernel_rfl
theorem vs_l07Put_4 (x0 : Int) (x1 : Int) (x2 : List (List Int)) (x3 : Int) (x4 : Int) (x5 : List (List Int)) (x6 : List (List Int)) (x7 : Int) (x8 : Int) {o : List TV} (h : bs_l07Put_4 R x0 x1 x2 x3 x4 x5 x6 x7 x8 = some o) : R is_l07Put_4 [tI x0, tI x1, tLA8 x2, tI x3, tI x4, tLA8 x5, tLA8 x6, tI x7, tI x8] = some o := ev_step ((es_l07Put_4 R x0 x1 x2 x3 x4 x5 x6 x7 x8).trans h)
end Go.Ev.Ytadjhggdddbicaa
