/- Bodies, part 1. -/
import Derived.KernelRfl
import Derived.Test.YtadjhggdddbicaaEnv
set_option linter.unusedVariables false
namespace Go.Ev.Ytadjhggdddbicaa
open Go.Ev
/-- spec.l07Blocks loop 4 -/
noncomputable def bs_l07Blocks_4 (call : Oracle) (x0 : List Int) (x1 : List (List Int)) (x2 : Int) (x3 : Int) : Option (List TV) :=
  bif decide (x3 < x2) then
    bif (decide (0 ≤ x3) && decide (x3 < 8)) then
      bif ((List.getD x0 (Int.toNat x3) 0) != x3) then
        call is_l07Blocks_4 [tAi8 x0, tLLI x1, tI x2, tI (wi64 (x3 + 1))]
      else
        (call is_l07Blocks_9 [tAi8 x0, tLLI x1, tLI [], tI x2, tI x3, tI x3]).bind fun o3 =>
        bif (apOk (gLLI o3 2) [(gLI o3 3)]) then
          call is_l07Blocks_4 [tAi8 (gAi8 o3 1), tLLI ((gLLI o3 2) ++ [(gLI o3 3)]), tI (gI o3 4), tI (wi64 ((gI o3 5) + 1))]
        else none
    else none
  else
    some [tI 0, tLLI x1]
theorem es_l07Blocks_4 (call : Oracle) (x0 : List Int) (x1 : List (List Int)) (x2 : Int) (x3 : Int) : run1 E call is_l07Blocks_4 [tAi8 x0, tLLI x1, tI x2, tI x3] = bs_l07Blocks_4 call x0 x1 x2 x3 := by kernel_rfl
theorem vs_l07Blocks_4 (x0 : List Int) (x1 : List (List Int)) (x2 : Int) (x3 : Int) {o : List TV} (h : bs_l07Blocks_4 R x0 x1 x2 x3 = some o) : R is_l07Blocks_4 [tAi8 x0, tLLI x1, tI x2, tI x3] = some o := ev_step ((es_l07Blocks_4 R x0 x1 x2 x3).trans h)
/-- spec.l07Blocks loop 9 -/
noncomputable def bs_l07Blocks_9 (call : Oracle) (x0 : List Int) (x1 : List (List Int)) (x2 : List Int) (x3 : Int) (x4 : Int) (x5 : Int) : Option (List TV) :=
  bif decide (x5 < x3) then
    bif (decide (0 ≤ x5) && decide (x5 < 8)) then
      bif ((List.getD x0 (Int.toNat x5) 0) == x4) then
        bif (apOk x2 [x5]) then
          call is_l07Blocks_9 [tAi8 x0, tLLI x1, tLI (x2 ++ [x5]), tI x3, tI x4, tI (wi64 (x5 + 1))]
        else none
      else
        call is_l07Blocks_9 [tAi8 x0, tLLI x1, tLI x2, tI x3, tI x4, tI (wi64 (x5 + 1))]
    else none
  else
    some [tI 0, tAi8 x0, tLLI x1, tLI x2, tI x3, tI x4]
theorem es_l07Blocks_9 (call : Oracle) (x0 : List Int) (x1 : List (List Int)) (x2 : List Int) (x3 : Int) (x4 : Int) (x5 : Int) : run1 E call is_l07Blocks_9 [tAi8 x0, tLLI x1, tLI x2, tI x3, tI x4, tI x5] = bs_l07Blocks_9 call x0 x1 x2 x3 x4 x5 := by kernel_rfl
theorem vs_l07Blocks_9 (x0 : List Int) (x1 : List (List Int)) (x2 : List Int) (x3 : Int) (x4 : Int) (x5 : Int) {o : List TV} (h : bs_l07Blocks_9 R x0 x1 x2 x3 x4 x5 = some o) : R is_l07Blocks_9 [tAi8 x0, tLLI x1, tLI x2, tI x3, tI x4, tI x5] = some o := ev_step ((es_l07Blocks_9 R x0 x1 x2 x3 x4 x5).trans h)
/-- spec.l07Blocks -/
noncomputable def bs_l07Blocks (call : Oracle) (a0 : List Int) (a1 : Int) : Option (List TV) :=
  (call is_l07Least [tA8 a0, tI a1]).bind fun o1 =>
  (call is_l07Blocks_4 [tAi8 (gAi8 o1 0), tLLI [], tI a1, tI 0]).bind fun o4 =>
  some [tLLI (gLLI o4 1)]
theorem es_l07Blocks (call : Oracle) (a0 : List Int) (a1 : Int) : run1 E call is_l07Blocks [tA8 a0, tI a1] = bs_l07Blocks call a0 a1 := by kernel_rfl
theorem vs_l07Blocks (a0 : List Int) (a1 : Int) {o : List TV} (h : bs_l07Blocks R a0 a1 = some o) : R is_l07Blocks [tA8 a0, tI a1] = some o := ev_step ((es_l07Blocks R a0 a1).trans h)
/-- spec.RankOf -/
noncomputable def bs_RankOf (call : Oracle) (a0 : List Int) (a1 : Int) : Option (List TV) :=
  (call is_l07Is [tA8 a0, tI a1]).bind fun o1 =>
  bif (!(gB o1 0)) then
    some [tI 0, tI 1]
  else
    (call is_l07Blocks [tA8 a0, tI a1]).bind fun o2 =>
    some [tI (wi64 (a1 - ((List.length (gLLI o2 0) : Nat) : Int))), tI 0]
theorem es_RankOf (call : Oracle) (a0 : List Int) (a1 : Int) : run1 E call is_RankOf [tA8 a0, tI a1] = bs_RankOf call a0 a1 := by kernel_rfl
theorem vs_RankOf (a0 : List Int) (a1 : Int) {o : List TV} (h : bs_RankOf R a0 a1 = some o) : R is_RankOf [tA8 a0, tI a1] = some o := ev_step ((es_RankOf R a0 a1).trans h)
/-- impl.blocksOf loop 4 -/
noncomputable def bi_blocksOf_4 (call : Oracle) (x0 : List Int) (x1 : List (List Int)) (x2 : Int) (x3 : Int) (x4 : Int) : Option (List TV) :=
  bif decide (x4 < x3) then
    bif (decide (0 ≤ x4) && decide (x4 < ((List.length x0 : Nat) : Int))) then
      bif ((List.getD x0 (Int.toNat x4) 0) != x4) then
        call ii_blocksOf_4 [tLI x0, tLLI x1, tI x2, tI x3, tI (wi64 (x4 + 1))]
      else
        (call ii_blocksOf_9 [tLI x0, tLLI x1, tLI [], tI x2, tI x4, tI x4, tI x3, tI x4]).bind fun o3 =>
        bif (apOk (gLLI o3 2) [(gLI o3 3)]) then
          call ii_blocksOf_4 [tLI (gLI o3 1), tLLI ((gLLI o3 2) ++ [(gLI o3 3)]), tI (gI o3 4), tI (gI o3 5), tI (wi64 ((gI o3 6) + 1))]
        else none
    else none
  else
    some [tI 0, tLLI x1]
theorem ei_blocksOf_4 (call : Oracle) (x0 : List Int) (x1 : List (List Int)) (x2 : Int) (x3 : Int) (x4 : Int) : run1 E call ii_blocksOf_4 [tLI x0, tLLI x1, tI x2, tI x3, tI x4] = bi_blocksOf_4 call x0 x1 x2 x3 x4 := by kernel_rfl
theorem vi_blocksOf_4 (x0 : List Int) (x1 : List (List Int)) (x2 : Int) (x3 : Int) (x4 : Int) {o : List TV} (h : bi_blocksOf_4 R x0 x1 x2 x3 x4 = some o) : R ii_blocksOf_4 [tLI x0, tLLI x1, tI x2, tI x3, tI x4] = some o := ev_step ((ei_blocksOf_4 R x0 x1 x2 x3 x4).trans h)
/-- impl.blocksOf loop 9 -/
noncomputable def bi_blocksOf_9 (call : Oracle) (x0 : List Int) (x1 : List (List Int)) (x2 : List Int) (x3 : Int) (x4 : Int) (x5 : Int) (x6 : Int) (x7 : Int) : Option (List TV) :=
  bif decide (x5 < x3) then
    bif (decide (0 ≤ x5) && decide (x5 < ((List.length x0 : Nat) : Int))) then
      bif ((List.getD x0 (Int.toNat x5) 0) == x4) then
        bif (apOk x2 [x5]) then
          call ii_blocksOf_9 [tLI x0, tLLI x1, tLI (x2 ++ [x5]), tI x3, tI x4, tI (wi64 (x5 + 1)), tI x6, tI x7]
        else none
      else
        call ii_blocksOf_9 [tLI x0, tLLI x1, tLI x2, tI x3, tI x4, tI (wi64 (x5 + 1)), tI x6, tI x7]
    else none
  else
    some [tI 0, tLI x0, tLLI x1, tLI x2, tI x3, tI x6, tI x7]
theorem ei_blocksOf_9 (call : Oracle) (x0 : List Int) (x1 : List (List Int)) (x2 : List Int) (x3 : Int) (x4 : Int) (x5 : Int) (x6 : Int) (x7 : Int) : run1 E call ii_blocksOf_9 [tLI x0, tLLI x1, tLI x2, tI x3, tI x4, tI x5, tI x6, tI x7] = bi_blocksOf_9 call x0 x1 x2 x3 x4 x5 x6 x7 := by kernel_rfl
theorem vi_blocksOf_9 (x0 : List Int) (x1 : List (List Int)) (x2 : List Int) (x3 : Int) (x4 : Int) (x5 : Int) (x6 : Int) (x7 : Int) {o : List TV} (h : bi_blocksOf_9 R x0 x1 x2 x3 x4 x5 x6 x7 = some o) : R ii_blocksOf_9 [tLI x0, tLLI x1, tLI x2, tI x3, tI x4, tI x5, tI x6, tI x7] = some o := ev_step ((ei_blocksOf_9 R x0 x1 x2 x3 x4 x5 x6 x7).trans h)
/-- impl.blocksOf -/
noncomputable def bi_blocksOf (call : Oracle) (a0 : List Int) (a1 : Int) : Option (List TV) :=
  (call ii_groupsOf [tA8 a0, tI a1]).bind fun o1 =>
  (call ii_blocksOf_4 [tLI (gLI o1 0), tLLI [], tI a1, tI a1, tI 0]).bind fun o4 =>
  some [tLLI (gLLI o4 1)]
theorem ei_blocksOf (call : Oracle) (a0 : List Int) (a1 : Int) : run1 E call ii_blocksOf [tA8 a0, tI a1] = bi_blocksOf call a0 a1 := by kernel_rfl
theorem vi_blocksOf (a0 : List Int) (a1 : Int) {o : List TV} (h : bi_blocksOf R a0 a1 = some o) : R ii_blocksOf [tA8 a0, tI a1] = some o := ev_step ((ei_blocksOf R a0 a1).trans h)
/-- impl.RankOf -/
noncomputable def bi_RankOf (call : Oracle) (a0 : List Int) (a1 : Int) : Option (List TV) :=
  (call ii_IsPart [tA8 a0, tI a1]).bind fun o1 =>
  bif (!(gB o1 0)) then
    some [tI 0, tI 1]
  else
    (call ii_blocksOf [tA8 a0, tI a1]).bind fun o2 =>
    some [tI (wi64 (a1 - ((List.length (gLLI o2 0) : Nat) : Int))), tI 0]
theorem ei_RankOf (call : Oracle) (a0 : List Int) (a1 : Int) : run1 E call ii_RankOf [tA8 a0, tI a1] = bi_RankOf call a0 a1 := by kernel_rfl
theorem vi_RankOf (a0 : List Int) (a1 : Int) {o : List TV} (h : bi_RankOf R a0 a1 = some o) : R ii_RankOf [tA8 a0, tI a1] = some o := ev_step ((ei_RankOf R a0 a1).trans h)
/-- laws.FnExactRankOf -/
noncomputable def bw_FnExactRankOf (call : Oracle) (a0 : List Int) (a1 : Int) : Option (List TV) :=
  (call iw_toPart [tA8 a0]).bind fun o1 =>
  (call is_RankOf [tA8 (gA8 o1 0), tI a1]).bind fun o2 =>
  (call iw_toPart [tA8 a0]).bind fun o3 =>
  (call ii_RankOf [tA8 (gA8 o3 0), tI a1]).bind fun o4 =>
  bif ((gI o4 0) != (gI o2 0)) then
    some [tB false]
  else
    bif ((gI o4 1) != (gI o2 1)) then
      some [tB false]
    else
      some [tB true]
theorem ew_FnExactRankOf (call : Oracle) (a0 : List Int) (a1 : Int) : run1 E call iw_FnExactRankOf [tA8 a0, tI a1] = bw_FnExactRankOf call a0 a1 := by kernel_rfl
theorem vw_FnExactRankOf (a0 : List Int) (a1 : Int) {o : List TV} (h : bw_FnExactRankOf R a0 a1 = some o) : R iw_FnExactRankOf [tA8 a0, tI a1] = some o := ev_step ((ew_FnExactRankOf R a0 a1).trans h)
/-- spec.l07Two -/
noncomputable def bs_l07Two (call : Oracle) (a0 : List Int) (a1 : List Int) (a2 : Int) : Option (List TV) :=
  (call is_l07Is [tA8 a0, tI a2]).bind fun o1 =>
  bif (!(gB o1 0)) then
    some [tI 1]
  else
    (call is_l07Is [tA8 a1, tI a2]).bind fun o2 =>
    bif (!(gB o2 0)) then
      some [tI 1]
    else
      some [tI 0]
theorem es_l07Two (call : Oracle) (a0 : List Int) (a1 : List Int) (a2 : Int) : run1 E call is_l07Two [tA8 a0, tA8 a1, tI a2] = bs_l07Two call a0 a1 a2 := by kernel_rfl
theorem vs_l07Two (a0 : List Int) (a1 : List Int) (a2 : Int) {o : List TV} (h : bs_l07Two R a0 a1 a2 = some o) : R is_l07Two [tA8 a0, tA8 a1, tI a2] = some o := ev_step ((es_l07Two R a0 a1 a2).trans h)
/-- spec.l07Meet loop 5 -/
noncomputable def bs_l07Meet_5 (call : Oracle) (x0 : List Int) (x1 : List Int) (x2 : List Int) (x3 : List Int) (x4 : Int) (x5 : Int) : Option (List TV) :=
  bif decide (0 ≤ x5) then
    (call is_l07Meet_8 [tA8 x0, tAi8 x1, tAi8 x2, tAi8 x3, tI x4, tI x5, tI 7]).bind fun o4 =>
    call is_l07Meet_5 [tA8 (gA8 o4 1), tAi8 (gAi8 o4 2), tAi8 (gAi8 o4 3), tAi8 (gAi8 o4 4), tI (gI o4 5), tI (wi64 ((gI o4 6) - 1))]
  else
    some [tI 0, tA8 x0, tAi8 x3, tI x4]
theorem es_l07Meet_5 (call : Oracle) (x0 : List Int) (x1 : List Int) (x2 : List Int) (x3 : List Int) (x4 : Int) (x5 : Int) : run1 E call is_l07Meet_5 [tA8 x0, tAi8 x1, tAi8 x2, tAi8 x3, tI x4, tI x5] = bs_l07Meet_5 call x0 x1 x2 x3 x4 x5 := by kernel_rfl
theorem vs_l07Meet_5 (x0 : List Int) (x1 : List Int) (x2 : List Int) (x3 : List Int) (x4 : Int) (x5 : Int) {o : List TV} (h : bs_l07Meet_5 R x0 x1 x2 x3 x4 x5 = some o) : R is_l07Meet_5 [tA8 x0, tAi8 x1, tAi8 x2, tAi8 x3, tI x4, tI x5] = some o := ev_step ((es_l07Meet_5 R x0 x1 x2 x3 x4 x5).trans h)
/-- spec.l07Meet loop 8 -/
noncomputable def bs_l07Meet_8 (call : Oracle) (x0 : List Int) (x1 : List Int) (x2 : List Int) (x3 : List Int) (x4 : Int) (x5 : Int) (x6 : Int) : Option (List TV) :=
  bif decide (0 ≤ x6) then
    bif decide (x6 < x4) then
      bif (decide (0 ≤ x6) && decide (x6 < 8)) then
        bif (decide (0 ≤ x5) && decide (x5 < 8)) then
          bif ((List.getD x1 (Int.toNat x6) 0) == (List.getD x1 (Int.toNat x5) 0)) then
            bif (decide (0 ≤ x6) && decide (x6 < 8)) then
              bif (decide (0 ≤ x5) && decide (x5 < 8)) then
                bif ((List.getD x2 (Int.toNat x6) 0) == (List.getD x2 (Int.toNat x5) 0)) then
                  bif (decide (0 ≤ x5) && decide (x5 < 8)) then
                    call is_l07Meet_8 [tA8 x0, tAi8 x1, tAi8 x2, tAi8 (List.set x3 (Int.toNat x5) x6), tI x4, tI x5, tI (wi64 (x6 - 1))]
                  else none
                else
                  call is_l07Meet_8 [tA8 x0, tAi8 x1, tAi8 x2, tAi8 x3, tI x4, tI x5, tI (wi64 (x6 - 1))]
              else none
            else none
          else
            call is_l07Meet_8 [tA8 x0, tAi8 x1, tAi8 x2, tAi8 x3, tI x4, tI x5, tI (wi64 (x6 - 1))]
        else none
      else none
    else
      call is_l07Meet_8 [tA8 x0, tAi8 x1, tAi8 x2, tAi8 x3, tI x4, tI x5, tI (wi64 (x6 - 1))]
  else
    some [tI 0, tA8 x0, tAi8 x1, tAi8 x2, tAi8 x3, tI x4, tI x5]
theorem es_l07Meet_8 (call : Oracle) (x0 : List Int) (x1 : List Int) (x2 : List Int) (x3 : List Int) (x4 : Int) (x5 : Int) (x6 : Int) : run1 E call is_l07Meet_8 [tA8 x0, tAi8 x1, tAi8 x2, tAi8 x3, tI x4, tI x5, tI x6] = bs_l07Meet_8 call x0 x1 x2 x3 x4 x5 x6 := by kernel_rfl
theorem vs_l07Meet_8 (x0 : List Int) (x1 : List Int) (x2 : List Int) (x3 : List Int) (x4 : Int) (x5 : Int) (x6 : Int) {o : List TV} (h : bs_l07Meet_8 R x0 x1 x2 x3 x4 x5 x6 = some o) : R is_l07Meet_8 [tA8 x0, tAi8 x1, tAi8 x2, tAi8 x3, tI x4, tI x5, tI x6] = some o := ev_step ((es_l07Meet_8 R x0 x1 x2 x3 x4 x5 x6).trans h)
/-- spec.l07Meet -/
noncomputable def bs_l07Meet (call : Oracle) (a0 : List Int) (a1 : List Int) (a2 : Int) : Option (List TV) :=
  (call is_l07Least [tA8 a0, tI a2]).bind fun o1 =>
  (call is_l07Least [tA8 a1, tI a2]).bind fun o2 =>
  (call is_l07Meet_5 [tA8 (List.replicate 8 0), tAi8 (gAi8 o1 0), tAi8 (gAi8 o2 0), tAi8 (List.replicate 8 0), tI a2, tI (wi64 (a2 - 1))]).bind fun o5 =>
  (call is_l07Made [tAi8 (gAi8 o5 2), tI (gI o5 3)]).bind fun o6 =>
  some [tA8 (gA8 o6 0)]
theorem es_l07Meet (call : Oracle) (a0 : List Int) (a1 : List Int) (a2 : Int) : run1 E call is_l07Meet [tA8 a0, tA8 a1, tI a2] = bs_l07Meet call a0 a1 a2 := by kernel_rfl
theorem vs_l07Meet (a0 : List Int) (a1 : List Int) (a2 : Int) {o : List TV} (h : bs_l07Meet R a0 a1 a2 = some o) : R is_l07Meet [tA8 a0, tA8 a1, tI a2] = some o := ev_step ((es_l07Meet R a0 a1 a2).trans h)
/-- spec.MeetOfParts -/
noncomputable def bs_MeetOfParts (call : Oracle) (a0 : List Int) (a1 : List Int) (a2 : Int) : Option (List TV) :=
  (call is_l07Two [tA8 a0, tA8 a1, tI a2]).bind fun o1 =>
  bif ((gI o1 0) != 0) then
    some [tA8 (List.replicate 8 0), tI (gI o1 0)]
  else
    (call is_l07Meet [tA8 a0, tA8 a1, tI a2]).bind fun o2 =>
    some [tA8 (gA8 o2 0), tI 0]
theorem es_MeetOfParts (call : Oracle) (a0 : List Int) (a1 : List Int) (a2 : Int) : run1 E call is_MeetOfParts [tA8 a0, tA8 a1, tI a2] = bs_MeetOfParts call a0 a1 a2 := by kernel_rfl
theorem vs_MeetOfParts (a0 : List Int) (a1 : List Int) (a2 : Int) {o : List TV} (h : bs_MeetOfParts R a0 a1 a2 = some o) : R is_MeetOfParts [tA8 a0, tA8 a1, tI a2] = some o := ev_step ((es_MeetOfParts R a0 a1 a2).trans h)
/-- impl.meetParts loop 5 -/
noncomputable def bi_meetParts_5 (call : Oracle) (x0 : List Int) (x1 : List Int) (x2 : List Int) (x3 : List Int) (x4 : Int) (x5 : Int) : Option (List TV) :=
  bif decide (x5 < x4) then
    (call ii_meetParts_8 [tA8 x0, tLI x1, tLI x2, tLI x3, tI x5, tI x4, tI x5, tI x5, tI 0]).bind fun o7 =>
    call ii_meetParts_5 [tA8 (gA8 o7 1), tLI (gLI o7 2), tLI (gLI o7 3), tLI (gLI o7 4), tI (gI o7 5), tI (wi64 ((gI o7 6) + 1))]
  else
    some [tI 0, tA8 x0, tLI x3]
theorem ei_meetParts_5 (call : Oracle) (x0 : List Int) (x1 : List Int) (x2 : List Int) (x3 : List Int) (x4 : Int) (x5 : Int) : run1 E call ii_meetParts_5 [tA8 x0, tLI x1, tLI x2, tLI x3, tI x4, tI x5] = bi_meetParts_5 call x0 x1 x2 x3 x4 x5 := by kernel_rfl
theorem vi_meetParts_5 (x0 : List Int) (x1 : List Int) (x2 : List Int) (x3 : List Int) (x4 : Int) (x5 : Int) {o : List TV} (h : bi_meetParts_5 R x0 x1 x2 x3 x4 x5 = some o) : R ii_meetParts_5 [tA8 x0, tLI x1, tLI x2, tLI x3, tI x4, tI x5] = some o := ev_step ((ei_meetParts_5 R x0 x1 x2 x3 x4 x5).trans h)
/-- impl.meetParts loop 8 -/
noncomputable def bi_meetParts_8 (call : Oracle) (x0 : List Int) (x1 : List Int) (x2 : List Int) (x3 : List Int) (x4 : Int) (x5 : Int) (x6 : Int) (x7 : Int) (x8 : Int) : Option (List TV) :=
  bif decide (x8 < x7) then
    bif (decide (0 ≤ x8) && decide (x8 < ((List.length x1 : Nat) : Int))) then
      bif (decide (0 ≤ x4) && decide (x4 < ((List.length x1 : Nat) : Int))) then
        bif ((List.getD x1 (Int.toNat x8) 0) == (List.getD x1 (Int.toNat x4) 0)) then
          bif (decide (0 ≤ x8) && decide (x8 < ((List.length x2 : Nat) : Int))) then
            bif (decide (0 ≤ x4) && decide (x4 < ((List.length x2 : Nat) : Int))) then
              bif ((List.getD x2 (Int.toNat x8) 0) == (List.getD x2 (Int.toNat x4) 0)) then
                (call i_i_groups__merge [tLI x3, tI x8, tI x4]).bind fun o5 =>
                call ii_meetParts_8 [tA8 x0, tLI x1, tLI x2, tLI (gLI o5 0), tI x4, tI x5, tI x6, tI x7, tI (wi64 (x8 + 1))]
              else
                call ii_meetParts_8 [tA8 x0, tLI x1, tLI x2, tLI x3, tI x4, tI x5, tI x6, tI x7, tI (wi64 (x8 + 1))]
            else none
          else none
        else
          call ii_meetParts_8 [tA8 x0, tLI x1, tLI x2, tLI x3, tI x4, tI x5, tI x6, tI x7, tI (wi64 (x8 + 1))]
      else none
    else none
  else
    some [tI 0, tA8 x0, tLI x1, tLI x2, tLI x3, tI x5, tI x6]
theorem ei_meetParts_8 (call : Oracle) (x0 : List Int) (x1 : List Int) (x2 : List Int) (x3 : List Int) (x4 : Int) (x5 : Int) (x6 : Int) (x7 : Int) (x8 : Int) : run1 E call ii_meetParts_8 [tA8 x0, tLI x1, tLI x2, tLI x3, tI x4, tI x5, tI x6, tI x7, tI x8] = bi_meetParts_8 call x0 x1 x2 x3 x4 x5 x6 x7 x8 := by kernel_rfl
theorem vi_meetParts_8 (x0 : List Int) (x1 : List Int) (x2 : List Int) (x3 : List Int) (x4 : Int) (x5 : Int) (x6 : Int) (x7 : Int) (x8 : Int) {o : List TV} (h : bi_meetParts_8 R x0 x1 x2 x3 x4 x5 x6 x7 x8 = some o) : R ii_meetParts_8 [tA8 x0, tLI x1, tLI x2, tLI x3, tI x4, tI x5, tI x6, tI x7, tI x8] = some o := ev_step ((ei_meetParts_8 R x0 x1 x2 x3 x4 x5 x6 x7 x8).trans h)
/-- impl.meetParts -/
noncomputable def bi_meetParts (call : Oracle) (a0 : List Int) (a1 : List Int) (a2 : Int) : Option (List TV) :=
  (call ii_groupsOf [tA8 a0, tI a2]).bind fun o1 =>
  (call ii_groupsOf [tA8 a1, tI a2]).bind fun o2 =>
  (call ii_fineGroups [tI a2]).bind fun o3 =>
  (call ii_meetParts_5 [tA8 (List.replicate 8 0), tLI (gLI o1 0), tLI (gLI o2 0), tLI (gLI o3 0), tI a2, tI 0]).bind fun o8 =>
  (call i_i_groups__part [tLI (gLI o8 2)]).bind fun o9 =>
  some [tA8 (gA8 o9 0)]
theorem ei_meetParts (call : Oracle) (a0 : List Int) (a1 : List Int) (a2 : Int) : run1 E call ii_meetParts [tA8 a0, tA8 a1, tI a2] = bi_meetParts call a0 a1 a2 := by kernel_rfl
theorem vi_meetParts (a0 : List Int) (a1 : List Int) (a2 : Int) {o : List TV} (h : bi_meetParts R a0 a1 a2 = some o) : R ii_meetParts [tA8 a0, tA8 a1, tI a2] = some o := ev_step ((ei_meetParts R a0 a1 a2).trans h)
/-- impl.MeetOfParts -/
noncomputable def bi_MeetOfParts (call : Oracle) (a0 : List Int) (a1 : List Int) (a2 : Int) : Option (List TV) :=
  (call ii_IsPart [tA8 a0, tI a2]).bind fun o1 =>
  bif (!(gB o1 0)) then
    some [tA8 (List.replicate 8 0), tI 1]
  else
    (call ii_IsPart [tA8 a1, tI a2]).bind fun o2 =>
    bif (!(gB o2 0)) then
      some [tA8 (List.replicate 8 0), tI 1]
    else
      (call ii_meetParts [tA8 a0, tA8 a1, tI a2]).bind fun o3 =>
      some [tA8 (gA8 o3 0), tI 0]
theorem ei_MeetOfParts (call : Oracle) (a0 : List Int) (a1 : List Int) (a2 : Int) : run1 E call ii_MeetOfParts [tA8 a0, tA8 a1, tI a2] = bi_MeetOfParts call a0 a1 a2 := by kernel_rfl
theorem vi_MeetOfParts (a0 : List Int) (a1 : List Int) (a2 : Int) {o : List TV} (h : bi_MeetOfParts R a0 a1 a2 = some o) : R ii_MeetOfParts [tA8 a0, tA8 a1, tI a2] = some o := ev_step ((ei_MeetOfParts R a0 a1 a2).trans h)
/-- laws.FnExactMeetOfParts -/
noncomputable def bw_FnExactMeetOfParts (call : Oracle) (a0 : List Int) (a1 : List Int) (a2 : Int) : Option (List TV) :=
  (call iw_toPart [tA8 a0]).bind fun o1 =>
  (call iw_toPart [tA8 a1]).bind fun o2 =>
  (call is_MeetOfParts [tA8 (gA8 o1 0), tA8 (gA8 o2 0), tI a2]).bind fun o3 =>
  (call iw_toPart [tA8 a0]).bind fun o4 =>
  (call iw_toPart [tA8 a1]).bind fun o5 =>
  (call ii_MeetOfParts [tA8 (gA8 o4 0), tA8 (gA8 o5 0), tI a2]).bind fun o6 =>
  (call iw_eqPart [tA8 (gA8 o6 0), tA8 (gA8 o3 0)]).bind fun o7 =>
  bif (!(gB o7 0)) then
    some [tB false]
  else
    bif ((gI o6 1) != (gI o3 1)) then
      some [tB false]
    else
      some [tB true]
theorem ew_FnExactMeetOfParts (call : Oracle) (a0 : List Int) (a1 : List Int) (a2 : Int) : run1 E call iw_FnExactMeetOfParts [tA8 a0, tA8 a1, tI a2] = bw_FnExactMeetOfParts call a0 a1 a2 := by kernel_rfl
theorem vw_FnExactMeetOfParts (a0 : List Int) (a1 : List Int) (a2 : Int) {o : List TV} (h : bw_FnExactMeetOfParts R a0 a1 a2 = some o) : R iw_FnExactMeetOfParts [tA8 a0, tA8 a1, tI a2] = some o := ev_step ((ew_FnExactMeetOfParts R a0 a1 a2).trans h)
/-- laws.szInt64S -/
noncomputable def bw_szInt64S (call : Oracle) (a0 : List Int) (a1 : Int) : Option (List TV) :=
  bif decide ((wi64 (a1 - ((List.length a0 : Nat) : Int))) < 0) then
    some [tI (-1)]
  else
    some [tI (wi64 (a1 - ((List.length a0 : Nat) : Int)))]
theorem ew_szInt64S (call : Oracle) (a0 : List Int) (a1 : Int) : run1 E call iw_szInt64S [tLI a0, tI a1] = bw_szInt64S call a0 a1 := by kernel_rfl
theorem vw_szInt64S (a0 : List Int) (a1 : Int) {o : List TV} (h : bw_szInt64S R a0 a1 = some o) : R iw_szInt64S [tLI a0, tI a1] = some o := ev_step ((ew_szInt64S R a0 a1).trans h)
/-- laws.szInt64SS loop 5 -/
noncomputable def bw_szInt64SS_5 (call : Oracle) (x0 : List (List Int)) (x1 : Int) (x2 : Int) : Option (List TV) :=
  bif decide (x2 < ((List.length x0 : Nat) : Int)) then
    bif (decide (0 ≤ x2) && decide (x2 < ((List.length x0 : Nat) : Int))) then
      (call iw_szInt64S [tLI (List.getD x0 (Int.toNat x2) []), tI x1]).bind fun o2 =>
      bif decide ((gI o2 0) < 0) then
        some [tI 1, tI (-1)]
      else
        call iw_szInt64SS_5 [tLLI x0, tI (gI o2 0), tI (wi64 (x2 + 1))]
    else none
  else
    some [tI 0, tI x1]
theorem ew_szInt64SS_5 (call : Oracle) (x0 : List (List Int)) (x1 : Int) (x2 : Int) : run1 E call iw_szInt64SS_5 [tLLI x0, tI x1, tI x2] = bw_szInt64SS_5 call x0 x1 x2 := by kernel_rfl
theorem vw_szInt64SS_5 (x0 : List (List Int)) (x1 : Int) (x2 : Int) {o : List TV} (h : bw_szInt64SS_5 R x0 x1 x2 = some o) : R iw_szInt64SS_5 [tLLI x0, tI x1, tI x2] = some o := ev_step ((ew_szInt64SS_5 R x0 x1 x2).trans h)
/-- laws.szInt64SS -/
noncomputable def bw_szInt64SS (call : Oracle) (a0 : List (List Int)) (a1 : Int) : Option (List TV) :=
  bif decide ((wi64 (a1 - ((List.length a0 : Nat) : Int))) < 0) then
    some [tI (-1)]
  else
    (call iw_szInt64SS_5 [tLLI a0, tI (wi64 (a1 - ((List.length a0 : Nat) : Int))), tI 0]).bind fun o3 =>
    bif ((gI o3 0) == 0) then
      some [tI (gI o3 1)]
    else
      some [tI (gI o3 1)]
theorem ew_szInt64SS (call : Oracle) (a0 : List (List Int)) (a1 : Int) : run1 E call iw_szInt64SS [tLLI a0, tI a1] = bw_szInt64SS call a0 a1 := by kernel_rfl
theorem vw_szInt64SS (a0 : List (List Int)) (a1 : Int) {o : List TV} (h : bw_szInt64SS R a0 a1 = some o) : R iw_szInt64SS [tLLI a0, tI a1] = some o := ev_step ((ew_szInt64SS R a0 a1).trans h)
/-- laws.toInt64S loop 3 -/
noncomputable def bw_toInt64S_3 (call : Oracle) (x0 : List Int) (x1 : List Int) (x2 : Int) : Option (List TV) :=
  bif decide (x2 < ((List.length x0 : Nat) : Int)) then
    bif (decide (0 ≤ x2) && decide (x2 < ((List.length x0 : Nat) : Int))) then
      bif (decide (0 ≤ x2) && decide (x2 < ((List.length x1 : Nat) : Int))) then
        call iw_toInt64S_3 [tLI x0, tLI (List.set x1 (Int.toNat x2) (List.getD x0 (Int.toNat x2) 0)), tI (wi64 (x2 + 1))]
      else none
    else none
  else
    some [tI 0, tLI x1]
theorem ew_toInt64S_3 (call : Oracle) (x0 : List Int) (x1 : List Int) (x2 : Int) : run1 E call iw_toInt64S_3 [tLI x0, tLI x1, tI x2] = bw_toInt64S_3 call x0 x1 x2 := by kernel_rfl
theorem vw_toInt64S_3 (x0 : List Int) (x1 : List Int) (x2 : Int) {o : List TV} (h : bw_toInt64S_3 R x0 x1 x2 = some o) : R iw_toInt64S_3 [tLI x0, tLI x1, tI x2] = some o := ev_step ((ew_toInt64S_3 R x0 x1 x2).trans h)
/-- laws.toInt64S -/
noncomputable def bw_toInt64S (call : Oracle) (a0 : List Int) : Option (List TV) :=
  bif (mkOk ((List.length a0 : Nat) : Int)) then
    (call iw_toInt64S_3 [tLI a0, tLI (List.replicate (Int.toNat ((List.length a0 : Nat) : Int)) 0), tI 0]).bind fun o1 =>
    some [tLI (gLI o1 1)]
  else none
theorem ew_toInt64S (call : Oracle) (a0 : List Int) : run1 E call iw_toInt64S [tLI a0] = bw_toInt64S call a0 := by kernel_rfl
theorem vw_toInt64S (a0 : List Int) {o : List TV} (h : bw_toInt64S R a0 = some o) : R iw_toInt64S [tLI a0] = some o := ev_step ((ew_toInt64S R a0).trans h)
/-- laws.toInt64SS loop 3 -/
noncomputable def bw_toInt64SS_3 (call : Oracle) (x0 : List (List Int)) (x1 : List (List Int)) (x2 : Int) : Option (List TV) :=
  bif decide (x2 < ((List.length x0 : Nat) : Int)) then
    bif (decide (0 ≤ x2) && decide (x2 < ((List.length x0 : Nat) : Int))) then
      (call iw_toInt64S [tLI (List.getD x0 (Int.toNat x2) [])]).bind fun o2 =>
      bif (decide (0 ≤ x2) && decide (x2 < ((List.length x1 : Nat) : Int))) then
        call iw_toInt64SS_3 [tLLI x0, tLLI (List.set x1 (Int.toNat x2) (gLI o2 0)), tI (wi64 (x2 + 1))]
      else none
    else none
  else
    some [tI 0, tLLI x1]
theorem ew_toInt64SS_3 (call : Oracle) (x0 : List (List Int)) (x1 : List (List Int)) (x2 : Int) : run1 E call iw_toInt64SS_3 [tLLI x0, tLLI x1, tI x2] = bw_toInt64SS_3 call x0 x1 x2 := by kernel_rfl
theorem vw_toInt64SS_3 (x0 : List (List Int)) (x1 : List (List Int)) (x2 : Int) {o : List TV} (h : bw_toInt64SS_3 R x0 x1 x2 = some o) : R iw_toInt64SS_3 [tLLI x0, tLLI x1, tI x2] = some o := ev_step ((ew_toInt64SS_3 R x0 x1 x2).trans h)
/-- laws.toInt64SS -/
noncomputable def bw_toInt64SS (call : Oracle) (a0 : List (List Int)) : Option (List TV) :=
  bif (mkOk ((List.length a0 : Nat) : Int)) then
    (call iw_toInt64SS_3 [tLLI a0, tLLI (List.replicate (Int.toNat ((List.length a0 : Nat) : Int)) []), tI 0]).bind fun o3 =>
    some [tLLI (gLLI o3 1)]
  else none
theorem ew_toInt64SS (call : Oracle) (a0 : List (List Int)) : run1 E call iw_toInt64SS [tLLI a0] = bw_toInt64SS call a0 := by kernel_rfl
theorem vw_toInt64SS (a0 : List (List Int)) {o : List TV} (h : bw_toInt64SS R a0 = some o) : R iw_toInt64SS [tLLI a0] = some o := ev_step ((ew_toInt64SS R a0).trans h)
/-- spec.PartOfBlocks loop 5 -/
noncomputable def bs_PartOfBlocks_5 (call : Oracle) (x0 : List (List Int)) (x1 : List Int) (x2 : List Int) (x3 : List Bool) (x4 : Int) (x5 : Int) : Option (List TV) :=
  bif decide (x5 < ((List.length x0 : Nat) : Int)) then
    (call is_PartOfBlocks_8 [tLLI x0, tA8 x1, tAi8 x2, tAB8 x3, tI x4, tI x5, tI 0]).bind fun o5 =>
    bif ((gI o5 0) == 0) then
      bif (decide (0 ≤ (gI o5 6)) && decide ((gI o5 6) < ((List.length (gLLI o5 1) : Nat) : Int))) then
        bif (((List.length (List.getD (gLLI o5 1) (Int.toNat (gI o5 6)) []) : Nat) : Int) == 0) then
          some [tI 1, tA8 (List.replicate 8 0), tI 2]
        else
          call is_PartOfBlocks_5 [tLLI (gLLI o5 1), tA8 (gA8 o5 2), tAi8 (gAi8 o5 3), tAB8 (gAB8 o5 4), tI (gI o5 5), tI (wi64 ((gI o5 6) + 1))]
      else none
    else
      some [tI 1, tA8 (gA8 o5 1), tI (gI o5 2)]
  else
    some [tI 0, tA8 x1, tAi8 x2, tI x4]
theorem es_PartOfBlocks_5 (call : Oracle) (x0 : List (List Int)) (x1 : List Int) (x2 : List Int) (x3 : List Bool) (x4 : Int) (x5 : Int) : run1 E call is_PartOfBlocks_5 [tLLI x0, tA8 x1, tAi8 x2, tAB8 x3, tI x4, tI x5] = bs_PartOfBlocks_5 call x0 x1 x2 x3 x4 x5 := by kernel_rfl
theorem vs_PartOfBlocks_5 (x0 : List (List Int)) (x1 : List Int) (x2 : List Int) (x3 : List Bool) (x4 : Int) (x5 : Int) {o : List TV} (h : bs_PartOfBlocks_5 R x0 x1 x2 x3 x4 x5 = some o) : R is_PartOfBlocks_5 [tLLI x0, tA8 x1, tAi8 x2, tAB8 x3, tI x4, tI x5] = some o := ev_step ((es_PartOfBlocks_5 R x0 x1 x2 x3 x4 x5).trans h)
/-- spec.PartOfBlocks loop 8 -/
noncomputable def bs_PartOfBlocks_8 (call : Oracle) (x0 : List (List Int)) (x1 : List Int) (x2 : List Int) (x3 : List Bool) (x4 : Int) (x5 : Int) (x6 : Int) : Option (List TV) :=
  bif (decide (0 ≤ x5) && decide (x5 < ((List.length x0 : Nat) : Int))) then
    bif decide (x6 < ((List.length (List.getD x0 (Int.toNat x5) []) : Nat) : Int)) then
      bif (decide (0 ≤ x5) && decide (x5 < ((List.length x0 : Nat) : Int))) then
        bif (decide (0 ≤ x6) && decide (x6 < ((List.length (List.getD x0 (Int.toNat x5) []) : Nat) : Int))) then
          (call is_l01In [tI (List.getD (List.getD x0 (Int.toNat x5) []) (Int.toNat x6) 0), tI 0, tI (wi64 (x4 - 1))]).bind fun o3 =>
          bif (!(gB o3 0)) then
            some [tI 1, tA8 (List.replicate 8 0), tI 2]
          else
            bif (decide (0 ≤ (List.getD (List.getD x0 (Int.toNat x5) []) (Int.toNat x6) 0)) && decide ((List.getD (List.getD x0 (Int.toNat x5) []) (Int.toNat x6) 0) < 8)) then
              bif (List.getD x3 (Int.toNat (List.getD (List.getD x0 (Int.toNat x5) []) (Int.toNat x6) 0)) false) then
                some [tI 1, tA8 (List.replicate 8 0), tI 2]
              else
                bif decide (0 < x6) then
                  bif (decide (0 ≤ x5) && decide (x5 < ((List.length x0 : Nat) : Int))) then
                    bif (decide (0 ≤ (wi64 (x6 - 1))) && decide ((wi64 (x6 - 1)) < ((List.length (List.getD x0 (Int.toNat x5) []) : Nat) : Int))) then
                      bif decide ((List.getD (List.getD x0 (Int.toNat x5) []) (Int.toNat x6) 0) ≤ (List.getD (List.getD x0 (Int.toNat x5) []) (Int.toNat (wi64 (x6 - 1))) 0)) then
                        some [tI 1, tA8 (List.replicate 8 0), tI 2]
                      else
                        bif (decide (0 ≤ (List.getD (List.getD x0 (Int.toNat x5) []) (Int.toNat x6) 0)) && decide ((List.getD (List.getD x0 (Int.toNat x5) []) (Int.toNat x6) 0) < 8)) then
                          bif (decide (0 ≤ x5) && decide (x5 < ((List.length x0 : Nat) : Int))) then
                            bif decide (0 < ((List.length (List.getD x0 (Int.toNat x5) []) : Nat) : Int)) then
                              bif (decide (0 ≤ (List.getD (List.getD x0 (Int.toNat x5) []) (Int.toNat x6) 0)) && decide ((List.getD (List.getD x0 (Int.toNat x5) []) (Int.toNat x6) 0) < 8)) then
                                call is_PartOfBlocks_8 [tLLI x0, tA8 x1, tAi8 (List.set x2 (Int.toNat (List.getD (List.getD x0 (Int.toNat x5) []) (Int.toNat x6) 0)) (List.getD (List.getD x0 (Int.toNat x5) []) 0 0)), tAB8 (List.set x3 (Int.toNat (List.getD (List.getD x0 (Int.toNat x5) []) (Int.toNat x6) 0)) true), tI x4, tI x5, tI (wi64 (x6 + 1))]
                              else none
                            else none
                          else none
                        else none
                    else none
                  else none
                else
                  bif (decide (0 ≤ (List.getD (List.getD x0 (Int.toNat x5) []) (Int.toNat x6) 0)) && decide ((List.getD (List.getD x0 (Int.toNat x5) []) (Int.toNat x6) 0) < 8)) then
                    bif (decide (0 ≤ x5) && decide (x5 < ((List.length x0 : Nat) : Int))) then
                      bif decide (0 < ((List.length (List.getD x0 (Int.toNat x5) []) : Nat) : Int)) then
                        bif (decide (0 ≤ (List.getD (List.getD x0 (Int.toNat x5) []) (Int.toNat x6) 0)) && decide ((List.getD (List.getD x0 (Int.toNat x5) []) (Int.toNat x6) 0) < 8)) then
                          call is_PartOfBlocks_8 [tLLI x0, tA8 x1, tAi8 (List.set x2 (Int.toNat (List.getD (List.getD x0 (Int.toNat x5) []) (Int.toNat x6) 0)) (List.getD (List.getD x0 (Int.toNat x5) []) 0 0)), tAB8 (List.set x3 (Int.toNat (List.getD (List.getD x0 (Int.toNat x5) []) (Int.toNat x6) 0)) true), tI x4, tI x5, tI (wi64 (x6 + 1))]
                        else none
                      else none
                    else none
                  else none
            else none
        else none
      else none
    else
      some [tI 0, tLLI x0, tA8 x1, tAi8 x2, tAB8 x3, tI x4, tI x5]
  else none
theorem es_PartOfBlocks_8 (call : Oracle) (x0 : List (List Int)) (x1 : List Int) (x2 : List Int) (x3 : List Bool) (x4 : Int) (x5 : Int) (x6 : Int) : run1 E call is_PartOfBlocks_8 [tLLI x0, tA8 x1, tAi8 x2, tAB8 x3, tI x4, tI x5, tI x6] = bs_PartOfBlocks_8 call x0 x1 x2 x3 x4 x5 x6 := by kernel_rfl
theorem vs_PartOfBlocks_8 (x0 : List (List Int)) (x1 : List Int) (x2 : List Int) (x3 : List Bool) (x4 : Int) (x5 : Int) (x6 : Int) {o : List TV} (h : bs_PartOfBlocks_8 R x0 x1 x2 x3 x4 x5 x6 = some o) : R is_PartOfBlocks_8 [tLLI x0, tA8 x1, tAi8 x2, tAB8 x3, tI x4, tI x5, tI x6] = some o := ev_step ((es_PartOfBlocks_8 R x0 x1 x2 x3 x4 x5 x6).trans h)
/-- spec.PartOfBlocks -/
noncomputable def bs_PartOfBlocks (call : Oracle) (a0 : List (List Int)) (a1 : Int) : Option (List TV) :=
  (call is_l01In [tI a1, tI 1, tI 8]).bind fun o1 =>
  bif (!(gB o1 0)) then
    some [tA8 (List.replicate 8 0), tI 2]
  else
    (call is_PartOfBlocks_5 [tLLI a0, tA8 (List.replicate 8 0), tAi8 [0, 1, 2, 3, 4, 5, 6, 7], tAB8 (List.replicate 8 false), tI a1, tI 0]).bind fun o6 =>
    bif ((gI o6 0) == 0) then
      (call is_l07Crossing [tAi8 (gAi8 o6 2), tI (gI o6 3)]).bind fun o7 =>
      bif (gB o7 0) then
        some [tA8 (List.replicate 8 0), tI 1]
      else
        (call is_l07Made [tAi8 (gAi8 o6 2), tI (gI o6 3)]).bind fun o8 =>
        some [tA8 (gA8 o8 0), tI 0]
    else
      some [tA8 (gA8 o6 1), tI (gI o6 2)]
theorem es_PartOfBlocks (call : Oracle) (a0 : List (List Int)) (a1 : Int) : run1 E call is_PartOfBlocks [tLLI a0, tI a1] = bs_PartOfBlocks call a0 a1 := by kernel_rfl
theorem vs_PartOfBlocks (a0 : List (List Int)) (a1 : Int) {o : List TV} (h : bs_PartOfBlocks R a0 a1 = some o) : R is_PartOfBlocks [tLLI a0, tI a1] = some o := ev_step ((es_PartOfBlocks R a0 a1).trans h)
/-- impl.PartOfBlocks loop 5 -/
noncomputable def bi_PartOfBlocks_5 (call : Oracle) (x0 : List Int) (x1 : List Int) (x2 : List Bool) (x3 : List (List Int)) (x4 : Int) (x5 : Int) (x6 : Int) : Option (List TV) :=
  bif decide (x6 < x5) then
    bif (decide (0 ≤ x6) && decide (x6 < ((List.length x3 : Nat) : Int))) then
      bif (((List.length (List.getD x3 (Int.toNat x6) []) : Nat) : Int) == 0) then
        some [tI 1, tA8 (List.replicate 8 0), tI 2]
      else
        (call ii_PartOfBlocks_10 [tA8 x0, tLI x1, tLB x2, tLI (List.getD x3 (Int.toNat x6) []), tLLI x3, tI x4, tI x5, tI x6, tI ((List.length (List.getD x3 (Int.toNat x6) []) : Nat) : Int), tI 0]).bind fun o10 =>
        bif ((gI o10 0) == 0) then
          call ii_PartOfBlocks_5 [tA8 (gA8 o10 1), tLI (gLI o10 2), tLB (gLB o10 3), tLLI (gLLI o10 4), tI (gI o10 5), tI (gI o10 6), tI (wi64 ((gI o10 7) + 1))]
        else
          some [tI 1, tA8 (gA8 o10 1), tI (gI o10 2)]
    else none
  else
    some [tI 0, tA8 x0, tLI x1]
theorem ei_PartOfBlocks_5 (call : Oracle) (x0 : List Int) (x1 : List Int) (x2 : List Bool) (x3 : List (List Int)) (x4 : Int) (x5 : Int) (x6 : Int) : run1 E call ii_PartOfBlocks_5 [tA8 x0, tLI x1, tLB x2, tLLI x3, tI x4, tI x5, tI x6] = bi_PartOfBlocks_5 call x0 x1 x2 x3 x4 x5 x6 := by kernel_rfl
theorem vi_PartOfBlocks_5 (x0 : List Int) (x1 : List Int) (x2 : List Bool) (x3 : List (List Int)) (x4 : Int) (x5 : Int) (x6 : Int) {o : List TV} (h : bi_PartOfBlocks_5 R x0 x1 x2 x3 x4 x5 x6 = some o) : R ii_PartOfBlocks_5 [tA8 x0, tLI x1, tLB x2, tLLI x3, tI x4, tI x5, tI x6] = some o := ev_step ((ei_PartOfBlocks_5 R x0 x1 x2 x3 x4 x5 x6).trans h)
/-- impl.PartOfBlocks loop 10 -/
noncomputable def bi_PartOfBlocks_10 (call : Oracle) (x0 : List Int) (x1 : List Int) (x2 : List Bool) (x3 : List Int) (x4 : List (List Int)) (x5 : Int) (x6 : Int) (x7 : Int) (x8 : Int) (x9 : Int) : Option (List TV) :=
  bif decide (x9 < x8) then
    bif (decide (0 ≤ x9) && decide (x9 < ((List.length x3 : Nat) : Int))) then
      (call ii_within [tI (List.getD x3 (Int.toNat x9) 0), tI 0, tI (wi64 (x5 - 1))]).bind fun o6 =>
      bif (!(gB o6 0)) then
        some [tI 1, tA8 (List.replicate 8 0), tI 2]
      else
        bif (decide (0 ≤ (List.getD x3 (Int.toNat x9) 0)) && decide ((List.getD x3 (Int.toNat x9) 0) < ((List.length x2 : Nat) : Int))) then
          bif (List.getD x2 (Int.toNat (List.getD x3 (Int.toNat x9) 0)) false) then
            some [tI 1, tA8 (List.replicate 8 0), tI 2]
          else
            bif decide (0 < x9) then
              bif (decide (0 ≤ (wi64 (x9 - 1))) && decide ((wi64 (x9 - 1)) < ((List.length x3 : Nat) : Int))) then
                bif decide ((List.getD x3 (Int.toNat x9) 0) ≤ (List.getD x3 (Int.toNat (wi64 (x9 - 1))) 0)) then
                  some [tI 1, tA8 (List.replicate 8 0), tI 2]
                else
                  bif (decide (0 ≤ (List.getD x3 (Int.toNat x9) 0)) && decide ((List.getD x3 (Int.toNat x9) 0) < ((List.length x2 : Nat) : Int))) then
                    bif decide (0 < ((List.length x3 : Nat) : Int)) then
                      (call i_i_groups__merge [tLI x1, tI (List.getD x3 0 0), tI (List.getD x3 (Int.toNat x9) 0)]).bind fun o7 =>
                      call ii_PartOfBlocks_10 [tA8 x0, tLI (gLI o7 0), tLB (List.set x2 (Int.toNat (List.getD x3 (Int.toNat x9) 0)) true), tLI x3, tLLI x4, tI x5, tI x6, tI x7, tI x8, tI (wi64 (x9 + 1))]
                    else none
                  else none
              else none
            else
              bif (decide (0 ≤ (List.getD x3 (Int.toNat x9) 0)) && decide ((List.getD x3 (Int.toNat x9) 0) < ((List.length x2 : Nat) : Int))) then
                bif decide (0 < ((List.length x3 : Nat) : Int)) then
                  (call i_i_groups__merge [tLI x1, tI (List.getD x3 0 0), tI (List.getD x3 (Int.toNat x9) 0)]).bind fun o8 =>
                  call ii_PartOfBlocks_10 [tA8 x0, tLI (gLI o8 0), tLB (List.set x2 (Int.toNat (List.getD x3 (Int.toNat x9) 0)) true), tLI x3, tLLI x4, tI x5, tI x6, tI x7, tI x8, tI (wi64 (x9 + 1))]
                else none
              else none
        else none
    else none
  else
    some [tI 0, tA8 x0, tLI x1, tLB x2, tLLI x4, tI x5, tI x6, tI x7]
theorem ei_PartOfBlocks_10 (call : Oracle) (x0 : List Int) (x1 : List Int) (x2 : List Bool) (x3 : List Int) (x4 : List (List Int)) (x5 : Int) (x6 : Int) (x7 : Int) (x8 : Int) (x9 : Int) : run1 E call ii_PartOfBlocks_10 [tA8 x0, tLI x1, tLB x2, tLI x3, tLLI x4, tI x5, tI x6, tI x7, tI x8, tI x9] = bi_PartOfBlocks_10 call x0 x1 x2 x3 x4 x5 x6 x7 x8 x9 := by kernel_rfl
theorem vi_PartOfBlocks_10 (x0 : List Int) (x1 : List Int) (x2 : List Bool) (x3 : List Int) (x4 : List (List Int)) (x5 : Int) (x6 : Int) (x7 : Int) (x8 : Int) (x9 : Int) {o : List TV} (h : bi_PartOfBlocks_10 R x0 x1 x2 x3 x4 x5 x6 x7 x8 x9 = some o) : R ii_PartOfBlocks_10 [tA8 x0, tLI x1, tLB x2, tLI x3, tLLI x4, tI x5, tI x6, tI x7, tI x8, tI x9] = some o := ev_step ((ei_PartOfBlocks_10 R x0 x1 x2 x3 x4 x5 x6 x7 x8 x9).trans h)
/-- impl.PartOfBlocks -/
noncomputable def bi_PartOfBlocks (call : Oracle) (a0 : List (List Int)) (a1 : Int) : Option (List TV) :=
  (call ii_isCount [tI a1]).bind fun o1 =>
  bif (!(gB o1 0)) then
    some [tA8 (List.replicate 8 0), tI 2]
  else
    (call ii_fineGroups [tI a1]).bind fun o2 =>
    bif (mkOk a1) then
      (call ii_PartOfBlocks_5 [tA8 (List.replicate 8 0), tLI (gLI o2 0), tLB (List.replicate (Int.toNat a1) false), tLLI a0, tI a1, tI ((List.length a0 : Nat) : Int), tI 0]).bind fun o11 =>
      bif ((gI o11 0) == 0) then
        (call i_i_groups__crossing [tLI (gLI o11 2)]).bind fun o12 =>
        bif (gB o12 2) then
          some [tA8 (List.replicate 8 0), tI 1]
        else
          (call i_i_groups__part [tLI (gLI o11 2)]).bind fun o13 =>
          some [tA8 (gA8 o13 0), tI 0]
      else
        some [tA8 (gA8 o11 1), tI (gI o11 2)]
    else none
theorem ei_PartOfBlocks (call : Oracle) (a0 : List (List Int)) (a1 : Int) : run1 E call ii_PartOfBlocks [tLLI a0, tI a1] = bi_PartOfBlocks call a0 a1 := by kernel_rfl
theorem vi_PartOfBlocks (a0 : List (List Int)) (a1 : Int) {o : List TV} (h : bi_PartOfBlocks R a0 a1 = some o) : R ii_PartOfBlocks [tLLI a0, tI a1] = some o := ev_step ((ei_PartOfBlocks R a0 a1).trans h)
/-- laws.eqInt64SS loop 4 -/
noncomputable def bw_eqInt64SS_4 (call : Oracle) (x0 : List (List Int)) (x1 : List (List Int)) (x2 : Int) : Option (List TV) :=
  bif decide (x2 < ((List.length x0 : Nat) : Int)) then
    bif (decide (0 ≤ x2) && decide (x2 < ((List.length x0 : Nat) : Int))) then
      bif (decide (0 ≤ x2) && decide (x2 < ((List.length x1 : Nat) : Int))) then
        (call iw_eqInt64S [tLI (List.getD x0 (Int.toNat x2) []), tLI (List.getD x1 (Int.toNat x2) [])]).bind fun o2 =>
        bif (!(gB o2 0)) then
          some [tI 1, tB false]
        else
          call iw_eqInt64SS_4 [tLLI x0, tLLI x1, tI (wi64 (x2 + 1))]
      else none
    else none
  else
    some [tI 0]
theorem ew_eqInt64SS_4 (call : Oracle) (x0 : List (List Int)) (x1 : List (List Int)) (x2 : Int) : run1 E call iw_eqInt64SS_4 [tLLI x0, tLLI x1, tI x2] = bw_eqInt64SS_4 call x0 x1 x2 := by kernel_rfl
theorem vw_eqInt64SS_4 (x0 : List (List Int)) (x1 : List (List Int)) (x2 : Int) {o : List TV} (h : bw_eqInt64SS_4 R x0 x1 x2 = some o) : R iw_eqInt64SS_4 [tLLI x0, tLLI x1, tI x2] = some o := ev_step ((ew_eqInt64SS_4 R x0 x1 x2).trans h)
/-- laws.eqInt64SS -/
noncomputable def bw_eqInt64SS (call : Oracle) (a0 : List (List Int)) (a1 : List (List Int)) : Option (List TV) :=
  bif (((List.length a0 : Nat) : Int) != ((List.length a1 : Nat) : Int)) then
    some [tB false]
  else
    (call iw_eqInt64SS_4 [tLLI a0, tLLI a1, tI 0]).bind fun o3 =>
    bif ((gI o3 0) == 0) then
      some [tB true]
    else
      some [tB (gB o3 1)]
theorem ew_eqInt64SS (call : Oracle) (a0 : List (List Int)) (a1 : List (List Int)) : run1 E call iw_eqInt64SS [tLLI a0, tLLI a1] = bw_eqInt64SS call a0 a1 := by kernel_rfl
theorem vw_eqInt64SS (a0 : List (List Int)) (a1 : List (List Int)) {o : List TV} (h : bw_eqInt64SS R a0 a1 = some o) : R iw_eqInt64SS [tLLI a0, tLLI a1] = some o := ev_step ((ew_eqInt64SS R a0 a1).trans h)
/-- laws.FnExactPartOfBlocks -/
noncomputable def bw_FnExactPartOfBlocks (call : Oracle) (a0 : List (List Int)) (a1 : Int) : Option (List TV) :=
  (call iw_szInt64SS [tLLI a0, tI 1048576]).bind fun o1 =>
  bif decide ((gI o1 0) < 0) then
    some [tB true]
  else
    (call iw_toInt64SS [tLLI a0]).bind fun o2 =>
    (call is_PartOfBlocks [tLLI (gLLI o2 0), tI a1]).bind fun o3 =>
    (call iw_toInt64SS [tLLI a0]).bind fun o4 =>
    (call ii_PartOfBlocks [tLLI (gLLI o4 0), tI a1]).bind fun o5 =>
    (call iw_eqPart [tA8 (gA8 o5 0), tA8 (gA8 o3 0)]).bind fun o6 =>
    bif (!(gB o6 0)) then
      some [tB false]
    else
      bif ((gI o5 1) != (gI o3 1)) then
        some [tB false]
      else
        (call iw_toInt64SS [tLLI a0]).bind fun o7 =>
        (call iw_eqInt64SS [tLLI (gLLI o4 0), tLLI (gLLI o7 0)]).bind fun o8 =>
        bif (!(gB o8 0)) then
          some [tB false]
        else
          some [tB true]
theorem ew_FnExactPartOfBlocks (call : Oracle) (a0 : List (List Int)) (a1 : Int) : run1 E call iw_FnExactPartOfBlocks [tLLI a0, tI a1] = bw_FnExactPartOfBlocks call a0 a1 := by kernel_rfl
theorem vw_FnExactPartOfBlocks (a0 : List (List Int)) (a1 : Int) {o : List TV} (h : bw_FnExactPartOfBlocks R a0 a1 = some o) : R iw_FnExactPartOfBlocks [tLLI a0, tI a1] = some o := ev_step ((ew_FnExactPartOfBlocks R a0 a1).trans h)
/-- spec.l07Back loop 3 -/
noncomputable def bs_l07Back_3 (call : Oracle) (x0 : List Int) (x1 : List Int) (x2 : List Int) (x3 : Int) (x4 : Int) : Option (List TV) :=
  bif decide (x4 < x3) then
    bif (decide (0 ≤ x4) && decide (x4 < 8)) then
      bif (decide (0 ≤ (List.getD x0 (Int.toNat x4) 0)) && decide ((List.getD x0 (Int.toNat x4) 0) < 8)) then
        call is_l07Back_3 [tA8 x0, tA8 x1, tA8 (List.set x2 (Int.toNat (List.getD x0 (Int.toNat x4) 0)) (wu8 (x4))), tI x3, tI (wi64 (x4 + 1))]
      else none
    else none
  else
    some [tI 0, tA8 x1, tA8 x2]
theorem es_l07Back_3 (call : Oracle) (x0 : List Int) (x1 : List Int) (x2 : List Int) (x3 : Int) (x4 : Int) : run1 E call is_l07Back_3 [tA8 x0, tA8 x1, tA8 x2, tI x3, tI x4] = bs_l07Back_3 call x0 x1 x2 x3 x4 := by kernel_rfl
theorem vs_l07Back_3 (x0 : List Int) (x1 : List Int) (x2 : List Int) (x3 : Int) (x4 : Int) {o : List TV} (h : bs_l07Back_3 R x0 x1 x2 x3 x4 = some o) : R is_l07Back_3 [tA8 x0, tA8 x1, tA8 x2, tI x3, tI x4] = some o := ev_step ((es_l07Back_3 R x0 x1 x2 x3 x4).trans h)
/-- spec.l07Back -/
noncomputable def bs_l07Back (call : Oracle) (a0 : List Int) (a1 : Int) : Option (List TV) :=
  (call is_l07Back_3 [tA8 a0, tA8 (List.replicate 8 0), tA8 (List.replicate 8 0), tI a1, tI 0]).bind fun o1 =>
  some [tA8 (gA8 o1 2)]
theorem es_l07Back (call : Oracle) (a0 : List Int) (a1 : Int) : run1 E call is_l07Back [tA8 a0, tI a1] = bs_l07Back call a0 a1 := by kernel_rfl
theorem vs_l07Back (a0 : List Int) (a1 : Int) {o : List TV} (h : bs_l07Back R a0 a1 = some o) : R is_l07Back [tA8 a0, tI a1] = some o := ev_step ((es_l07Back R a0 a1).trans h)
/-- spec.l07Whole loop 3 -/
noncomputable def bs_l07Whole_3 (call : Oracle) (x0 : List Int) (x1 : List Int) (x2 : Int) (x3 : Int) : Option (List TV) :=
  bif decide (x3 < x2) then
    bif (x2 != 0) then
      bif (decide (0 ≤ x3) && decide (x3 < 8)) then
        call is_l07Whole_3 [tA8 x0, tA8 (List.set x1 (Int.toNat x3) (wu8 ((Int.tmod (wi64 (x3 + 1)) x2)))), tI x2, tI (wi64 (x3 + 1))]
      else none
    else none
  else
    some [tI 0, tA8 x0, tA8 x1]
theorem es_l07Whole_3 (call : Oracle) (x0 : List Int) (x1 : List Int) (x2 : Int) (x3 : Int) : run1 E call is_l07Whole_3 [tA8 x0, tA8 x1, tI x2, tI x3] = bs_l07Whole_3 call x0 x1 x2 x3 := by kernel_rfl
theorem vs_l07Whole_3 (x0 : List Int) (x1 : List Int) (x2 : Int) (x3 : Int) {o : List TV} (h : bs_l07Whole_3 R x0 x1 x2 x3 = some o) : R is_l07Whole_3 [tA8 x0, tA8 x1, tI x2, tI x3] = some o := ev_step ((es_l07Whole_3 R x0 x1 x2 x3).trans h)
/-- spec.l07Whole -/
noncomputable def bs_l07Whole (call : Oracle) (a0 : Int) : Option (List TV) :=
  (call is_l07Whole_3 [tA8 (List.replicate 8 0), tA8 (List.replicate 8 0), tI a0, tI 0]).bind fun o1 =>
  some [tA8 (gA8 o1 2)]
theorem es_l07Whole (call : Oracle) (a0 : Int) : run1 E call is_l07Whole [tI a0] = bs_l07Whole call a0 := by kernel_rfl
theorem vs_l07Whole (a0 : Int) {o : List TV} (h : bs_l07Whole R a0 = some o) : R is_l07Whole [tI a0] = some o := ev_step ((es_l07Whole R a0).trans h)
/-- spec.l07Then loop 3 -/
noncomputable def bs_l07Then_3 (call : Oracle) (x0 : List Int) (x1 : List Int) (x2 : List Int) (x3 : List Int) (x4 : Int) (x5 : Int) : Option (List TV) :=
  bif decide (x5 < x4) then
    bif (decide (0 ≤ x5) && decide (x5 < 8)) then
      bif (decide (0 ≤ (List.getD x0 (Int.toNat x5) 0)) && decide ((List.getD x0 (Int.toNat x5) 0) < 8)) then
        bif (decide (0 ≤ x5) && decide (x5 < 8)) then
          call is_l07Then_3 [tA8 x0, tA8 x1, tA8 x2, tA8 (List.set x3 (Int.toNat x5) (List.getD x1 (Int.toNat (List.getD x0 (Int.toNat x5) 0)) 0)), tI x4, tI (wi64 (x5 + 1))]
        else none
      else none
    else none
  else
    some [tI 0, tA8 x2, tA8 x3]
theorem es_l07Then_3 (call : Oracle) (x0 : List Int) (x1 : List Int) (x2 : List Int) (x3 : List Int) (x4 : Int) (x5 : Int) : run1 E call is_l07Then_3 [tA8 x0, tA8 x1, tA8 x2, tA8 x3, tI x4, tI x5] = bs_l07Then_3 call x0 x1 x2 x3 x4 x5 := by kernel_rfl
theorem vs_l07Then_3 (x0 : List Int) (x1 : List Int) (x2 : List Int) (x3 : List Int) (x4 : Int) (x5 : Int) {o : List TV} (h : bs_l07Then_3 R x0 x1 x2 x3 x4 x5 = some o) : R is_l07Then_3 [tA8 x0, tA8 x1, tA8 x2, tA8 x3, tI x4, tI x5] = some o := ev_step ((es_l07Then_3 R x0 x1 x2 x3 x4 x5).trans h)
/-- spec.l07Then -/
noncomputable def bs_l07Then (call : Oracle) (a0 : List Int) (a1 : List Int) (a2 : Int) : Option (List TV) :=
  (call is_l07Then_3 [tA8 a0, tA8 a1, tA8 (List.replicate 8 0), tA8 (List.replicate 8 0), tI a2, tI 0]).bind fun o1 =>
  some [tA8 (gA8 o1 2)]
theorem es_l07Then (call : Oracle) (a0 : List Int) (a1 : List Int) (a2 : Int) : run1 E call is_l07Then [tA8 a0, tA8 a1, tI a2] = bs_l07Then call a0 a1 a2 := by kernel_rfl
theorem vs_l07Then (a0 : List Int) (a1 : List Int) (a2 : Int) {o : List TV} (h : bs_l07Then R a0 a1 a2 = some o) : R is_l07Then [tA8 a0, tA8 a1, tI a2] = some o := ev_step ((es_l07Then R a0 a1 a2).trans h)
/-- spec.l07Complement -/
noncomputable def bs_l07Complement (call : Oracle) (a0 : List Int) (a1 : Int) : Option (List TV) :=
  (call is_l07Back [tA8 a0, tI a1]).bind fun o1 =>
  (call is_l07Whole [tI a1]).bind fun o2 =>
  (call is_l07Then [tA8 (gA8 o1 0), tA8 (gA8 o2 0), tI a1]).bind fun o3 =>
  some [tA8 (gA8 o3 0)]
theorem es_l07Complement (call : Oracle) (a0 : List Int) (a1 : Int) : run1 E call is_l07Complement [tA8 a0, tI a1] = bs_l07Complement call a0 a1 := by kernel_rfl
theorem vs_l07Complement (a0 : List Int) (a1 : Int) {o : List TV} (h : bs_l07Complement R a0 a1 = some o) : R is_l07Complement [tA8 a0, tI a1] = some o := ev_step ((es_l07Complement R a0 a1).trans h)
/-- spec.ComplementOfPart -/
noncomputable def bs_ComplementOfPart (call : Oracle) (a0 : List Int) (a1 : Int) : Option (List TV) :=
  (call is_l07Is [tA8 a0, tI a1]).bind fun o1 =>
  bif (!(gB o1 0)) then
    some [tA8 (List.replicate 8 0), tI 1]
  else
    (call is_l07Complement [tA8 a0, tI a1]).bind fun o2 =>
    some [tA8 (gA8 o2 0), tI 0]
theorem es_ComplementOfPart (call : Oracle) (a0 : List Int) (a1 : Int) : run1 E call is_ComplementOfPart [tA8 a0, tI a1] = bs_ComplementOfPart call a0 a1 := by kernel_rfl
theorem vs_ComplementOfPart (a0 : List Int) (a1 : Int) {o : List TV} (h : bs_ComplementOfPart R a0 a1 = some o) : R is_ComplementOfPart [tA8 a0, tI a1] = some o := ev_step ((es_ComplementOfPart R a0 a1).trans h)
/-- impl.backOf loop 3 -/
noncomputable def bi_backOf_3 (call : Oracle) (x0 : List Int) (x1 : List Int) (x2 : List Int) (x3 : Int) (x4 : Int) : Option (List TV) :=
  bif decide (x4 < x3) then
    bif (decide (0 ≤ x4) && decide (x4 < 8)) then
      bif (decide (0 ≤ (List.getD x0 (Int.toNat x4) 0)) && decide ((List.getD x0 (Int.toNat x4) 0) < 8)) then
        call ii_backOf_3 [tA8 x0, tA8 x1, tA8 (List.set x2 (Int.toNat (List.getD x0 (Int.toNat x4) 0)) (wu8 (x4))), tI x3, tI (wi64 (x4 + 1))]
      else none
    else none
  else
    some [tI 0, tA8 x1, tA8 x2]
theorem ei_backOf_3 (call : Oracle) (x0 : List Int) (x1 : List Int) (x2 : List Int) (x3 : Int) (x4 : Int) : run1 E call ii_backOf_3 [tA8 x0, tA8 x1, tA8 x2, tI x3, tI x4] = bi_backOf_3 call x0 x1 x2 x3 x4 := by kernel_rfl
theorem vi_backOf_3 (x0 : List Int) (x1 : List Int) (x2 : List Int) (x3 : Int) (x4 : Int) {o : List TV} (h : bi_backOf_3 R x0 x1 x2 x3 x4 = some o) : R ii_backOf_3 [tA8 x0, tA8 x1, tA8 x2, tI x3, tI x4] = some o := ev_step ((ei_backOf_3 R x0 x1 x2 x3 x4).trans h)
/-- impl.backOf -/
noncomputable def bi_backOf (call : Oracle) (a0 : List Int) (a1 : Int) : Option (List TV) :=
  (call ii_backOf_3 [tA8 a0, tA8 (List.replicate 8 0), tA8 (List.replicate 8 0), tI a1, tI 0]).bind fun o1 =>
  some [tA8 (gA8 o1 2)]
theorem ei_backOf (call : Oracle) (a0 : List Int) (a1 : Int) : run1 E call ii_backOf [tA8 a0, tI a1] = bi_backOf call a0 a1 := by kernel_rfl
theorem vi_backOf (a0 : List Int) (a1 : Int) {o : List TV} (h : bi_backOf R a0 a1 = some o) : R ii_backOf [tA8 a0, tI a1] = some o := ev_step ((ei_backOf R a0 a1).trans h)
/-- impl.backPart -/
noncomputable def bi_backPart (call : Oracle) (a0 : List Int) (a1 : Int) : Option (List TV) :=
  (call ii_backOf [tA8 a0, tI a1]).bind fun o1 =>
  some [tA8 (gA8 o1 0)]
theorem ei_backPart (call : Oracle) (a0 : List Int) (a1 : Int) : run1 E call ii_backPart [tA8 a0, tI a1] = bi_backPart call a0 a1 := by kernel_rfl
theorem vi_backPart (a0 : List Int) (a1 : Int) {o : List TV} (h : bi_backPart R a0 a1 = some o) : R ii_backPart [tA8 a0, tI a1] = some o := ev_step ((ei_backPart R a0 a1).trans h)
/-- impl.wholePart loop 3 -/
noncomputable def bi_wholePart_3 (call : Oracle) (x0 : List Int) (x1 : List Int) (x2 : Int) (x3 : Int) (x4 : Int) : Option (List TV) :=
  bif decide (x4 < x3) then
    bif (x2 != 0) then
      bif (decide (0 ≤ x4) && decide (x4 < 8)) then
        call ii_wholePart_3 [tA8 x0, tA8 (List.set x1 (Int.toNat x4) (wu8 ((Int.tmod (wi64 (x4 + 1)) x2)))), tI x2, tI x3, tI (wi64 (x4 + 1))]
      else none
    else none
  else
    some [tI 0, tA8 x0, tA8 x1]
theorem ei_wholePart_3 (call : Oracle) (x0 : List Int) (x1 : List Int) (x2 : Int) (x3 : Int) (x4 : Int) : run1 E call ii_wholePart_3 [tA8 x0, tA8 x1, tI x2, tI x3, tI x4] = bi_wholePart_3 call x0 x1 x2 x3 x4 := by kernel_rfl
theorem vi_wholePart_3 (x0 : List Int) (x1 : List Int) (x2 : Int) (x3 : Int) (x4 : Int) {o : List TV} (h : bi_wholePart_3 R x0 x1 x2 x3 x4 = some o) : R ii_wholePart_3 [tA8 x0, tA8 x1, tI x2, tI x3, tI x4] = some o := ev_step ((ei_wholePart_3 R x0 x1 x2 x3 x4).trans h)
/-- impl.wholePart -/
noncomputable def bi_wholePart (call : Oracle) (a0 : Int) : Option (List TV) :=
  (call ii_wholePart_3 [tA8 (List.replicate 8 0), tA8 (List.replicate 8 0), tI a0, tI a0, tI 0]).bind fun o1 =>
  some [tA8 (gA8 o1 2)]
theorem ei_wholePart (call : Oracle) (a0 : Int) : run1 E call ii_wholePart [tI a0] = bi_wholePart call a0 := by kernel_rfl
theorem vi_wholePart (a0 : Int) {o : List TV} (h : bi_wholePart R a0 = some o) : R ii_wholePart [tI a0] = some o := ev_step ((ei_wholePart R a0).trans h)
/-- impl.then loop 3 -/
noncomputable def bi_then_3 (call : Oracle) (x0 : List Int) (x1 : List Int) (x2 : List Int) (x3 : List Int) (x4 : Int) (x5 : Int) : Option (List TV) :=
  bif decide (x5 < x4) then
    bif (decide (0 ≤ x5) && decide (x5 < 8)) then
      bif (decide (0 ≤ (List.getD x0 (Int.toNat x5) 0)) && decide ((List.getD x0 (Int.toNat x5) 0) < 8)) then
        bif (decide (0 ≤ x5) && decide (x5 < 8)) then
          call ii_then_3 [tA8 x0, tA8 x1, tA8 x2, tA8 (List.set x3 (Int.toNat x5) (List.getD x1 (Int.toNat (List.getD x0 (Int.toNat x5) 0)) 0)), tI x4, tI (wi64 (x5 + 1))]
        else none
      else none
    else none
  else
    some [tI 0, tA8 x2, tA8 x3]
theorem ei_then_3 (call : Oracle) (x0 : List Int) (x1 : List Int) (x2 : List Int) (x3 : List Int) (x4 : Int) (x5 : Int) : run1 E call ii_then_3 [tA8 x0, tA8 x1, tA8 x2, tA8 x3, tI x4, tI x5] = bi_then_3 call x0 x1 x2 x3 x4 x5 := by kernel_rfl
theorem vi_then_3 (x0 : List Int) (x1 : List Int) (x2 : List Int) (x3 : List Int) (x4 : Int) (x5 : Int) {o : List TV} (h : bi_then_3 R x0 x1 x2 x3 x4 x5 = some o) : R ii_then_3 [tA8 x0, tA8 x1, tA8 x2, tA8 x3, tI x4, tI x5] = some o := ev_step ((ei_then_3 R x0 x1 x2 x3 x4 x5).trans h)
/-- impl.then -/
noncomputable def bi_then (call : Oracle) (a0 : List Int) (a1 : List Int) (a2 : Int) : Option (List TV) :=
  (call ii_then_3 [tA8 a0, tA8 a1, tA8 (List.replicate 8 0), tA8 (List.replicate 8 0), tI a2, tI 0]).bind fun o1 =>
  some [tA8 (gA8 o1 2)]
theorem ei_then (call : Oracle) (a0 : List Int) (a1 : List Int) (a2 : Int) : run1 E call ii_then [tA8 a0, tA8 a1, tI a2] = bi_then call a0 a1 a2 := by kernel_rfl
theorem vi_then (a0 : List Int) (a1 : List Int) (a2 : Int) {o : List TV} (h : bi_then R a0 a1 a2 = some o) : R ii_then [tA8 a0, tA8 a1, tI a2] = some o := ev_step ((ei_then R a0 a1 a2).trans h)
/-- impl.thenPart -/
noncomputable def bi_thenPart (call : Oracle) (a0 : List Int) (a1 : List Int) (a2 : Int) : Option (List TV) :=
  (call ii_then [tA8 a0, tA8 a1, tI a2]).bind fun o1 =>
  some [tA8 (gA8 o1 0)]
theorem ei_thenPart (call : Oracle) (a0 : List Int) (a1 : List Int) (a2 : Int) : run1 E call ii_thenPart [tA8 a0, tA8 a1, tI a2] = bi_thenPart call a0 a1 a2 := by kernel_rfl
theorem vi_thenPart (a0 : List Int) (a1 : List Int) (a2 : Int) {o : List TV} (h : bi_thenPart R a0 a1 a2 = some o) : R ii_thenPart [tA8 a0, tA8 a1, tI a2] = some o := ev_step ((ei_thenPart R a0 a1 a2).trans h)
/-- impl.complementPart -/
noncomputable def bi_complementPart (call : Oracle) (a0 : List Int) (a1 : Int) : Option (List TV) :=
  (call ii_backPart [tA8 a0, tI a1]).bind fun o1 =>
  (call ii_wholePart [tI a1]).bind fun o2 =>
  (call ii_thenPart [tA8 (gA8 o1 0), tA8 (gA8 o2 0), tI a1]).bind fun o3 =>
  some [tA8 (gA8 o3 0)]
theorem ei_complementPart (call : Oracle) (a0 : List Int) (a1 : Int) : run1 E call ii_complementPart [tA8 a0, tI a1] = bi_complementPart call a0 a1 := by kernel_rfl
theorem vi_complementPart (a0 : List Int) (a1 : Int) {o : List TV} (h : bi_complementPart R a0 a1 = some o) : R ii_complementPart [tA8 a0, tI a1] = some o := ev_step ((ei_complementPart R a0 a1).trans h)
/-- impl.ComplementOfPart -/
noncomputable def bi_ComplementOfPart (call : Oracle) (a0 : List Int) (a1 : Int) : Option (List TV) :=
  (call ii_IsPart [tA8 a0, tI a1]).bind fun o1 =>
  bif (!(gB o1 0)) then
    some [tA8 (List.replicate 8 0), tI 1]
  else
    (call ii_complementPart [tA8 a0, tI a1]).bind fun o2 =>
    some [tA8 (gA8 o2 0), tI 0]
theorem ei_ComplementOfPart (call : Oracle) (a0 : List Int) (a1 : Int) : run1 E call ii_ComplementOfPart [tA8 a0, tI a1] = bi_ComplementOfPart call a0 a1 := by kernel_rfl
theorem vi_ComplementOfPart (a0 : List Int) (a1 : Int) {o : List TV} (h : bi_ComplementOfPart R a0 a1 = some o) : R ii_ComplementOfPart [tA8 a0, tI a1] = some o := ev_step ((ei_ComplementOfPart R a0 a1).trans h)
/-- laws.FnExactComplementOfPart -/
noncomputable def bw_FnExactComplementOfPart (call : Oracle) (a0 : List Int) (a1 : Int) : Option (List TV) :=
  (call iw_toPart [tA8 a0]).bind fun o1 =>
  (call is_ComplementOfPart [tA8 (gA8 o1 0), tI a1]).bind fun o2 =>
  (call iw_toPart [tA8 a0]).bind fun o3 =>
  (call ii_ComplementOfPart [tA8 (gA8 o3 0), tI a1]).bind fun o4 =>
  (call iw_eqPart [tA8 (gA8 o4 0), tA8 (gA8 o2 0)]).bind fun o5 =>
  bif (!(gB o5 0)) then
    some [tB false]
  else
    bif ((gI o4 1) != (gI o2 1)) then
      some [tB false]
    else
      some [tB true]
theorem ew_FnExactComplementOfPart (call : Oracle) (a0 : List Int) (a1 : Int) : run1 E call iw_FnExactComplementOfPart [tA8 a0, tI a1] = bw_FnExactComplementOfPart call a0 a1 := by kernel_rfl
theorem vw_FnExactComplementOfPart (a0 : List Int) (a1 : Int) {o : List TV} (h : bw_FnExactComplementOfPart R a0 a1 = some o) : R iw_FnExactComplementOfPart [tA8 a0, tI a1] = some o := ev_step ((ew_FnExactComplementOfPart R a0 a1).trans h)
/-- spec.JoinOfParts -/
noncomputable def bs_JoinOfParts (call : Oracle) (a0 : List Int) (a1 : List Int) (a2 : Int) : Option (List TV) :=
  (call is_l07Two [tA8 a0, tA8 a1, tI a2]).bind fun o1 =>
  bif ((gI o1 0) != 0) then
    some [tA8 (List.replicate 8 0), tI (gI o1 0)]
  else
    (call is_l07Complement [tA8 a0, tI a2]).bind fun o2 =>
    (call is_l07Complement [tA8 a1, tI a2]).bind fun o3 =>
    (call is_l07Meet [tA8 (gA8 o2 0), tA8 (gA8 o3 0), tI a2]).bind fun o4 =>
    (call is_l07Whole [tI a2]).bind fun o5 =>
    (call is_l07Back [tA8 (gA8 o4 0), tI a2]).bind fun o6 =>
    (call is_l07Then [tA8 (gA8 o5 0), tA8 (gA8 o6 0), tI a2]).bind fun o7 =>
    some [tA8 (gA8 o7 0), tI 0]
theorem es_JoinOfParts (call : Oracle) (a0 : List Int) (a1 : List Int) (a2 : Int) : run1 E call is_JoinOfParts [tA8 a0, tA8 a1, tI a2] = bs_JoinOfParts call a0 a1 a2 := by kernel_rfl
theorem vs_JoinOfParts (a0 : List Int) (a1 : List Int) (a2 : Int) {o : List TV} (h : bs_JoinOfParts R a0 a1 a2 = some o) : R is_JoinOfParts [tA8 a0, tA8 a1, tI a2] = some o := ev_step ((es_JoinOfParts R a0 a1 a2).trans h)
/-- impl.JoinOfParts loop 5 -/
noncomputable def bi_JoinOfParts_5 (call : Oracle) (x0 : List Int) (x1 : List Int) (x2 : List Int) (x3 : Int) (x4 : Int) : Option (List TV) :=
  bif decide (x4 < x3) then
    bif (decide (0 ≤ x4) && decide (x4 < 8)) then
      (call i_i_groups__merge [tLI x2, tI x4, tI (wi64 ((List.getD x0 (Int.toNat x4) 0)))]).bind fun o5 =>
      call ii_JoinOfParts_5 [tA8 x0, tA8 x1, tLI (gLI o5 0), tI x3, tI (wi64 (x4 + 1))]
    else none
  else
    some [tI 0, tA8 x1, tLI x2]
theorem ei_JoinOfParts_5 (call : Oracle) (x0 : List Int) (x1 : List Int) (x2 : List Int) (x3 : Int) (x4 : Int) : run1 E call ii_JoinOfParts_5 [tA8 x0, tA8 x1, tLI x2, tI x3, tI x4] = bi_JoinOfParts_5 call x0 x1 x2 x3 x4 := by kernel_rfl
theorem vi_JoinOfParts_5 (x0 : List Int) (x1 : List Int) (x2 : List Int) (x3 : Int) (x4 : Int) {o : List TV} (h : bi_JoinOfParts_5 R x0 x1 x2 x3 x4 = some o) : R ii_JoinOfParts_5 [tA8 x0, tA8 x1, tLI x2, tI x3, tI x4] = some o := ev_step ((ei_JoinOfParts_5 R x0 x1 x2 x3 x4).trans h)
/-- impl.JoinOfParts loop 9 -/
noncomputable def bi_JoinOfParts_9 (call : Oracle) (x0 : List Int) (x1 : List Int) : Option (List TV) :=
  (call i_i_groups__crossing [tLI x1]).bind fun o10 =>
  bif (!(gB o10 2)) then
    (call i_i_groups__part [tLI x1]).bind fun o11 =>
    some [tI 0, tA8 (gA8 o11 0), tI 0]
  else
    (call i_i_groups__merge [tLI x1, tI (gI o10 0), tI (gI o10 1)]).bind fun o12 =>
    call ii_JoinOfParts_9 [tA8 x0, tLI (gLI o12 0)]
theorem ei_JoinOfParts_9 (call : Oracle) (x0 : List Int) (x1 : List Int) : run1 E call ii_JoinOfParts_9 [tA8 x0, tLI x1] = bi_JoinOfParts_9 call x0 x1 := by kernel_rfl
theorem vi_JoinOfParts_9 (x0 : List Int) (x1 : List Int) {o : List TV} (h : bi_JoinOfParts_9 R x0 x1 = some o) : R ii_JoinOfParts_9 [tA8 x0, tLI x1] = some o := ev_step ((ei_JoinOfParts_9 R x0 x1).trans h)
/-- impl.JoinOfParts -/
noncomputable def bi_JoinOfParts (call : Oracle) (a0 : List Int) (a1 : List Int) (a2 : Int) : Option (List TV) :=
  (call ii_IsPart [tA8 a0, tI a2]).bind fun o1 =>
  bif (!(gB o1 0)) then
    some [tA8 (List.replicate 8 0), tI 1]
  else
    (call ii_IsPart [tA8 a1, tI a2]).bind fun o2 =>
    bif (!(gB o2 0)) then
      some [tA8 (List.replicate 8 0), tI 1]
    else
      (call ii_groupsOf [tA8 a0, tI a2]).bind fun o3 =>
      (call ii_JoinOfParts_5 [tA8 a1, tA8 (List.replicate 8 0), tLI (gLI o3 0), tI a2, tI 0]).bind fun o6 =>
      (call ii_JoinOfParts_9 [tA8 (gA8 o6 1), tLI (gLI o6 2)]).bind fun o13 =>
      some [tA8 (gA8 o13 1), tI (gI o13 2)]
theorem ei_JoinOfParts (call : Oracle) (a0 : List Int) (a1 : List Int) (a2 : Int) : run1 E call ii_JoinOfParts [tA8 a0, tA8 a1, tI a2] = bi_JoinOfParts call a0 a1 a2 := by kernel_rfl
theorem vi_JoinOfParts (a0 : List Int) (a1 : List Int) (a2 : Int) {o : List TV} (h : bi_JoinOfParts R a0 a1 a2 = some o) : R ii_JoinOfParts [tA8 a0, tA8 a1, tI a2] = some o := ev_step ((ei_JoinOfParts R a0 a1 a2).trans h)
end Go.Ev.Ytadjhggdddbicaa
