/- Bodies, part 2. -/
import Derived.KernelRfl
import Derived.Test.YtadjhggdddbicaaEnv
set_option linter.unusedVariables false
namespace Go.Ev.Ytadjhggdddbicaa
open Go.Ev
/-- laws.FnExactJoinOfParts -/
noncomputable def bw_FnExactJoinOfParts (call : Oracle) (a0 : List Int) (a1 : List Int) (a2 : Int) : Option (List TV) :=
  (call iw_toPart [tA8 a0]).bind fun o1 =>
  (call iw_toPart [tA8 a1]).bind fun o2 =>
  (call is_JoinOfParts [tA8 (gA8 o1 0), tA8 (gA8 o2 0), tI a2]).bind fun o3 =>
  (call iw_toPart [tA8 a0]).bind fun o4 =>
  (call iw_toPart [tA8 a1]).bind fun o5 =>
  (call ii_JoinOfParts [tA8 (gA8 o4 0), tA8 (gA8 o5 0), tI a2]).bind fun o6 =>
  (call iw_eqPart [tA8 (gA8 o6 0), tA8 (gA8 o3 0)]).bind fun o7 =>
  bif (!(gB o7 0)) then
    some [tB false]
  else
    bif ((gI o6 1) != (gI o3 1)) then
      some [tB false]
    else
      some [tB true]
theorem ew_FnExactJoinOfParts (call : Oracle) (a0 : List Int) (a1 : List Int) (a2 : Int) : run1 E call iw_FnExactJoinOfParts [tA8 a0, tA8 a1, tI a2] = bw_FnExactJoinOfParts call a0 a1 a2 := by kernel_rfl
theorem vw_FnExactJoinOfParts (a0 : List Int) (a1 : List Int) (a2 : Int) {o : List TV} (h : bw_FnExactJoinOfParts R a0 a1 a2 = some o) : R iw_FnExactJoinOfParts [tA8 a0, tA8 a1, tI a2] = some o := ev_step ((ew_FnExactJoinOfParts R a0 a1 a2).trans h)
/-- spec.l07Word loop 3 -/
noncomputable def bs_l07Word_3 (call : Oracle) (x0 : List Int) (x1 : List (List Int)) (x2 : Int) : Option (List TV) :=
  bif decide (x2 < ((List.length x1 : Nat) : Int)) then
    bif (decide (0 ≤ x2) && decide (x2 < ((List.length x1 : Nat) : Int))) then
      (call is_l07Word_6 [tLI x0, tLLI x1, tI x2, tI (wi64 (((List.length (List.getD x1 (Int.toNat x2) []) : Nat) : Int) - 1))]).bind fun o5 =>
      call is_l07Word_3 [tLI (gLI o5 1), tLLI (gLLI o5 2), tI (wi64 ((gI o5 3) + 1))]
    else none
  else
    some [tI 0, tLI x0]
theorem es_l07Word_3 (call : Oracle) (x0 : List Int) (x1 : List (List Int)) (x2 : Int) : run1 E call is_l07Word_3 [tLI x0, tLLI x1, tI x2] = bs_l07Word_3 call x0 x1 x2 := by kernel_rfl
theorem vs_l07Word_3 (x0 : List Int) (x1 : List (List Int)) (x2 : Int) {o : List TV} (h : bs_l07Word_3 R x0 x1 x2 = some o) : R is_l07Word_3 [tLI x0, tLLI x1, tI x2] = some o := ev_step ((es_l07Word_3 R x0 x1 x2).trans h)
/-- spec.l07Word loop 6 -/
noncomputable def bs_l07Word_6 (call : Oracle) (x0 : List Int) (x1 : List (List Int)) (x2 : Int) (x3 : Int) : Option (List TV) :=
  bif decide (0 < x3) then
    bif (decide (0 ≤ x2) && decide (x2 < ((List.length x1 : Nat) : Int))) then
      bif (decide (0 ≤ x3) && decide (x3 < ((List.length (List.getD x1 (Int.toNat x2) []) : Nat) : Int))) then
        bif (decide (0 ≤ x2) && decide (x2 < ((List.length x1 : Nat) : Int))) then
          bif (decide (0 ≤ (wi64 (x3 - 1))) && decide ((wi64 (x3 - 1)) < ((List.length (List.getD x1 (Int.toNat x2) []) : Nat) : Int))) then
            (call is_l07Band [tI (List.getD (List.getD x1 (Int.toNat x2) []) (Int.toNat x3) 0), tI (List.getD (List.getD x1 (Int.toNat x2) []) (Int.toNat (wi64 (x3 - 1))) 0)]).bind fun o3 =>
            bif (apOk x0 (gLI o3 0)) then
              call is_l07Word_6 [tLI (x0 ++ (gLI o3 0)), tLLI x1, tI x2, tI (wi64 (x3 - 1))]
            else none
          else none
        else none
      else none
    else none
  else
    some [tI 0, tLI x0, tLLI x1, tI x2]
theorem es_l07Word_6 (call : Oracle) (x0 : List Int) (x1 : List (List Int)) (x2 : Int) (x3 : Int) : run1 E call is_l07Word_6 [tLI x0, tLLI x1, tI x2, tI x3] = bs_l07Word_6 call x0 x1 x2 x3 := by kernel_rfl
theorem vs_l07Word_6 (x0 : List Int) (x1 : List (List Int)) (x2 : Int) (x3 : Int) {o : List TV} (h : bs_l07Word_6 R x0 x1 x2 x3 = some o) : R is_l07Word_6 [tLI x0, tLLI x1, tI x2, tI x3] = some o := ev_step ((es_l07Word_6 R x0 x1 x2 x3).trans h)
/-- spec.l07Word -/
noncomputable def bs_l07Word (call : Oracle) (a0 : List Int) (a1 : Int) : Option (List TV) :=
  (call is_l07Blocks [tA8 a0, tI a1]).bind fun o1 =>
  (call is_l07Word_3 [tLI [], tLLI (gLLI o1 0), tI 0]).bind fun o6 =>
  some [tLI (gLI o6 1)]
theorem es_l07Word (call : Oracle) (a0 : List Int) (a1 : Int) : run1 E call is_l07Word [tA8 a0, tI a1] = bs_l07Word call a0 a1 := by kernel_rfl
theorem vs_l07Word (a0 : List Int) (a1 : Int) {o : List TV} (h : bs_l07Word R a0 a1 = some o) : R is_l07Word [tA8 a0, tI a1] = some o := ev_step ((es_l07Word R a0 a1).trans h)
/-- spec.WordOfPart -/
noncomputable def bs_WordOfPart (call : Oracle) (a0 : List Int) (a1 : Int) : Option (List TV) :=
  (call is_l07Is [tA8 a0, tI a1]).bind fun o1 =>
  bif (!(gB o1 0)) then
    some [tPILI (0, []), tI 1]
  else
    (call is_l07Word [tA8 a0, tI a1]).bind fun o2 =>
    some [tPILI (a1, (gLI o2 0)), tI 0]
theorem es_WordOfPart (call : Oracle) (a0 : List Int) (a1 : Int) : run1 E call is_WordOfPart [tA8 a0, tI a1] = bs_WordOfPart call a0 a1 := by kernel_rfl
theorem vs_WordOfPart (a0 : List Int) (a1 : Int) {o : List TV} (h : bs_WordOfPart R a0 a1 = some o) : R is_WordOfPart [tA8 a0, tI a1] = some o := ev_step ((es_WordOfPart R a0 a1).trans h)
/-- impl.wordOfPart loop 3 -/
noncomputable def bi_wordOfPart_3 (call : Oracle) (x0 : List Int) (x1 : List (List Int)) (x2 : Int) (x3 : Int) : Option (List TV) :=
  bif decide (x3 < x2) then
    bif (decide (0 ≤ x3) && decide (x3 < ((List.length x1 : Nat) : Int))) then
      (call ii_wordOfPart_6 [tLI x0, tLI (List.getD x1 (Int.toNat x3) []), tLLI x1, tI (wi64 (((List.length (List.getD x1 (Int.toNat x3) []) : Nat) : Int) - 1)), tI x2, tI x3]).bind fun o5 =>
      call ii_wordOfPart_3 [tLI (gLI o5 1), tLLI (gLLI o5 2), tI (gI o5 3), tI (wi64 ((gI o5 4) + 1))]
    else none
  else
    some [tI 0, tLI x0]
theorem ei_wordOfPart_3 (call : Oracle) (x0 : List Int) (x1 : List (List Int)) (x2 : Int) (x3 : Int) : run1 E call ii_wordOfPart_3 [tLI x0, tLLI x1, tI x2, tI x3] = bi_wordOfPart_3 call x0 x1 x2 x3 := by kernel_rfl
theorem vi_wordOfPart_3 (x0 : List Int) (x1 : List (List Int)) (x2 : Int) (x3 : Int) {o : List TV} (h : bi_wordOfPart_3 R x0 x1 x2 x3 = some o) : R ii_wordOfPart_3 [tLI x0, tLLI x1, tI x2, tI x3] = some o := ev_step ((ei_wordOfPart_3 R x0 x1 x2 x3).trans h)
/-- impl.wordOfPart loop 6 -/
noncomputable def bi_wordOfPart_6 (call : Oracle) (x0 : List Int) (x1 : List Int) (x2 : List (List Int)) (x3 : Int) (x4 : Int) (x5 : Int) : Option (List TV) :=
  bif decide (0 < x3) then
    bif (decide (0 ≤ x3) && decide (x3 < ((List.length x1 : Nat) : Int))) then
      bif (decide (0 ≤ (wi64 (x3 - 1))) && decide ((wi64 (x3 - 1)) < ((List.length x1 : Nat) : Int))) then
        (call ii_band [tI (List.getD x1 (Int.toNat x3) 0), tI (List.getD x1 (Int.toNat (wi64 (x3 - 1))) 0)]).bind fun o3 =>
        bif (apOk x0 (gLI o3 0)) then
          call ii_wordOfPart_6 [tLI (x0 ++ (gLI o3 0)), tLI x1, tLLI x2, tI (wi64 (x3 - 1)), tI x4, tI x5]
        else none
      else none
    else none
  else
    some [tI 0, tLI x0, tLLI x2, tI x4, tI x5]
theorem ei_wordOfPart_6 (call : Oracle) (x0 : List Int) (x1 : List Int) (x2 : List (List Int)) (x3 : Int) (x4 : Int) (x5 : Int) : run1 E call ii_wordOfPart_6 [tLI x0, tLI x1, tLLI x2, tI x3, tI x4, tI x5] = bi_wordOfPart_6 call x0 x1 x2 x3 x4 x5 := by kernel_rfl
theorem vi_wordOfPart_6 (x0 : List Int) (x1 : List Int) (x2 : List (List Int)) (x3 : Int) (x4 : Int) (x5 : Int) {o : List TV} (h : bi_wordOfPart_6 R x0 x1 x2 x3 x4 x5 = some o) : R ii_wordOfPart_6 [tLI x0, tLI x1, tLLI x2, tI x3, tI x4, tI x5] = some o := ev_step ((ei_wordOfPart_6 R x0 x1 x2 x3 x4 x5).trans h)
/-- impl.wordOfPart -/
noncomputable def bi_wordOfPart (call : Oracle) (a0 : List Int) (a1 : Int) : Option (List TV) :=
  (call ii_blocksOf [tA8 a0, tI a1]).bind fun o1 =>
  (call ii_wordOfPart_3 [tLI [], tLLI (gLLI o1 0), tI ((List.length (gLLI o1 0) : Nat) : Int), tI 0]).bind fun o6 =>
  some [tLI (gLI o6 1)]
theorem ei_wordOfPart (call : Oracle) (a0 : List Int) (a1 : Int) : run1 E call ii_wordOfPart [tA8 a0, tI a1] = bi_wordOfPart call a0 a1 := by kernel_rfl
theorem vi_wordOfPart (a0 : List Int) (a1 : Int) {o : List TV} (h : bi_wordOfPart R a0 a1 = some o) : R ii_wordOfPart [tA8 a0, tI a1] = some o := ev_step ((ei_wordOfPart R a0 a1).trans h)
/-- impl.WordOfPart -/
noncomputable def bi_WordOfPart (call : Oracle) (a0 : List Int) (a1 : Int) : Option (List TV) :=
  (call ii_IsPart [tA8 a0, tI a1]).bind fun o1 =>
  bif (!(gB o1 0)) then
    some [tPILI (0, []), tI 1]
  else
    (call ii_wordOfPart [tA8 a0, tI a1]).bind fun o2 =>
    some [tPILI (a1, (gLI o2 0)), tI 0]
theorem ei_WordOfPart (call : Oracle) (a0 : List Int) (a1 : Int) : run1 E call ii_WordOfPart [tA8 a0, tI a1] = bi_WordOfPart call a0 a1 := by kernel_rfl
theorem vi_WordOfPart (a0 : List Int) (a1 : Int) {o : List TV} (h : bi_WordOfPart R a0 a1 = some o) : R ii_WordOfPart [tA8 a0, tI a1] = some o := ev_step ((ei_WordOfPart R a0 a1).trans h)
/-- laws.FnExactWordOfPart -/
noncomputable def bw_FnExactWordOfPart (call : Oracle) (a0 : List Int) (a1 : Int) : Option (List TV) :=
  (call iw_toPart [tA8 a0]).bind fun o1 =>
  (call is_WordOfPart [tA8 (gA8 o1 0), tI a1]).bind fun o2 =>
  (call iw_toPart [tA8 a0]).bind fun o3 =>
  (call ii_WordOfPart [tA8 (gA8 o3 0), tI a1]).bind fun o4 =>
  (call iw_eqBraid [tPILI ((gPILI o4 0).1, (gPILI o4 0).2), tPILI ((gPILI o2 0).1, (gPILI o2 0).2)]).bind fun o5 =>
  bif (!(gB o5 0)) then
    some [tB false]
  else
    bif ((gI o4 1) != (gI o2 1)) then
      some [tB false]
    else
      (call iw_markBraid [tPILI ((gPILI o4 0).1, (gPILI o4 0).2), tI 1]).bind fun o6 =>
      (call iw_heldBraid [tPILI ((gPILI o4 0).1, (gPILI o6 1).2), tI 1]).bind fun o7 =>
      bif decide ((gI o7 0) < 0) then
        some [tB false]
      else
        bif ((gI o7 0) != (gI o6 0)) then
          some [tB false]
        else
          (call iw_toPart [tA8 a0]).bind fun o8 =>
          (call ii_WordOfPart [tA8 (gA8 o8 0), tI a1]).bind fun o9 =>
          (call iw_eqBraid [tPILI ((gPILI o9 0).1, (gPILI o9 0).2), tPILI ((gPILI o2 0).1, (gPILI o2 0).2)]).bind fun o10 =>
          bif (!(gB o10 0)) then
            some [tB false]
          else
            bif ((gI o9 1) != (gI o2 1)) then
              some [tB false]
            else
              (call iw_heldBraid [tPILI ((gPILI o4 0).1, (gPILI o6 1).2), tI 1]).bind fun o11 =>
              bif decide ((gI o11 0) < 0) then
                some [tB false]
              else
                bif ((gI o11 0) != (gI o6 0)) then
                  some [tB false]
                else
                  some [tB true]
theorem ew_FnExactWordOfPart (call : Oracle) (a0 : List Int) (a1 : Int) : run1 E call iw_FnExactWordOfPart [tA8 a0, tI a1] = bw_FnExactWordOfPart call a0 a1 := by kernel_rfl
theorem vw_FnExactWordOfPart (a0 : List Int) (a1 : Int) {o : List TV} (h : bw_FnExactWordOfPart R a0 a1 = some o) : R iw_FnExactWordOfPart [tA8 a0, tI a1] = some o := ev_step ((ew_FnExactWordOfPart R a0 a1).trans h)
/-- laws.szPartS -/
noncomputable def bw_szPartS (call : Oracle) (a0 : List (List Int)) (a1 : Int) : Option (List TV) :=
  bif decide ((wi64 (a1 - ((List.length a0 : Nat) : Int))) < 0) then
    some [tI (-1)]
  else
    some [tI (wi64 (a1 - ((List.length a0 : Nat) : Int)))]
theorem ew_szPartS (call : Oracle) (a0 : List (List Int)) (a1 : Int) : run1 E call iw_szPartS [tLA8 a0, tI a1] = bw_szPartS call a0 a1 := by kernel_rfl
theorem vw_szPartS (a0 : List (List Int)) (a1 : Int) {o : List TV} (h : bw_szPartS R a0 a1 = some o) : R iw_szPartS [tLA8 a0, tI a1] = some o := ev_step ((ew_szPartS R a0 a1).trans h)
/-- laws.szDual -/
noncomputable def bw_szDual (call : Oracle) (a0 : Int × Int × List (List Int)) (a1 : Int) : Option (List TV) :=
  (call iw_szPartS [tLA8 a0.2.2, tI a1]).bind fun o1 =>
  bif decide ((gI o1 0) < 0) then
    some [tI (-1)]
  else
    some [tI (gI o1 0)]
theorem ew_szDual (call : Oracle) (a0 : Int × Int × List (List Int)) (a1 : Int) : run1 E call iw_szDual [tPIPILA8 a0, tI a1] = bw_szDual call a0 a1 := by kernel_rfl
theorem vw_szDual (a0 : Int × Int × List (List Int)) (a1 : Int) {o : List TV} (h : bw_szDual R a0 a1 = some o) : R iw_szDual [tPIPILA8 a0, tI a1] = some o := ev_step ((ew_szDual R a0 a1).trans h)
/-- laws.toPartS loop 3 -/
noncomputable def bw_toPartS_3 (call : Oracle) (x0 : List (List Int)) (x1 : List (List Int)) (x2 : Int) : Option (List TV) :=
  bif decide (x2 < ((List.length x0 : Nat) : Int)) then
    bif (decide (0 ≤ x2) && decide (x2 < ((List.length x0 : Nat) : Int))) then
      (call iw_toPart [tA8 (List.getD x0 (Int.toNat x2) (List.replicate 8 0))]).bind fun o2 =>
      bif (decide (0 ≤ x2) && decide (x2 < ((List.length x1 : Nat) : Int))) then
        call iw_toPartS_3 [tLA8 x0, tLA8 (List.set x1 (Int.toNat x2) (gA8 o2 0)), tI (wi64 (x2 + 1))]
      else none
    else none
  else
    some [tI 0, tLA8 x1]
theorem ew_toPartS_3 (call : Oracle) (x0 : List (List Int)) (x1 : List (List Int)) (x2 : Int) : run1 E call iw_toPartS_3 [tLA8 x0, tLA8 x1, tI x2] = bw_toPartS_3 call x0 x1 x2 := by kernel_rfl
theorem vw_toPartS_3 (x0 : List (List Int)) (x1 : List (List Int)) (x2 : Int) {o : List TV} (h : bw_toPartS_3 R x0 x1 x2 = some o) : R iw_toPartS_3 [tLA8 x0, tLA8 x1, tI x2] = some o := ev_step ((ew_toPartS_3 R x0 x1 x2).trans h)
/-- laws.toPartS -/
noncomputable def bw_toPartS (call : Oracle) (a0 : List (List Int)) : Option (List TV) :=
  bif (mkOk ((List.length a0 : Nat) : Int)) then
    (call iw_toPartS_3 [tLA8 a0, tLA8 (List.replicate (Int.toNat ((List.length a0 : Nat) : Int)) (List.replicate 8 0)), tI 0]).bind fun o3 =>
    some [tLA8 (gLA8 o3 1)]
  else none
theorem ew_toPartS (call : Oracle) (a0 : List (List Int)) : run1 E call iw_toPartS [tLA8 a0] = bw_toPartS call a0 := by kernel_rfl
theorem vw_toPartS (a0 : List (List Int)) {o : List TV} (h : bw_toPartS R a0 = some o) : R iw_toPartS [tLA8 a0] = some o := ev_step ((ew_toPartS R a0).trans h)
/-- laws.toDual -/
noncomputable def bw_toDual (call : Oracle) (a0 : Int × Int × List (List Int)) : Option (List TV) :=
  (call iw_toPartS [tLA8 a0.2.2]).bind fun o1 =>
  some [tPIPILA8 (a0.1, (a0.2.1, (gLA8 o1 0)))]
theorem ew_toDual (call : Oracle) (a0 : Int × Int × List (List Int)) : run1 E call iw_toDual [tPIPILA8 a0] = bw_toDual call a0 := by kernel_rfl
theorem vw_toDual (a0 : Int × Int × List (List Int)) {o : List TV} (h : bw_toDual R a0 = some o) : R iw_toDual [tPIPILA8 a0] = some o := ev_step ((ew_toDual R a0).trans h)
/-- spec.l01Strands loop 3 -/
noncomputable def bs_l01Strands_3 (call : Oracle) (x0 : List Int) (x1 : List Int) (x2 : List Int) (x3 : Int) (x4 : Int) : Option (List TV) :=
  bif decide (x4 < x3) then
    bif (decide (0 ≤ x4) && decide (x4 < 8)) then
      call is_l01Strands_3 [tLI x0, tA8 x1, tA8 (List.set x2 (Int.toNat x4) (wu8 (x4))), tI x3, tI (wi64 (x4 + 1))]
    else none
  else
    some [tI 0, tLI x0, tA8 x1, tA8 x2]
theorem es_l01Strands_3 (call : Oracle) (x0 : List Int) (x1 : List Int) (x2 : List Int) (x3 : Int) (x4 : Int) : run1 E call is_l01Strands_3 [tLI x0, tA8 x1, tA8 x2, tI x3, tI x4] = bs_l01Strands_3 call x0 x1 x2 x3 x4 := by kernel_rfl
theorem vs_l01Strands_3 (x0 : List Int) (x1 : List Int) (x2 : List Int) (x3 : Int) (x4 : Int) {o : List TV} (h : bs_l01Strands_3 R x0 x1 x2 x3 x4 = some o) : R is_l01Strands_3 [tLI x0, tA8 x1, tA8 x2, tI x3, tI x4] = some o := ev_step ((es_l01Strands_3 R x0 x1 x2 x3 x4).trans h)
/-- spec.l01Strands loop 7 -/
noncomputable def bs_l01Strands_7 (call : Oracle) (x0 : List Int) (x1 : List Int) (x2 : List Int) (x3 : Int) : Option (List TV) :=
  bif decide (x3 < ((List.length x0 : Nat) : Int)) then
    bif (decide (0 ≤ x3) && decide (x3 < ((List.length x0 : Nat) : Int))) then
      bif (decide (0 ≤ x3) && decide (x3 < ((List.length x0 : Nat) : Int))) then
        bif (decide (0 ≤ (mx (List.getD x0 (Int.toNat x3) 0) (wi64 (0 - (List.getD x0 (Int.toNat x3) 0))))) && decide ((mx (List.getD x0 (Int.toNat x3) 0) (wi64 (0 - (List.getD x0 (Int.toNat x3) 0)))) < 8)) then
          bif (decide (0 ≤ (wi64 ((mx (List.getD x0 (Int.toNat x3) 0) (wi64 (0 - (List.getD x0 (Int.toNat x3) 0)))) - 1))) && decide ((wi64 ((mx (List.getD x0 (Int.toNat x3) 0) (wi64 (0 - (List.getD x0 (Int.toNat x3) 0)))) - 1)) < 8)) then
            bif (decide (0 ≤ (mx (List.getD x0 (Int.toNat x3) 0) (wi64 (0 - (List.getD x0 (Int.toNat x3) 0))))) && decide ((mx (List.getD x0 (Int.toNat x3) 0) (wi64 (0 - (List.getD x0 (Int.toNat x3) 0)))) < 8)) then
              bif (decide (0 ≤ (wi64 ((mx (List.getD x0 (Int.toNat x3) 0) (wi64 (0 - (List.getD x0 (Int.toNat x3) 0)))) - 1))) && decide ((wi64 ((mx (List.getD x0 (Int.toNat x3) 0) (wi64 (0 - (List.getD x0 (Int.toNat x3) 0)))) - 1)) < 8)) then
                call is_l01Strands_7 [tLI x0, tA8 x1, tA8 (List.set (List.set x2 (Int.toNat (mx (List.getD x0 (Int.toNat x3) 0) (wi64 (0 - (List.getD x0 (Int.toNat x3) 0))))) (List.getD x2 (Int.toNat (wi64 ((mx (List.getD x0 (Int.toNat x3) 0) (wi64 (0 - (List.getD x0 (Int.toNat x3) 0)))) - 1))) 0)) (Int.toNat (wi64 ((mx (List.getD x0 (Int.toNat x3) 0) (wi64 (0 - (List.getD x0 (Int.toNat x3) 0)))) - 1))) (List.getD x2 (Int.toNat (mx (List.getD x0 (Int.toNat x3) 0) (wi64 (0 - (List.getD x0 (Int.toNat x3) 0))))) 0)), tI (wi64 (x3 + 1))]
              else none
            else none
          else none
        else none
      else none
    else none
  else
    some [tI 0, tA8 x1, tA8 x2]
theorem es_l01Strands_7 (call : Oracle) (x0 : List Int) (x1 : List Int) (x2 : List Int) (x3 : Int) : run1 E call is_l01Strands_7 [tLI x0, tA8 x1, tA8 x2, tI x3] = bs_l01Strands_7 call x0 x1 x2 x3 := by kernel_rfl
theorem vs_l01Strands_7 (x0 : List Int) (x1 : List Int) (x2 : List Int) (x3 : Int) {o : List TV} (h : bs_l01Strands_7 R x0 x1 x2 x3 = some o) : R is_l01Strands_7 [tLI x0, tA8 x1, tA8 x2, tI x3] = some o := ev_step ((es_l01Strands_7 R x0 x1 x2 x3).trans h)
/-- spec.l01Strands -/
noncomputable def bs_l01Strands (call : Oracle) (a0 : Int) (a1 : List Int) : Option (List TV) :=
  (call is_l01Strands_3 [tLI a1, tA8 (List.replicate 8 0), tA8 (List.replicate 8 0), tI a0, tI 0]).bind fun o1 =>
  (call is_l01Strands_7 [tLI (gLI o1 1), tA8 (gA8 o1 2), tA8 (gA8 o1 3), tI 0]).bind fun o2 =>
  some [tA8 (gA8 o2 2)]
theorem es_l01Strands (call : Oracle) (a0 : Int) (a1 : List Int) : run1 E call is_l01Strands [tI a0, tLI a1] = bs_l01Strands call a0 a1 := by kernel_rfl
theorem vs_l01Strands (a0 : Int) (a1 : List Int) {o : List TV} (h : bs_l01Strands R a0 a1 = some o) : R is_l01Strands [tI a0, tLI a1] = some o := ev_step ((es_l01Strands R a0 a1).trans h)
/-- spec.l01Perm loop 3 -/
noncomputable def bs_l01Perm_3 (call : Oracle) (x0 : List Int) (x1 : List Int) (x2 : List Int) (x3 : Int) (x4 : Int) : Option (List TV) :=
  bif decide (x4 < x3) then
    bif (decide (0 ≤ x4) && decide (x4 < 8)) then
      bif (decide (0 ≤ (List.getD x1 (Int.toNat x4) 0)) && decide ((List.getD x1 (Int.toNat x4) 0) < 8)) then
        call is_l01Perm_3 [tA8 x0, tA8 x1, tA8 (List.set x2 (Int.toNat (List.getD x1 (Int.toNat x4) 0)) (wu8 (x4))), tI x3, tI (wi64 (x4 + 1))]
      else none
    else none
  else
    some [tI 0, tA8 x0, tA8 x2]
theorem es_l01Perm_3 (call : Oracle) (x0 : List Int) (x1 : List Int) (x2 : List Int) (x3 : Int) (x4 : Int) : run1 E call is_l01Perm_3 [tA8 x0, tA8 x1, tA8 x2, tI x3, tI x4] = bs_l01Perm_3 call x0 x1 x2 x3 x4 := by kernel_rfl
theorem vs_l01Perm_3 (x0 : List Int) (x1 : List Int) (x2 : List Int) (x3 : Int) (x4 : Int) {o : List TV} (h : bs_l01Perm_3 R x0 x1 x2 x3 x4 = some o) : R is_l01Perm_3 [tA8 x0, tA8 x1, tA8 x2, tI x3, tI x4] = some o := ev_step ((es_l01Perm_3 R x0 x1 x2 x3 x4).trans h)
/-- spec.l01Perm -/
noncomputable def bs_l01Perm (call : Oracle) (a0 : Int) (a1 : List Int) : Option (List TV) :=
  (call is_l01Strands [tI a0, tLI a1]).bind fun o1 =>
  (call is_l01Perm_3 [tA8 (List.replicate 8 0), tA8 (gA8 o1 0), tA8 (List.replicate 8 0), tI a0, tI 0]).bind fun o2 =>
  some [tA8 (gA8 o2 2)]
theorem es_l01Perm (call : Oracle) (a0 : Int) (a1 : List Int) : run1 E call is_l01Perm [tI a0, tLI a1] = bs_l01Perm call a0 a1 := by kernel_rfl
theorem vs_l01Perm (a0 : Int) (a1 : List Int) {o : List TV} (h : bs_l01Perm R a0 a1 = some o) : R is_l01Perm [tI a0, tLI a1] = some o := ev_step ((es_l01Perm R a0 a1).trans h)
/-- spec.l07Fine -/
noncomputable def bs_l07Fine (call : Oracle) (a0 : Int) : Option (List TV) :=
  (call is_l01Perm [tI a0, tLI []]).bind fun o1 =>
  some [tA8 (gA8 o1 0)]
theorem es_l07Fine (call : Oracle) (a0 : Int) : run1 E call is_l07Fine [tI a0] = bs_l07Fine call a0 := by kernel_rfl
theorem vs_l07Fine (a0 : Int) {o : List TV} (h : bs_l07Fine R a0 = some o) : R is_l07Fine [tI a0] = some o := ev_step ((es_l07Fine R a0).trans h)
/-- spec.l07Dual loop 5 -/
noncomputable def bs_l07Dual_5 (call : Oracle) (x0 : Int) (x1 : Int) (x2 : List (List Int)) (x3 : Int) (x4 : Int) : Option (List TV) :=
  bif decide (x4 < ((List.length x2 : Nat) : Int)) then
    bif (decide (0 ≤ x4) && decide (x4 < ((List.length x2 : Nat) : Int))) then
      (call is_l07Is [tA8 (List.getD x2 (Int.toNat x4) (List.replicate 8 0)), tI x3]).bind fun o9 =>
      bif (!(gB o9 0)) then
        some [tI 1, tB false]
      else
        (call is_l07Fine [tI x3]).bind fun o10 =>
        bif ((List.getD x2 (Int.toNat x4) (List.replicate 8 0)) == (gA8 o10 0)) then
          some [tI 1, tB false]
        else
          (call is_l07Whole [tI x3]).bind fun o11 =>
          bif ((List.getD x2 (Int.toNat x4) (List.replicate 8 0)) == (gA8 o11 0)) then
            some [tI 1, tB false]
          else
            bif decide (0 < x4) then
              bif (decide (0 ≤ (wi64 (x4 - 1))) && decide ((wi64 (x4 - 1)) < ((List.length x2 : Nat) : Int))) then
                (call is_l07Complement [tA8 (List.getD x2 (Int.toNat (wi64 (x4 - 1))) (List.replicate 8 0)), tI x3]).bind fun o12 =>
                (call is_l07Meet [tA8 (gA8 o12 0), tA8 (List.getD x2 (Int.toNat x4) (List.replicate 8 0)), tI x3]).bind fun o13 =>
                (call is_l07Fine [tI x3]).bind fun o14 =>
                bif ((gA8 o13 0) != (gA8 o14 0)) then
                  some [tI 1, tB false]
                else
                  call is_l07Dual_5 [tI x0, tI x1, tLA8 x2, tI x3, tI (wi64 (x4 + 1))]
              else none
            else
              call is_l07Dual_5 [tI x0, tI x1, tLA8 x2, tI x3, tI (wi64 (x4 + 1))]
    else none
  else
    some [tI 0]
theorem es_l07Dual_5 (call : Oracle) (x0 : Int) (x1 : Int) (x2 : List (List Int)) (x3 : Int) (x4 : Int) : run1 E call is_l07Dual_5 [tI x0, tI x1, tLA8 x2, tI x3, tI x4] = bs_l07Dual_5 call x0 x1 x2 x3 x4 := by kernel_rfl
theorem vs_l07Dual_5 (x0 : Int) (x1 : Int) (x2 : List (List Int)) (x3 : Int) (x4 : Int) {o : List TV} (h : bs_l07Dual_5 R x0 x1 x2 x3 x4 = some o) : R is_l07Dual_5 [tI x0, tI x1, tLA8 x2, tI x3, tI x4] = some o := ev_step ((es_l07Dual_5 R x0 x1 x2 x3 x4).trans h)
/-- spec.l07Dual -/
noncomputable def bs_l07Dual (call : Oracle) (a0 : Int × Int × List (List Int)) : Option (List TV) :=
  (call is_l01In [tI a0.1, tI 1, tI 8]).bind fun o1 =>
  bif (!(gB o1 0)) then
    some [tB false]
  else
    (call is_l01In [tI a0.2.1, tI (-400), tI 400]).bind fun o2 =>
    bif (!(gB o2 0)) then
      some [tB false]
    else
      bif decide (400 < ((List.length a0.2.2 : Nat) : Int)) then
        some [tB false]
      else
        bif decide (a0.1 < 2) then
          bif (a0.2.1 != 0) then
            some [tB false]
          else
            (call is_l07Dual_5 [tI a0.1, tI a0.2.1, tLA8 a0.2.2, tI a0.1, tI 0]).bind fun o15 =>
            bif ((gI o15 0) == 0) then
              some [tB true]
            else
              some [tB (gB o15 1)]
        else
          (call is_l07Dual_5 [tI a0.1, tI a0.2.1, tLA8 a0.2.2, tI a0.1, tI 0]).bind fun o16 =>
          bif ((gI o16 0) == 0) then
            some [tB true]
          else
            some [tB (gB o16 1)]
theorem es_l07Dual (call : Oracle) (a0 : Int × Int × List (List Int)) : run1 E call is_l07Dual [tPIPILA8 a0] = bs_l07Dual call a0 := by kernel_rfl
theorem vs_l07Dual (a0 : Int × Int × List (List Int)) {o : List TV} (h : bs_l07Dual R a0 = some o) : R is_l07Dual [tPIPILA8 a0] = some o := ev_step ((es_l07Dual R a0).trans h)
/-- spec.IsDual -/
noncomputable def bs_IsDual (call : Oracle) (a0 : Int × Int × List (List Int)) : Option (List TV) :=
  (call is_l07Dual [tPIPILA8 (a0.1, (a0.2.1, a0.2.2))]).bind fun o1 =>
  some [tB (gB o1 0)]
theorem es_IsDual (call : Oracle) (a0 : Int × Int × List (List Int)) : run1 E call is_IsDual [tPIPILA8 a0] = bs_IsDual call a0 := by kernel_rfl
theorem vs_IsDual (a0 : Int × Int × List (List Int)) {o : List TV} (h : bs_IsDual R a0 = some o) : R is_IsDual [tPIPILA8 a0] = some o := ev_step ((es_IsDual R a0).trans h)
/-- impl.nothing loop 3 -/
noncomputable def bi_nothing_3 (call : Oracle) (x0 : List Int) (x1 : List Int) (x2 : Int) (x3 : Int) : Option (List TV) :=
  bif decide (x3 < x2) then
    bif (decide (0 ≤ x3) && decide (x3 < 8)) then
      call ii_nothing_3 [tA8 x0, tA8 (List.set x1 (Int.toNat x3) (wu8 (x3))), tI x2, tI (wi64 (x3 + 1))]
    else none
  else
    some [tI 0, tA8 x0, tA8 x1]
theorem ei_nothing_3 (call : Oracle) (x0 : List Int) (x1 : List Int) (x2 : Int) (x3 : Int) : run1 E call ii_nothing_3 [tA8 x0, tA8 x1, tI x2, tI x3] = bi_nothing_3 call x0 x1 x2 x3 := by kernel_rfl
theorem vi_nothing_3 (x0 : List Int) (x1 : List Int) (x2 : Int) (x3 : Int) {o : List TV} (h : bi_nothing_3 R x0 x1 x2 x3 = some o) : R ii_nothing_3 [tA8 x0, tA8 x1, tI x2, tI x3] = some o := ev_step ((ei_nothing_3 R x0 x1 x2 x3).trans h)
/-- impl.nothing -/
noncomputable def bi_nothing (call : Oracle) (a0 : Int) : Option (List TV) :=
  (call ii_nothing_3 [tA8 (List.replicate 8 0), tA8 (List.replicate 8 0), tI a0, tI 0]).bind fun o1 =>
  some [tA8 (gA8 o1 2)]
theorem ei_nothing (call : Oracle) (a0 : Int) : run1 E call ii_nothing [tI a0] = bi_nothing call a0 := by kernel_rfl
theorem vi_nothing (a0 : Int) {o : List TV} (h : bi_nothing R a0 = some o) : R ii_nothing [tI a0] = some o := ev_step ((ei_nothing R a0).trans h)
/-- impl.finePart -/
noncomputable def bi_finePart (call : Oracle) (a0 : Int) : Option (List TV) :=
  (call ii_nothing [tI a0]).bind fun o1 =>
  some [tA8 (gA8 o1 0)]
theorem ei_finePart (call : Oracle) (a0 : Int) : run1 E call ii_finePart [tI a0] = bi_finePart call a0 := by kernel_rfl
theorem vi_finePart (a0 : Int) {o : List TV} (h : bi_finePart R a0 = some o) : R ii_finePart [tI a0] = some o := ev_step ((ei_finePart R a0).trans h)
/-- impl.IsDual loop 5 -/
noncomputable def bi_IsDual_5 (call : Oracle) (x0 : Int) (x1 : Int) (x2 : List (List Int)) (x3 : Int) (x4 : Int) (x5 : Int) : Option (List TV) :=
  bif decide (x5 < x4) then
    bif (decide (0 ≤ x5) && decide (x5 < ((List.length x2 : Nat) : Int))) then
      (call ii_IsPart [tA8 (List.getD x2 (Int.toNat x5) (List.replicate 8 0)), tI x3]).bind fun o9 =>
      bif (!(gB o9 0)) then
        some [tI 1, tB false]
      else
        (call ii_finePart [tI x3]).bind fun o10 =>
        bif ((List.getD x2 (Int.toNat x5) (List.replicate 8 0)) == (gA8 o10 0)) then
          some [tI 1, tB false]
        else
          (call ii_wholePart [tI x3]).bind fun o11 =>
          bif ((List.getD x2 (Int.toNat x5) (List.replicate 8 0)) == (gA8 o11 0)) then
            some [tI 1, tB false]
          else
            bif decide (0 < x5) then
              bif (decide (0 ≤ (wi64 (x5 - 1))) && decide ((wi64 (x5 - 1)) < ((List.length x2 : Nat) : Int))) then
                (call ii_complementPart [tA8 (List.getD x2 (Int.toNat (wi64 (x5 - 1))) (List.replicate 8 0)), tI x3]).bind fun o12 =>
                (call ii_meetParts [tA8 (gA8 o12 0), tA8 (List.getD x2 (Int.toNat x5) (List.replicate 8 0)), tI x3]).bind fun o13 =>
                (call ii_finePart [tI x3]).bind fun o14 =>
                bif ((gA8 o13 0) != (gA8 o14 0)) then
                  some [tI 1, tB false]
                else
                  call ii_IsDual_5 [tI x0, tI x1, tLA8 x2, tI x3, tI x4, tI (wi64 (x5 + 1))]
              else none
            else
              call ii_IsDual_5 [tI x0, tI x1, tLA8 x2, tI x3, tI x4, tI (wi64 (x5 + 1))]
    else none
  else
    some [tI 0]
theorem ei_IsDual_5 (call : Oracle) (x0 : Int) (x1 : Int) (x2 : List (List Int)) (x3 : Int) (x4 : Int) (x5 : Int) : run1 E call ii_IsDual_5 [tI x0, tI x1, tLA8 x2, tI x3, tI x4, tI x5] = bi_IsDual_5 call x0 x1 x2 x3 x4 x5 := by kernel_rfl
theorem vi_IsDual_5 (x0 : Int) (x1 : Int) (x2 : List (List Int)) (x3 : Int) (x4 : Int) (x5 : Int) {o : List TV} (h : bi_IsDual_5 R x0 x1 x2 x3 x4 x5 = some o) : R ii_IsDual_5 [tI x0, tI x1, tLA8 x2, tI x3, tI x4, tI x5] = some o := ev_step ((ei_IsDual_5 R x0 x1 x2 x3 x4 x5).trans h)
/-- impl.IsDual -/
noncomputable def bi_IsDual (call : Oracle) (a0 : Int × Int × List (List Int)) : Option (List TV) :=
  (call ii_isCount [tI a0.1]).bind fun o1 =>
  bif (!(gB o1 0)) then
    some [tB false]
  else
    (call ii_within [tI a0.2.1, tI (-400), tI 400]).bind fun o2 =>
    bif (!(gB o2 0)) then
      some [tB false]
    else
      bif decide (400 < ((List.length a0.2.2 : Nat) : Int)) then
        some [tB false]
      else
        bif (a0.1 == 1) then
          bif (a0.2.1 != 0) then
            some [tB false]
          else
            (call ii_IsDual_5 [tI a0.1, tI a0.2.1, tLA8 a0.2.2, tI a0.1, tI ((List.length a0.2.2 : Nat) : Int), tI 0]).bind fun o15 =>
            bif ((gI o15 0) == 0) then
              some [tB true]
            else
              some [tB (gB o15 1)]
        else
          (call ii_IsDual_5 [tI a0.1, tI a0.2.1, tLA8 a0.2.2, tI a0.1, tI ((List.length a0.2.2 : Nat) : Int), tI 0]).bind fun o16 =>
          bif ((gI o16 0) == 0) then
            some [tB true]
          else
            some [tB (gB o16 1)]
theorem ei_IsDual (call : Oracle) (a0 : Int × Int × List (List Int)) : run1 E call ii_IsDual [tPIPILA8 a0] = bi_IsDual call a0 := by kernel_rfl
theorem vi_IsDual (a0 : Int × Int × List (List Int)) {o : List TV} (h : bi_IsDual R a0 = some o) : R ii_IsDual [tPIPILA8 a0] = some o := ev_step ((ei_IsDual R a0).trans h)
/-- laws.eqPartS loop 4 -/
noncomputable def bw_eqPartS_4 (call : Oracle) (x0 : List (List Int)) (x1 : List (List Int)) (x2 : Int) : Option (List TV) :=
  bif decide (x2 < ((List.length x0 : Nat) : Int)) then
    bif (decide (0 ≤ x2) && decide (x2 < ((List.length x0 : Nat) : Int))) then
      bif (decide (0 ≤ x2) && decide (x2 < ((List.length x1 : Nat) : Int))) then
        (call iw_eqPart [tA8 (List.getD x0 (Int.toNat x2) (List.replicate 8 0)), tA8 (List.getD x1 (Int.toNat x2) (List.replicate 8 0))]).bind fun o2 =>
        bif (!(gB o2 0)) then
          some [tI 1, tB false]
        else
          call iw_eqPartS_4 [tLA8 x0, tLA8 x1, tI (wi64 (x2 + 1))]
      else none
    else none
  else
    some [tI 0]
theorem ew_eqPartS_4 (call : Oracle) (x0 : List (List Int)) (x1 : List (List Int)) (x2 : Int) : run1 E call iw_eqPartS_4 [tLA8 x0, tLA8 x1, tI x2] = bw_eqPartS_4 call x0 x1 x2 := by kernel_rfl
theorem vw_eqPartS_4 (x0 : List (List Int)) (x1 : List (List Int)) (x2 : Int) {o : List TV} (h : bw_eqPartS_4 R x0 x1 x2 = some o) : R iw_eqPartS_4 [tLA8 x0, tLA8 x1, tI x2] = some o := ev_step ((ew_eqPartS_4 R x0 x1 x2).trans h)
/-- laws.eqPartS -/
noncomputable def bw_eqPartS (call : Oracle) (a0 : List (List Int)) (a1 : List (List Int)) : Option (List TV) :=
  bif (((List.length a0 : Nat) : Int) != ((List.length a1 : Nat) : Int)) then
    some [tB false]
  else
    (call iw_eqPartS_4 [tLA8 a0, tLA8 a1, tI 0]).bind fun o3 =>
    bif ((gI o3 0) == 0) then
      some [tB true]
    else
      some [tB (gB o3 1)]
theorem ew_eqPartS (call : Oracle) (a0 : List (List Int)) (a1 : List (List Int)) : run1 E call iw_eqPartS [tLA8 a0, tLA8 a1] = bw_eqPartS call a0 a1 := by kernel_rfl
theorem vw_eqPartS (a0 : List (List Int)) (a1 : List (List Int)) {o : List TV} (h : bw_eqPartS R a0 a1 = some o) : R iw_eqPartS [tLA8 a0, tLA8 a1] = some o := ev_step ((ew_eqPartS R a0 a1).trans h)
/-- laws.eqDual -/
noncomputable def bw_eqDual (call : Oracle) (a0 : Int × Int × List (List Int)) (a1 : Int × Int × List (List Int)) : Option (List TV) :=
  bif (a0.1 != a1.1) then
    some [tB false]
  else
    bif (a0.2.1 != a1.2.1) then
      some [tB false]
    else
      (call iw_eqPartS [tLA8 a0.2.2, tLA8 a1.2.2]).bind fun o1 =>
      bif (!(gB o1 0)) then
        some [tB false]
      else
        some [tB true]
theorem ew_eqDual (call : Oracle) (a0 : Int × Int × List (List Int)) (a1 : Int × Int × List (List Int)) : run1 E call iw_eqDual [tPIPILA8 a0, tPIPILA8 a1] = bw_eqDual call a0 a1 := by kernel_rfl
theorem vw_eqDual (a0 : Int × Int × List (List Int)) (a1 : Int × Int × List (List Int)) {o : List TV} (h : bw_eqDual R a0 a1 = some o) : R iw_eqDual [tPIPILA8 a0, tPIPILA8 a1] = some o := ev_step ((ew_eqDual R a0 a1).trans h)
/-- laws.FnExactIsDual -/
noncomputable def bw_FnExactIsDual (call : Oracle) (a0 : Int × Int × List (List Int)) : Option (List TV) :=
  (call iw_szDual [tPIPILA8 (a0.1, (a0.2.1, a0.2.2)), tI 1048576]).bind fun o1 =>
  bif decide ((gI o1 0) < 0) then
    some [tB true]
  else
    (call iw_toDual [tPIPILA8 (a0.1, (a0.2.1, a0.2.2))]).bind fun o2 =>
    (call is_IsDual [tPIPILA8 ((gPIPILA8 o2 0).1, (((gPIPILA8 o2 0).2).1, ((gPIPILA8 o2 0).2).2))]).bind fun o3 =>
    (call iw_toDual [tPIPILA8 (a0.1, (a0.2.1, a0.2.2))]).bind fun o4 =>
    (call ii_IsDual [tPIPILA8 ((gPIPILA8 o4 0).1, (((gPIPILA8 o4 0).2).1, ((gPIPILA8 o4 0).2).2))]).bind fun o5 =>
    bif ((gB o5 0) != (gB o3 0)) then
      some [tB false]
    else
      (call iw_toDual [tPIPILA8 (a0.1, (a0.2.1, a0.2.2))]).bind fun o6 =>
      (call iw_eqDual [tPIPILA8 ((gPIPILA8 o4 0).1, (((gPIPILA8 o4 0).2).1, ((gPIPILA8 o4 0).2).2)), tPIPILA8 ((gPIPILA8 o6 0).1, (((gPIPILA8 o6 0).2).1, ((gPIPILA8 o6 0).2).2))]).bind fun o7 =>
      bif (!(gB o7 0)) then
        some [tB false]
      else
        some [tB true]
theorem ew_FnExactIsDual (call : Oracle) (a0 : Int × Int × List (List Int)) : run1 E call iw_FnExactIsDual [tPIPILA8 a0] = bw_FnExactIsDual call a0 := by kernel_rfl
theorem vw_FnExactIsDual (a0 : Int × Int × List (List Int)) {o : List TV} (h : bw_FnExactIsDual R a0 = some o) : R iw_FnExactIsDual [tPIPILA8 a0] = some o := ev_step ((ew_FnExactIsDual R a0).trans h)
/-- laws.szBraid -/
noncomputable def bw_szBraid (call : Oracle) (a0 : Int × List Int) (a1 : Int) : Option (List TV) :=
  (call iw_szInt64S [tLI a0.2, tI a1]).bind fun o1 =>
  bif decide ((gI o1 0) < 0) then
    some [tI (-1)]
  else
    some [tI (gI o1 0)]
theorem ew_szBraid (call : Oracle) (a0 : Int × List Int) (a1 : Int) : run1 E call iw_szBraid [tPILI a0, tI a1] = bw_szBraid call a0 a1 := by kernel_rfl
theorem vw_szBraid (a0 : Int × List Int) (a1 : Int) {o : List TV} (h : bw_szBraid R a0 a1 = some o) : R iw_szBraid [tPILI a0, tI a1] = some o := ev_step ((ew_szBraid R a0 a1).trans h)
/-- laws.toBraid -/
noncomputable def bw_toBraid (call : Oracle) (a0 : Int × List Int) : Option (List TV) :=
  (call iw_toInt64S [tLI a0.2]).bind fun o1 =>
  some [tPILI (a0.1, (gLI o1 0))]
theorem ew_toBraid (call : Oracle) (a0 : Int × List Int) : run1 E call iw_toBraid [tPILI a0] = bw_toBraid call a0 := by kernel_rfl
theorem vw_toBraid (a0 : Int × List Int) {o : List TV} (h : bw_toBraid R a0 = some o) : R iw_toBraid [tPILI a0] = some o := ev_step ((ew_toBraid R a0).trans h)
/-- spec.l01Is loop 4 -/
noncomputable def bs_l01Is_4 (call : Oracle) (x0 : Int) (x1 : List Int) (x2 : Int) : Option (List TV) :=
  bif decide (x2 < ((List.length x1 : Nat) : Int)) then
    bif (decide (0 ≤ x2) && decide (x2 < ((List.length x1 : Nat) : Int))) then
      (call is_l01In [tI (List.getD x1 (Int.toNat x2) 0), tI 1, tI (wi64 (x0 - 1))]).bind fun o4 =>
      bif (!(gB o4 0)) then
        (call is_l01In [tI (wi64 (0 - (List.getD x1 (Int.toNat x2) 0))), tI 1, tI (wi64 (x0 - 1))]).bind fun o5 =>
        bif (!(gB o5 0)) then
          some [tI 1, tB false]
        else
          call is_l01Is_4 [tI x0, tLI x1, tI (wi64 (x2 + 1))]
      else
        call is_l01Is_4 [tI x0, tLI x1, tI (wi64 (x2 + 1))]
    else none
  else
    some [tI 0]
theorem es_l01Is_4 (call : Oracle) (x0 : Int) (x1 : List Int) (x2 : Int) : run1 E call is_l01Is_4 [tI x0, tLI x1, tI x2] = bs_l01Is_4 call x0 x1 x2 := by kernel_rfl
theorem vs_l01Is_4 (x0 : Int) (x1 : List Int) (x2 : Int) {o : List TV} (h : bs_l01Is_4 R x0 x1 x2 = some o) : R is_l01Is_4 [tI x0, tLI x1, tI x2] = some o := ev_step ((es_l01Is_4 R x0 x1 x2).trans h)
/-- spec.l01Is -/
noncomputable def bs_l01Is (call : Oracle) (a0 : Int × List Int) : Option (List TV) :=
  (call is_l01In [tI a0.1, tI 1, tI 8]).bind fun o1 =>
  bif (!(gB o1 0)) then
    some [tB false]
  else
    bif decide (200 < ((List.length a0.2 : Nat) : Int)) then
      some [tB false]
    else
      (call is_l01Is_4 [tI a0.1, tLI a0.2, tI 0]).bind fun o6 =>
      bif ((gI o6 0) == 0) then
        some [tB true]
      else
        some [tB (gB o6 1)]
theorem es_l01Is (call : Oracle) (a0 : Int × List Int) : run1 E call is_l01Is [tPILI a0] = bs_l01Is call a0 := by kernel_rfl
theorem vs_l01Is (a0 : Int × List Int) {o : List TV} (h : bs_l01Is R a0 = some o) : R is_l01Is [tPILI a0] = some o := ev_step ((es_l01Is R a0).trans h)
/-- spec.l07Put loop 4 -/
noncomputable def bs_l07Put_4 (call : Oracle) (x0 : Int) (x1 : Int) (x2 : List (List Int)) (x3 : Int) (x4 : Int) (x5 : List (List Int)) (x6 : List (List Int)) (x7 : Int) (x8 : Int) : Option (List TV) :=
  bif decide (0 < x8) then
    bif (decide (0 ≤ (wi64 (x8 - 1))) && decide ((wi64 (x8 - 1)) < ((List.length x6 : Nat) : Int))) then
      (call is_l07Complement [tA8 (List.getD x6 (Int.toNat (wi64 (x8 - 1))) (List.replicate 8 0)), tI x7]).bind fun o6 =>
      bif (decide (0 ≤ x8) && decide (x8 < ((List.length x6 : Nat) : Int))) then
        (call is_l07Meet [tA8 (gA8 o6 0), tA8 (List.getD x6 (Int.toNat x8) (List.replicate 8 0)), tI x7]).bind fun o7 =>
        bif (decide (0 ≤ (wi64 (x8 - 1))) && decide ((wi64 (x8 - 1)) < ((List.length x6 : Nat) : Int))) then
          (call is_l07Then [tA8 (List.getD x6 (Int.toNat (wi64 (x8 - 1))) (List.replicate 8 0)), tA8 (gA8 o7 0), tI x7]).bind fun o8 =>
          bif (decide (0 ≤ (wi64 (x8 - 1))) && decide ((wi64 (x8 - 1)) < ((List.length x6 : Nat) : Int))) then
            (call is_l07Back [tA8 (gA8 o7 0), tI x7]).bind fun o9 =>
            bif (decide (0 ≤ x8) && decide (x8 < ((List.length (List.set x6 (Int.toNat (wi64 (x8 - 1))) (gA8 o8 0)) : Nat) : Int))) then
              (call is_l07Then [tA8 (gA8 o9 0), tA8 (List.getD (List.set x6 (Int.toNat (wi64 (x8 - 1))) (gA8 o8 0)) (Int.toNat x8) (List.replicate 8 0)), tI x7]).bind fun o10 =>
              bif (decide (0 ≤ x8) && decide (x8 < ((List.length (List.set x6 (Int.toNat (wi64 (x8 - 1))) (gA8 o8 0)) : Nat) : Int))) then
                call is_l07Put_4 [tI x0, tI x1, tLA8 x2, tI x3, tI x4, tLA8 x5, tLA8 (List.set (List.set x6 (Int.toNat (wi64 (x8 - 1))) (gA8 o8 0)) (Int.toNat x8) (gA8 o10 0)), tI x7, tI (wi64 (x8 - 1))]
              else none
            else none
          else none
        else none
      else none
    else none
  else
    some [tI 0, tI x0, tI x1, tLA8 x2, tI x3, tI x4, tLA8 x5, tLA8 x6, tI x7]
theorem es_l07Put_4 (call : Oracle) (x0 : Int) (x1 : Int) (x2 : List (List Int)) (x3 : Int) (x4 : Int) (x5 : List (List Int)) (x6 : List (List Int)) (x7 : Int) (x8 : Int) : run1 E call is_l07Put_4 [tI x0, tI x1, tLA8 x2, tI x3, tI x4, tLA8 x5, tLA8 x6, tI x7, tI x8] = bs_l07Put_4 call x0 x1 x2 x3 x4 x5 x6 x7 x8 := by kernel_rfl
theorem vs_l07Put_4 (x0 : Int) (x1 : Int) (x2 : List (List Int)) (x3 : Int) (x4 : Int) (x5 : List (List Int)) (x6 : List (List Int)) (x7 : Int) (x8 : Int) {o : List TV} (h : bs_l07Put_4 R x0 x1 x2 x3 x4 x5 x6 x7 x8 = some o) : R is_l07Put_4 [tI x0, tI x1, tLA8 x2, tI x3, tI x4, tLA8 x5, tLA8 x6, tI x7, tI x8] = some o := ev_step ((es_l07Put_4 R x0 x1 x2 x3 x4 x5 x6 x7 x8).trans h)
/-- spec.l07Put loop 11 -/
noncomputable def bs_l07Put_11 (call : Oracle) (x0 : Int) (x1 : Int) (x2 : List (List Int)) (x3 : List (List Int)) (x4 : Int) (x5 : Int) (x6 : List (List Int)) (x7 : Int) (x8 : Int) : Option (List TV) :=
  bif decide (x8 < ((List.length x3 : Nat) : Int)) then
    bif (decide (0 ≤ x8) && decide (x8 < ((List.length x3 : Nat) : Int))) then
      (call is_l07Fine [tI x7]).bind fun o14 =>
      bif ((List.getD x3 (Int.toNat x8) (List.replicate 8 0)) == (gA8 o14 0)) then
        call is_l07Put_11 [tI x0, tI x1, tLA8 x2, tLA8 x3, tI x4, tI x5, tLA8 x6, tI x7, tI (wi64 (x8 + 1))]
      else
        bif (decide (0 ≤ x8) && decide (x8 < ((List.length x3 : Nat) : Int))) then
          (call is_l07Whole [tI x7]).bind fun o15 =>
          bif ((List.getD x3 (Int.toNat x8) (List.replicate 8 0)) == (gA8 o15 0)) then
            call is_l07Put_11 [tI x0, tI x1, tLA8 x2, tLA8 x3, tI x4, tI (wi64 (x5 + 1)), tLA8 x6, tI x7, tI (wi64 (x8 + 1))]
          else
            bif (decide (0 ≤ x8) && decide (x8 < ((List.length x3 : Nat) : Int))) then
              bif (apOk x6 [(List.getD x3 (Int.toNat x8) (List.replicate 8 0))]) then
                call is_l07Put_11 [tI x0, tI x1, tLA8 x2, tLA8 x3, tI x4, tI x5, tLA8 (x6 ++ [(List.getD x3 (Int.toNat x8) (List.replicate 8 0))]), tI x7, tI (wi64 (x8 + 1))]
              else none
            else none
        else none
    else none
  else
    some [tI 0, tI x0, tI x1, tLA8 x2, tI x4, tI x5, tLA8 x6]
theorem es_l07Put_11 (call : Oracle) (x0 : Int) (x1 : Int) (x2 : List (List Int)) (x3 : List (List Int)) (x4 : Int) (x5 : Int) (x6 : List (List Int)) (x7 : Int) (x8 : Int) : run1 E call is_l07Put_11 [tI x0, tI x1, tLA8 x2, tLA8 x3, tI x4, tI x5, tLA8 x6, tI x7, tI x8] = bs_l07Put_11 call x0 x1 x2 x3 x4 x5 x6 x7 x8 := by kernel_rfl
theorem vs_l07Put_11 (x0 : Int) (x1 : Int) (x2 : List (List Int)) (x3 : List (List Int)) (x4 : Int) (x5 : Int) (x6 : List (List Int)) (x7 : Int) (x8 : Int) {o : List TV} (h : bs_l07Put_11 R x0 x1 x2 x3 x4 x5 x6 x7 x8 = some o) : R is_l07Put_11 [tI x0, tI x1, tLA8 x2, tLA8 x3, tI x4, tI x5, tLA8 x6, tI x7, tI x8] = some o := ev_step ((es_l07Put_11 R x0 x1 x2 x3 x4 x5 x6 x7 x8).trans h)
/-- spec.l07Put -/
noncomputable def bs_l07Put (call : Oracle) (a0 : Int × Int × List (List Int)) (a1 : List Int) : Option (List TV) :=
  bif (apOk [] a0.2.2) then
    bif (apOk a0.2.2 [a1]) then
      (call is_l07Put_4 [tI a0.1, tI a0.2.1, tLA8 a0.2.2, tI 0, tI 0, tLA8 [], tLA8 (a0.2.2 ++ [a1]), tI a0.1, tI (wi64 (((List.length (a0.2.2 ++ [a1]) : Nat) : Int) - 1))]).bind fun o11 =>
      (call is_l07Put_11 [tI (gI o11 4), tI (gI o11 5), tLA8 (gLA8 o11 6), tLA8 (gLA8 o11 7), tI (gI o11 8), tI (gI o11 2), tLA8 [], tI (gI o11 8), tI 0]).bind fun o16 =>
      some [tPIPILA8 ((gI o16 4), ((gI o16 5), (gLA8 o16 6)))]
    else none
  else none
theorem es_l07Put (call : Oracle) (a0 : Int × Int × List (List Int)) (a1 : List Int) : run1 E call is_l07Put [tPIPILA8 a0, tA8 a1] = bs_l07Put call a0 a1 := by kernel_rfl
theorem vs_l07Put (a0 : Int × Int × List (List Int)) (a1 : List Int) {o : List TV} (h : bs_l07Put R a0 a1 = some o) : R is_l07Put [tPIPILA8 a0, tA8 a1] = some o := ev_step ((es_l07Put R a0 a1).trans h)
/-- spec.l07Form loop 3 -/
noncomputable def bs_l07Form_3 (call : Oracle) (x0 : List Int) (x1 : Int) (x2 : Int) (x3 : List (List Int)) (x4 : Int) (x5 : Int) (x6 : List (List Int)) (x7 : Int) (x8 : Int) : Option (List TV) :=
  bif decide (x8 < ((List.length x0 : Nat) : Int)) then
    bif (decide (0 ≤ x8) && decide (x8 < ((List.length x0 : Nat) : Int))) then
      bif (decide (0 ≤ x8) && decide (x8 < ((List.length x0 : Nat) : Int))) then
        (call is_l07Fine [tI x7]).bind fun o10 =>
        bif (decide (0 ≤ (wi64 ((mx (List.getD x0 (Int.toNat x8) 0) (wi64 (0 - (List.getD x0 (Int.toNat x8) 0)))) - 1))) && decide ((wi64 ((mx (List.getD x0 (Int.toNat x8) 0) (wi64 (0 - (List.getD x0 (Int.toNat x8) 0)))) - 1)) < 8)) then
          bif (decide (0 ≤ (mx (List.getD x0 (Int.toNat x8) 0) (wi64 (0 - (List.getD x0 (Int.toNat x8) 0))))) && decide ((mx (List.getD x0 (Int.toNat x8) 0) (wi64 (0 - (List.getD x0 (Int.toNat x8) 0)))) < 8)) then
            bif (decide (0 ≤ x8) && decide (x8 < ((List.length x0 : Nat) : Int))) then
              bif decide ((List.getD x0 (Int.toNat x8) 0) < 0) then
                (call is_l07Form_11 [tLI x0, tI x1, tI x2, tLA8 x3, tI x4, tI x5, tLA8 x6, tA8 (List.set (List.set (gA8 o10 0) (Int.toNat (wi64 ((mx (List.getD x0 (Int.toNat x8) 0) (wi64 (0 - (List.getD x0 (Int.toNat x8) 0)))) - 1))) (wu8 ((mx (List.getD x0 (Int.toNat x8) 0) (wi64 (0 - (List.getD x0 (Int.toNat x8) 0))))))) (Int.toNat (mx (List.getD x0 (Int.toNat x8) 0) (wi64 (0 - (List.getD x0 (Int.toNat x8) 0))))) (wu8 ((wi64 ((mx (List.getD x0 (Int.toNat x8) 0) (wi64 (0 - (List.getD x0 (Int.toNat x8) 0)))) - 1))))), tI x7, tI x8, tI 0]).bind fun o11 =>
                (call is_l07Whole [tI (gI o11 9)]).bind fun o12 =>
                (call is_l07Back [tA8 (gA8 o11 8), tI (gI o11 9)]).bind fun o13 =>
                (call is_l07Then [tA8 (gA8 o12 0), tA8 (gA8 o13 0), tI (gI o11 9)]).bind fun o14 =>
                (call is_l07Put [tPIPILA8 ((gI o11 5), ((wi64 ((gI o11 6) - 1)), (gLA8 o11 7))), tA8 (gA8 o14 0)]).bind fun o15 =>
                call is_l07Form_3 [tLI (gLI o11 1), tI (gI o11 2), tI (gI o11 3), tLA8 (gLA8 o11 4), tI ((gPIPILA8 o15 0).1), tI (((gPIPILA8 o15 0).2).1), tLA8 (((gPIPILA8 o15 0).2).2), tI (gI o11 9), tI (wi64 ((gI o11 10) + 1))]
              else
                (call is_l07Put [tPIPILA8 (x4, (x5, x6)), tA8 (List.set (List.set (gA8 o10 0) (Int.toNat (wi64 ((mx (List.getD x0 (Int.toNat x8) 0) (wi64 (0 - (List.getD x0 (Int.toNat x8) 0)))) - 1))) (wu8 ((mx (List.getD x0 (Int.toNat x8) 0) (wi64 (0 - (List.getD x0 (Int.toNat x8) 0))))))) (Int.toNat (mx (List.getD x0 (Int.toNat x8) 0) (wi64 (0 - (List.getD x0 (Int.toNat x8) 0))))) (wu8 ((wi64 ((mx (List.getD x0 (Int.toNat x8) 0) (wi64 (0 - (List.getD x0 (Int.toNat x8) 0)))) - 1)))))]).bind fun o16 =>
                call is_l07Form_3 [tLI x0, tI x1, tI x2, tLA8 x3, tI ((gPIPILA8 o16 0).1), tI (((gPIPILA8 o16 0).2).1), tLA8 (((gPIPILA8 o16 0).2).2), tI x7, tI (wi64 (x8 + 1))]
            else none
          else none
        else none
      else none
    else none
  else
    some [tI 0, tI x1, tI x2, tLA8 x3, tI x4, tI x5, tLA8 x6]
theorem es_l07Form_3 (call : Oracle) (x0 : List Int) (x1 : Int) (x2 : Int) (x3 : List (List Int)) (x4 : Int) (x5 : Int) (x6 : List (List Int)) (x7 : Int) (x8 : Int) : run1 E call is_l07Form_3 [tLI x0, tI x1, tI x2, tLA8 x3, tI x4, tI x5, tLA8 x6, tI x7, tI x8] = bs_l07Form_3 call x0 x1 x2 x3 x4 x5 x6 x7 x8 := by kernel_rfl
theorem vs_l07Form_3 (x0 : List Int) (x1 : Int) (x2 : Int) (x3 : List (List Int)) (x4 : Int) (x5 : Int) (x6 : List (List Int)) (x7 : Int) (x8 : Int) {o : List TV} (h : bs_l07Form_3 R x0 x1 x2 x3 x4 x5 x6 x7 x8 = some o) : R is_l07Form_3 [tLI x0, tI x1, tI x2, tLA8 x3, tI x4, tI x5, tLA8 x6, tI x7, tI x8] = some o := ev_step ((es_l07Form_3 R x0 x1 x2 x3 x4 x5 x6 x7 x8).trans h)
/-- spec.l07Form loop 11 -/
noncomputable def bs_l07Form_11 (call : Oracle) (x0 : List Int) (x1 : Int) (x2 : Int) (x3 : List (List Int)) (x4 : Int) (x5 : Int) (x6 : List (List Int)) (x7 : List Int) (x8 : Int) (x9 : Int) (x10 : Int) : Option (List TV) :=
  bif decide (x10 < ((List.length x6 : Nat) : Int)) then
    bif (decide (0 ≤ x10) && decide (x10 < ((List.length x6 : Nat) : Int))) then
      (call is_l07Turn [tA8 (List.getD x6 (Int.toNat x10) (List.replicate 8 0)), tI x8, tI (-1)]).bind fun o3 =>
      bif (decide (0 ≤ x10) && decide (x10 < ((List.length x6 : Nat) : Int))) then
        call is_l07Form_11 [tLI x0, tI x1, tI x2, tLA8 x3, tI x4, tI x5, tLA8 (List.set x6 (Int.toNat x10) (gA8 o3 0)), tA8 x7, tI x8, tI x9, tI (wi64 (x10 + 1))]
      else none
    else none
  else
    some [tI 0, tLI x0, tI x1, tI x2, tLA8 x3, tI x4, tI x5, tLA8 x6, tA8 x7, tI x8, tI x9]
theorem es_l07Form_11 (call : Oracle) (x0 : List Int) (x1 : Int) (x2 : Int) (x3 : List (List Int)) (x4 : Int) (x5 : Int) (x6 : List (List Int)) (x7 : List Int) (x8 : Int) (x9 : Int) (x10 : Int) : run1 E call is_l07Form_11 [tLI x0, tI x1, tI x2, tLA8 x3, tI x4, tI x5, tLA8 x6, tA8 x7, tI x8, tI x9, tI x10] = bs_l07Form_11 call x0 x1 x2 x3 x4 x5 x6 x7 x8 x9 x10 := by kernel_rfl
theorem vs_l07Form_11 (x0 : List Int) (x1 : Int) (x2 : Int) (x3 : List (List Int)) (x4 : Int) (x5 : Int) (x6 : List (List Int)) (x7 : List Int) (x8 : Int) (x9 : Int) (x10 : Int) {o : List TV} (h : bs_l07Form_11 R x0 x1 x2 x3 x4 x5 x6 x7 x8 x9 x10 = some o) : R is_l07Form_11 [tLI x0, tI x1, tI x2, tLA8 x3, tI x4, tI x5, tLA8 x6, tA8 x7, tI x8, tI x9, tI x10] = some o := ev_step ((es_l07Form_11 R x0 x1 x2 x3 x4 x5 x6 x7 x8 x9 x10).trans h)
/-- spec.l07Form -/
noncomputable def bs_l07Form (call : Oracle) (a0 : Int) (a1 : List Int) : Option (List TV) :=
  (call is_l07Form_3 [tLI a1, tI 0, tI 0, tLA8 [], tI a0, tI 0, tLA8 [], tI a0, tI 0]).bind fun o17 =>
  some [tPIPILA8 ((gI o17 4), ((gI o17 5), (gLA8 o17 6)))]
theorem es_l07Form (call : Oracle) (a0 : Int) (a1 : List Int) : run1 E call is_l07Form [tI a0, tLI a1] = bs_l07Form call a0 a1 := by kernel_rfl
theorem vs_l07Form (a0 : Int) (a1 : List Int) {o : List TV} (h : bs_l07Form R a0 a1 = some o) : R is_l07Form [tI a0, tLI a1] = some o := ev_step ((es_l07Form R a0 a1).trans h)
/-- spec.DualForm -/
noncomputable def bs_DualForm (call : Oracle) (a0 : Int × List Int) : Option (List TV) :=
  (call is_l01Is [tPILI (a0.1, a0.2)]).bind fun o1 =>
  bif (!(gB o1 0)) then
    some [tPIPILA8 (0, (0, [])), tI 1]
  else
    (call is_l07Form [tI a0.1, tLI a0.2]).bind fun o2 =>
    some [tPIPILA8 ((gPIPILA8 o2 0).1, (((gPIPILA8 o2 0).2).1, ((gPIPILA8 o2 0).2).2)), tI 0]
theorem es_DualForm (call : Oracle) (a0 : Int × List Int) : run1 E call is_DualForm [tPILI a0] = bs_DualForm call a0 := by kernel_rfl
theorem vs_DualForm (a0 : Int × List Int) {o : List TV} (h : bs_DualForm R a0 = some o) : R is_DualForm [tPILI a0] = some o := ev_step ((es_DualForm R a0).trans h)
/-- impl.isLetter -/
noncomputable def bi_isLetter (call : Oracle) (a0 : Int) (a1 : Int) : Option (List TV) :=
  bif (a0 != 0) then
    (call ii_within [tI a0, tI (wi64 (1 - a1)), tI (wi64 (a1 - 1))]).bind fun o1 =>
    some [tB (gB o1 0)]
  else
    some [tB false]
theorem ei_isLetter (call : Oracle) (a0 : Int) (a1 : Int) : run1 E call ii_isLetter [tI a0, tI a1] = bi_isLetter call a0 a1 := by kernel_rfl
theorem vi_isLetter (a0 : Int) (a1 : Int) {o : List TV} (h : bi_isLetter R a0 a1 = some o) : R ii_isLetter [tI a0, tI a1] = some o := ev_step ((ei_isLetter R a0 a1).trans h)
/-- impl.IsBraid loop 4 -/
noncomputable def bi_IsBraid_4 (call : Oracle) (x0 : Int) (x1 : List Int) (x2 : Int) (x3 : Int) : Option (List TV) :=
  bif decide (x3 < x2) then
    bif (decide (0 ≤ x3) && decide (x3 < ((List.length x1 : Nat) : Int))) then
      (call ii_isLetter [tI (List.getD x1 (Int.toNat x3) 0), tI x0]).bind fun o3 =>
      bif (!(gB o3 0)) then
        some [tI 1, tB false]
      else
        call ii_IsBraid_4 [tI x0, tLI x1, tI x2, tI (wi64 (x3 + 1))]
    else none
  else
    some [tI 0]
theorem ei_IsBraid_4 (call : Oracle) (x0 : Int) (x1 : List Int) (x2 : Int) (x3 : Int) : run1 E call ii_IsBraid_4 [tI x0, tLI x1, tI x2, tI x3] = bi_IsBraid_4 call x0 x1 x2 x3 := by kernel_rfl
theorem vi_IsBraid_4 (x0 : Int) (x1 : List Int) (x2 : Int) (x3 : Int) {o : List TV} (h : bi_IsBraid_4 R x0 x1 x2 x3 = some o) : R ii_IsBraid_4 [tI x0, tLI x1, tI x2, tI x3] = some o := ev_step ((ei_IsBraid_4 R x0 x1 x2 x3).trans h)
/-- impl.IsBraid -/
noncomputable def bi_IsBraid (call : Oracle) (a0 : Int × List Int) : Option (List TV) :=
  (call ii_isCount [tI a0.1]).bind fun o1 =>
  bif (!(gB o1 0)) then
    some [tB false]
  else
    bif decide (200 < ((List.length a0.2 : Nat) : Int)) then
      some [tB false]
    else
      (call ii_IsBraid_4 [tI a0.1, tLI a0.2, tI ((List.length a0.2 : Nat) : Int), tI 0]).bind fun o4 =>
      bif ((gI o4 0) == 0) then
        some [tB true]
      else
        some [tB (gB o4 1)]
theorem ei_IsBraid (call : Oracle) (a0 : Int × List Int) : run1 E call ii_IsBraid [tPILI a0] = bi_IsBraid call a0 := by kernel_rfl
theorem vi_IsBraid (a0 : Int × List Int) {o : List TV} (h : bi_IsBraid R a0 = some o) : R ii_IsBraid [tPILI a0] = some o := ev_step ((ei_IsBraid R a0).trans h)
/-- impl.size -/
noncomputable def bi_size (call : Oracle) (a0 : Int) : Option (List TV) :=
  some [tI (mx a0 (wi64 (0 - a0)))]
theorem ei_size (call : Oracle) (a0 : Int) : run1 E call ii_size [tI a0] = bi_size call a0 := by kernel_rfl
theorem vi_size (a0 : Int) {o : List TV} (h : bi_size R a0 = some o) : R ii_size [tI a0] = some o := ev_step ((ei_size R a0).trans h)
/-- impl.exchange -/
noncomputable def bi_exchange (call : Oracle) (a0 : Int) (a1 : Int) : Option (List TV) :=
  (call ii_nothing [tI a1]).bind fun o1 =>
  bif (decide (0 ≤ a0) && decide (a0 < 8)) then
    bif (decide (0 ≤ (wi64 (a0 - 1))) && decide ((wi64 (a0 - 1)) < 8)) then
      bif (decide (0 ≤ (wi64 (a0 - 1))) && decide ((wi64 (a0 - 1)) < 8)) then
        bif (decide (0 ≤ a0) && decide (a0 < 8)) then
          some [tA8 (List.set (List.set (gA8 o1 0) (Int.toNat (wi64 (a0 - 1))) (List.getD (gA8 o1 0) (Int.toNat a0) 0)) (Int.toNat a0) (List.getD (gA8 o1 0) (Int.toNat (wi64 (a0 - 1))) 0))]
        else none
      else none
    else none
  else none
theorem ei_exchange (call : Oracle) (a0 : Int) (a1 : Int) : run1 E call ii_exchange [tI a0, tI a1] = bi_exchange call a0 a1 := by kernel_rfl
theorem vi_exchange (a0 : Int) (a1 : Int) {o : List TV} (h : bi_exchange R a0 a1 = some o) : R ii_exchange [tI a0, tI a1] = some o := ev_step ((ei_exchange R a0 a1).trans h)
/-- (*impl.Dual).put loop 5 -/
noncomputable def b__i_Dual__put_5 (call : Oracle) (x0 : Int) (x1 : Int) (x2 : List (List Int)) (x3 : Int) (x4 : Int) : Option (List TV) :=
  bif decide (0 < x4) then
    bif (decide (0 ≤ (wi64 (x4 - 1))) && decide ((wi64 (x4 - 1)) < ((List.length x2 : Nat) : Int))) then
      (call ii_complementPart [tA8 (List.getD x2 (Int.toNat (wi64 (x4 - 1))) (List.replicate 8 0)), tI x3]).bind fun o8 =>
      bif (decide (0 ≤ x4) && decide (x4 < ((List.length x2 : Nat) : Int))) then
        (call ii_meetParts [tA8 (gA8 o8 0), tA8 (List.getD x2 (Int.toNat x4) (List.replicate 8 0)), tI x3]).bind fun o9 =>
        (call ii_finePart [tI x3]).bind fun o10 =>
        bif ((gA8 o9 0) == (gA8 o10 0)) then
          some [tI 0, tI x0, tI x1, tLA8 x2, tI x3]
        else
          bif (decide (0 ≤ (wi64 (x4 - 1))) && decide ((wi64 (x4 - 1)) < ((List.length x2 : Nat) : Int))) then
            (call ii_thenPart [tA8 (List.getD x2 (Int.toNat (wi64 (x4 - 1))) (List.replicate 8 0)), tA8 (gA8 o9 0), tI x3]).bind fun o11 =>
            bif (decide (0 ≤ (wi64 (x4 - 1))) && decide ((wi64 (x4 - 1)) < ((List.length x2 : Nat) : Int))) then
              (call ii_backPart [tA8 (gA8 o9 0), tI x3]).bind fun o12 =>
              bif (decide (0 ≤ x4) && decide (x4 < ((List.length (List.set x2 (Int.toNat (wi64 (x4 - 1))) (gA8 o11 0)) : Nat) : Int))) then
                (call ii_thenPart [tA8 (gA8 o12 0), tA8 (List.getD (List.set x2 (Int.toNat (wi64 (x4 - 1))) (gA8 o11 0)) (Int.toNat x4) (List.replicate 8 0)), tI x3]).bind fun o13 =>
                bif (decide (0 ≤ x4) && decide (x4 < ((List.length (List.set x2 (Int.toNat (wi64 (x4 - 1))) (gA8 o11 0)) : Nat) : Int))) then
                  call i__i_Dual__put_5 [tI x0, tI x1, tLA8 (List.set (List.set x2 (Int.toNat (wi64 (x4 - 1))) (gA8 o11 0)) (Int.toNat x4) (gA8 o13 0)), tI x3, tI (wi64 (x4 - 1))]
                else none
              else none
            else none
          else none
      else none
    else none
  else
    some [tI 0, tI x0, tI x1, tLA8 x2, tI x3]
theorem e__i_Dual__put_5 (call : Oracle) (x0 : Int) (x1 : Int) (x2 : List (List Int)) (x3 : Int) (x4 : Int) : run1 E call i__i_Dual__put_5 [tI x0, tI x1, tLA8 x2, tI x3, tI x4] = b__i_Dual__put_5 call x0 x1 x2 x3 x4 := by kernel_rfl
theorem v__i_Dual__put_5 (x0 : Int) (x1 : Int) (x2 : List (List Int)) (x3 : Int) (x4 : Int) {o : List TV} (h : b__i_Dual__put_5 R x0 x1 x2 x3 x4 = some o) : R i__i_Dual__put_5 [tI x0, tI x1, tLA8 x2, tI x3, tI x4] = some o := ev_step ((e__i_Dual__put_5 R x0 x1 x2 x3 x4).trans h)
/-- (*impl.Dual).put loop 11 -/
noncomputable def b__i_Dual__put_11 (call : Oracle) (x0 : Int) (x1 : Int) (x2 : List (List Int)) (x3 : Int) : Option (List TV) :=
  bif decide (0 < ((List.length x2 : Nat) : Int)) then
    bif decide (0 < ((List.length x2 : Nat) : Int)) then
      (call ii_wholePart [tI x3]).bind fun o16 =>
      bif ((List.getD x2 0 (List.replicate 8 0)) == (gA8 o16 0)) then
        bif decide (1 ≤ ((List.length x2 : Nat) : Int)) then
          call i__i_Dual__put_11 [tI x0, tI (wi64 (x1 + 1)), tLA8 (List.drop 1 x2), tI x3]
        else none
      else
        some [tI 0, tI x0, tI x1, tLA8 x2, tI x3]
    else none
  else
    some [tI 0, tI x0, tI x1, tLA8 x2, tI x3]
theorem e__i_Dual__put_11 (call : Oracle) (x0 : Int) (x1 : Int) (x2 : List (List Int)) (x3 : Int) : run1 E call i__i_Dual__put_11 [tI x0, tI x1, tLA8 x2, tI x3] = b__i_Dual__put_11 call x0 x1 x2 x3 := by kernel_rfl
theorem v__i_Dual__put_11 (x0 : Int) (x1 : Int) (x2 : List (List Int)) (x3 : Int) {o : List TV} (h : b__i_Dual__put_11 R x0 x1 x2 x3 = some o) : R i__i_Dual__put_11 [tI x0, tI x1, tLA8 x2, tI x3] = some o := ev_step ((e__i_Dual__put_11 R x0 x1 x2 x3).trans h)
/-- (*impl.Dual).put loop 14 -/
noncomputable def b__i_Dual__put_14 (call : Oracle) (x0 : Int) (x1 : Int) (x2 : List (List Int)) (x3 : Int) : Option (List TV) :=
  bif decide (0 < ((List.length x2 : Nat) : Int)) then
    bif (decide (0 ≤ (wi64 (((List.length x2 : Nat) : Int) - 1))) && decide ((wi64 (((List.length x2 : Nat) : Int) - 1)) < ((List.length x2 : Nat) : Int))) then
      (call ii_finePart [tI x3]).bind fun o19 =>
      bif ((List.getD x2 (Int.toNat (wi64 (((List.length x2 : Nat) : Int) - 1))) (List.replicate 8 0)) == (gA8 o19 0)) then
        bif (decide (0 ≤ (wi64 (((List.length x2 : Nat) : Int) - 1))) && decide ((wi64 (((List.length x2 : Nat) : Int) - 1)) ≤ ((List.length x2 : Nat) : Int))) then
          call i__i_Dual__put_14 [tI x0, tI x1, tLA8 (List.take (Int.toNat (wi64 (((List.length x2 : Nat) : Int) - 1))) x2), tI x3]
        else none
      else
        some [tI 0, tI x0, tI x1, tLA8 x2]
    else none
  else
    some [tI 0, tI x0, tI x1, tLA8 x2]
theorem e__i_Dual__put_14 (call : Oracle) (x0 : Int) (x1 : Int) (x2 : List (List Int)) (x3 : Int) : run1 E call i__i_Dual__put_14 [tI x0, tI x1, tLA8 x2, tI x3] = b__i_Dual__put_14 call x0 x1 x2 x3 := by kernel_rfl
theorem v__i_Dual__put_14 (x0 : Int) (x1 : Int) (x2 : List (List Int)) (x3 : Int) {o : List TV} (h : b__i_Dual__put_14 R x0 x1 x2 x3 = some o) : R i__i_Dual__put_14 [tI x0, tI x1, tLA8 x2, tI x3] = some o := ev_step ((e__i_Dual__put_14 R x0 x1 x2 x3).trans h)
/-- (*impl.Dual).put -/
noncomputable def b__i_Dual__put (call : Oracle) (a0 : Int × Int × List (List Int)) (a1 : List Int) : Option (List TV) :=
  (call ii_finePart [tI a0.1]).bind fun o1 =>
  bif (a1 == (gA8 o1 0)) then
    some [tPIPILA8 (a0.1, (a0.2.1, a0.2.2))]
  else
    bif (apOk a0.2.2 [a1]) then
      (call i__i_Dual__put_5 [tI a0.1, tI a0.2.1, tLA8 (a0.2.2 ++ [a1]), tI a0.1, tI (wi64 (((List.length (a0.2.2 ++ [a1]) : Nat) : Int) - 1))]).bind fun o14 =>
      (call i__i_Dual__put_11 [tI (gI o14 1), tI (gI o14 2), tLA8 (gLA8 o14 3), tI (gI o14 4)]).bind fun o17 =>
      (call i__i_Dual__put_14 [tI (gI o17 1), tI (gI o17 2), tLA8 (gLA8 o17 3), tI (gI o17 4)]).bind fun o20 =>
      some [tPIPILA8 ((gI o20 1), ((gI o20 2), (gLA8 o20 3)))]
    else none
theorem e__i_Dual__put (call : Oracle) (a0 : Int × Int × List (List Int)) (a1 : List Int) : run1 E call i__i_Dual__put [tPIPILA8 a0, tA8 a1] = b__i_Dual__put call a0 a1 := by kernel_rfl
theorem v__i_Dual__put (a0 : Int × Int × List (List Int)) (a1 : List Int) {o : List TV} (h : b__i_Dual__put R a0 a1 = some o) : R i__i_Dual__put [tPIPILA8 a0, tA8 a1] = some o := ev_step ((e__i_Dual__put R a0 a1).trans h)
/-- (*impl.Dual).putInverse loop 4 -/
noncomputable def b__i_Dual__putInverse_4 (call : Oracle) (x0 : Int) (x1 : Int) (x2 : List (List Int)) (x3 : List Int) (x4 : Int) (x5 : Int) (x6 : Int) : Option (List TV) :=
  bif decide (x6 < x5) then
    bif (decide (0 ≤ x6) && decide (x6 < ((List.length x2 : Nat) : Int))) then
      (call ii_turnPart [tA8 (List.getD x2 (Int.toNat x6) (List.replicate 8 0)), tI x4, tI (-1)]).bind fun o2 =>
      bif (decide (0 ≤ x6) && decide (x6 < ((List.length x2 : Nat) : Int))) then
        call i__i_Dual__putInverse_4 [tI x0, tI x1, tLA8 (List.set x2 (Int.toNat x6) (gA8 o2 0)), tA8 x3, tI x4, tI x5, tI (wi64 (x6 + 1))]
      else none
    else none
  else
    some [tI 0, tI x0, tI x1, tLA8 x2, tA8 x3, tI x4]
theorem e__i_Dual__putInverse_4 (call : Oracle) (x0 : Int) (x1 : Int) (x2 : List (List Int)) (x3 : List Int) (x4 : Int) (x5 : Int) (x6 : Int) : run1 E call i__i_Dual__putInverse_4 [tI x0, tI x1, tLA8 x2, tA8 x3, tI x4, tI x5, tI x6] = b__i_Dual__putInverse_4 call x0 x1 x2 x3 x4 x5 x6 := by kernel_rfl
theorem v__i_Dual__putInverse_4 (x0 : Int) (x1 : Int) (x2 : List (List Int)) (x3 : List Int) (x4 : Int) (x5 : Int) (x6 : Int) {o : List TV} (h : b__i_Dual__putInverse_4 R x0 x1 x2 x3 x4 x5 x6 = some o) : R i__i_Dual__putInverse_4 [tI x0, tI x1, tLA8 x2, tA8 x3, tI x4, tI x5, tI x6] = some o := ev_step ((e__i_Dual__putInverse_4 R x0 x1 x2 x3 x4 x5 x6).trans h)
end Go.Ev.Ytadjhggdddbicaa
