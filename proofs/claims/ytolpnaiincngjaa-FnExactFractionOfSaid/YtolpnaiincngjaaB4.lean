/- Bodies, part 4. -/
import Derived.KernelRfl
import Derived.Test.YtolpnaiincngjaaEnv
set_option linter.unusedVariables false
namespace Go.Ev.Ytolpnaiincngjaa
open Go.Ev
/-- spec.l04Conjugate -/
noncomputable def bs_l04Conjugate (call : Oracle) (a0 : Int × Int × List (List Int)) (a1 : List Int) : Option (List TV) :=
  (call is_l03Less [tPIPILA8 (a0.1, (a0.2.1, a0.2.2)), tA8 a1]).bind fun o1 =>
  (call is_l03Times [tPIPILA8 ((gPIPILA8 o1 0).1, (((gPIPILA8 o1 0).2).1, ((gPIPILA8 o1 0).2).2)), tA8 a1, tB false]).bind fun o2 =>
  some [tPIPILA8 ((gPIPILA8 o2 0).1, (((gPIPILA8 o2 0).2).1, ((gPIPILA8 o2 0).2).2))]
theorem es_l04Conjugate (call : Oracle) (a0 : Int × Int × List (List Int)) (a1 : List Int) : run1 E call is_l04Conjugate [tPIPILA8 a0, tA8 a1] = bs_l04Conjugate call a0 a1 := by kernel_rfl
theorem vs_l04Conjugate (a0 : Int × Int × List (List Int)) (a1 : List Int) {o : List TV} (h : bs_l04Conjugate R a0 a1 = some o) : R is_l04Conjugate [tPIPILA8 a0, tA8 a1] = some o := ev_step ((es_l04Conjugate R a0 a1).trans h)
/-- spec.l04Slide -/
noncomputable def bs_l04Slide (call : Oracle) (a0 : Int × Int × List (List Int)) : Option (List TV) :=
  bif (((List.length a0.2.2 : Nat) : Int) == 0) then
    some [tPIPILA8 (a0.1, (a0.2.1, a0.2.2))]
  else
    (call is_l04First [tPIPILA8 (a0.1, (a0.2.1, a0.2.2))]).bind fun o1 =>
    bif (decide (0 ≤ (wi64 (((List.length a0.2.2 : Nat) : Int) - 1))) && decide ((wi64 (((List.length a0.2.2 : Nat) : Int) - 1)) < ((List.length a0.2.2 : Nat) : Int))) then
      (call is_l02Complement [tA8 (List.getD a0.2.2 (Int.toNat (wi64 (((List.length a0.2.2 : Nat) : Int) - 1))) (List.replicate 8 0)), tI a0.1]).bind fun o2 =>
      (call is_l02Meet [tA8 (gA8 o1 0), tA8 (gA8 o2 0), tI a0.1]).bind fun o3 =>
      (call is_l04Conjugate [tPIPILA8 (a0.1, (a0.2.1, a0.2.2)), tA8 (gA8 o3 0)]).bind fun o4 =>
      some [tPIPILA8 ((gPIPILA8 o4 0).1, (((gPIPILA8 o4 0).2).1, ((gPIPILA8 o4 0).2).2))]
    else none
theorem es_l04Slide (call : Oracle) (a0 : Int × Int × List (List Int)) : run1 E call is_l04Slide [tPIPILA8 a0] = bs_l04Slide call a0 := by kernel_rfl
theorem vs_l04Slide (a0 : Int × Int × List (List Int)) {o : List TV} (h : bs_l04Slide R a0 = some o) : R is_l04Slide [tPIPILA8 a0] = some o := ev_step ((es_l04Slide R a0).trans h)
/-- spec.SlidingOf -/
noncomputable def bs_SlidingOf (call : Oracle) (a0 : Int × Int × List (List Int)) : Option (List TV) :=
  (call is_l03Is [tPIPILA8 (a0.1, (a0.2.1, a0.2.2))]).bind fun o1 =>
  bif (!(gB o1 0)) then
    some [tPIPILA8 (0, (0, [])), tI 1]
  else
    (call is_l04Slide [tPIPILA8 (a0.1, (a0.2.1, a0.2.2))]).bind fun o2 =>
    (call is_l03Make [tI a0.1, tI (((gPIPILA8 o2 0).2).1), tLA8 (((gPIPILA8 o2 0).2).2)]).bind fun o3 =>
    (call is_l03Fit [tPIPILA8 ((gPIPILA8 o3 0).1, (((gPIPILA8 o3 0).2).1, ((gPIPILA8 o3 0).2).2))]).bind fun o4 =>
    some [tPIPILA8 ((gPIPILA8 o4 0).1, (((gPIPILA8 o4 0).2).1, ((gPIPILA8 o4 0).2).2)), tI (gI o4 1)]
theorem es_SlidingOf (call : Oracle) (a0 : Int × Int × List (List Int)) : run1 E call is_SlidingOf [tPIPILA8 a0] = bs_SlidingOf call a0 := by kernel_rfl
theorem vs_SlidingOf (a0 : Int × Int × List (List Int)) {o : List TV} (h : bs_SlidingOf R a0 = some o) : R is_SlidingOf [tPIPILA8 a0] = some o := ev_step ((es_SlidingOf R a0).trans h)
/-- impl.withoutHead -/
noncomputable def bi_withoutHead (call : Oracle) (a0 : Int × Int × List (List Int)) (a1 : List Int) : Option (List TV) :=
  (call i__i_Normal__putInverse [tPIPILA8 (a0.1, (0, [])), tA8 a1]).bind fun o1 =>
  (call ii_product [tPIPILA8 ((gPIPILA8 o1 0).1, (((gPIPILA8 o1 0).2).1, ((gPIPILA8 o1 0).2).2)), tPIPILA8 (a0.1, (a0.2.1, a0.2.2))]).bind fun o2 =>
  some [tPIPILA8 ((gPIPILA8 o2 0).1, (((gPIPILA8 o2 0).2).1, ((gPIPILA8 o2 0).2).2))]
theorem ei_withoutHead (call : Oracle) (a0 : Int × Int × List (List Int)) (a1 : List Int) : run1 E call ii_withoutHead [tPIPILA8 a0, tA8 a1] = bi_withoutHead call a0 a1 := by kernel_rfl
theorem vi_withoutHead (a0 : Int × Int × List (List Int)) (a1 : List Int) {o : List TV} (h : bi_withoutHead R a0 a1 = some o) : R ii_withoutHead [tPIPILA8 a0, tA8 a1] = some o := ev_step ((ei_withoutHead R a0 a1).trans h)
/-- impl.conjugate -/
noncomputable def bi_conjugate (call : Oracle) (a0 : Int × Int × List (List Int)) (a1 : List Int) : Option (List TV) :=
  (call ii_withoutHead [tPIPILA8 (a0.1, (a0.2.1, a0.2.2)), tA8 a1]).bind fun o1 =>
  (call i__i_Normal__put [tPIPILA8 ((gPIPILA8 o1 0).1, (((gPIPILA8 o1 0).2).1, ((gPIPILA8 o1 0).2).2)), tA8 a1]).bind fun o2 =>
  some [tPIPILA8 ((gPIPILA8 o2 0).1, (((gPIPILA8 o2 0).2).1, ((gPIPILA8 o2 0).2).2))]
theorem ei_conjugate (call : Oracle) (a0 : Int × Int × List (List Int)) (a1 : List Int) : run1 E call ii_conjugate [tPIPILA8 a0, tA8 a1] = bi_conjugate call a0 a1 := by kernel_rfl
theorem vi_conjugate (a0 : Int × Int × List (List Int)) (a1 : List Int) {o : List TV} (h : bi_conjugate R a0 a1 = some o) : R ii_conjugate [tPIPILA8 a0, tA8 a1] = some o := ev_step ((ei_conjugate R a0 a1).trans h)
/-- impl.slid -/
noncomputable def bi_slid (call : Oracle) (a0 : Int × Int × List (List Int)) : Option (List TV) :=
  bif decide ((wi64 (((List.length a0.2.2 : Nat) : Int) - 1)) < 0) then
    (call ii_copyNormal [tPIPILA8 (a0.1, (a0.2.1, a0.2.2))]).bind fun o1 =>
    some [tPIPILA8 ((gPIPILA8 o1 0).1, (((gPIPILA8 o1 0).2).1, ((gPIPILA8 o1 0).2).2))]
  else
    bif decide (0 < ((List.length a0.2.2 : Nat) : Int)) then
      (call ii_turned [tA8 (List.getD a0.2.2 0 (List.replicate 8 0)), tPIPILA8 (a0.1, (a0.2.1, a0.2.2))]).bind fun o2 =>
      bif (decide (0 ≤ (wi64 (((List.length a0.2.2 : Nat) : Int) - 1))) && decide ((wi64 (((List.length a0.2.2 : Nat) : Int) - 1)) < ((List.length a0.2.2 : Nat) : Int))) then
        (call ii_complement [tA8 (List.getD a0.2.2 (Int.toNat (wi64 (((List.length a0.2.2 : Nat) : Int) - 1))) (List.replicate 8 0)), tI a0.1]).bind fun o3 =>
        (call ii_meet [tA8 (gA8 o2 0), tA8 (gA8 o3 0), tI a0.1]).bind fun o4 =>
        (call ii_conjugate [tPIPILA8 (a0.1, (a0.2.1, a0.2.2)), tA8 (gA8 o4 0)]).bind fun o5 =>
        some [tPIPILA8 ((gPIPILA8 o5 0).1, (((gPIPILA8 o5 0).2).1, ((gPIPILA8 o5 0).2).2))]
      else none
    else none
theorem ei_slid (call : Oracle) (a0 : Int × Int × List (List Int)) : run1 E call ii_slid [tPIPILA8 a0] = bi_slid call a0 := by kernel_rfl
theorem vi_slid (a0 : Int × Int × List (List Int)) {o : List TV} (h : bi_slid R a0 = some o) : R ii_slid [tPIPILA8 a0] = some o := ev_step ((ei_slid R a0).trans h)
/-- impl.changed -/
noncomputable def bi_changed_v3 (call : Oracle) (a0 : Int × Int × List (List Int)) : Option (List TV) :=
  (call ii_IsNormal [tPIPILA8 (a0.1, (a0.2.1, a0.2.2))]).bind fun o1 =>
  bif (!(gB o1 0)) then
    some [tPIPILA8 (0, (0, [])), tI 1]
  else
    (call ii_slid [tPIPILA8 (a0.1, (a0.2.1, a0.2.2))]).bind fun o2 =>
    (call ii_limited [tPIPILA8 ((gPIPILA8 o2 0).1, (((gPIPILA8 o2 0).2).1, ((gPIPILA8 o2 0).2).2))]).bind fun o3 =>
    some [tPIPILA8 ((gPIPILA8 o3 0).1, (((gPIPILA8 o3 0).2).1, ((gPIPILA8 o3 0).2).2)), tI (gI o3 1)]
theorem ei_changed_v3 (call : Oracle) (a0 : Int × Int × List (List Int)) : run1 E call ii_changed_v3 [tPIPILA8 a0] = bi_changed_v3 call a0 := by kernel_rfl
theorem vi_changed_v3 (a0 : Int × Int × List (List Int)) {o : List TV} (h : bi_changed_v3 R a0 = some o) : R ii_changed_v3 [tPIPILA8 a0] = some o := ev_step ((ei_changed_v3 R a0).trans h)
/-- impl.SlidingOf -/
noncomputable def bi_SlidingOf (call : Oracle) (a0 : Int × Int × List (List Int)) : Option (List TV) :=
  (call ii_changed_v3 [tPIPILA8 (a0.1, (a0.2.1, a0.2.2))]).bind fun o1 =>
  some [tPIPILA8 ((gPIPILA8 o1 0).1, (((gPIPILA8 o1 0).2).1, ((gPIPILA8 o1 0).2).2)), tI (gI o1 1)]
theorem ei_SlidingOf (call : Oracle) (a0 : Int × Int × List (List Int)) : run1 E call ii_SlidingOf [tPIPILA8 a0] = bi_SlidingOf call a0 := by kernel_rfl
theorem vi_SlidingOf (a0 : Int × Int × List (List Int)) {o : List TV} (h : bi_SlidingOf R a0 = some o) : R ii_SlidingOf [tPIPILA8 a0] = some o := ev_step ((ei_SlidingOf R a0).trans h)
/-- laws.FnExactSlidingOf -/
noncomputable def bw_FnExactSlidingOf (call : Oracle) (a0 : Int × Int × List (List Int)) : Option (List TV) :=
  (call iw_szNormal [tPIPILA8 (a0.1, (a0.2.1, a0.2.2)), tI 1048576]).bind fun o1 =>
  bif decide ((gI o1 0) < 0) then
    some [tB true]
  else
    (call iw_toNormal [tPIPILA8 (a0.1, (a0.2.1, a0.2.2))]).bind fun o2 =>
    (call is_SlidingOf [tPIPILA8 ((gPIPILA8 o2 0).1, (((gPIPILA8 o2 0).2).1, ((gPIPILA8 o2 0).2).2))]).bind fun o3 =>
    (call iw_toNormal [tPIPILA8 (a0.1, (a0.2.1, a0.2.2))]).bind fun o4 =>
    (call ii_SlidingOf [tPIPILA8 ((gPIPILA8 o4 0).1, (((gPIPILA8 o4 0).2).1, ((gPIPILA8 o4 0).2).2))]).bind fun o5 =>
    (call iw_eqNormal [tPIPILA8 ((gPIPILA8 o5 0).1, (((gPIPILA8 o5 0).2).1, ((gPIPILA8 o5 0).2).2)), tPIPILA8 ((gPIPILA8 o3 0).1, (((gPIPILA8 o3 0).2).1, ((gPIPILA8 o3 0).2).2))]).bind fun o6 =>
    bif (!(gB o6 0)) then
      some [tB false]
    else
      bif ((gI o5 1) != (gI o3 1)) then
        some [tB false]
      else
        (call iw_toNormal [tPIPILA8 (a0.1, (a0.2.1, a0.2.2))]).bind fun o7 =>
        (call iw_eqNormal [tPIPILA8 ((gPIPILA8 o4 0).1, (((gPIPILA8 o4 0).2).1, ((gPIPILA8 o4 0).2).2)), tPIPILA8 ((gPIPILA8 o7 0).1, (((gPIPILA8 o7 0).2).1, ((gPIPILA8 o7 0).2).2))]).bind fun o8 =>
        bif (!(gB o8 0)) then
          some [tB false]
        else
          (call iw_markNormal [tPIPILA8 ((gPIPILA8 o4 0).1, (((gPIPILA8 o4 0).2).1, ((gPIPILA8 o4 0).2).2)), tI 1]).bind fun o9 =>
          bif decide ((gI o9 0) < 0) then
            some [tB false]
          else
            (call iw_eqNormal [tPIPILA8 ((gPIPILA8 o5 0).1, (((gPIPILA8 o5 0).2).1, ((gPIPILA8 o5 0).2).2)), tPIPILA8 ((gPIPILA8 o3 0).1, (((gPIPILA8 o3 0).2).1, ((gPIPILA8 o3 0).2).2))]).bind fun o10 =>
            bif (!(gB o10 0)) then
              some [tB false]
            else
              bif ((gI o5 1) != (gI o3 1)) then
                some [tB false]
              else
                (call iw_markNormal [tPIPILA8 ((gPIPILA8 o5 0).1, (((gPIPILA8 o5 0).2).1, ((gPIPILA8 o5 0).2).2)), tI 1]).bind fun o11 =>
                (call iw_heldNormal [tPIPILA8 ((gPIPILA8 o5 0).1, (((gPIPILA8 o5 0).2).1, ((gPIPILA8 o11 1).2).2)), tI 1]).bind fun o12 =>
                bif decide ((gI o12 0) < 0) then
                  some [tB false]
                else
                  bif ((gI o12 0) != (gI o11 0)) then
                    some [tB false]
                  else
                    (call iw_toNormal [tPIPILA8 (a0.1, (a0.2.1, a0.2.2))]).bind fun o13 =>
                    (call ii_SlidingOf [tPIPILA8 ((gPIPILA8 o13 0).1, (((gPIPILA8 o13 0).2).1, ((gPIPILA8 o13 0).2).2))]).bind fun o14 =>
                    (call iw_eqNormal [tPIPILA8 ((gPIPILA8 o14 0).1, (((gPIPILA8 o14 0).2).1, ((gPIPILA8 o14 0).2).2)), tPIPILA8 ((gPIPILA8 o3 0).1, (((gPIPILA8 o3 0).2).1, ((gPIPILA8 o3 0).2).2))]).bind fun o15 =>
                    bif (!(gB o15 0)) then
                      some [tB false]
                    else
                      bif ((gI o14 1) != (gI o3 1)) then
                        some [tB false]
                      else
                        (call iw_heldNormal [tPIPILA8 ((gPIPILA8 o5 0).1, (((gPIPILA8 o5 0).2).1, ((gPIPILA8 o11 1).2).2)), tI 1]).bind fun o16 =>
                        bif decide ((gI o16 0) < 0) then
                          some [tB false]
                        else
                          bif ((gI o16 0) != (gI o11 0)) then
                            some [tB false]
                          else
                            some [tB true]
theorem ew_FnExactSlidingOf (call : Oracle) (a0 : Int × Int × List (List Int)) : run1 E call iw_FnExactSlidingOf [tPIPILA8 a0] = bw_FnExactSlidingOf call a0 := by kernel_rfl
theorem vw_FnExactSlidingOf (a0 : Int × Int × List (List Int)) {o : List TV} (h : bw_FnExactSlidingOf R a0 = some o) : R iw_FnExactSlidingOf [tPIPILA8 a0] = some o := ev_step ((ew_FnExactSlidingOf R a0).trans h)
/-- spec.SummitOf -/
noncomputable def bs_SummitOf (call : Oracle) (a0 : Int × Int × List (List Int)) : Option (List TV) :=
  (call is_l03Is [tPIPILA8 (a0.1, (a0.2.1, a0.2.2))]).bind fun o1 =>
  bif (!(gB o1 0)) then
    some [tPIPILA8 (0, (0, [])), tI 1]
  else
    (call is_l04Summit [tPIPILA8 (a0.1, (a0.2.1, a0.2.2))]).bind fun o2 =>
    (call is_l03Make [tI ((gPIPILA8 o2 0).1), tI (((gPIPILA8 o2 0).2).1), tLA8 (((gPIPILA8 o2 0).2).2)]).bind fun o3 =>
    (call is_l03Fit [tPIPILA8 ((gPIPILA8 o3 0).1, (((gPIPILA8 o3 0).2).1, ((gPIPILA8 o3 0).2).2))]).bind fun o4 =>
    some [tPIPILA8 ((gPIPILA8 o4 0).1, (((gPIPILA8 o4 0).2).1, ((gPIPILA8 o4 0).2).2)), tI (gI o4 1)]
theorem es_SummitOf (call : Oracle) (a0 : Int × Int × List (List Int)) : run1 E call is_SummitOf [tPIPILA8 a0] = bs_SummitOf call a0 := by kernel_rfl
theorem vs_SummitOf (a0 : Int × Int × List (List Int)) {o : List TV} (h : bs_SummitOf R a0 = some o) : R is_SummitOf [tPIPILA8 a0] = some o := ev_step ((es_SummitOf R a0).trans h)
/-- impl.changed -/
noncomputable def bi_changed_v4 (call : Oracle) (a0 : Int × Int × List (List Int)) : Option (List TV) :=
  (call ii_IsNormal [tPIPILA8 (a0.1, (a0.2.1, a0.2.2))]).bind fun o1 =>
  bif (!(gB o1 0)) then
    some [tPIPILA8 (0, (0, [])), tI 1]
  else
    (call ii_summit [tPIPILA8 (a0.1, (a0.2.1, a0.2.2))]).bind fun o2 =>
    (call ii_limited [tPIPILA8 ((gPIPILA8 o2 0).1, (((gPIPILA8 o2 0).2).1, ((gPIPILA8 o2 0).2).2))]).bind fun o3 =>
    some [tPIPILA8 ((gPIPILA8 o3 0).1, (((gPIPILA8 o3 0).2).1, ((gPIPILA8 o3 0).2).2)), tI (gI o3 1)]
theorem ei_changed_v4 (call : Oracle) (a0 : Int × Int × List (List Int)) : run1 E call ii_changed_v4 [tPIPILA8 a0] = bi_changed_v4 call a0 := by kernel_rfl
theorem vi_changed_v4 (a0 : Int × Int × List (List Int)) {o : List TV} (h : bi_changed_v4 R a0 = some o) : R ii_changed_v4 [tPIPILA8 a0] = some o := ev_step ((ei_changed_v4 R a0).trans h)
/-- impl.SummitOf -/
noncomputable def bi_SummitOf (call : Oracle) (a0 : Int × Int × List (List Int)) : Option (List TV) :=
  (call ii_changed_v4 [tPIPILA8 (a0.1, (a0.2.1, a0.2.2))]).bind fun o1 =>
  some [tPIPILA8 ((gPIPILA8 o1 0).1, (((gPIPILA8 o1 0).2).1, ((gPIPILA8 o1 0).2).2)), tI (gI o1 1)]
theorem ei_SummitOf (call : Oracle) (a0 : Int × Int × List (List Int)) : run1 E call ii_SummitOf [tPIPILA8 a0] = bi_SummitOf call a0 := by kernel_rfl
theorem vi_SummitOf (a0 : Int × Int × List (List Int)) {o : List TV} (h : bi_SummitOf R a0 = some o) : R ii_SummitOf [tPIPILA8 a0] = some o := ev_step ((ei_SummitOf R a0).trans h)
/-- laws.FnExactSummitOf -/
noncomputable def bw_FnExactSummitOf (call : Oracle) (a0 : Int × Int × List (List Int)) : Option (List TV) :=
  (call iw_szNormal [tPIPILA8 (a0.1, (a0.2.1, a0.2.2)), tI 1048576]).bind fun o1 =>
  bif decide ((gI o1 0) < 0) then
    some [tB true]
  else
    (call iw_toNormal [tPIPILA8 (a0.1, (a0.2.1, a0.2.2))]).bind fun o2 =>
    (call is_SummitOf [tPIPILA8 ((gPIPILA8 o2 0).1, (((gPIPILA8 o2 0).2).1, ((gPIPILA8 o2 0).2).2))]).bind fun o3 =>
    (call iw_toNormal [tPIPILA8 (a0.1, (a0.2.1, a0.2.2))]).bind fun o4 =>
    (call ii_SummitOf [tPIPILA8 ((gPIPILA8 o4 0).1, (((gPIPILA8 o4 0).2).1, ((gPIPILA8 o4 0).2).2))]).bind fun o5 =>
    (call iw_eqNormal [tPIPILA8 ((gPIPILA8 o5 0).1, (((gPIPILA8 o5 0).2).1, ((gPIPILA8 o5 0).2).2)), tPIPILA8 ((gPIPILA8 o3 0).1, (((gPIPILA8 o3 0).2).1, ((gPIPILA8 o3 0).2).2))]).bind fun o6 =>
    bif (!(gB o6 0)) then
      some [tB false]
    else
      bif ((gI o5 1) != (gI o3 1)) then
        some [tB false]
      else
        (call iw_toNormal [tPIPILA8 (a0.1, (a0.2.1, a0.2.2))]).bind fun o7 =>
        (call iw_eqNormal [tPIPILA8 ((gPIPILA8 o4 0).1, (((gPIPILA8 o4 0).2).1, ((gPIPILA8 o4 0).2).2)), tPIPILA8 ((gPIPILA8 o7 0).1, (((gPIPILA8 o7 0).2).1, ((gPIPILA8 o7 0).2).2))]).bind fun o8 =>
        bif (!(gB o8 0)) then
          some [tB false]
        else
          (call iw_markNormal [tPIPILA8 ((gPIPILA8 o4 0).1, (((gPIPILA8 o4 0).2).1, ((gPIPILA8 o4 0).2).2)), tI 1]).bind fun o9 =>
          bif decide ((gI o9 0) < 0) then
            some [tB false]
          else
            (call iw_eqNormal [tPIPILA8 ((gPIPILA8 o5 0).1, (((gPIPILA8 o5 0).2).1, ((gPIPILA8 o5 0).2).2)), tPIPILA8 ((gPIPILA8 o3 0).1, (((gPIPILA8 o3 0).2).1, ((gPIPILA8 o3 0).2).2))]).bind fun o10 =>
            bif (!(gB o10 0)) then
              some [tB false]
            else
              bif ((gI o5 1) != (gI o3 1)) then
                some [tB false]
              else
                (call iw_markNormal [tPIPILA8 ((gPIPILA8 o5 0).1, (((gPIPILA8 o5 0).2).1, ((gPIPILA8 o5 0).2).2)), tI 1]).bind fun o11 =>
                (call iw_heldNormal [tPIPILA8 ((gPIPILA8 o5 0).1, (((gPIPILA8 o5 0).2).1, ((gPIPILA8 o11 1).2).2)), tI 1]).bind fun o12 =>
                bif decide ((gI o12 0) < 0) then
                  some [tB false]
                else
                  bif ((gI o12 0) != (gI o11 0)) then
                    some [tB false]
                  else
                    (call iw_toNormal [tPIPILA8 (a0.1, (a0.2.1, a0.2.2))]).bind fun o13 =>
                    (call ii_SummitOf [tPIPILA8 ((gPIPILA8 o13 0).1, (((gPIPILA8 o13 0).2).1, ((gPIPILA8 o13 0).2).2))]).bind fun o14 =>
                    (call iw_eqNormal [tPIPILA8 ((gPIPILA8 o14 0).1, (((gPIPILA8 o14 0).2).1, ((gPIPILA8 o14 0).2).2)), tPIPILA8 ((gPIPILA8 o3 0).1, (((gPIPILA8 o3 0).2).1, ((gPIPILA8 o3 0).2).2))]).bind fun o15 =>
                    bif (!(gB o15 0)) then
                      some [tB false]
                    else
                      bif ((gI o14 1) != (gI o3 1)) then
                        some [tB false]
                      else
                        (call iw_heldNormal [tPIPILA8 ((gPIPILA8 o5 0).1, (((gPIPILA8 o5 0).2).1, ((gPIPILA8 o11 1).2).2)), tI 1]).bind fun o16 =>
                        bif decide ((gI o16 0) < 0) then
                          some [tB false]
                        else
                          bif ((gI o16 0) != (gI o11 0)) then
                            some [tB false]
                          else
                            some [tB true]
theorem ew_FnExactSummitOf (call : Oracle) (a0 : Int × Int × List (List Int)) : run1 E call iw_FnExactSummitOf [tPIPILA8 a0] = bw_FnExactSummitOf call a0 := by kernel_rfl
theorem vw_FnExactSummitOf (a0 : Int × Int × List (List Int)) {o : List TV} (h : bw_FnExactSummitOf R a0 = some o) : R iw_FnExactSummitOf [tPIPILA8 a0] = some o := ev_step ((ew_FnExactSummitOf R a0).trans h)
/-- spec.CommonBeginning -/
noncomputable def bs_CommonBeginning (call : Oracle) (a0 : Int × Int × List (List Int)) (a1 : Int × Int × List (List Int)) : Option (List TV) :=
  (call is_l03Positive [tPIPILA8 (a0.1, (a0.2.1, a0.2.2)), tPIPILA8 (a1.1, (a1.2.1, a1.2.2))]).bind fun o1 =>
  bif ((gI o1 0) != 0) then
    some [tPIPILA8 (0, (0, [])), tI (gI o1 0)]
  else
    (call is_l03Common [tPIPILA8 (a0.1, (a0.2.1, a0.2.2)), tPIPILA8 (a1.1, (a1.2.1, a1.2.2))]).bind fun o2 =>
    some [tPIPILA8 ((gPIPILA8 o2 0).1, (((gPIPILA8 o2 0).2).1, ((gPIPILA8 o2 0).2).2)), tI 0]
theorem es_CommonBeginning (call : Oracle) (a0 : Int × Int × List (List Int)) (a1 : Int × Int × List (List Int)) : run1 E call is_CommonBeginning [tPIPILA8 a0, tPIPILA8 a1] = bs_CommonBeginning call a0 a1 := by kernel_rfl
theorem vs_CommonBeginning (a0 : Int × Int × List (List Int)) (a1 : Int × Int × List (List Int)) {o : List TV} (h : bs_CommonBeginning R a0 a1 = some o) : R is_CommonBeginning [tPIPILA8 a0, tPIPILA8 a1] = some o := ev_step ((es_CommonBeginning R a0 a1).trans h)
/-- impl.head -/
noncomputable def bi_head (call : Oracle) (a0 : Int × Int × List (List Int)) : Option (List TV) :=
  bif decide (0 < a0.2.1) then
    (call ii_halfTurn [tI a0.1]).bind fun o1 =>
    some [tA8 (gA8 o1 0)]
  else
    bif decide (0 < ((List.length a0.2.2 : Nat) : Int)) then
      bif decide (0 < ((List.length a0.2.2 : Nat) : Int)) then
        some [tA8 (List.getD a0.2.2 0 (List.replicate 8 0))]
      else none
    else
      (call ii_nothing [tI a0.1]).bind fun o2 =>
      some [tA8 (gA8 o2 0)]
theorem ei_head (call : Oracle) (a0 : Int × Int × List (List Int)) : run1 E call ii_head [tPIPILA8 a0] = bi_head call a0 := by kernel_rfl
theorem vi_head (a0 : Int × Int × List (List Int)) {o : List TV} (h : bi_head R a0 = some o) : R ii_head [tPIPILA8 a0] = some o := ev_step ((ei_head R a0).trans h)
/-- impl.CommonBeginning loop 11 -/
noncomputable def bi_CommonBeginning_11 (call : Oracle) (x0 : Int) (x1 : Int) (x2 : List (List Int)) (x3 : Int) (x4 : Int) (x5 : List (List Int)) (x6 : Int) (x7 : Int) (x8 : List (List Int)) (x9 : Int) (x10 : Int) (x11 : List (List Int)) (x12 : Int) : Option (List TV) :=
  (call ii_head [tPIPILA8 (x0, (x1, x2))]).bind fun o11 =>
  (call ii_head [tPIPILA8 (x3, (x4, x5))]).bind fun o12 =>
  (call ii_meet [tA8 (gA8 o11 0), tA8 (gA8 o12 0), tI x12]).bind fun o13 =>
  (call ii_nothing [tI x12]).bind fun o14 =>
  bif ((gA8 o13 0) == (gA8 o14 0)) then
    (call ii_limited [tPIPILA8 (x9, (x10, x11))]).bind fun o15 =>
    some [tI 0, tI ((gPIPILA8 o15 0).1), tI (((gPIPILA8 o15 0).2).1), tLA8 (((gPIPILA8 o15 0).2).2), tI (gI o15 1)]
  else
    (call i__i_Normal__put [tPIPILA8 (x9, (x10, x11)), tA8 (gA8 o13 0)]).bind fun o16 =>
    (call ii_withoutHead [tPIPILA8 (x0, (x1, x2)), tA8 (gA8 o13 0)]).bind fun o17 =>
    (call ii_withoutHead [tPIPILA8 (x3, (x4, x5)), tA8 (gA8 o13 0)]).bind fun o18 =>
    call ii_CommonBeginning_11 [tI ((gPIPILA8 o17 0).1), tI (((gPIPILA8 o17 0).2).1), tLA8 (((gPIPILA8 o17 0).2).2), tI ((gPIPILA8 o18 0).1), tI (((gPIPILA8 o18 0).2).1), tLA8 (((gPIPILA8 o18 0).2).2), tI x6, tI x7, tLA8 x8, tI ((gPIPILA8 o16 0).1), tI (((gPIPILA8 o16 0).2).1), tLA8 (((gPIPILA8 o16 0).2).2), tI x12]
theorem ei_CommonBeginning_11 (call : Oracle) (x0 : Int) (x1 : Int) (x2 : List (List Int)) (x3 : Int) (x4 : Int) (x5 : List (List Int)) (x6 : Int) (x7 : Int) (x8 : List (List Int)) (x9 : Int) (x10 : Int) (x11 : List (List Int)) (x12 : Int) : run1 E call ii_CommonBeginning_11 [tI x0, tI x1, tLA8 x2, tI x3, tI x4, tLA8 x5, tI x6, tI x7, tLA8 x8, tI x9, tI x10, tLA8 x11, tI x12] = bi_CommonBeginning_11 call x0 x1 x2 x3 x4 x5 x6 x7 x8 x9 x10 x11 x12 := by kernel_rfl
theorem vi_CommonBeginning_11 (x0 : Int) (x1 : Int) (x2 : List (List Int)) (x3 : Int) (x4 : Int) (x5 : List (List Int)) (x6 : Int) (x7 : Int) (x8 : List (List Int)) (x9 : Int) (x10 : Int) (x11 : List (List Int)) (x12 : Int) {o : List TV} (h : bi_CommonBeginning_11 R x0 x1 x2 x3 x4 x5 x6 x7 x8 x9 x10 x11 x12 = some o) : R ii_CommonBeginning_11 [tI x0, tI x1, tLA8 x2, tI x3, tI x4, tLA8 x5, tI x6, tI x7, tLA8 x8, tI x9, tI x10, tLA8 x11, tI x12] = some o := ev_step ((ei_CommonBeginning_11 R x0 x1 x2 x3 x4 x5 x6 x7 x8 x9 x10 x11 x12).trans h)
/-- impl.CommonBeginning -/
noncomputable def bi_CommonBeginning (call : Oracle) (a0 : Int × Int × List (List Int)) (a1 : Int × Int × List (List Int)) : Option (List TV) :=
  (call ii_arePositive [tPIPILA8 (a0.1, (a0.2.1, a0.2.2)), tPIPILA8 (a1.1, (a1.2.1, a1.2.2))]).bind fun o1 =>
  bif ((gI o1 0) != 0) then
    some [tPIPILA8 (0, (0, [])), tI (gI o1 0)]
  else
    bif decide (0 < (mn a0.2.1 a1.2.1)) then
      (call i__i_Normal__turnBy [tPIPILA8 (a0.1, (0, [])), tI (mn a0.2.1 a1.2.1)]).bind fun o2 =>
      (call ii_CommonBeginning_11 [tI a0.1, tI (wi64 (a0.2.1 - (mn a0.2.1 a1.2.1))), tLA8 a0.2.2, tI a1.1, tI (wi64 (a1.2.1 - (mn a0.2.1 a1.2.1))), tLA8 a1.2.2, tI 0, tI 0, tLA8 [], tI ((gPIPILA8 o2 0).1), tI (((gPIPILA8 o2 0).2).1), tLA8 (((gPIPILA8 o2 0).2).2), tI a0.1]).bind fun o19 =>
      some [tPIPILA8 ((gI o19 1), ((gI o19 2), (gLA8 o19 3))), tI (gI o19 4)]
    else
      (call ii_CommonBeginning_11 [tI a0.1, tI a0.2.1, tLA8 a0.2.2, tI a1.1, tI a1.2.1, tLA8 a1.2.2, tI 0, tI 0, tLA8 [], tI a0.1, tI 0, tLA8 [], tI a0.1]).bind fun o20 =>
      some [tPIPILA8 ((gI o20 1), ((gI o20 2), (gLA8 o20 3))), tI (gI o20 4)]
theorem ei_CommonBeginning (call : Oracle) (a0 : Int × Int × List (List Int)) (a1 : Int × Int × List (List Int)) : run1 E call ii_CommonBeginning [tPIPILA8 a0, tPIPILA8 a1] = bi_CommonBeginning call a0 a1 := by kernel_rfl
theorem vi_CommonBeginning (a0 : Int × Int × List (List Int)) (a1 : Int × Int × List (List Int)) {o : List TV} (h : bi_CommonBeginning R a0 a1 = some o) : R ii_CommonBeginning [tPIPILA8 a0, tPIPILA8 a1] = some o := ev_step ((ei_CommonBeginning R a0 a1).trans h)
/-- laws.FnExactCommonBeginning -/
noncomputable def bw_FnExactCommonBeginning (call : Oracle) (a0 : Int × Int × List (List Int)) (a1 : Int × Int × List (List Int)) : Option (List TV) :=
  (call iw_szNormal [tPIPILA8 (a0.1, (a0.2.1, a0.2.2)), tI 1048576]).bind fun o1 =>
  bif decide ((gI o1 0) < 0) then
    some [tB true]
  else
    (call iw_szNormal [tPIPILA8 (a1.1, (a1.2.1, a1.2.2)), tI (gI o1 0)]).bind fun o2 =>
    bif decide ((gI o2 0) < 0) then
      some [tB true]
    else
      (call iw_toNormal [tPIPILA8 (a0.1, (a0.2.1, a0.2.2))]).bind fun o3 =>
      (call iw_toNormal [tPIPILA8 (a1.1, (a1.2.1, a1.2.2))]).bind fun o4 =>
      (call is_CommonBeginning [tPIPILA8 ((gPIPILA8 o3 0).1, (((gPIPILA8 o3 0).2).1, ((gPIPILA8 o3 0).2).2)), tPIPILA8 ((gPIPILA8 o4 0).1, (((gPIPILA8 o4 0).2).1, ((gPIPILA8 o4 0).2).2))]).bind fun o5 =>
      (call iw_toNormal [tPIPILA8 (a0.1, (a0.2.1, a0.2.2))]).bind fun o6 =>
      (call iw_toNormal [tPIPILA8 (a1.1, (a1.2.1, a1.2.2))]).bind fun o7 =>
      (call ii_CommonBeginning [tPIPILA8 ((gPIPILA8 o6 0).1, (((gPIPILA8 o6 0).2).1, ((gPIPILA8 o6 0).2).2)), tPIPILA8 ((gPIPILA8 o7 0).1, (((gPIPILA8 o7 0).2).1, ((gPIPILA8 o7 0).2).2))]).bind fun o8 =>
      (call iw_eqNormal [tPIPILA8 ((gPIPILA8 o8 0).1, (((gPIPILA8 o8 0).2).1, ((gPIPILA8 o8 0).2).2)), tPIPILA8 ((gPIPILA8 o5 0).1, (((gPIPILA8 o5 0).2).1, ((gPIPILA8 o5 0).2).2))]).bind fun o9 =>
      bif (!(gB o9 0)) then
        some [tB false]
      else
        bif ((gI o8 1) != (gI o5 1)) then
          some [tB false]
        else
          (call iw_toNormal [tPIPILA8 (a0.1, (a0.2.1, a0.2.2))]).bind fun o10 =>
          (call iw_eqNormal [tPIPILA8 ((gPIPILA8 o6 0).1, (((gPIPILA8 o6 0).2).1, ((gPIPILA8 o6 0).2).2)), tPIPILA8 ((gPIPILA8 o10 0).1, (((gPIPILA8 o10 0).2).1, ((gPIPILA8 o10 0).2).2))]).bind fun o11 =>
          bif (!(gB o11 0)) then
            some [tB false]
          else
            (call iw_toNormal [tPIPILA8 (a1.1, (a1.2.1, a1.2.2))]).bind fun o12 =>
            (call iw_eqNormal [tPIPILA8 ((gPIPILA8 o7 0).1, (((gPIPILA8 o7 0).2).1, ((gPIPILA8 o7 0).2).2)), tPIPILA8 ((gPIPILA8 o12 0).1, (((gPIPILA8 o12 0).2).1, ((gPIPILA8 o12 0).2).2))]).bind fun o13 =>
            bif (!(gB o13 0)) then
              some [tB false]
            else
              (call iw_markNormal [tPIPILA8 ((gPIPILA8 o6 0).1, (((gPIPILA8 o6 0).2).1, ((gPIPILA8 o6 0).2).2)), tI 1]).bind fun o14 =>
              (call iw_markNormal [tPIPILA8 ((gPIPILA8 o7 0).1, (((gPIPILA8 o7 0).2).1, ((gPIPILA8 o7 0).2).2)), tI (gI o14 0)]).bind fun o15 =>
              bif decide ((gI o15 0) < 0) then
                some [tB false]
              else
                (call iw_eqNormal [tPIPILA8 ((gPIPILA8 o8 0).1, (((gPIPILA8 o8 0).2).1, ((gPIPILA8 o8 0).2).2)), tPIPILA8 ((gPIPILA8 o5 0).1, (((gPIPILA8 o5 0).2).1, ((gPIPILA8 o5 0).2).2))]).bind fun o16 =>
                bif (!(gB o16 0)) then
                  some [tB false]
                else
                  bif ((gI o8 1) != (gI o5 1)) then
                    some [tB false]
                  else
                    (call iw_markNormal [tPIPILA8 ((gPIPILA8 o8 0).1, (((gPIPILA8 o8 0).2).1, ((gPIPILA8 o8 0).2).2)), tI 1]).bind fun o17 =>
                    (call iw_heldNormal [tPIPILA8 ((gPIPILA8 o8 0).1, (((gPIPILA8 o8 0).2).1, ((gPIPILA8 o17 1).2).2)), tI 1]).bind fun o18 =>
                    bif decide ((gI o18 0) < 0) then
                      some [tB false]
                    else
                      bif ((gI o18 0) != (gI o17 0)) then
                        some [tB false]
                      else
                        (call iw_toNormal [tPIPILA8 (a0.1, (a0.2.1, a0.2.2))]).bind fun o19 =>
                        (call iw_toNormal [tPIPILA8 (a1.1, (a1.2.1, a1.2.2))]).bind fun o20 =>
                        (call ii_CommonBeginning [tPIPILA8 ((gPIPILA8 o19 0).1, (((gPIPILA8 o19 0).2).1, ((gPIPILA8 o19 0).2).2)), tPIPILA8 ((gPIPILA8 o20 0).1, (((gPIPILA8 o20 0).2).1, ((gPIPILA8 o20 0).2).2))]).bind fun o21 =>
                        (call iw_eqNormal [tPIPILA8 ((gPIPILA8 o21 0).1, (((gPIPILA8 o21 0).2).1, ((gPIPILA8 o21 0).2).2)), tPIPILA8 ((gPIPILA8 o5 0).1, (((gPIPILA8 o5 0).2).1, ((gPIPILA8 o5 0).2).2))]).bind fun o22 =>
                        bif (!(gB o22 0)) then
                          some [tB false]
                        else
                          bif ((gI o21 1) != (gI o5 1)) then
                            some [tB false]
                          else
                            (call iw_heldNormal [tPIPILA8 ((gPIPILA8 o8 0).1, (((gPIPILA8 o8 0).2).1, ((gPIPILA8 o17 1).2).2)), tI 1]).bind fun o23 =>
                            bif decide ((gI o23 0) < 0) then
                              some [tB false]
                            else
                              bif ((gI o23 0) != (gI o17 0)) then
                                some [tB false]
                              else
                                some [tB true]
theorem ew_FnExactCommonBeginning (call : Oracle) (a0 : Int × Int × List (List Int)) (a1 : Int × Int × List (List Int)) : run1 E call iw_FnExactCommonBeginning [tPIPILA8 a0, tPIPILA8 a1] = bw_FnExactCommonBeginning call a0 a1 := by kernel_rfl
theorem vw_FnExactCommonBeginning (a0 : Int × Int × List (List Int)) (a1 : Int × Int × List (List Int)) {o : List TV} (h : bw_FnExactCommonBeginning R a0 a1 = some o) : R iw_FnExactCommonBeginning [tPIPILA8 a0, tPIPILA8 a1] = some o := ev_step ((ew_FnExactCommonBeginning R a0 a1).trans h)
end Go.Ev.Ytolpnaiincngjaa
