/- Bodies, part 3. -/
import Derived.KernelRfl
import Derived.Test.YtgfleapbganjiaaGreatEnv
set_option linter.unusedVariables false
namespace Go.Ev.YtgfleapbganjiaaGreat
open Go.Ev
noncomputable section
def bg_ContainsFunc___i_Normal_i_Normal_ (call : Oracle) (a0 : List (Int × Int × List (List Int))) (a1 : Int × Int × List (List Int)) : Option (List TV) :=
  (call ig_IndexFunc___i_Normal_i_Normal_ [tLPIPILA8 a0, tPIPILA8 (a1.1, (a1.2.1, a1.2.2))]).bind fun o1 =>
  some [tB (decide (0 ≤ (gI o1 0)))]
theorem eg_ContainsFunc___i_Normal_i_Normal_ (call : Oracle) (a0 : List (Int × Int × List (List Int))) (a1 : Int × Int × List (List Int)) : run1 E call ig_ContainsFunc___i_Normal_i_Normal_ [tLPIPILA8 a0, tPIPILA8 a1] = bg_ContainsFunc___i_Normal_i_Normal_ call a0 a1 := by kernel_rfl
theorem vg_ContainsFunc___i_Normal_i_Normal_ (a0 : List (Int × Int × List (List Int))) (a1 : Int × Int × List (List Int)) {o : List TV} (h : bg_ContainsFunc___i_Normal_i_Normal_ R a0 a1 = some o) : R ig_ContainsFunc___i_Normal_i_Normal_ [tLPIPILA8 a0, tPIPILA8 a1] = some o := ev_step ((eg_ContainsFunc___i_Normal_i_Normal_ R a0 a1).trans h)
def bcmp_isNaN_byte_ (call : Oracle) (a0 : Int) : Option (List TV) :=
  some [tB (a0 != a0)]
theorem ecmp_isNaN_byte_ (call : Oracle) (a0 : Int) : run1 E call icmp_isNaN_byte_ [tU8 a0] = bcmp_isNaN_byte_ call a0 := by kernel_rfl
theorem vcmp_isNaN_byte_ (a0 : Int) {o : List TV} (h : bcmp_isNaN_byte_ R a0 = some o) : R icmp_isNaN_byte_ [tU8 a0] = some o := ev_step ((ecmp_isNaN_byte_ R a0).trans h)
def bcmp_Compare_byte_ (call : Oracle) (a0 a1 : Int) : Option (List TV) :=
  (call icmp_isNaN_byte_ [tU8 a0]).bind fun o1 =>
  (call icmp_isNaN_byte_ [tU8 a1]).bind fun o2 =>
  bif (gB o1 0) then
    bif (gB o2 0) then
      some [tI 0]
    else
      some [tI (-1)]
  else
    bif (gB o2 0) then
      some [tI 1]
    else
      bif decide (a0 < a1) then
        some [tI (-1)]
      else
        bif decide (a1 < a0) then
          some [tI 1]
        else
          some [tI 0]
theorem ecmp_Compare_byte_ (call : Oracle) (a0 a1 : Int) : run1 E call icmp_Compare_byte_ [tU8 a0, tU8 a1] = bcmp_Compare_byte_ call a0 a1 := by kernel_rfl
theorem vcmp_Compare_byte_ (a0 a1 : Int) {o : List TV} (h : bcmp_Compare_byte_ R a0 a1 = some o) : R icmp_Compare_byte_ [tU8 a0, tU8 a1] = some o := ev_step ((ecmp_Compare_byte_ R a0 a1).trans h)
def bg_Compare___byte_byte__2 (call : Oracle) (x0 x1 : List Int) (x2 x3 : Int) : Option (List TV) :=
  bif decide (x3 < x2) then
    bif (decide (0 ≤ x3) && decide (x3 < ((List.length x0 : Nat) : Int))) then
      bif decide (((List.length x1 : Nat) : Int) ≤ x3) then
        some [tI 1, tI 1]
      else
        bif (decide (0 ≤ x3) && decide (x3 < ((List.length x1 : Nat) : Int))) then
          (call icmp_Compare_byte_ [tU8 (List.getD x0 (Int.toNat x3) 0), tU8 (List.getD x1 (Int.toNat x3) 0)]).bind fun o2 =>
          bif ((gI o2 0) != 0) then
            some [tI 1, tI (gI o2 0)]
          else
            call ig_Compare___byte_byte__2 [tLU8 x0, tLU8 x1, tI x2, tI (wi64 (x3 + 1))]
        else none
    else none
  else
    some [tI 0, tLU8 x0, tLU8 x1]
theorem eg_Compare___byte_byte__2 (call : Oracle) (x0 x1 : List Int) (x2 x3 : Int) : run1 E call ig_Compare___byte_byte__2 [tLU8 x0, tLU8 x1, tI x2, tI x3] = bg_Compare___byte_byte__2 call x0 x1 x2 x3 := by kernel_rfl
theorem vg_Compare___byte_byte__2 (x0 x1 : List Int) (x2 x3 : Int) {o : List TV} (h : bg_Compare___byte_byte__2 R x0 x1 x2 x3 = some o) : R ig_Compare___byte_byte__2 [tLU8 x0, tLU8 x1, tI x2, tI x3] = some o := ev_step ((eg_Compare___byte_byte__2 R x0 x1 x2 x3).trans h)
def bg_Compare___byte_byte_ (call : Oracle) (a0 a1 : List Int) : Option (List TV) :=
  (call ig_Compare___byte_byte__2 [tLU8 a0, tLU8 a1, tI ((List.length a0 : Nat) : Int), tI 0]).bind fun o3 =>
  bif ((gI o3 0) == 0) then
    bif decide (((List.length (gLU8 o3 1) : Nat) : Int) < ((List.length (gLU8 o3 2) : Nat) : Int)) then
      some [tI (-1)]
    else
      some [tI 0]
  else
    some [tI (gI o3 1)]
theorem eg_Compare___byte_byte_ (call : Oracle) (a0 a1 : List Int) : run1 E call ig_Compare___byte_byte_ [tLU8 a0, tLU8 a1] = bg_Compare___byte_byte_ call a0 a1 := by kernel_rfl
theorem vg_Compare___byte_byte_ (a0 a1 : List Int) {o : List TV} (h : bg_Compare___byte_byte_ R a0 a1 = some o) : R ig_Compare___byte_byte_ [tLU8 a0, tLU8 a1] = some o := ev_step ((eg_Compare___byte_byte_ R a0 a1).trans h)
def bi_compareSimple (call : Oracle) (a0 a1 : List Int) : Option (List TV) :=
  (call ig_Compare___byte_byte_ [tLU8 a0, tLU8 a1]).bind fun o1 =>
  some [tI (gI o1 0)]
theorem ei_compareSimple (call : Oracle) (a0 a1 : List Int) : run1 E call ii_compareSimple [tA8 a0, tA8 a1] = bi_compareSimple call a0 a1 := by kernel_rfl
theorem vi_compareSimple (a0 a1 : List Int) {o : List TV} (h : bi_compareSimple R a0 a1 = some o) : R ii_compareSimple [tA8 a0, tA8 a1] = some o := ev_step ((ei_compareSimple R a0 a1).trans h)
def bg_CompareFunc___i_Simple___i_Simple_i_Simple_i_Simple__2 (call : Oracle) (x0 x1 : List (List Int)) (x2 x3 : Int) : Option (List TV) :=
  bif decide (x3 < x2) then
    bif (decide (0 ≤ x3) && decide (x3 < ((List.length x0 : Nat) : Int))) then
      bif decide (((List.length x1 : Nat) : Int) ≤ x3) then
        some [tI 1, tI 1]
      else
        bif (decide (0 ≤ x3) && decide (x3 < ((List.length x1 : Nat) : Int))) then
          (call ii_compareSimple [tA8 (List.getD x0 (Int.toNat x3) (List.replicate 8 0)), tA8 (List.getD x1 (Int.toNat x3) (List.replicate 8 0))]).bind fun o2 =>
          bif ((gI o2 0) != 0) then
            some [tI 1, tI (gI o2 0)]
          else
            call ig_CompareFunc___i_Simple___i_Simple_i_Simple_i_Simple__2 [tLA8 x0, tLA8 x1, tI x2, tI (wi64 (x3 + 1))]
        else none
    else none
  else
    some [tI 0, tLA8 x0, tLA8 x1]
theorem eg_CompareFunc___i_Simple___i_Simple_i_Simple_i_Simple__2 (call : Oracle) (x0 x1 : List (List Int)) (x2 x3 : Int) : run1 E call ig_CompareFunc___i_Simple___i_Simple_i_Simple_i_Simple__2 [tLA8 x0, tLA8 x1, tI x2, tI x3] = bg_CompareFunc___i_Simple___i_Simple_i_Simple_i_Simple__2 call x0 x1 x2 x3 := by kernel_rfl
theorem vg_CompareFunc___i_Simple___i_Simple_i_Simple_i_Simple__2 (x0 x1 : List (List Int)) (x2 x3 : Int) {o : List TV} (h : bg_CompareFunc___i_Simple___i_Simple_i_Simple_i_Simple__2 R x0 x1 x2 x3 = some o) : R ig_CompareFunc___i_Simple___i_Simple_i_Simple_i_Simple__2 [tLA8 x0, tLA8 x1, tI x2, tI x3] = some o := ev_step ((eg_CompareFunc___i_Simple___i_Simple_i_Simple_i_Simple__2 R x0 x1 x2 x3).trans h)
def bg_CompareFunc___i_Simple___i_Simple_i_Simple_i_Simple_ (call : Oracle) (a0 a1 : List (List Int)) : Option (List TV) :=
  (call ig_CompareFunc___i_Simple___i_Simple_i_Simple_i_Simple__2 [tLA8 a0, tLA8 a1, tI ((List.length a0 : Nat) : Int), tI 0]).bind fun o3 =>
  bif ((gI o3 0) == 0) then
    bif decide (((List.length (gLA8 o3 1) : Nat) : Int) < ((List.length (gLA8 o3 2) : Nat) : Int)) then
      some [tI (-1)]
    else
      some [tI 0]
  else
    some [tI (gI o3 1)]
theorem eg_CompareFunc___i_Simple___i_Simple_i_Simple_i_Simple_ (call : Oracle) (a0 a1 : List (List Int)) : run1 E call ig_CompareFunc___i_Simple___i_Simple_i_Simple_i_Simple_ [tLA8 a0, tLA8 a1] = bg_CompareFunc___i_Simple___i_Simple_i_Simple_i_Simple_ call a0 a1 := by kernel_rfl
theorem vg_CompareFunc___i_Simple___i_Simple_i_Simple_i_Simple_ (a0 a1 : List (List Int)) {o : List TV} (h : bg_CompareFunc___i_Simple___i_Simple_i_Simple_i_Simple_ R a0 a1 = some o) : R ig_CompareFunc___i_Simple___i_Simple_i_Simple_i_Simple_ [tLA8 a0, tLA8 a1] = some o := ev_step ((eg_CompareFunc___i_Simple___i_Simple_i_Simple_i_Simple_ R a0 a1).trans h)
def bi_compareFactors (call : Oracle) (a0 a1 : Int × Int × List (List Int)) : Option (List TV) :=
  (call ig_CompareFunc___i_Simple___i_Simple_i_Simple_i_Simple_ [tLA8 a0.2.2, tLA8 a1.2.2]).bind fun o1 =>
  some [tI (gI o1 0)]
theorem ei_compareFactors (call : Oracle) (a0 a1 : Int × Int × List (List Int)) : run1 E call ii_compareFactors [tPIPILA8 a0, tPIPILA8 a1] = bi_compareFactors call a0 a1 := by kernel_rfl
theorem vi_compareFactors (a0 a1 : Int × Int × List (List Int)) {o : List TV} (h : bi_compareFactors R a0 a1 = some o) : R ii_compareFactors [tPIPILA8 a0, tPIPILA8 a1] = some o := ev_step ((ei_compareFactors R a0 a1).trans h)
def bg_SortFunc___i_Normal_i_Normal_ (call : Oracle) (x0 : List (Int × Int × List (List Int))) : Option (List TV) :=
  sortE call 96 (.pair (.int .i64) (.pair (.int .i64) (.slice (.arr .u8 8)))) x0
theorem eg_SortFunc___i_Normal_i_Normal_ (call : Oracle) (x0 : List (Int × Int × List (List Int))) : run1 E call ig_SortFunc___i_Normal_i_Normal_ [tLPIPILA8 x0] = bg_SortFunc___i_Normal_i_Normal_ call x0 := by kernel_rfl
theorem vg_SortFunc___i_Normal_i_Normal_ (x0 : List (Int × Int × List (List Int))) {o : List TV} (h : bg_SortFunc___i_Normal_i_Normal_ R x0 = some o) : R ig_SortFunc___i_Normal_i_Normal_ [tLPIPILA8 x0] = some o := ev_step ((eg_SortFunc___i_Normal_i_Normal_ R x0).trans h)
def bi_superSummit_4 (call : Oracle) (x0 : List (Int × Int × List (List Int))) (x1 : List (List Int)) (x2 : Int) : Option (List TV) :=
  bif decide (x2 < ((List.length x0 : Nat) : Int)) then
    (call ii_superSummit_7 [tLPIPILA8 x0, tLA8 x1, tI x2, tI ((List.length x1 : Nat) : Int), tI 0]).bind fun o8 =>
    bif ((gI o8 0) == 0) then
      call ii_superSummit_4 [tLPIPILA8 (gLPIPILA8 o8 1), tLA8 (gLA8 o8 2), tI (wi64 ((gI o8 3) + 1))]
    else
      some [tI 1, tLPIPILA8 (gLPIPILA8 o8 1), tB (gB o8 2)]
  else
    some [tI 0, tLPIPILA8 x0]
theorem ei_superSummit_4 (call : Oracle) (x0 : List (Int × Int × List (List Int))) (x1 : List (List Int)) (x2 : Int) : run1 E call ii_superSummit_4 [tLPIPILA8 x0, tLA8 x1, tI x2] = bi_superSummit_4 call x0 x1 x2 := by kernel_rfl
theorem vi_superSummit_4 (x0 : List (Int × Int × List (List Int))) (x1 : List (List Int)) (x2 : Int) {o : List TV} (h : bi_superSummit_4 R x0 x1 x2 = some o) : R ii_superSummit_4 [tLPIPILA8 x0, tLA8 x1, tI x2] = some o := ev_step ((ei_superSummit_4 R x0 x1 x2).trans h)
def bi_superSummit_7 (call : Oracle) (x0 : List (Int × Int × List (List Int))) (x1 : List (List Int)) (x2 x3 x4 : Int) : Option (List TV) :=
  bif decide (x4 < x3) then
    bif (decide (0 ≤ x4) && decide (x4 < ((List.length x1 : Nat) : Int))) then
      bif (decide (0 ≤ x2) && decide (x2 < ((List.length x0 : Nat) : Int))) then
        (call ii_conjugate [tPIPILA8 ((List.getD x0 (Int.toNat x2) (0, (0, []))).1, (((List.getD x0 (Int.toNat x2) (0, (0, []))).2).1, ((List.getD x0 (Int.toNat x2) (0, (0, []))).2).2)), tA8 (List.getD x1 (Int.toNat x4) (List.replicate 8 0))]).bind fun o5 =>
        bif decide (0 < ((List.length x0 : Nat) : Int)) then
          bif (((gPIPILA8 o5 0).2).1 != ((List.getD x0 0 (0, (0, []))).2).1) then
            call ii_superSummit_7 [tLPIPILA8 x0, tLA8 x1, tI x2, tI x3, tI (wi64 (x4 + 1))]
          else
            bif decide (0 < ((List.length x0 : Nat) : Int)) then
              bif (((List.length (((gPIPILA8 o5 0).2).2) : Nat) : Int) != ((List.length (((List.getD x0 0 (0, (0, []))).2).2) : Nat) : Int)) then
                call ii_superSummit_7 [tLPIPILA8 x0, tLA8 x1, tI x2, tI x3, tI (wi64 (x4 + 1))]
              else
                (call ig_ContainsFunc___i_Normal_i_Normal_ [tLPIPILA8 x0, tPIPILA8 ((gPIPILA8 o5 0).1, (((gPIPILA8 o5 0).2).1, ((gPIPILA8 o5 0).2).2))]).bind fun o6 =>
                bif (gB o6 0) then
                  call ii_superSummit_7 [tLPIPILA8 x0, tLA8 x1, tI x2, tI x3, tI (wi64 (x4 + 1))]
                else
                  bif (((List.length x0 : Nat) : Int) == 120) then
                    some [tI 1, tLPIPILA8 [], tB false]
                  else
                    bif (apOk x0 [((gPIPILA8 o5 0).1, (((gPIPILA8 o5 0).2).1, ((gPIPILA8 o5 0).2).2))]) then
                      call ii_superSummit_7 [tLPIPILA8 (x0 ++ [((gPIPILA8 o5 0).1, (((gPIPILA8 o5 0).2).1, ((gPIPILA8 o5 0).2).2))]), tLA8 x1, tI x2, tI x3, tI (wi64 (x4 + 1))]
                    else none
            else none
        else none
      else none
    else none
  else
    some [tI 0, tLPIPILA8 x0, tLA8 x1, tI x2]
theorem ei_superSummit_7 (call : Oracle) (x0 : List (Int × Int × List (List Int))) (x1 : List (List Int)) (x2 x3 x4 : Int) : run1 E call ii_superSummit_7 [tLPIPILA8 x0, tLA8 x1, tI x2, tI x3, tI x4] = bi_superSummit_7 call x0 x1 x2 x3 x4 := by kernel_rfl
theorem vi_superSummit_7 (x0 : List (Int × Int × List (List Int))) (x1 : List (List Int)) (x2 x3 x4 : Int) {o : List TV} (h : bi_superSummit_7 R x0 x1 x2 x3 x4 = some o) : R ii_superSummit_7 [tLPIPILA8 x0, tLA8 x1, tI x2, tI x3, tI x4] = some o := ev_step ((ei_superSummit_7 R x0 x1 x2 x3 x4).trans h)
def bi_superSummit (call : Oracle) (a0 : Int × Int × List (List Int)) : Option (List TV) :=
  (call ii_summit [tPIPILA8 (a0.1, (a0.2.1, a0.2.2))]).bind fun o1 =>
  (call ii_allSimple [tI a0.1]).bind fun o2 =>
  (call ii_superSummit_4 [tLPIPILA8 [((gPIPILA8 o1 0).1, (((gPIPILA8 o1 0).2).1, ((gPIPILA8 o1 0).2).2))], tLA8 (gLA8 o2 0), tI 0]).bind fun o9 =>
  bif ((gI o9 0) == 0) then
    (call ig_SortFunc___i_Normal_i_Normal_ [tLPIPILA8 (gLPIPILA8 o9 1)]).bind fun o10 =>
    some [tLPIPILA8 (gLPIPILA8 o10 0), tB true]
  else
    some [tLPIPILA8 (gLPIPILA8 o9 1), tB (gB o9 2)]
theorem ei_superSummit (call : Oracle) (a0 : Int × Int × List (List Int)) : run1 E call ii_superSummit [tPIPILA8 a0] = bi_superSummit call a0 := by kernel_rfl
theorem vi_superSummit (a0 : Int × Int × List (List Int)) {o : List TV} (h : bi_superSummit R a0 = some o) : R ii_superSummit [tPIPILA8 a0] = some o := ev_step ((ei_superSummit R a0).trans h)
def bi_AreConjugateK1 (call : Oracle) (a0 a1 : Int × Int × List (List Int)) : Option (List TV) :=
  (call ii_sameNormal [tPIPILA8 (a0.1, (a0.2.1, a0.2.2)), tPIPILA8 (a1.1, (a1.2.1, a1.2.2))]).bind fun o1 =>
  some [tB (gB o1 0)]
theorem ei_AreConjugateK1 (call : Oracle) (a0 a1 : Int × Int × List (List Int)) : run1 E call ii_AreConjugateK1 [tPIPILA8 a0, tPIPILA8 a1] = bi_AreConjugateK1 call a0 a1 := by kernel_rfl
theorem vi_AreConjugateK1 (a0 a1 : Int × Int × List (List Int)) {o : List TV} (h : bi_AreConjugateK1 R a0 a1 = some o) : R ii_AreConjugateK1 [tPIPILA8 a0, tPIPILA8 a1] = some o := ev_step ((ei_AreConjugateK1 R a0 a1).trans h)
def bg_IndexFunc___i_Normal_i_Normal__v2_2 (call : Oracle) (x0 : List (Int × Int × List (List Int))) (x1 x2 : Int) (x3 : List (List Int)) (x4 x5 : Int) : Option (List TV) :=
  bif decide (x5 < x4) then
    bif (decide (0 ≤ x5) && decide (x5 < ((List.length x0 : Nat) : Int))) then
      (call ii_AreConjugateK1 [tPIPILA8 ((List.getD x0 (Int.toNat x5) (0, (0, []))).1, (((List.getD x0 (Int.toNat x5) (0, (0, []))).2).1, ((List.getD x0 (Int.toNat x5) (0, (0, []))).2).2)), tPIPILA8 (x1, (x2, x3))]).bind fun o2 =>
      bif (gB o2 0) then
        some [tI 1, tI x5]
      else
        call ig_IndexFunc___i_Normal_i_Normal__v2_2 [tLPIPILA8 x0, tI x1, tI x2, tLA8 x3, tI x4, tI (wi64 (x5 + 1))]
    else none
  else
    some [tI 0]
theorem eg_IndexFunc___i_Normal_i_Normal__v2_2 (call : Oracle) (x0 : List (Int × Int × List (List Int))) (x1 x2 : Int) (x3 : List (List Int)) (x4 x5 : Int) : run1 E call ig_IndexFunc___i_Normal_i_Normal__v2_2 [tLPIPILA8 x0, tI x1, tI x2, tLA8 x3, tI x4, tI x5] = bg_IndexFunc___i_Normal_i_Normal__v2_2 call x0 x1 x2 x3 x4 x5 := by kernel_rfl
theorem vg_IndexFunc___i_Normal_i_Normal__v2_2 (x0 : List (Int × Int × List (List Int))) (x1 x2 : Int) (x3 : List (List Int)) (x4 x5 : Int) {o : List TV} (h : bg_IndexFunc___i_Normal_i_Normal__v2_2 R x0 x1 x2 x3 x4 x5 = some o) : R ig_IndexFunc___i_Normal_i_Normal__v2_2 [tLPIPILA8 x0, tI x1, tI x2, tLA8 x3, tI x4, tI x5] = some o := ev_step ((eg_IndexFunc___i_Normal_i_Normal__v2_2 R x0 x1 x2 x3 x4 x5).trans h)
def bg_IndexFunc___i_Normal_i_Normal__v2 (call : Oracle) (a0 : List (Int × Int × List (List Int))) (a1 : Int × Int × List (List Int)) : Option (List TV) :=
  (call ig_IndexFunc___i_Normal_i_Normal__v2_2 [tLPIPILA8 a0, tI a1.1, tI a1.2.1, tLA8 a1.2.2, tI ((List.length a0 : Nat) : Int), tI 0]).bind fun o3 =>
  bif ((gI o3 0) == 0) then
    some [tI (-1)]
  else
    some [tI (gI o3 1)]
theorem eg_IndexFunc___i_Normal_i_Normal__v2 (call : Oracle) (a0 : List (Int × Int × List (List Int))) (a1 : Int × Int × List (List Int)) : run1 E call ig_IndexFunc___i_Normal_i_Normal__v2 [tLPIPILA8 a0, tPIPILA8 a1] = bg_IndexFunc___i_Normal_i_Normal__v2 call a0 a1 := by kernel_rfl
theorem vg_IndexFunc___i_Normal_i_Normal__v2 (a0 : List (Int × Int × List (List Int))) (a1 : Int × Int × List (List Int)) {o : List TV} (h : bg_IndexFunc___i_Normal_i_Normal__v2 R a0 a1 = some o) : R ig_IndexFunc___i_Normal_i_Normal__v2 [tLPIPILA8 a0, tPIPILA8 a1] = some o := ev_step ((eg_IndexFunc___i_Normal_i_Normal__v2 R a0 a1).trans h)
def bg_ContainsFunc___i_Normal_i_Normal__v2 (call : Oracle) (a0 : List (Int × Int × List (List Int))) (a1 : Int × Int × List (List Int)) : Option (List TV) :=
  (call ig_IndexFunc___i_Normal_i_Normal__v2 [tLPIPILA8 a0, tPIPILA8 (a1.1, (a1.2.1, a1.2.2))]).bind fun o1 =>
  some [tB (decide (0 ≤ (gI o1 0)))]
theorem eg_ContainsFunc___i_Normal_i_Normal__v2 (call : Oracle) (a0 : List (Int × Int × List (List Int))) (a1 : Int × Int × List (List Int)) : run1 E call ig_ContainsFunc___i_Normal_i_Normal__v2 [tLPIPILA8 a0, tPIPILA8 a1] = bg_ContainsFunc___i_Normal_i_Normal__v2 call a0 a1 := by kernel_rfl
theorem vg_ContainsFunc___i_Normal_i_Normal__v2 (a0 : List (Int × Int × List (List Int))) (a1 : Int × Int × List (List Int)) {o : List TV} (h : bg_ContainsFunc___i_Normal_i_Normal__v2 R a0 a1 = some o) : R ig_ContainsFunc___i_Normal_i_Normal__v2 [tLPIPILA8 a0, tPIPILA8 a1] = some o := ev_step ((eg_ContainsFunc___i_Normal_i_Normal__v2 R a0 a1).trans h)
def bi_AreConjugate (call : Oracle) (a0 a1 : Int × Int × List (List Int)) : Option (List TV) :=
  (call ii_areSameCount [tPIPILA8 (a0.1, (a0.2.1, a0.2.2)), tPIPILA8 (a1.1, (a1.2.1, a1.2.2))]).bind fun o1 =>
  bif ((gI o1 0) != 0) then
    some [tB false, tI (gI o1 0)]
  else
    bif decide (4 < a0.1) then
      some [tB false, tI 2]
    else
      (call ii_summit [tPIPILA8 (a0.1, (a0.2.1, a0.2.2))]).bind fun o2 =>
      (call ii_summit [tPIPILA8 (a1.1, (a1.2.1, a1.2.2))]).bind fun o3 =>
      bif (((gPIPILA8 o2 0).2).1 != ((gPIPILA8 o3 0).2).1) then
        some [tB false, tI 0]
      else
        bif (((List.length (((gPIPILA8 o2 0).2).2) : Nat) : Int) != ((List.length (((gPIPILA8 o3 0).2).2) : Nat) : Int)) then
          some [tB false, tI 0]
        else
          (call ii_superSummit [tPIPILA8 (a0.1, (a0.2.1, a0.2.2))]).bind fun o4 =>
          bif (!(gB o4 1)) then
            some [tB false, tI 3]
          else
            (call ig_ContainsFunc___i_Normal_i_Normal__v2 [tLPIPILA8 (gLPIPILA8 o4 0), tPIPILA8 ((gPIPILA8 o3 0).1, (((gPIPILA8 o3 0).2).1, ((gPIPILA8 o3 0).2).2))]).bind fun o5 =>
            some [tB (gB o5 0), tI 0]
theorem ei_AreConjugate (call : Oracle) (a0 a1 : Int × Int × List (List Int)) : run1 E call ii_AreConjugate [tPIPILA8 a0, tPIPILA8 a1] = bi_AreConjugate call a0 a1 := by kernel_rfl
theorem vi_AreConjugate (a0 a1 : Int × Int × List (List Int)) {o : List TV} (h : bi_AreConjugate R a0 a1 = some o) : R ii_AreConjugate [tPIPILA8 a0, tPIPILA8 a1] = some o := ev_step ((ei_AreConjugate R a0 a1).trans h)
def bi_MultiplyNormals (call : Oracle) (a0 a1 : Int × Int × List (List Int)) : Option (List TV) :=
  (call ii_areSameCount [tPIPILA8 (a0.1, (a0.2.1, a0.2.2)), tPIPILA8 (a1.1, (a1.2.1, a1.2.2))]).bind fun o1 =>
  bif ((gI o1 0) != 0) then
    some [tPIPILA8 (0, (0, [])), tI (gI o1 0)]
  else
    (call ii_product [tPIPILA8 (a0.1, (a0.2.1, a0.2.2)), tPIPILA8 (a1.1, (a1.2.1, a1.2.2))]).bind fun o2 =>
    (call ii_limited [tPIPILA8 ((gPIPILA8 o2 0).1, (((gPIPILA8 o2 0).2).1, ((gPIPILA8 o2 0).2).2))]).bind fun o3 =>
    some [tPIPILA8 ((gPIPILA8 o3 0).1, (((gPIPILA8 o3 0).2).1, ((gPIPILA8 o3 0).2).2)), tI (gI o3 1)]
theorem ei_MultiplyNormals (call : Oracle) (a0 a1 : Int × Int × List (List Int)) : run1 E call ii_MultiplyNormals [tPIPILA8 a0, tPIPILA8 a1] = bi_MultiplyNormals call a0 a1 := by kernel_rfl
theorem vi_MultiplyNormals (a0 a1 : Int × Int × List (List Int)) {o : List TV} (h : bi_MultiplyNormals R a0 a1 = some o) : R ii_MultiplyNormals [tPIPILA8 a0, tPIPILA8 a1] = some o := ev_step ((ei_MultiplyNormals R a0 a1).trans h)
def bw_FnConjugates_j35 (call : Oracle) (x0 x1 : Int) (x2 : List (List Int)) (x3 x4 : Int) (x5 : List (List Int)) (x6 x7 : Int) (x8 : List (List Int)) (x9 x10 : Int) (x11 : List (List Int)) (x12 x13 : Int) (x14 : List (List Int)) (x15 x16 : Int) (x17 : List (List Int)) (x18 x19 : Int) (x20 : List (List Int)) (x21 x22 : Int) (x23 x24 : Int) : Option (List TV) :=
  bif (x22 == 0) then
    bif (x23 == 0) then
      bif (x24 == 0) then
        bif decide (x13 < x10) then
          some [tI 0, tB false]
        else
          bif decide (x16 < x10) then
            some [tI 0, tB false]
          else
            bif decide (x19 < x10) then
              some [tI 0, tB false]
            else
              bif decide ((wi64 (x10 + ((List.length x11 : Nat) : Int))) < (wi64 (x13 + ((List.length x14 : Nat) : Int)))) then
                some [tI 0, tB false]
              else
                bif decide ((wi64 (x10 + ((List.length x11 : Nat) : Int))) < (wi64 (x16 + ((List.length x17 : Nat) : Int)))) then
                  some [tI 0, tB false]
                else
                  bif decide ((wi64 (x10 + ((List.length x11 : Nat) : Int))) < (wi64 (x19 + ((List.length x20 : Nat) : Int)))) then
                    some [tI 0, tB false]
                  else
                    bif decide (x9 ≤ 4) then
                      (call ii_AreConjugate [tPIPILA8 (x9, (x10, x11)), tPIPILA8 (x12, (x13, x14))]).bind fun o42 =>
                      (call ii_AreConjugate [tPIPILA8 (x9, (x10, x11)), tPIPILA8 (x18, (x19, x20))]).bind fun o43 =>
                      bif ((gI o42 1) == 0) then
                        bif (!(gB o42 0)) then
                          some [tI 0, tB false]
                        else
                          bif ((gI o43 1) == 0) then
                            bif (!(gB o43 0)) then
                              some [tI 0, tB false]
                            else
                              (call iw_FnConjugates_j44 [tI x0, tI x1, tLA8 x2, tI x3, tI x4, tLA8 x5, tI x6, tI x7, tLA8 x8, tI x21]).bind fun o44 =>
                              some [tI 0, tB (gB o44 1)]
                          else
                            (call iw_FnConjugates_j44 [tI x0, tI x1, tLA8 x2, tI x3, tI x4, tLA8 x5, tI x6, tI x7, tLA8 x8, tI x21]).bind fun o45 =>
                            some [tI 0, tB (gB o45 1)]
                      else
                        bif ((gI o43 1) == 0) then
                          bif (!(gB o43 0)) then
                            some [tI 0, tB false]
                          else
                            (call iw_FnConjugates_j44 [tI x0, tI x1, tLA8 x2, tI x3, tI x4, tLA8 x5, tI x6, tI x7, tLA8 x8, tI x21]).bind fun o46 =>
                            some [tI 0, tB (gB o46 1)]
                        else
                          (call iw_FnConjugates_j44 [tI x0, tI x1, tLA8 x2, tI x3, tI x4, tLA8 x5, tI x6, tI x7, tLA8 x8, tI x21]).bind fun o47 =>
                          some [tI 0, tB (gB o47 1)]
                    else
                      (call iw_FnConjugates_j44 [tI x0, tI x1, tLA8 x2, tI x3, tI x4, tLA8 x5, tI x6, tI x7, tLA8 x8, tI x21]).bind fun o48 =>
                      some [tI 0, tB (gB o48 1)]
      else
        (call iw_FnConjugates_j44 [tI x0, tI x1, tLA8 x2, tI x3, tI x4, tLA8 x5, tI x6, tI x7, tLA8 x8, tI x21]).bind fun o49 =>
        some [tI 0, tB (gB o49 1)]
    else
      (call iw_FnConjugates_j44 [tI x0, tI x1, tLA8 x2, tI x3, tI x4, tLA8 x5, tI x6, tI x7, tLA8 x8, tI x21]).bind fun o50 =>
      some [tI 0, tB (gB o50 1)]
  else
    (call iw_FnConjugates_j44 [tI x0, tI x1, tLA8 x2, tI x3, tI x4, tLA8 x5, tI x6, tI x7, tLA8 x8, tI x21]).bind fun o51 =>
    some [tI 0, tB (gB o51 1)]
theorem ew_FnConjugates_j35 (call : Oracle) (x0 x1 : Int) (x2 : List (List Int)) (x3 x4 : Int) (x5 : List (List Int)) (x6 x7 : Int) (x8 : List (List Int)) (x9 x10 : Int) (x11 : List (List Int)) (x12 x13 : Int) (x14 : List (List Int)) (x15 x16 : Int) (x17 : List (List Int)) (x18 x19 : Int) (x20 : List (List Int)) (x21 x22 : Int) (x23 x24 : Int) : run1 E call iw_FnConjugates_j35 [tI x0, tI x1, tLA8 x2, tI x3, tI x4, tLA8 x5, tI x6, tI x7, tLA8 x8, tI x9, tI x10, tLA8 x11, tI x12, tI x13, tLA8 x14, tI x15, tI x16, tLA8 x17, tI x18, tI x19, tLA8 x20, tI x21, tI x22, tI x23, tI x24] = bw_FnConjugates_j35 call x0 x1 x2 x3 x4 x5 x6 x7 x8 x9 x10 x11 x12 x13 x14 x15 x16 x17 x18 x19 x20 x21 x22 x23 x24 := by kernel_rfl
theorem vw_FnConjugates_j35 (x0 x1 : Int) (x2 : List (List Int)) (x3 x4 : Int) (x5 : List (List Int)) (x6 x7 : Int) (x8 : List (List Int)) (x9 x10 : Int) (x11 : List (List Int)) (x12 x13 : Int) (x14 : List (List Int)) (x15 x16 : Int) (x17 : List (List Int)) (x18 x19 : Int) (x20 : List (List Int)) (x21 x22 : Int) (x23 x24 : Int) {o : List TV} (h : bw_FnConjugates_j35 R x0 x1 x2 x3 x4 x5 x6 x7 x8 x9 x10 x11 x12 x13 x14 x15 x16 x17 x18 x19 x20 x21 x22 x23 x24 = some o) : R iw_FnConjugates_j35 [tI x0, tI x1, tLA8 x2, tI x3, tI x4, tLA8 x5, tI x6, tI x7, tLA8 x8, tI x9, tI x10, tLA8 x11, tI x12, tI x13, tLA8 x14, tI x15, tI x16, tLA8 x17, tI x18, tI x19, tLA8 x20, tI x21, tI x22, tI x23, tI x24] = some o := ev_step ((ew_FnConjugates_j35 R x0 x1 x2 x3 x4 x5 x6 x7 x8 x9 x10 x11 x12 x13 x14 x15 x16 x17 x18 x19 x20 x21 x22 x23 x24).trans h)
def bw_FnConjugates_j44 (call : Oracle) (x0 x1 : Int) (x2 : List (List Int)) (x3 x4 : Int) (x5 : List (List Int)) (x6 x7 : Int) (x8 : List (List Int)) (x9 : Int) : Option (List TV) :=
  bif (x9 != 0) then
    some [tI 0, tB (((List.length x8 : Nat) : Int) == 0)]
  else
    (call ii_MultiplyNormals [tPIPILA8 (x3, (x4, x5)), tPIPILA8 (x6, (x7, x8))]).bind fun o31 =>
    (call ii_MultiplyNormals [tPIPILA8 (x0, (x1, x2)), tPIPILA8 (x3, (x4, x5))]).bind fun o32 =>
    bif ((gI o31 1) != 0) then
      some [tI 0, tB true]
    else
      bif ((gI o32 1) != 0) then
        some [tI 0, tB true]
      else
        (call iw_normal9 [tPIPILA8 ((gPIPILA8 o31 0).1, (((gPIPILA8 o31 0).2).1, ((gPIPILA8 o31 0).2).2)), tPIPILA8 ((gPIPILA8 o32 0).1, (((gPIPILA8 o32 0).2).1, ((gPIPILA8 o32 0).2).2))]).bind fun o33 =>
        some [tI 0, tB (gB o33 0)]
theorem ew_FnConjugates_j44 (call : Oracle) (x0 x1 : Int) (x2 : List (List Int)) (x3 x4 : Int) (x5 : List (List Int)) (x6 x7 : Int) (x8 : List (List Int)) (x9 : Int) : run1 E call iw_FnConjugates_j44 [tI x0, tI x1, tLA8 x2, tI x3, tI x4, tLA8 x5, tI x6, tI x7, tLA8 x8, tI x9] = bw_FnConjugates_j44 call x0 x1 x2 x3 x4 x5 x6 x7 x8 x9 := by kernel_rfl
theorem vw_FnConjugates_j44 (x0 x1 : Int) (x2 : List (List Int)) (x3 x4 : Int) (x5 : List (List Int)) (x6 x7 : Int) (x8 : List (List Int)) (x9 : Int) {o : List TV} (h : bw_FnConjugates_j44 R x0 x1 x2 x3 x4 x5 x6 x7 x8 x9 = some o) : R iw_FnConjugates_j44 [tI x0, tI x1, tLA8 x2, tI x3, tI x4, tLA8 x5, tI x6, tI x7, tLA8 x8, tI x9] = some o := ev_step ((ew_FnConjugates_j44 R x0 x1 x2 x3 x4 x5 x6 x7 x8 x9).trans h)
def bw_FnConjugates (call : Oracle) (a0 : List Int) : Option (List TV) :=
  (call iw_big [tLU8 a0]).bind fun o1 =>
  bif (gB o1 0) then
    some [tB true]
  else
    (call is_DrawConjugateBy [tLU8 a0]).bind fun o2 =>
    (call ii_ConjugateBy [tPIPILA8 ((gPIPILA8 o2 0).1, (((gPIPILA8 o2 0).2).1, ((gPIPILA8 o2 0).2).2)), tPIPILA8 ((gPIPILA8 o2 1).1, (((gPIPILA8 o2 1).2).1, ((gPIPILA8 o2 1).2).2))]).bind fun o3 =>
    (call is_ConjugateBy [tPIPILA8 ((gPIPILA8 o2 0).1, (((gPIPILA8 o2 0).2).1, ((gPIPILA8 o2 0).2).2)), tPIPILA8 ((gPIPILA8 o2 1).1, (((gPIPILA8 o2 1).2).1, ((gPIPILA8 o2 1).2).2))]).bind fun o4 =>
    bif ((gI o3 1) != (gI o4 1)) then
      some [tB false]
    else
      (call iw_normal9 [tPIPILA8 ((gPIPILA8 o3 0).1, (((gPIPILA8 o3 0).2).1, ((gPIPILA8 o3 0).2).2)), tPIPILA8 ((gPIPILA8 o4 0).1, (((gPIPILA8 o4 0).2).1, ((gPIPILA8 o4 0).2).2))]).bind fun o5 =>
      bif (!(gB o5 0)) then
        some [tB false]
      else
        (call is_DrawCyclingOf [tLU8 a0]).bind fun o6 =>
        (call ii_CyclingOf [tPIPILA8 ((gPIPILA8 o6 0).1, (((gPIPILA8 o6 0).2).1, ((gPIPILA8 o6 0).2).2))]).bind fun o7 =>
        (call is_CyclingOf [tPIPILA8 ((gPIPILA8 o6 0).1, (((gPIPILA8 o6 0).2).1, ((gPIPILA8 o6 0).2).2))]).bind fun o8 =>
        bif ((gI o7 1) != (gI o8 1)) then
          some [tB false]
        else
          (call iw_normal9 [tPIPILA8 ((gPIPILA8 o7 0).1, (((gPIPILA8 o7 0).2).1, ((gPIPILA8 o7 0).2).2)), tPIPILA8 ((gPIPILA8 o8 0).1, (((gPIPILA8 o8 0).2).1, ((gPIPILA8 o8 0).2).2))]).bind fun o9 =>
          bif (!(gB o9 0)) then
            some [tB false]
          else
            (call ii_DecyclingOf [tPIPILA8 ((gPIPILA8 o6 0).1, (((gPIPILA8 o6 0).2).1, ((gPIPILA8 o6 0).2).2))]).bind fun o10 =>
            (call is_DecyclingOf [tPIPILA8 ((gPIPILA8 o6 0).1, (((gPIPILA8 o6 0).2).1, ((gPIPILA8 o6 0).2).2))]).bind fun o11 =>
            bif ((gI o10 1) != (gI o11 1)) then
              some [tB false]
            else
              (call iw_normal9 [tPIPILA8 ((gPIPILA8 o10 0).1, (((gPIPILA8 o10 0).2).1, ((gPIPILA8 o10 0).2).2)), tPIPILA8 ((gPIPILA8 o11 0).1, (((gPIPILA8 o11 0).2).1, ((gPIPILA8 o11 0).2).2))]).bind fun o12 =>
              bif (!(gB o12 0)) then
                some [tB false]
              else
                (call ii_SlidingOf [tPIPILA8 ((gPIPILA8 o6 0).1, (((gPIPILA8 o6 0).2).1, ((gPIPILA8 o6 0).2).2))]).bind fun o13 =>
                (call is_SlidingOf [tPIPILA8 ((gPIPILA8 o6 0).1, (((gPIPILA8 o6 0).2).1, ((gPIPILA8 o6 0).2).2))]).bind fun o14 =>
                bif ((gI o13 1) != (gI o14 1)) then
                  some [tB false]
                else
                  (call iw_normal9 [tPIPILA8 ((gPIPILA8 o13 0).1, (((gPIPILA8 o13 0).2).1, ((gPIPILA8 o13 0).2).2)), tPIPILA8 ((gPIPILA8 o14 0).1, (((gPIPILA8 o14 0).2).1, ((gPIPILA8 o14 0).2).2))]).bind fun o15 =>
                  bif (!(gB o15 0)) then
                    some [tB false]
                  else
                    (call is_DrawIsCentral [tLU8 a0]).bind fun o16 =>
                    (call ii_IsCentral [tPIPILA8 ((gPIPILA8 o16 0).1, (((gPIPILA8 o16 0).2).1, ((gPIPILA8 o16 0).2).2))]).bind fun o17 =>
                    (call is_IsCentral [tPIPILA8 ((gPIPILA8 o16 0).1, (((gPIPILA8 o16 0).2).1, ((gPIPILA8 o16 0).2).2))]).bind fun o18 =>
                    bif ((gI o17 1) != (gI o18 1)) then
                      some [tB false]
                    else
                      bif ((gB o17 0) != (gB o18 0)) then
                        some [tB false]
                      else
                        (call ii_IsPeriodic [tPIPILA8 ((gPIPILA8 o16 0).1, (((gPIPILA8 o16 0).2).1, ((gPIPILA8 o16 0).2).2))]).bind fun o19 =>
                        (call is_IsPeriodic [tPIPILA8 ((gPIPILA8 o16 0).1, (((gPIPILA8 o16 0).2).1, ((gPIPILA8 o16 0).2).2))]).bind fun o20 =>
                        bif ((gI o19 1) != (gI o20 1)) then
                          some [tB false]
                        else
                          bif ((gB o19 0) != (gB o20 0)) then
                            some [tB false]
                          else
                            bif (gB o17 0) then
                              bif (!(gB o19 0)) then
                                some [tB false]
                              else
                                bif (gB o17 0) then
                                  bif decide (1 < (gPIPILA8 o16 0).1) then
                                    (call iw_roll [tLU8 a0, tU64 9904]).bind fun o21 =>
                                    (call iw_letters9 [tPLU8PIU64 ((gPLU8PIU64 o21 0).1, (((gPLU8PIU64 o21 0).2).1, ((gPLU8PIU64 o21 0).2).2)), tI ((gPIPILA8 o16 0).1), tI 4]).bind fun o22 =>
                                    (call ii_NormalOf [tPILI ((gPIPILA8 o16 0).1, (gLI o22 0))]).bind fun o23 =>
                                    (call ii_ConjugateBy [tPIPILA8 ((gPIPILA8 o16 0).1, (((gPIPILA8 o16 0).2).1, ((gPIPILA8 o16 0).2).2)), tPIPILA8 ((gPIPILA8 o23 0).1, (((gPIPILA8 o23 0).2).1, ((gPIPILA8 o23 0).2).2))]).bind fun o24 =>
                                    bif ((gI o23 1) != 0) then
                                      some [tB false]
                                    else
                                      bif ((gI o24 1) == 0) then
                                        (call iw_normal9 [tPIPILA8 ((gPIPILA8 o24 0).1, (((gPIPILA8 o24 0).2).1, ((gPIPILA8 o24 0).2).2)), tPIPILA8 ((gPIPILA8 o16 0).1, (((gPIPILA8 o16 0).2).1, ((gPIPILA8 o16 0).2).2))]).bind fun o25 =>
                                        bif (!(gB o25 0)) then
                                          some [tB false]
                                        else
                                          (call iw_FnConjugates_j35 [tI ((gPIPILA8 o2 0).1), tI (((gPIPILA8 o2 0).2).1), tLA8 (((gPIPILA8 o2 0).2).2), tI ((gPIPILA8 o2 1).1), tI (((gPIPILA8 o2 1).2).1), tLA8 (((gPIPILA8 o2 1).2).2), tI ((gPIPILA8 o3 0).1), tI (((gPIPILA8 o3 0).2).1), tLA8 (((gPIPILA8 o3 0).2).2), tI ((gPIPILA8 o6 0).1), tI (((gPIPILA8 o6 0).2).1), tLA8 (((gPIPILA8 o6 0).2).2), tI ((gPIPILA8 o7 0).1), tI (((gPIPILA8 o7 0).2).1), tLA8 (((gPIPILA8 o7 0).2).2), tI ((gPIPILA8 o10 0).1), tI (((gPIPILA8 o10 0).2).1), tLA8 (((gPIPILA8 o10 0).2).2), tI ((gPIPILA8 o13 0).1), tI (((gPIPILA8 o13 0).2).1), tLA8 (((gPIPILA8 o13 0).2).2), tI (gI o3 1), tI (gI o7 1), tI (gI o10 1), tI (gI o13 1)]).bind fun o52 =>
                                          some [tB (gB o52 1)]
                                      else
                                        (call iw_FnConjugates_j35 [tI ((gPIPILA8 o2 0).1), tI (((gPIPILA8 o2 0).2).1), tLA8 (((gPIPILA8 o2 0).2).2), tI ((gPIPILA8 o2 1).1), tI (((gPIPILA8 o2 1).2).1), tLA8 (((gPIPILA8 o2 1).2).2), tI ((gPIPILA8 o3 0).1), tI (((gPIPILA8 o3 0).2).1), tLA8 (((gPIPILA8 o3 0).2).2), tI ((gPIPILA8 o6 0).1), tI (((gPIPILA8 o6 0).2).1), tLA8 (((gPIPILA8 o6 0).2).2), tI ((gPIPILA8 o7 0).1), tI (((gPIPILA8 o7 0).2).1), tLA8 (((gPIPILA8 o7 0).2).2), tI ((gPIPILA8 o10 0).1), tI (((gPIPILA8 o10 0).2).1), tLA8 (((gPIPILA8 o10 0).2).2), tI ((gPIPILA8 o13 0).1), tI (((gPIPILA8 o13 0).2).1), tLA8 (((gPIPILA8 o13 0).2).2), tI (gI o3 1), tI (gI o7 1), tI (gI o10 1), tI (gI o13 1)]).bind fun o53 =>
                                        some [tB (gB o53 1)]
                                  else
                                    (call iw_FnConjugates_j35 [tI ((gPIPILA8 o2 0).1), tI (((gPIPILA8 o2 0).2).1), tLA8 (((gPIPILA8 o2 0).2).2), tI ((gPIPILA8 o2 1).1), tI (((gPIPILA8 o2 1).2).1), tLA8 (((gPIPILA8 o2 1).2).2), tI ((gPIPILA8 o3 0).1), tI (((gPIPILA8 o3 0).2).1), tLA8 (((gPIPILA8 o3 0).2).2), tI ((gPIPILA8 o6 0).1), tI (((gPIPILA8 o6 0).2).1), tLA8 (((gPIPILA8 o6 0).2).2), tI ((gPIPILA8 o7 0).1), tI (((gPIPILA8 o7 0).2).1), tLA8 (((gPIPILA8 o7 0).2).2), tI ((gPIPILA8 o10 0).1), tI (((gPIPILA8 o10 0).2).1), tLA8 (((gPIPILA8 o10 0).2).2), tI ((gPIPILA8 o13 0).1), tI (((gPIPILA8 o13 0).2).1), tLA8 (((gPIPILA8 o13 0).2).2), tI (gI o3 1), tI (gI o7 1), tI (gI o10 1), tI (gI o13 1)]).bind fun o54 =>
                                    some [tB (gB o54 1)]
                                else
                                  (call iw_FnConjugates_j35 [tI ((gPIPILA8 o2 0).1), tI (((gPIPILA8 o2 0).2).1), tLA8 (((gPIPILA8 o2 0).2).2), tI ((gPIPILA8 o2 1).1), tI (((gPIPILA8 o2 1).2).1), tLA8 (((gPIPILA8 o2 1).2).2), tI ((gPIPILA8 o3 0).1), tI (((gPIPILA8 o3 0).2).1), tLA8 (((gPIPILA8 o3 0).2).2), tI ((gPIPILA8 o6 0).1), tI (((gPIPILA8 o6 0).2).1), tLA8 (((gPIPILA8 o6 0).2).2), tI ((gPIPILA8 o7 0).1), tI (((gPIPILA8 o7 0).2).1), tLA8 (((gPIPILA8 o7 0).2).2), tI ((gPIPILA8 o10 0).1), tI (((gPIPILA8 o10 0).2).1), tLA8 (((gPIPILA8 o10 0).2).2), tI ((gPIPILA8 o13 0).1), tI (((gPIPILA8 o13 0).2).1), tLA8 (((gPIPILA8 o13 0).2).2), tI (gI o3 1), tI (gI o7 1), tI (gI o10 1), tI (gI o13 1)]).bind fun o55 =>
                                  some [tB (gB o55 1)]
                            else
                              bif (gB o17 0) then
                                bif decide (1 < (gPIPILA8 o16 0).1) then
                                  (call iw_roll [tLU8 a0, tU64 9904]).bind fun o56 =>
                                  (call iw_letters9 [tPLU8PIU64 ((gPLU8PIU64 o56 0).1, (((gPLU8PIU64 o56 0).2).1, ((gPLU8PIU64 o56 0).2).2)), tI ((gPIPILA8 o16 0).1), tI 4]).bind fun o57 =>
                                  (call ii_NormalOf [tPILI ((gPIPILA8 o16 0).1, (gLI o57 0))]).bind fun o58 =>
                                  (call ii_ConjugateBy [tPIPILA8 ((gPIPILA8 o16 0).1, (((gPIPILA8 o16 0).2).1, ((gPIPILA8 o16 0).2).2)), tPIPILA8 ((gPIPILA8 o58 0).1, (((gPIPILA8 o58 0).2).1, ((gPIPILA8 o58 0).2).2))]).bind fun o59 =>
                                  bif ((gI o58 1) != 0) then
                                    some [tB false]
                                  else
                                    bif ((gI o59 1) == 0) then
                                      (call iw_normal9 [tPIPILA8 ((gPIPILA8 o59 0).1, (((gPIPILA8 o59 0).2).1, ((gPIPILA8 o59 0).2).2)), tPIPILA8 ((gPIPILA8 o16 0).1, (((gPIPILA8 o16 0).2).1, ((gPIPILA8 o16 0).2).2))]).bind fun o60 =>
                                      bif (!(gB o60 0)) then
                                        some [tB false]
                                      else
                                        (call iw_FnConjugates_j35 [tI ((gPIPILA8 o2 0).1), tI (((gPIPILA8 o2 0).2).1), tLA8 (((gPIPILA8 o2 0).2).2), tI ((gPIPILA8 o2 1).1), tI (((gPIPILA8 o2 1).2).1), tLA8 (((gPIPILA8 o2 1).2).2), tI ((gPIPILA8 o3 0).1), tI (((gPIPILA8 o3 0).2).1), tLA8 (((gPIPILA8 o3 0).2).2), tI ((gPIPILA8 o6 0).1), tI (((gPIPILA8 o6 0).2).1), tLA8 (((gPIPILA8 o6 0).2).2), tI ((gPIPILA8 o7 0).1), tI (((gPIPILA8 o7 0).2).1), tLA8 (((gPIPILA8 o7 0).2).2), tI ((gPIPILA8 o10 0).1), tI (((gPIPILA8 o10 0).2).1), tLA8 (((gPIPILA8 o10 0).2).2), tI ((gPIPILA8 o13 0).1), tI (((gPIPILA8 o13 0).2).1), tLA8 (((gPIPILA8 o13 0).2).2), tI (gI o3 1), tI (gI o7 1), tI (gI o10 1), tI (gI o13 1)]).bind fun o61 =>
                                        some [tB (gB o61 1)]
                                    else
                                      (call iw_FnConjugates_j35 [tI ((gPIPILA8 o2 0).1), tI (((gPIPILA8 o2 0).2).1), tLA8 (((gPIPILA8 o2 0).2).2), tI ((gPIPILA8 o2 1).1), tI (((gPIPILA8 o2 1).2).1), tLA8 (((gPIPILA8 o2 1).2).2), tI ((gPIPILA8 o3 0).1), tI (((gPIPILA8 o3 0).2).1), tLA8 (((gPIPILA8 o3 0).2).2), tI ((gPIPILA8 o6 0).1), tI (((gPIPILA8 o6 0).2).1), tLA8 (((gPIPILA8 o6 0).2).2), tI ((gPIPILA8 o7 0).1), tI (((gPIPILA8 o7 0).2).1), tLA8 (((gPIPILA8 o7 0).2).2), tI ((gPIPILA8 o10 0).1), tI (((gPIPILA8 o10 0).2).1), tLA8 (((gPIPILA8 o10 0).2).2), tI ((gPIPILA8 o13 0).1), tI (((gPIPILA8 o13 0).2).1), tLA8 (((gPIPILA8 o13 0).2).2), tI (gI o3 1), tI (gI o7 1), tI (gI o10 1), tI (gI o13 1)]).bind fun o62 =>
                                      some [tB (gB o62 1)]
                                else
                                  (call iw_FnConjugates_j35 [tI ((gPIPILA8 o2 0).1), tI (((gPIPILA8 o2 0).2).1), tLA8 (((gPIPILA8 o2 0).2).2), tI ((gPIPILA8 o2 1).1), tI (((gPIPILA8 o2 1).2).1), tLA8 (((gPIPILA8 o2 1).2).2), tI ((gPIPILA8 o3 0).1), tI (((gPIPILA8 o3 0).2).1), tLA8 (((gPIPILA8 o3 0).2).2), tI ((gPIPILA8 o6 0).1), tI (((gPIPILA8 o6 0).2).1), tLA8 (((gPIPILA8 o6 0).2).2), tI ((gPIPILA8 o7 0).1), tI (((gPIPILA8 o7 0).2).1), tLA8 (((gPIPILA8 o7 0).2).2), tI ((gPIPILA8 o10 0).1), tI (((gPIPILA8 o10 0).2).1), tLA8 (((gPIPILA8 o10 0).2).2), tI ((gPIPILA8 o13 0).1), tI (((gPIPILA8 o13 0).2).1), tLA8 (((gPIPILA8 o13 0).2).2), tI (gI o3 1), tI (gI o7 1), tI (gI o10 1), tI (gI o13 1)]).bind fun o63 =>
                                  some [tB (gB o63 1)]
                              else
                                (call iw_FnConjugates_j35 [tI ((gPIPILA8 o2 0).1), tI (((gPIPILA8 o2 0).2).1), tLA8 (((gPIPILA8 o2 0).2).2), tI ((gPIPILA8 o2 1).1), tI (((gPIPILA8 o2 1).2).1), tLA8 (((gPIPILA8 o2 1).2).2), tI ((gPIPILA8 o3 0).1), tI (((gPIPILA8 o3 0).2).1), tLA8 (((gPIPILA8 o3 0).2).2), tI ((gPIPILA8 o6 0).1), tI (((gPIPILA8 o6 0).2).1), tLA8 (((gPIPILA8 o6 0).2).2), tI ((gPIPILA8 o7 0).1), tI (((gPIPILA8 o7 0).2).1), tLA8 (((gPIPILA8 o7 0).2).2), tI ((gPIPILA8 o10 0).1), tI (((gPIPILA8 o10 0).2).1), tLA8 (((gPIPILA8 o10 0).2).2), tI ((gPIPILA8 o13 0).1), tI (((gPIPILA8 o13 0).2).1), tLA8 (((gPIPILA8 o13 0).2).2), tI (gI o3 1), tI (gI o7 1), tI (gI o10 1), tI (gI o13 1)]).bind fun o64 =>
                                some [tB (gB o64 1)]
theorem ew_FnConjugates (call : Oracle) (a0 : List Int) : run1 E call iw_FnConjugates [tLU8 a0] = bw_FnConjugates call a0 := by kernel_rfl
theorem vw_FnConjugates (a0 : List Int) {o : List TV} (h : bw_FnConjugates R a0 = some o) : R iw_FnConjugates [tLU8 a0] = some o := ev_step ((ew_FnConjugates R a0).trans h)
end
end Go.Ev.YtgfleapbganjiaaGreat
