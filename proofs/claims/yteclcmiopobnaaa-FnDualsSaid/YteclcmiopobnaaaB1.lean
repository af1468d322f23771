/- Bodies, part 1. -/
import Derived.KernelRfl
import Derived.Test.YteclcmiopobnaaaEnv
set_option linter.unusedVariables false
namespace Go.Ev.Yteclcmiopobnaaa
open Go.Ev
noncomputable section
def bs_l01Strands_7 (call : Oracle) (x0 x1 x2 : List Int) (x3 : Int) : Option (List TV) :=
  bif decide (x3 < ((List.length x0 : Nat) : Int)) then
    bif (decide (0 ≤ x3) && decide (x3 < ((List.length x0 : Nat) : Int))) then
      bif (decide (0 ≤ x3) && decide (x3 < ((List.length x0 : Nat) : Int))) then
        bif (decide (0 ≤ (mx (List.getD x0 (Int.toNat x3) 0) (wi64 (0 - (List.getD x0 (Int.toNat x3) 0))))) && decide ((mx (List.getD x0 (Int.toNat x3) 0) (wi64 (0 - (List.getD x0 (Int.toNat x3) 0)))) < 8)) then
          bif (decide (0 ≤ (wi64 ((mx (List.getD x0 (Int.toNat x3) 0) (wi64 (0 - (List.getD x0 (Int.toNat x3) 0)))) - 1))) && decide ((wi64 ((mx (List.getD x0 (Int.toNat x3) 0) (wi64 (0 - (List.getD x0 (Int.toNat x3) 0)))) - 1)) < 8)) then
            bif (decide (0 ≤ (mx (List.getD x0 (Int.toNat x3) 0) (wi64 (0 - (List.getD x0 (Int.toNat x3) 0))))) && decide ((mx (List.getD x0 (Int.toNat x3) 0) (wi64 (0 - (List.getD x0 (Int.toNat x3) 0)))) < 8)) then
              bif (decide (0 ≤ (wi64 ((mx (List.getD x0 (Int.toNat x3) 0) (wi64 (0 - (List.getD x0 (Int.toNat x3) 0)))) - 1))) && decide ((wi64 ((mx (List.getD x0 (Int.toNat x3) 0) (wi64 (0 - (List.getD x0 (Int.toNat x3) 0)))) - 1)) < 8)) then
                call is_l01Strands_7 [tLI x0, tA8 x1, tA8 (List.set (List.set x2 (Int.toNat (mx (List.getD x0 (Int.toNat x3) 0) (wi64 (0 - (List.getD x0 (Int.toNat x3) 0))))) (List.getD x2 (Int.toNat (wi64 ((mx (List.getD x0 (Int.toNat x3) 0) (wi64 (0 - (List.getD x0 (Int.toNat x3) 0)))) - 1))) 0)) (Int.toNat (wi64 ((mx (List.getD x0 (Int.toNat x3) 0) (wi64 (0 - (List.getD x0 (Int.toNat x3) 0)))) - 1))) (List.getD x2 (Int.toNat (mx (List.getD x0 (Int.toNat x3) 0) (wi64 (0 - (List.getD x0 (Int.toNat x3) 0))))) 0)), tI (wi64 (x3 + 1))]
              else none
            else none
          else none
        else none
      else none
    else none
  else
    some [tI 0, tA8 x1, tA8 x2]
theorem es_l01Strands_7 (call : Oracle) (x0 x1 x2 : List Int) (x3 : Int) : run1 E call is_l01Strands_7 [tLI x0, tA8 x1, tA8 x2, tI x3] = bs_l01Strands_7 call x0 x1 x2 x3 := by kernel_rfl
theorem vs_l01Strands_7 (x0 x1 x2 : List Int) (x3 : Int) {o : List TV} (h : bs_l01Strands_7 R x0 x1 x2 x3 = some o) : R is_l01Strands_7 [tLI x0, tA8 x1, tA8 x2, tI x3] = some o := ev_step ((es_l01Strands_7 R x0 x1 x2 x3).trans h)
def bs_l01Strands (call : Oracle) (a0 : Int) (a1 : List Int) : Option (List TV) :=
  (call is_l01Strands_3 [tLI a1, tA8 (List.replicate 8 0), tA8 (List.replicate 8 0), tI a0, tI 0]).bind fun o1 =>
  (call is_l01Strands_7 [tLI (gLI o1 1), tA8 (gA8 o1 2), tA8 (gA8 o1 3), tI 0]).bind fun o2 =>
  some [tA8 (gA8 o2 2)]
theorem es_l01Strands (call : Oracle) (a0 : Int) (a1 : List Int) : run1 E call is_l01Strands [tI a0, tLI a1] = bs_l01Strands call a0 a1 := by kernel_rfl
theorem vs_l01Strands (a0 : Int) (a1 : List Int) {o : List TV} (h : bs_l01Strands R a0 a1 = some o) : R is_l01Strands [tI a0, tLI a1] = some o := ev_step ((es_l01Strands R a0 a1).trans h)
def bs_l01Perm_3 (call : Oracle) (x0 x1 x2 : List Int) (x3 x4 : Int) : Option (List TV) :=
  bif decide (x4 < x3) then
    bif (decide (0 ≤ x4) && decide (x4 < 8)) then
      bif (decide (0 ≤ (List.getD x1 (Int.toNat x4) 0)) && decide ((List.getD x1 (Int.toNat x4) 0) < 8)) then
        call is_l01Perm_3 [tA8 x0, tA8 x1, tA8 (List.set x2 (Int.toNat (List.getD x1 (Int.toNat x4) 0)) (wu8 (x4))), tI x3, tI (wi64 (x4 + 1))]
      else none
    else none
  else
    some [tI 0, tA8 x0, tA8 x2]
theorem es_l01Perm_3 (call : Oracle) (x0 x1 x2 : List Int) (x3 x4 : Int) : run1 E call is_l01Perm_3 [tA8 x0, tA8 x1, tA8 x2, tI x3, tI x4] = bs_l01Perm_3 call x0 x1 x2 x3 x4 := by kernel_rfl
theorem vs_l01Perm_3 (x0 x1 x2 : List Int) (x3 x4 : Int) {o : List TV} (h : bs_l01Perm_3 R x0 x1 x2 x3 x4 = some o) : R is_l01Perm_3 [tA8 x0, tA8 x1, tA8 x2, tI x3, tI x4] = some o := ev_step ((es_l01Perm_3 R x0 x1 x2 x3 x4).trans h)
def bs_l01Perm (call : Oracle) (a0 : Int) (a1 : List Int) : Option (List TV) :=
  (call is_l01Strands [tI a0, tLI a1]).bind fun o1 =>
  (call is_l01Perm_3 [tA8 (List.replicate 8 0), tA8 (gA8 o1 0), tA8 (List.replicate 8 0), tI a0, tI 0]).bind fun o2 =>
  some [tA8 (gA8 o2 2)]
theorem es_l01Perm (call : Oracle) (a0 : Int) (a1 : List Int) : run1 E call is_l01Perm [tI a0, tLI a1] = bs_l01Perm call a0 a1 := by kernel_rfl
theorem vs_l01Perm (a0 : Int) (a1 : List Int) {o : List TV} (h : bs_l01Perm R a0 a1 = some o) : R is_l01Perm [tI a0, tLI a1] = some o := ev_step ((es_l01Perm R a0 a1).trans h)
def bs_l07Fine (call : Oracle) (a0 : Int) : Option (List TV) :=
  (call is_l01Perm [tI a0, tLI []]).bind fun o1 =>
  some [tA8 (gA8 o1 0)]
theorem es_l07Fine (call : Oracle) (a0 : Int) : run1 E call is_l07Fine [tI a0] = bs_l07Fine call a0 := by kernel_rfl
theorem vs_l07Fine (a0 : Int) {o : List TV} (h : bs_l07Fine R a0 = some o) : R is_l07Fine [tI a0] = some o := ev_step ((es_l07Fine R a0).trans h)
def bs_l07Turn_3 (call : Oracle) (x0 x1 x2 : List Int) (x3 x4 x5 : Int) : Option (List TV) :=
  bif decide (x5 < x3) then
    bif (x3 != 0) then
      bif (x3 != 0) then
        bif (decide (0 ≤ x5) && decide (x5 < 8)) then
          bif (x3 != 0) then
            bif (x3 != 0) then
              bif (decide (0 ≤ (Int.tmod (wi64 ((Int.tmod (wi64 (x5 + x4)) x3) + x3)) x3)) && decide ((Int.tmod (wi64 ((Int.tmod (wi64 (x5 + x4)) x3) + x3)) x3) < 8)) then
                call is_l07Turn_3 [tA8 x0, tA8 x1, tA8 (List.set x2 (Int.toNat (Int.tmod (wi64 ((Int.tmod (wi64 (x5 + x4)) x3) + x3)) x3)) (wu8 ((Int.tmod (wi64 ((Int.tmod (wi64 ((wi64 ((List.getD x0 (Int.toNat x5) 0))) + x4)) x3) + x3)) x3)))), tI x3, tI x4, tI (wi64 (x5 + 1))]
              else none
            else none
          else none
        else none
      else none
    else none
  else
    some [tI 0, tA8 x1, tA8 x2]
theorem es_l07Turn_3 (call : Oracle) (x0 x1 x2 : List Int) (x3 x4 x5 : Int) : run1 E call is_l07Turn_3 [tA8 x0, tA8 x1, tA8 x2, tI x3, tI x4, tI x5] = bs_l07Turn_3 call x0 x1 x2 x3 x4 x5 := by kernel_rfl
theorem vs_l07Turn_3 (x0 x1 x2 : List Int) (x3 x4 x5 : Int) {o : List TV} (h : bs_l07Turn_3 R x0 x1 x2 x3 x4 x5 = some o) : R is_l07Turn_3 [tA8 x0, tA8 x1, tA8 x2, tI x3, tI x4, tI x5] = some o := ev_step ((es_l07Turn_3 R x0 x1 x2 x3 x4 x5).trans h)
def bs_l07Turn (call : Oracle) (a0 : List Int) (a1 a2 : Int) : Option (List TV) :=
  (call is_l07Turn_3 [tA8 a0, tA8 (List.replicate 8 0), tA8 (List.replicate 8 0), tI a1, tI a2, tI 0]).bind fun o1 =>
  some [tA8 (gA8 o1 2)]
theorem es_l07Turn (call : Oracle) (a0 : List Int) (a1 a2 : Int) : run1 E call is_l07Turn [tA8 a0, tI a1, tI a2] = bs_l07Turn call a0 a1 a2 := by kernel_rfl
theorem vs_l07Turn (a0 : List Int) (a1 a2 : Int) {o : List TV} (h : bs_l07Turn R a0 a1 a2 = some o) : R is_l07Turn [tA8 a0, tI a1, tI a2] = some o := ev_step ((es_l07Turn R a0 a1 a2).trans h)
def bs_l07Whole_3 (call : Oracle) (x0 x1 : List Int) (x2 x3 : Int) : Option (List TV) :=
  bif decide (x3 < x2) then
    bif (x2 != 0) then
      bif (decide (0 ≤ x3) && decide (x3 < 8)) then
        call is_l07Whole_3 [tA8 x0, tA8 (List.set x1 (Int.toNat x3) (wu8 ((Int.tmod (wi64 (x3 + 1)) x2)))), tI x2, tI (wi64 (x3 + 1))]
      else none
    else none
  else
    some [tI 0, tA8 x0, tA8 x1]
theorem es_l07Whole_3 (call : Oracle) (x0 x1 : List Int) (x2 x3 : Int) : run1 E call is_l07Whole_3 [tA8 x0, tA8 x1, tI x2, tI x3] = bs_l07Whole_3 call x0 x1 x2 x3 := by kernel_rfl
theorem vs_l07Whole_3 (x0 x1 : List Int) (x2 x3 : Int) {o : List TV} (h : bs_l07Whole_3 R x0 x1 x2 x3 = some o) : R is_l07Whole_3 [tA8 x0, tA8 x1, tI x2, tI x3] = some o := ev_step ((es_l07Whole_3 R x0 x1 x2 x3).trans h)
def bs_l07Whole (call : Oracle) (a0 : Int) : Option (List TV) :=
  (call is_l07Whole_3 [tA8 (List.replicate 8 0), tA8 (List.replicate 8 0), tI a0, tI 0]).bind fun o1 =>
  some [tA8 (gA8 o1 2)]
theorem es_l07Whole (call : Oracle) (a0 : Int) : run1 E call is_l07Whole [tI a0] = bs_l07Whole call a0 := by kernel_rfl
theorem vs_l07Whole (a0 : Int) {o : List TV} (h : bs_l07Whole R a0 = some o) : R is_l07Whole [tI a0] = some o := ev_step ((es_l07Whole R a0).trans h)
def bs_l07Back_3 (call : Oracle) (x0 x1 x2 : List Int) (x3 x4 : Int) : Option (List TV) :=
  bif decide (x4 < x3) then
    bif (decide (0 ≤ x4) && decide (x4 < 8)) then
      bif (decide (0 ≤ (List.getD x0 (Int.toNat x4) 0)) && decide ((List.getD x0 (Int.toNat x4) 0) < 8)) then
        call is_l07Back_3 [tA8 x0, tA8 x1, tA8 (List.set x2 (Int.toNat (List.getD x0 (Int.toNat x4) 0)) (wu8 (x4))), tI x3, tI (wi64 (x4 + 1))]
      else none
    else none
  else
    some [tI 0, tA8 x1, tA8 x2]
theorem es_l07Back_3 (call : Oracle) (x0 x1 x2 : List Int) (x3 x4 : Int) : run1 E call is_l07Back_3 [tA8 x0, tA8 x1, tA8 x2, tI x3, tI x4] = bs_l07Back_3 call x0 x1 x2 x3 x4 := by kernel_rfl
theorem vs_l07Back_3 (x0 x1 x2 : List Int) (x3 x4 : Int) {o : List TV} (h : bs_l07Back_3 R x0 x1 x2 x3 x4 = some o) : R is_l07Back_3 [tA8 x0, tA8 x1, tA8 x2, tI x3, tI x4] = some o := ev_step ((es_l07Back_3 R x0 x1 x2 x3 x4).trans h)
def bs_l07Back (call : Oracle) (a0 : List Int) (a1 : Int) : Option (List TV) :=
  (call is_l07Back_3 [tA8 a0, tA8 (List.replicate 8 0), tA8 (List.replicate 8 0), tI a1, tI 0]).bind fun o1 =>
  some [tA8 (gA8 o1 2)]
theorem es_l07Back (call : Oracle) (a0 : List Int) (a1 : Int) : run1 E call is_l07Back [tA8 a0, tI a1] = bs_l07Back call a0 a1 := by kernel_rfl
theorem vs_l07Back (a0 : List Int) (a1 : Int) {o : List TV} (h : bs_l07Back R a0 a1 = some o) : R is_l07Back [tA8 a0, tI a1] = some o := ev_step ((es_l07Back R a0 a1).trans h)
def bs_l07Then_3 (call : Oracle) (x0 x1 : List Int) (x2 x3 : List Int) (x4 x5 : Int) : Option (List TV) :=
  bif decide (x5 < x4) then
    bif (decide (0 ≤ x5) && decide (x5 < 8)) then
      bif (decide (0 ≤ (List.getD x0 (Int.toNat x5) 0)) && decide ((List.getD x0 (Int.toNat x5) 0) < 8)) then
        bif (decide (0 ≤ x5) && decide (x5 < 8)) then
          call is_l07Then_3 [tA8 x0, tA8 x1, tA8 x2, tA8 (List.set x3 (Int.toNat x5) (List.getD x1 (Int.toNat (List.getD x0 (Int.toNat x5) 0)) 0)), tI x4, tI (wi64 (x5 + 1))]
        else none
      else none
    else none
  else
    some [tI 0, tA8 x2, tA8 x3]
theorem es_l07Then_3 (call : Oracle) (x0 x1 : List Int) (x2 x3 : List Int) (x4 x5 : Int) : run1 E call is_l07Then_3 [tA8 x0, tA8 x1, tA8 x2, tA8 x3, tI x4, tI x5] = bs_l07Then_3 call x0 x1 x2 x3 x4 x5 := by kernel_rfl
theorem vs_l07Then_3 (x0 x1 : List Int) (x2 x3 : List Int) (x4 x5 : Int) {o : List TV} (h : bs_l07Then_3 R x0 x1 x2 x3 x4 x5 = some o) : R is_l07Then_3 [tA8 x0, tA8 x1, tA8 x2, tA8 x3, tI x4, tI x5] = some o := ev_step ((es_l07Then_3 R x0 x1 x2 x3 x4 x5).trans h)
def bs_l07Then (call : Oracle) (a0 a1 : List Int) (a2 : Int) : Option (List TV) :=
  (call is_l07Then_3 [tA8 a0, tA8 a1, tA8 (List.replicate 8 0), tA8 (List.replicate 8 0), tI a2, tI 0]).bind fun o1 =>
  some [tA8 (gA8 o1 2)]
theorem es_l07Then (call : Oracle) (a0 a1 : List Int) (a2 : Int) : run1 E call is_l07Then [tA8 a0, tA8 a1, tI a2] = bs_l07Then call a0 a1 a2 := by kernel_rfl
theorem vs_l07Then (a0 a1 : List Int) (a2 : Int) {o : List TV} (h : bs_l07Then R a0 a1 a2 = some o) : R is_l07Then [tA8 a0, tA8 a1, tI a2] = some o := ev_step ((es_l07Then R a0 a1 a2).trans h)
def bs_l07Complement (call : Oracle) (a0 : List Int) (a1 : Int) : Option (List TV) :=
  (call is_l07Back [tA8 a0, tI a1]).bind fun o1 =>
  (call is_l07Whole [tI a1]).bind fun o2 =>
  (call is_l07Then [tA8 (gA8 o1 0), tA8 (gA8 o2 0), tI a1]).bind fun o3 =>
  some [tA8 (gA8 o3 0)]
theorem es_l07Complement (call : Oracle) (a0 : List Int) (a1 : Int) : run1 E call is_l07Complement [tA8 a0, tI a1] = bs_l07Complement call a0 a1 := by kernel_rfl
theorem vs_l07Complement (a0 : List Int) (a1 : Int) {o : List TV} (h : bs_l07Complement R a0 a1 = some o) : R is_l07Complement [tA8 a0, tI a1] = some o := ev_step ((es_l07Complement R a0 a1).trans h)
def bs_l07Least_3 (call : Oracle) (x0 x1 x2 : List Int) (x3 : List Bool) (x4 x5 : Int) : Option (List TV) :=
  bif decide (x5 < 8) then
    bif decide (x4 ≤ x5) then
      bif (decide (0 ≤ x5) && decide (x5 < 8)) then
        bif ((List.getD x0 (Int.toNat x5) 0) != 0) then
          some [tI 1, tAi8 x2, tB false]
        else
          bif decide (x5 < x4) then
            bif (decide (0 ≤ x5) && decide (x5 < 8)) then
              bif decide (x4 ≤ (wi64 ((List.getD x0 (Int.toNat x5) 0)))) then
                some [tI 1, tAi8 x2, tB false]
              else
                bif (decide (0 ≤ x5) && decide (x5 < 8)) then
                  bif (decide (0 ≤ (List.getD x0 (Int.toNat x5) 0)) && decide ((List.getD x0 (Int.toNat x5) 0) < 8)) then
                    bif (List.getD x3 (Int.toNat (List.getD x0 (Int.toNat x5) 0)) false) then
                      some [tI 1, tAi8 x2, tB false]
                    else
                      bif decide (x5 < x4) then
                        bif (decide (0 ≤ x5) && decide (x5 < 8)) then
                          bif (decide (0 ≤ (List.getD x0 (Int.toNat x5) 0)) && decide ((List.getD x0 (Int.toNat x5) 0) < 8)) then
                            call is_l07Least_3 [tA8 x0, tAi8 x1, tAi8 x2, tAB8 (List.set x3 (Int.toNat (List.getD x0 (Int.toNat x5) 0)) true), tI x4, tI (wi64 (x5 + 1))]
                          else none
                        else none
                      else
                        call is_l07Least_3 [tA8 x0, tAi8 x1, tAi8 x2, tAB8 x3, tI x4, tI (wi64 (x5 + 1))]
                  else none
                else none
            else none
          else
            bif decide (x5 < x4) then
              bif (decide (0 ≤ x5) && decide (x5 < 8)) then
                bif (decide (0 ≤ (List.getD x0 (Int.toNat x5) 0)) && decide ((List.getD x0 (Int.toNat x5) 0) < 8)) then
                  call is_l07Least_3 [tA8 x0, tAi8 x1, tAi8 x2, tAB8 (List.set x3 (Int.toNat (List.getD x0 (Int.toNat x5) 0)) true), tI x4, tI (wi64 (x5 + 1))]
                else none
              else none
            else
              call is_l07Least_3 [tA8 x0, tAi8 x1, tAi8 x2, tAB8 x3, tI x4, tI (wi64 (x5 + 1))]
      else none
    else
      bif decide (x5 < x4) then
        bif (decide (0 ≤ x5) && decide (x5 < 8)) then
          bif decide (x4 ≤ (wi64 ((List.getD x0 (Int.toNat x5) 0)))) then
            some [tI 1, tAi8 x2, tB false]
          else
            bif (decide (0 ≤ x5) && decide (x5 < 8)) then
              bif (decide (0 ≤ (List.getD x0 (Int.toNat x5) 0)) && decide ((List.getD x0 (Int.toNat x5) 0) < 8)) then
                bif (List.getD x3 (Int.toNat (List.getD x0 (Int.toNat x5) 0)) false) then
                  some [tI 1, tAi8 x2, tB false]
                else
                  bif decide (x5 < x4) then
                    bif (decide (0 ≤ x5) && decide (x5 < 8)) then
                      bif (decide (0 ≤ (List.getD x0 (Int.toNat x5) 0)) && decide ((List.getD x0 (Int.toNat x5) 0) < 8)) then
                        call is_l07Least_3 [tA8 x0, tAi8 x1, tAi8 x2, tAB8 (List.set x3 (Int.toNat (List.getD x0 (Int.toNat x5) 0)) true), tI x4, tI (wi64 (x5 + 1))]
                      else none
                    else none
                  else
                    call is_l07Least_3 [tA8 x0, tAi8 x1, tAi8 x2, tAB8 x3, tI x4, tI (wi64 (x5 + 1))]
              else none
            else none
        else none
      else
        bif decide (x5 < x4) then
          bif (decide (0 ≤ x5) && decide (x5 < 8)) then
            bif (decide (0 ≤ (List.getD x0 (Int.toNat x5) 0)) && decide ((List.getD x0 (Int.toNat x5) 0) < 8)) then
              call is_l07Least_3 [tA8 x0, tAi8 x1, tAi8 x2, tAB8 (List.set x3 (Int.toNat (List.getD x0 (Int.toNat x5) 0)) true), tI x4, tI (wi64 (x5 + 1))]
            else none
          else none
        else
          call is_l07Least_3 [tA8 x0, tAi8 x1, tAi8 x2, tAB8 x3, tI x4, tI (wi64 (x5 + 1))]
  else
    some [tI 0, tA8 x0, tAi8 x1, tAi8 x2, tI x4]
theorem es_l07Least_3 (call : Oracle) (x0 x1 x2 : List Int) (x3 : List Bool) (x4 x5 : Int) : run1 E call is_l07Least_3 [tA8 x0, tAi8 x1, tAi8 x2, tAB8 x3, tI x4, tI x5] = bs_l07Least_3 call x0 x1 x2 x3 x4 x5 := by kernel_rfl
theorem vs_l07Least_3 (x0 x1 x2 : List Int) (x3 : List Bool) (x4 x5 : Int) {o : List TV} (h : bs_l07Least_3 R x0 x1 x2 x3 x4 x5 = some o) : R is_l07Least_3 [tA8 x0, tAi8 x1, tAi8 x2, tAB8 x3, tI x4, tI x5] = some o := ev_step ((es_l07Least_3 R x0 x1 x2 x3 x4 x5).trans h)
def bs_l07Least_11 (call : Oracle) (x0 x1 x2 : List Int) (x3 : List Bool) (x4 x5 : Int) : Option (List TV) :=
  bif decide (x5 < x4) then
    (call is_l07Least_14 [tA8 x0, tAi8 x1, tAi8 x2, tAB8 x3, tI x4, tI x5, tI x5]).bind fun o3 =>
    call is_l07Least_11 [tA8 (gA8 o3 1), tAi8 (gAi8 o3 2), tAi8 (gAi8 o3 3), tAB8 (gAB8 o3 4), tI (gI o3 5), tI (wi64 ((gI o3 6) + 1))]
  else
    some [tI 0, tAi8 x1, tAi8 x2]
theorem es_l07Least_11 (call : Oracle) (x0 x1 x2 : List Int) (x3 : List Bool) (x4 x5 : Int) : run1 E call is_l07Least_11 [tA8 x0, tAi8 x1, tAi8 x2, tAB8 x3, tI x4, tI x5] = bs_l07Least_11 call x0 x1 x2 x3 x4 x5 := by kernel_rfl
theorem vs_l07Least_11 (x0 x1 x2 : List Int) (x3 : List Bool) (x4 x5 : Int) {o : List TV} (h : bs_l07Least_11 R x0 x1 x2 x3 x4 x5 = some o) : R is_l07Least_11 [tA8 x0, tAi8 x1, tAi8 x2, tAB8 x3, tI x4, tI x5] = some o := ev_step ((es_l07Least_11 R x0 x1 x2 x3 x4 x5).trans h)
def bs_l07Least_14 (call : Oracle) (x0 x1 x2 : List Int) (x3 : List Bool) (x4 x5 x6 : Int) : Option (List TV) :=
  bif (decide (0 ≤ x6) && decide (x6 < 8)) then
    bif (!(List.getD x3 (Int.toNat x6) false)) then
      bif (decide (0 ≤ x6) && decide (x6 < 8)) then
        bif (decide (0 ≤ x6) && decide (x6 < 8)) then
          bif (decide (0 ≤ x6) && decide (x6 < 8)) then
            call is_l07Least_14 [tA8 x0, tAi8 x1, tAi8 (List.set x2 (Int.toNat x6) x5), tAB8 (List.set x3 (Int.toNat x6) true), tI x4, tI x5, tI (wi64 ((List.getD x0 (Int.toNat x6) 0)))]
          else none
        else none
      else none
    else
      some [tI 0, tA8 x0, tAi8 x1, tAi8 x2, tAB8 x3, tI x4, tI x5]
  else none
theorem es_l07Least_14 (call : Oracle) (x0 x1 x2 : List Int) (x3 : List Bool) (x4 x5 x6 : Int) : run1 E call is_l07Least_14 [tA8 x0, tAi8 x1, tAi8 x2, tAB8 x3, tI x4, tI x5, tI x6] = bs_l07Least_14 call x0 x1 x2 x3 x4 x5 x6 := by kernel_rfl
theorem vs_l07Least_14 (x0 x1 x2 : List Int) (x3 : List Bool) (x4 x5 x6 : Int) {o : List TV} (h : bs_l07Least_14 R x0 x1 x2 x3 x4 x5 x6 = some o) : R is_l07Least_14 [tA8 x0, tAi8 x1, tAi8 x2, tAB8 x3, tI x4, tI x5, tI x6] = some o := ev_step ((es_l07Least_14 R x0 x1 x2 x3 x4 x5 x6).trans h)
def bs_l07Least (call : Oracle) (a0 : List Int) (a1 : Int) : Option (List TV) :=
  (call is_l07Least_3 [tA8 a0, tAi8 (List.replicate 8 0), tAi8 (List.replicate 8 0), tAB8 (List.replicate 8 false), tI a1, tI 0]).bind fun o1 =>
  bif ((gI o1 0) == 0) then
    (call is_l07Least_11 [tA8 (gA8 o1 1), tAi8 (gAi8 o1 2), tAi8 (gAi8 o1 3), tAB8 (List.replicate 8 false), tI (gI o1 4), tI 0]).bind fun o4 =>
    some [tAi8 (gAi8 o4 2), tB true]
  else
    some [tAi8 (gAi8 o1 1), tB (gB o1 2)]
theorem es_l07Least (call : Oracle) (a0 : List Int) (a1 : Int) : run1 E call is_l07Least [tA8 a0, tI a1] = bs_l07Least call a0 a1 := by kernel_rfl
theorem vs_l07Least (a0 : List Int) (a1 : Int) {o : List TV} (h : bs_l07Least R a0 a1 = some o) : R is_l07Least [tA8 a0, tI a1] = some o := ev_step ((es_l07Least R a0 a1).trans h)
def bs_l07Made_3 (call : Oracle) (x0 x1 x2 : List Int) (x3 x4 : Int) : Option (List TV) :=
  bif decide (x4 < x3) then
    bif (decide (0 ≤ x4) && decide (x4 < 8)) then
      bif (decide (0 ≤ x4) && decide (x4 < 8)) then
        (call is_l07Made_7 [tAi8 x0, tA8 x1, tA8 (List.set x2 (Int.toNat x4) (wu8 ((List.getD x0 (Int.toNat x4) 0)))), tI x3, tI x4, tI (wi64 (x3 - 1))]).bind fun o2 =>
        call is_l07Made_3 [tAi8 (gAi8 o2 1), tA8 (gA8 o2 2), tA8 (gA8 o2 3), tI (gI o2 4), tI (wi64 ((gI o2 5) + 1))]
      else none
    else none
  else
    some [tI 0, tA8 x1, tA8 x2]
theorem es_l07Made_3 (call : Oracle) (x0 x1 x2 : List Int) (x3 x4 : Int) : run1 E call is_l07Made_3 [tAi8 x0, tA8 x1, tA8 x2, tI x3, tI x4] = bs_l07Made_3 call x0 x1 x2 x3 x4 := by kernel_rfl
theorem vs_l07Made_3 (x0 x1 x2 : List Int) (x3 x4 : Int) {o : List TV} (h : bs_l07Made_3 R x0 x1 x2 x3 x4 = some o) : R is_l07Made_3 [tAi8 x0, tA8 x1, tA8 x2, tI x3, tI x4] = some o := ev_step ((es_l07Made_3 R x0 x1 x2 x3 x4).trans h)
def bs_l07Made_7 (call : Oracle) (x0 x1 x2 : List Int) (x3 x4 x5 : Int) : Option (List TV) :=
  bif decide (x4 < x5) then
    bif (decide (0 ≤ x5) && decide (x5 < 8)) then
      bif (decide (0 ≤ x4) && decide (x4 < 8)) then
        bif ((List.getD x0 (Int.toNat x5) 0) == (List.getD x0 (Int.toNat x4) 0)) then
          bif (decide (0 ≤ x4) && decide (x4 < 8)) then
            call is_l07Made_7 [tAi8 x0, tA8 x1, tA8 (List.set x2 (Int.toNat x4) (wu8 (x5))), tI x3, tI x4, tI (wi64 (x5 - 1))]
          else none
        else
          call is_l07Made_7 [tAi8 x0, tA8 x1, tA8 x2, tI x3, tI x4, tI (wi64 (x5 - 1))]
      else none
    else none
  else
    some [tI 0, tAi8 x0, tA8 x1, tA8 x2, tI x3, tI x4]
theorem es_l07Made_7 (call : Oracle) (x0 x1 x2 : List Int) (x3 x4 x5 : Int) : run1 E call is_l07Made_7 [tAi8 x0, tA8 x1, tA8 x2, tI x3, tI x4, tI x5] = bs_l07Made_7 call x0 x1 x2 x3 x4 x5 := by kernel_rfl
theorem vs_l07Made_7 (x0 x1 x2 : List Int) (x3 x4 x5 : Int) {o : List TV} (h : bs_l07Made_7 R x0 x1 x2 x3 x4 x5 = some o) : R is_l07Made_7 [tAi8 x0, tA8 x1, tA8 x2, tI x3, tI x4, tI x5] = some o := ev_step ((es_l07Made_7 R x0 x1 x2 x3 x4 x5).trans h)
def bs_l07Made (call : Oracle) (a0 : List Int) (a1 : Int) : Option (List TV) :=
  (call is_l07Made_3 [tAi8 a0, tA8 (List.replicate 8 0), tA8 (List.replicate 8 0), tI a1, tI 0]).bind fun o3 =>
  some [tA8 (gA8 o3 2)]
theorem es_l07Made (call : Oracle) (a0 : List Int) (a1 : Int) : run1 E call is_l07Made [tAi8 a0, tI a1] = bs_l07Made call a0 a1 := by kernel_rfl
theorem vs_l07Made (a0 : List Int) (a1 : Int) {o : List TV} (h : bs_l07Made R a0 a1 = some o) : R is_l07Made [tAi8 a0, tI a1] = some o := ev_step ((es_l07Made R a0 a1).trans h)
def bs_l07Meet_5 (call : Oracle) (x0 x1 : List Int) (x2 x3 : List Int) (x4 x5 : Int) : Option (List TV) :=
  bif decide (0 ≤ x5) then
    (call is_l07Meet_8 [tA8 x0, tAi8 x1, tAi8 x2, tAi8 x3, tI x4, tI x5, tI 7]).bind fun o4 =>
    call is_l07Meet_5 [tA8 (gA8 o4 1), tAi8 (gAi8 o4 2), tAi8 (gAi8 o4 3), tAi8 (gAi8 o4 4), tI (gI o4 5), tI (wi64 ((gI o4 6) - 1))]
  else
    some [tI 0, tA8 x0, tAi8 x3, tI x4]
theorem es_l07Meet_5 (call : Oracle) (x0 x1 : List Int) (x2 x3 : List Int) (x4 x5 : Int) : run1 E call is_l07Meet_5 [tA8 x0, tAi8 x1, tAi8 x2, tAi8 x3, tI x4, tI x5] = bs_l07Meet_5 call x0 x1 x2 x3 x4 x5 := by kernel_rfl
theorem vs_l07Meet_5 (x0 x1 : List Int) (x2 x3 : List Int) (x4 x5 : Int) {o : List TV} (h : bs_l07Meet_5 R x0 x1 x2 x3 x4 x5 = some o) : R is_l07Meet_5 [tA8 x0, tAi8 x1, tAi8 x2, tAi8 x3, tI x4, tI x5] = some o := ev_step ((es_l07Meet_5 R x0 x1 x2 x3 x4 x5).trans h)
def bs_l07Meet_8 (call : Oracle) (x0 x1 : List Int) (x2 x3 : List Int) (x4 x5 x6 : Int) : Option (List TV) :=
  bif decide (0 ≤ x6) then
    bif decide (x6 < x4) then
      bif (decide (0 ≤ x6) && decide (x6 < 8)) then
        bif (decide (0 ≤ x5) && decide (x5 < 8)) then
          bif ((List.getD x1 (Int.toNat x6) 0) == (List.getD x1 (Int.toNat x5) 0)) then
            bif (decide (0 ≤ x6) && decide (x6 < 8)) then
              bif (decide (0 ≤ x5) && decide (x5 < 8)) then
                bif ((List.getD x2 (Int.toNat x6) 0) == (List.getD x2 (Int.toNat x5) 0)) then
                  bif (decide (0 ≤ x5) && decide (x5 < 8)) then
                    call is_l07Meet_8 [tA8 x0, tAi8 x1, tAi8 x2, tAi8 (List.set x3 (Int.toNat x5) x6), tI x4, tI x5, tI (wi64 (x6 - 1))]
                  else none
                else
                  call is_l07Meet_8 [tA8 x0, tAi8 x1, tAi8 x2, tAi8 x3, tI x4, tI x5, tI (wi64 (x6 - 1))]
              else none
            else none
          else
            call is_l07Meet_8 [tA8 x0, tAi8 x1, tAi8 x2, tAi8 x3, tI x4, tI x5, tI (wi64 (x6 - 1))]
        else none
      else none
    else
      call is_l07Meet_8 [tA8 x0, tAi8 x1, tAi8 x2, tAi8 x3, tI x4, tI x5, tI (wi64 (x6 - 1))]
  else
    some [tI 0, tA8 x0, tAi8 x1, tAi8 x2, tAi8 x3, tI x4, tI x5]
theorem es_l07Meet_8 (call : Oracle) (x0 x1 : List Int) (x2 x3 : List Int) (x4 x5 x6 : Int) : run1 E call is_l07Meet_8 [tA8 x0, tAi8 x1, tAi8 x2, tAi8 x3, tI x4, tI x5, tI x6] = bs_l07Meet_8 call x0 x1 x2 x3 x4 x5 x6 := by kernel_rfl
theorem vs_l07Meet_8 (x0 x1 : List Int) (x2 x3 : List Int) (x4 x5 x6 : Int) {o : List TV} (h : bs_l07Meet_8 R x0 x1 x2 x3 x4 x5 x6 = some o) : R is_l07Meet_8 [tA8 x0, tAi8 x1, tAi8 x2, tAi8 x3, tI x4, tI x5, tI x6] = some o := ev_step ((es_l07Meet_8 R x0 x1 x2 x3 x4 x5 x6).trans h)
def bs_l07Meet (call : Oracle) (a0 a1 : List Int) (a2 : Int) : Option (List TV) :=
  (call is_l07Least [tA8 a0, tI a2]).bind fun o1 =>
  (call is_l07Least [tA8 a1, tI a2]).bind fun o2 =>
  (call is_l07Meet_5 [tA8 (List.replicate 8 0), tAi8 (gAi8 o1 0), tAi8 (gAi8 o2 0), tAi8 (List.replicate 8 0), tI a2, tI (wi64 (a2 - 1))]).bind fun o5 =>
  (call is_l07Made [tAi8 (gAi8 o5 2), tI (gI o5 3)]).bind fun o6 =>
  some [tA8 (gA8 o6 0)]
theorem es_l07Meet (call : Oracle) (a0 a1 : List Int) (a2 : Int) : run1 E call is_l07Meet [tA8 a0, tA8 a1, tI a2] = bs_l07Meet call a0 a1 a2 := by kernel_rfl
theorem vs_l07Meet (a0 a1 : List Int) (a2 : Int) {o : List TV} (h : bs_l07Meet R a0 a1 a2 = some o) : R is_l07Meet [tA8 a0, tA8 a1, tI a2] = some o := ev_step ((es_l07Meet R a0 a1 a2).trans h)
def bs_l07Put_4 (call : Oracle) (x0 x1 : Int) (x2 : List (List Int)) (x3 x4 : Int) (x5 x6 : List (List Int)) (x7 x8 : Int) : Option (List TV) :=
  bif decide (0 < x8) then
    bif (decide (0 ≤ (wi64 (x8 - 1))) && decide ((wi64 (x8 - 1)) < ((List.length x6 : Nat) : Int))) then
      (call is_l07Complement [tA8 (List.getD x6 (Int.toNat (wi64 (x8 - 1))) (List.replicate 8 0)), tI x7]).bind fun o6 =>
      bif (decide (0 ≤ x8) && decide (x8 < ((List.length x6 : Nat) : Int))) then
        (call is_l07Meet [tA8 (gA8 o6 0), tA8 (List.getD x6 (Int.toNat x8) (List.replicate 8 0)), tI x7]).bind fun o7 =>
        bif (decide (0 ≤ (wi64 (x8 - 1))) && decide ((wi64 (x8 - 1)) < ((List.length x6 : Nat) : Int))) then
          (call is_l07Then [tA8 (List.getD x6 (Int.toNat (wi64 (x8 - 1))) (List.replicate 8 0)), tA8 (gA8 o7 0), tI x7]).bind fun o8 =>
          bif (decide (0 ≤ (wi64 (x8 - 1))) && decide ((wi64 (x8 - 1)) < ((List.length x6 : Nat) : Int))) then
            (call is_l07Back [tA8 (gA8 o7 0), tI x7]).bind fun o9 =>
            bif (decide (0 ≤ x8) && decide (x8 < ((List.length (List.set x6 (Int.toNat (wi64 (x8 - 1))) (gA8 o8 0)) : Nat) : Int))) then
              (call is_l07Then [tA8 (gA8 o9 0), tA8 (List.getD (List.set x6 (Int.toNat (wi64 (x8 - 1))) (gA8 o8 0)) (Int.toNat x8) (List.replicate 8 0)), tI x7]).bind fun o10 =>
              bif (decide (0 ≤ x8) && decide (x8 < ((List.length (List.set x6 (Int.toNat (wi64 (x8 - 1))) (gA8 o8 0)) : Nat) : Int))) then
                call is_l07Put_4 [tI x0, tI x1, tLA8 x2, tI x3, tI x4, tLA8 x5, tLA8 (List.set (List.set x6 (Int.toNat (wi64 (x8 - 1))) (gA8 o8 0)) (Int.toNat x8) (gA8 o10 0)), tI x7, tI (wi64 (x8 - 1))]
              else none
            else none
          else none
        else none
      else none
    else none
  else
    some [tI 0, tI x0, tI x1, tLA8 x2, tI x3, tI x4, tLA8 x5, tLA8 x6, tI x7]
theorem es_l07Put_4 (call : Oracle) (x0 x1 : Int) (x2 : List (List Int)) (x3 x4 : Int) (x5 x6 : List (List Int)) (x7 x8 : Int) : run1 E call is_l07Put_4 [tI x0, tI x1, tLA8 x2, tI x3, tI x4, tLA8 x5, tLA8 x6, tI x7, tI x8] = bs_l07Put_4 call x0 x1 x2 x3 x4 x5 x6 x7 x8 := by kernel_rfl
theorem vs_l07Put_4 (x0 x1 : Int) (x2 : List (List Int)) (x3 x4 : Int) (x5 x6 : List (List Int)) (x7 x8 : Int) {o : List TV} (h : bs_l07Put_4 R x0 x1 x2 x3 x4 x5 x6 x7 x8 = some o) : R is_l07Put_4 [tI x0, tI x1, tLA8 x2, tI x3, tI x4, tLA8 x5, tLA8 x6, tI x7, tI x8] = some o := ev_step ((es_l07Put_4 R x0 x1 x2 x3 x4 x5 x6 x7 x8).trans h)
def bs_l07Put_11 (call : Oracle) (x0 x1 : Int) (x2 x3 : List (List Int)) (x4 x5 : Int) (x6 : List (List Int)) (x7 x8 : Int) : Option (List TV) :=
  bif decide (x8 < ((List.length x3 : Nat) : Int)) then
    bif (decide (0 ≤ x8) && decide (x8 < ((List.length x3 : Nat) : Int))) then
      (call is_l07Fine [tI x7]).bind fun o14 =>
      bif ((List.getD x3 (Int.toNat x8) (List.replicate 8 0)) == (gA8 o14 0)) then
        call is_l07Put_11 [tI x0, tI x1, tLA8 x2, tLA8 x3, tI x4, tI x5, tLA8 x6, tI x7, tI (wi64 (x8 + 1))]
      else
        bif (decide (0 ≤ x8) && decide (x8 < ((List.length x3 : Nat) : Int))) then
          (call is_l07Whole [tI x7]).bind fun o15 =>
          bif ((List.getD x3 (Int.toNat x8) (List.replicate 8 0)) == (gA8 o15 0)) then
            call is_l07Put_11 [tI x0, tI x1, tLA8 x2, tLA8 x3, tI x4, tI (wi64 (x5 + 1)), tLA8 x6, tI x7, tI (wi64 (x8 + 1))]
          else
            bif (decide (0 ≤ x8) && decide (x8 < ((List.length x3 : Nat) : Int))) then
              bif (apOk x6 [(List.getD x3 (Int.toNat x8) (List.replicate 8 0))]) then
                call is_l07Put_11 [tI x0, tI x1, tLA8 x2, tLA8 x3, tI x4, tI x5, tLA8 (x6 ++ [(List.getD x3 (Int.toNat x8) (List.replicate 8 0))]), tI x7, tI (wi64 (x8 + 1))]
              else none
            else none
        else none
    else none
  else
    some [tI 0, tI x0, tI x1, tLA8 x2, tI x4, tI x5, tLA8 x6]
theorem es_l07Put_11 (call : Oracle) (x0 x1 : Int) (x2 x3 : List (List Int)) (x4 x5 : Int) (x6 : List (List Int)) (x7 x8 : Int) : run1 E call is_l07Put_11 [tI x0, tI x1, tLA8 x2, tLA8 x3, tI x4, tI x5, tLA8 x6, tI x7, tI x8] = bs_l07Put_11 call x0 x1 x2 x3 x4 x5 x6 x7 x8 := by kernel_rfl
theorem vs_l07Put_11 (x0 x1 : Int) (x2 x3 : List (List Int)) (x4 x5 : Int) (x6 : List (List Int)) (x7 x8 : Int) {o : List TV} (h : bs_l07Put_11 R x0 x1 x2 x3 x4 x5 x6 x7 x8 = some o) : R is_l07Put_11 [tI x0, tI x1, tLA8 x2, tLA8 x3, tI x4, tI x5, tLA8 x6, tI x7, tI x8] = some o := ev_step ((es_l07Put_11 R x0 x1 x2 x3 x4 x5 x6 x7 x8).trans h)
def bs_l07Put (call : Oracle) (a0 : Int × Int × List (List Int)) (a1 : List Int) : Option (List TV) :=
  bif (apOk [] a0.2.2) then
    bif (apOk a0.2.2 [a1]) then
      (call is_l07Put_4 [tI a0.1, tI a0.2.1, tLA8 a0.2.2, tI 0, tI 0, tLA8 [], tLA8 (a0.2.2 ++ [a1]), tI a0.1, tI (wi64 (((List.length (a0.2.2 ++ [a1]) : Nat) : Int) - 1))]).bind fun o11 =>
      (call is_l07Put_11 [tI (gI o11 4), tI (gI o11 5), tLA8 (gLA8 o11 6), tLA8 (gLA8 o11 7), tI (gI o11 8), tI (gI o11 2), tLA8 [], tI (gI o11 8), tI 0]).bind fun o16 =>
      some [tPIPILA8 ((gI o16 4), ((gI o16 5), (gLA8 o16 6)))]
    else none
  else none
theorem es_l07Put (call : Oracle) (a0 : Int × Int × List (List Int)) (a1 : List Int) : run1 E call is_l07Put [tPIPILA8 a0, tA8 a1] = bs_l07Put call a0 a1 := by kernel_rfl
theorem vs_l07Put (a0 : Int × Int × List (List Int)) (a1 : List Int) {o : List TV} (h : bs_l07Put R a0 a1 = some o) : R is_l07Put [tPIPILA8 a0, tA8 a1] = some o := ev_step ((es_l07Put R a0 a1).trans h)
def bs_l07Form_3 (call : Oracle) (x0 : List Int) (x1 x2 : Int) (x3 : List (List Int)) (x4 x5 : Int) (x6 : List (List Int)) (x7 x8 : Int) : Option (List TV) :=
  bif decide (x8 < ((List.length x0 : Nat) : Int)) then
    bif (decide (0 ≤ x8) && decide (x8 < ((List.length x0 : Nat) : Int))) then
      bif (decide (0 ≤ x8) && decide (x8 < ((List.length x0 : Nat) : Int))) then
        (call is_l07Fine [tI x7]).bind fun o10 =>
        bif (decide (0 ≤ (wi64 ((mx (List.getD x0 (Int.toNat x8) 0) (wi64 (0 - (List.getD x0 (Int.toNat x8) 0)))) - 1))) && decide ((wi64 ((mx (List.getD x0 (Int.toNat x8) 0) (wi64 (0 - (List.getD x0 (Int.toNat x8) 0)))) - 1)) < 8)) then
          bif (decide (0 ≤ (mx (List.getD x0 (Int.toNat x8) 0) (wi64 (0 - (List.getD x0 (Int.toNat x8) 0))))) && decide ((mx (List.getD x0 (Int.toNat x8) 0) (wi64 (0 - (List.getD x0 (Int.toNat x8) 0)))) < 8)) then
            bif (decide (0 ≤ x8) && decide (x8 < ((List.length x0 : Nat) : Int))) then
              bif decide ((List.getD x0 (Int.toNat x8) 0) < 0) then
                (call is_l07Form_11 [tLI x0, tI x1, tI x2, tLA8 x3, tI x4, tI x5, tLA8 x6, tA8 (List.set (List.set (gA8 o10 0) (Int.toNat (wi64 ((mx (List.getD x0 (Int.toNat x8) 0) (wi64 (0 - (List.getD x0 (Int.toNat x8) 0)))) - 1))) (wu8 ((mx (List.getD x0 (Int.toNat x8) 0) (wi64 (0 - (List.getD x0 (Int.toNat x8) 0))))))) (Int.toNat (mx (List.getD x0 (Int.toNat x8) 0) (wi64 (0 - (List.getD x0 (Int.toNat x8) 0))))) (wu8 ((wi64 ((mx (List.getD x0 (Int.toNat x8) 0) (wi64 (0 - (List.getD x0 (Int.toNat x8) 0)))) - 1))))), tI x7, tI x8, tI 0]).bind fun o11 =>
                (call is_l07Whole [tI (gI o11 9)]).bind fun o12 =>
                (call is_l07Back [tA8 (gA8 o11 8), tI (gI o11 9)]).bind fun o13 =>
                (call is_l07Then [tA8 (gA8 o12 0), tA8 (gA8 o13 0), tI (gI o11 9)]).bind fun o14 =>
                (call is_l07Put [tPIPILA8 ((gI o11 5), ((wi64 ((gI o11 6) - 1)), (gLA8 o11 7))), tA8 (gA8 o14 0)]).bind fun o15 =>
                call is_l07Form_3 [tLI (gLI o11 1), tI (gI o11 2), tI (gI o11 3), tLA8 (gLA8 o11 4), tI ((gPIPILA8 o15 0).1), tI (((gPIPILA8 o15 0).2).1), tLA8 (((gPIPILA8 o15 0).2).2), tI (gI o11 9), tI (wi64 ((gI o11 10) + 1))]
              else
                (call is_l07Put [tPIPILA8 (x4, (x5, x6)), tA8 (List.set (List.set (gA8 o10 0) (Int.toNat (wi64 ((mx (List.getD x0 (Int.toNat x8) 0) (wi64 (0 - (List.getD x0 (Int.toNat x8) 0)))) - 1))) (wu8 ((mx (List.getD x0 (Int.toNat x8) 0) (wi64 (0 - (List.getD x0 (Int.toNat x8) 0))))))) (Int.toNat (mx (List.getD x0 (Int.toNat x8) 0) (wi64 (0 - (List.getD x0 (Int.toNat x8) 0))))) (wu8 ((wi64 ((mx (List.getD x0 (Int.toNat x8) 0) (wi64 (0 - (List.getD x0 (Int.toNat x8) 0)))) - 1)))))]).bind fun o16 =>
                call is_l07Form_3 [tLI x0, tI x1, tI x2, tLA8 x3, tI ((gPIPILA8 o16 0).1), tI (((gPIPILA8 o16 0).2).1), tLA8 (((gPIPILA8 o16 0).2).2), tI x7, tI (wi64 (x8 + 1))]
            else none
          else none
        else none
      else none
    else none
  else
    some [tI 0, tI x1, tI x2, tLA8 x3, tI x4, tI x5, tLA8 x6]
theorem es_l07Form_3 (call : Oracle) (x0 : List Int) (x1 x2 : Int) (x3 : List (List Int)) (x4 x5 : Int) (x6 : List (List Int)) (x7 x8 : Int) : run1 E call is_l07Form_3 [tLI x0, tI x1, tI x2, tLA8 x3, tI x4, tI x5, tLA8 x6, tI x7, tI x8] = bs_l07Form_3 call x0 x1 x2 x3 x4 x5 x6 x7 x8 := by kernel_rfl
theorem vs_l07Form_3 (x0 : List Int) (x1 x2 : Int) (x3 : List (List Int)) (x4 x5 : Int) (x6 : List (List Int)) (x7 x8 : Int) {o : List TV} (h : bs_l07Form_3 R x0 x1 x2 x3 x4 x5 x6 x7 x8 = some o) : R is_l07Form_3 [tLI x0, tI x1, tI x2, tLA8 x3, tI x4, tI x5, tLA8 x6, tI x7, tI x8] = some o := ev_step ((es_l07Form_3 R x0 x1 x2 x3 x4 x5 x6 x7 x8).trans h)
def bs_l07Form_11 (call : Oracle) (x0 : List Int) (x1 x2 : Int) (x3 : List (List Int)) (x4 x5 : Int) (x6 : List (List Int)) (x7 : List Int) (x8 x9 x10 : Int) : Option (List TV) :=
  bif decide (x10 < ((List.length x6 : Nat) : Int)) then
    bif (decide (0 ≤ x10) && decide (x10 < ((List.length x6 : Nat) : Int))) then
      (call is_l07Turn [tA8 (List.getD x6 (Int.toNat x10) (List.replicate 8 0)), tI x8, tI (-1)]).bind fun o3 =>
      bif (decide (0 ≤ x10) && decide (x10 < ((List.length x6 : Nat) : Int))) then
        call is_l07Form_11 [tLI x0, tI x1, tI x2, tLA8 x3, tI x4, tI x5, tLA8 (List.set x6 (Int.toNat x10) (gA8 o3 0)), tA8 x7, tI x8, tI x9, tI (wi64 (x10 + 1))]
      else none
    else none
  else
    some [tI 0, tLI x0, tI x1, tI x2, tLA8 x3, tI x4, tI x5, tLA8 x6, tA8 x7, tI x8, tI x9]
theorem es_l07Form_11 (call : Oracle) (x0 : List Int) (x1 x2 : Int) (x3 : List (List Int)) (x4 x5 : Int) (x6 : List (List Int)) (x7 : List Int) (x8 x9 x10 : Int) : run1 E call is_l07Form_11 [tLI x0, tI x1, tI x2, tLA8 x3, tI x4, tI x5, tLA8 x6, tA8 x7, tI x8, tI x9, tI x10] = bs_l07Form_11 call x0 x1 x2 x3 x4 x5 x6 x7 x8 x9 x10 := by kernel_rfl
theorem vs_l07Form_11 (x0 : List Int) (x1 x2 : Int) (x3 : List (List Int)) (x4 x5 : Int) (x6 : List (List Int)) (x7 : List Int) (x8 x9 x10 : Int) {o : List TV} (h : bs_l07Form_11 R x0 x1 x2 x3 x4 x5 x6 x7 x8 x9 x10 = some o) : R is_l07Form_11 [tLI x0, tI x1, tI x2, tLA8 x3, tI x4, tI x5, tLA8 x6, tA8 x7, tI x8, tI x9, tI x10] = some o := ev_step ((es_l07Form_11 R x0 x1 x2 x3 x4 x5 x6 x7 x8 x9 x10).trans h)
def bs_l07Form (call : Oracle) (a0 : Int) (a1 : List Int) : Option (List TV) :=
  (call is_l07Form_3 [tLI a1, tI 0, tI 0, tLA8 [], tI a0, tI 0, tLA8 [], tI a0, tI 0]).bind fun o17 =>
  some [tPIPILA8 ((gI o17 4), ((gI o17 5), (gLA8 o17 6)))]
theorem es_l07Form (call : Oracle) (a0 : Int) (a1 : List Int) : run1 E call is_l07Form [tI a0, tLI a1] = bs_l07Form call a0 a1 := by kernel_rfl
theorem vs_l07Form (a0 : Int) (a1 : List Int) {o : List TV} (h : bs_l07Form R a0 a1 = some o) : R is_l07Form [tI a0, tLI a1] = some o := ev_step ((es_l07Form R a0 a1).trans h)
def bs_DualForm (call : Oracle) (a0 : Int × List Int) : Option (List TV) :=
  (call is_l01Is [tPILI (a0.1, a0.2)]).bind fun o1 =>
  bif (!(gB o1 0)) then
    some [tPIPILA8 (0, (0, [])), tI 1]
  else
    (call is_l07Form [tI a0.1, tLI a0.2]).bind fun o2 =>
    some [tPIPILA8 ((gPIPILA8 o2 0).1, (((gPIPILA8 o2 0).2).1, ((gPIPILA8 o2 0).2).2)), tI 0]
theorem es_DualForm (call : Oracle) (a0 : Int × List Int) : run1 E call is_DualForm [tPILI a0] = bs_DualForm call a0 := by kernel_rfl
theorem vs_DualForm (a0 : Int × List Int) {o : List TV} (h : bs_DualForm R a0 = some o) : R is_DualForm [tPILI a0] = some o := ev_step ((es_DualForm R a0).trans h)
def bw_dual5_4 (call : Oracle) (x0 x1 : Int) (x2 : List (List Int)) (x3 x4 : Int) (x5 : List (List Int)) (x6 : Int) : Option (List TV) :=
  bif decide (x6 < ((List.length x2 : Nat) : Int)) then
    bif (decide (0 ≤ x6) && decide (x6 < ((List.length x2 : Nat) : Int))) then
      bif (decide (0 ≤ x6) && decide (x6 < ((List.length x5 : Nat) : Int))) then
        bif ((List.getD x2 (Int.toNat x6) (List.replicate 8 0)) != (List.getD x5 (Int.toNat x6) (List.replicate 8 0))) then
          some [tI 1, tB false]
        else
          call iw_dual5_4 [tI x0, tI x1, tLA8 x2, tI x3, tI x4, tLA8 x5, tI (wi64 (x6 + 1))]
      else none
    else none
  else
    some [tI 0]
theorem ew_dual5_4 (call : Oracle) (x0 x1 : Int) (x2 : List (List Int)) (x3 x4 : Int) (x5 : List (List Int)) (x6 : Int) : run1 E call iw_dual5_4 [tI x0, tI x1, tLA8 x2, tI x3, tI x4, tLA8 x5, tI x6] = bw_dual5_4 call x0 x1 x2 x3 x4 x5 x6 := by kernel_rfl
theorem vw_dual5_4 (x0 x1 : Int) (x2 : List (List Int)) (x3 x4 : Int) (x5 : List (List Int)) (x6 : Int) {o : List TV} (h : bw_dual5_4 R x0 x1 x2 x3 x4 x5 x6 = some o) : R iw_dual5_4 [tI x0, tI x1, tLA8 x2, tI x3, tI x4, tLA8 x5, tI x6] = some o := ev_step ((ew_dual5_4 R x0 x1 x2 x3 x4 x5 x6).trans h)
def bw_dual5 (call : Oracle) (a0 a1 : Int × Int × List (List Int)) : Option (List TV) :=
  bif (a0.1 != a1.1) then
    some [tB false]
  else
    bif (a0.2.1 != a1.2.1) then
      some [tB false]
    else
      bif (((List.length a0.2.2 : Nat) : Int) != ((List.length a1.2.2 : Nat) : Int)) then
        some [tB false]
      else
        (call iw_dual5_4 [tI a0.1, tI a0.2.1, tLA8 a0.2.2, tI a1.1, tI a1.2.1, tLA8 a1.2.2, tI 0]).bind fun o1 =>
        bif ((gI o1 0) == 0) then
          some [tB true]
        else
          some [tB (gB o1 1)]
theorem ew_dual5 (call : Oracle) (a0 a1 : Int × Int × List (List Int)) : run1 E call iw_dual5 [tPIPILA8 a0, tPIPILA8 a1] = bw_dual5 call a0 a1 := by kernel_rfl
theorem vw_dual5 (a0 a1 : Int × Int × List (List Int)) {o : List TV} (h : bw_dual5 R a0 a1 = some o) : R iw_dual5 [tPIPILA8 a0, tPIPILA8 a1] = some o := ev_step ((ew_dual5 R a0 a1).trans h)
def b_i_groups__crossing_3 (call : Oracle) (x0 : List Int) (x1 x2 x3 : Int) : Option (List TV) :=
  bif decide (x3 < x2) then
    (call i_i_groups__crossing_6 [tLI x0, tI x1, tI x3, tI (wi64 (x3 + 1)), tI x2, tI x3]).bind fun o6 =>
    bif ((gI o6 0) == 0) then
      call i_i_groups__crossing_3 [tLI (gLI o6 1), tI (gI o6 2), tI (gI o6 3), tI (wi64 ((gI o6 4) + 1))]
    else
      some [tI 1, tI (gI o6 1), tI (gI o6 2), tB (gB o6 3)]
  else
    some [tI 0]
theorem e_i_groups__crossing_3 (call : Oracle) (x0 : List Int) (x1 x2 x3 : Int) : run1 E call i_i_groups__crossing_3 [tLI x0, tI x1, tI x2, tI x3] = b_i_groups__crossing_3 call x0 x1 x2 x3 := by kernel_rfl
theorem v_i_groups__crossing_3 (x0 : List Int) (x1 x2 x3 : Int) {o : List TV} (h : b_i_groups__crossing_3 R x0 x1 x2 x3 = some o) : R i_i_groups__crossing_3 [tLI x0, tI x1, tI x2, tI x3] = some o := ev_step ((e_i_groups__crossing_3 R x0 x1 x2 x3).trans h)
def b_i_groups__crossing_6 (call : Oracle) (x0 : List Int) (x1 x2 : Int) (x3 x4 x5 : Int) : Option (List TV) :=
  bif decide (x3 < x1) then
    (call i_i_groups__crossing_9 [tLI x0, tI x1, tI x2, tI x3, tI (wi64 (x3 + 1)), tI x4, tI x5]).bind fun o4 =>
    bif ((gI o4 0) == 0) then
      call i_i_groups__crossing_6 [tLI (gLI o4 1), tI (gI o4 2), tI (gI o4 3), tI (wi64 ((gI o4 4) + 1)), tI (gI o4 5), tI (gI o4 6)]
    else
      some [tI 1, tI (gI o4 1), tI (gI o4 2), tB (gB o4 3)]
  else
    some [tI 0, tLI x0, tI x1, tI x4, tI x5]
theorem e_i_groups__crossing_6 (call : Oracle) (x0 : List Int) (x1 x2 : Int) (x3 x4 x5 : Int) : run1 E call i_i_groups__crossing_6 [tLI x0, tI x1, tI x2, tI x3, tI x4, tI x5] = b_i_groups__crossing_6 call x0 x1 x2 x3 x4 x5 := by kernel_rfl
theorem v_i_groups__crossing_6 (x0 : List Int) (x1 x2 : Int) (x3 x4 x5 : Int) {o : List TV} (h : b_i_groups__crossing_6 R x0 x1 x2 x3 x4 x5 = some o) : R i_i_groups__crossing_6 [tLI x0, tI x1, tI x2, tI x3, tI x4, tI x5] = some o := ev_step ((e_i_groups__crossing_6 R x0 x1 x2 x3 x4 x5).trans h)
def b_i_groups__crossing_9 (call : Oracle) (x0 : List Int) (x1 x2 : Int) (x3 x4 : Int) (x5 x6 : Int) : Option (List TV) :=
  bif decide (x4 < x1) then
    (call i_i_groups__crossing_12 [tLI x0, tI x1, tI x2, tI x3, tI x4, tI (wi64 (x4 + 1)), tI x5, tI x6]).bind fun o2 =>
    bif ((gI o2 0) == 0) then
      call i_i_groups__crossing_9 [tLI (gLI o2 1), tI (gI o2 2), tI (gI o2 3), tI (gI o2 4), tI (wi64 ((gI o2 5) + 1)), tI (gI o2 6), tI (gI o2 7)]
    else
      some [tI 1, tI (gI o2 1), tI (gI o2 2), tB (gB o2 3)]
  else
    some [tI 0, tLI x0, tI x1, tI x2, tI x3, tI x5, tI x6]
theorem e_i_groups__crossing_9 (call : Oracle) (x0 : List Int) (x1 x2 : Int) (x3 x4 : Int) (x5 x6 : Int) : run1 E call i_i_groups__crossing_9 [tLI x0, tI x1, tI x2, tI x3, tI x4, tI x5, tI x6] = b_i_groups__crossing_9 call x0 x1 x2 x3 x4 x5 x6 := by kernel_rfl
theorem v_i_groups__crossing_9 (x0 : List Int) (x1 x2 : Int) (x3 x4 : Int) (x5 x6 : Int) {o : List TV} (h : b_i_groups__crossing_9 R x0 x1 x2 x3 x4 x5 x6 = some o) : R i_i_groups__crossing_9 [tLI x0, tI x1, tI x2, tI x3, tI x4, tI x5, tI x6] = some o := ev_step ((e_i_groups__crossing_9 R x0 x1 x2 x3 x4 x5 x6).trans h)
def b_i_groups__crossing_12 (call : Oracle) (x0 : List Int) (x1 x2 : Int) (x3 x4 : Int) (x5 x6 x7 : Int) : Option (List TV) :=
  bif decide (x5 < x1) then
    bif (decide (0 ≤ x2) && decide (x2 < ((List.length x0 : Nat) : Int))) then
      bif (decide (0 ≤ x4) && decide (x4 < ((List.length x0 : Nat) : Int))) then
        bif ((List.getD x0 (Int.toNat x2) 0) == (List.getD x0 (Int.toNat x4) 0)) then
          bif (decide (0 ≤ x3) && decide (x3 < ((List.length x0 : Nat) : Int))) then
            bif (decide (0 ≤ x5) && decide (x5 < ((List.length x0 : Nat) : Int))) then
              bif ((List.getD x0 (Int.toNat x3) 0) == (List.getD x0 (Int.toNat x5) 0)) then
                bif (decide (0 ≤ x2) && decide (x2 < ((List.length x0 : Nat) : Int))) then
                  bif (decide (0 ≤ x3) && decide (x3 < ((List.length x0 : Nat) : Int))) then
                    bif ((List.getD x0 (Int.toNat x2) 0) != (List.getD x0 (Int.toNat x3) 0)) then
                      some [tI 1, tI x2, tI x3, tB true]
                    else
                      call i_i_groups__crossing_12 [tLI x0, tI x1, tI x2, tI x3, tI x4, tI (wi64 (x5 + 1)), tI x6, tI x7]
                  else none
                else none
              else
                call i_i_groups__crossing_12 [tLI x0, tI x1, tI x2, tI x3, tI x4, tI (wi64 (x5 + 1)), tI x6, tI x7]
            else none
          else none
        else
          call i_i_groups__crossing_12 [tLI x0, tI x1, tI x2, tI x3, tI x4, tI (wi64 (x5 + 1)), tI x6, tI x7]
      else none
    else none
  else
    some [tI 0, tLI x0, tI x1, tI x2, tI x3, tI x4, tI x6, tI x7]
theorem e_i_groups__crossing_12 (call : Oracle) (x0 : List Int) (x1 x2 : Int) (x3 x4 : Int) (x5 x6 x7 : Int) : run1 E call i_i_groups__crossing_12 [tLI x0, tI x1, tI x2, tI x3, tI x4, tI x5, tI x6, tI x7] = b_i_groups__crossing_12 call x0 x1 x2 x3 x4 x5 x6 x7 := by kernel_rfl
theorem v_i_groups__crossing_12 (x0 : List Int) (x1 x2 : Int) (x3 x4 : Int) (x5 x6 x7 : Int) {o : List TV} (h : b_i_groups__crossing_12 R x0 x1 x2 x3 x4 x5 x6 x7 = some o) : R i_i_groups__crossing_12 [tLI x0, tI x1, tI x2, tI x3, tI x4, tI x5, tI x6, tI x7] = some o := ev_step ((e_i_groups__crossing_12 R x0 x1 x2 x3 x4 x5 x6 x7).trans h)
def b_i_groups__crossing (call : Oracle) (a0 : List Int) : Option (List TV) :=
  (call i_i_groups__crossing_3 [tLI a0, tI ((List.length a0 : Nat) : Int), tI ((List.length a0 : Nat) : Int), tI 0]).bind fun o7 =>
  bif ((gI o7 0) == 0) then
    some [tI 0, tI 0, tB false]
  else
    some [tI (gI o7 1), tI (gI o7 2), tB (gB o7 3)]
theorem e_i_groups__crossing (call : Oracle) (a0 : List Int) : run1 E call i_i_groups__crossing [tLI a0] = b_i_groups__crossing call a0 := by kernel_rfl
theorem v_i_groups__crossing (a0 : List Int) {o : List TV} (h : b_i_groups__crossing R a0 = some o) : R i_i_groups__crossing [tLI a0] = some o := ev_step ((e_i_groups__crossing R a0).trans h)
def bi_IsPart (call : Oracle) (a0 : List Int) (a1 : Int) : Option (List TV) :=
  (call ii_isCount [tI a1]).bind fun o1 =>
  bif (!(gB o1 0)) then
    some [tB false]
  else
    (call ii_groupsOf [tA8 a0, tI a1]).bind fun o2 =>
    bif (!(gB o2 1)) then
      some [tB false]
    else
      (call i_i_groups__crossing [tLI (gLI o2 0)]).bind fun o3 =>
      some [tB (!(gB o3 2))]
theorem ei_IsPart (call : Oracle) (a0 : List Int) (a1 : Int) : run1 E call ii_IsPart [tA8 a0, tI a1] = bi_IsPart call a0 a1 := by kernel_rfl
theorem vi_IsPart (a0 : List Int) (a1 : Int) {o : List TV} (h : bi_IsPart R a0 a1 = some o) : R ii_IsPart [tA8 a0, tI a1] = some o := ev_step ((ei_IsPart R a0 a1).trans h)
def bi_IsDual_5 (call : Oracle) (x0 x1 : Int) (x2 : List (List Int)) (x3 x4 x5 : Int) : Option (List TV) :=
  bif decide (x5 < x4) then
    bif (decide (0 ≤ x5) && decide (x5 < ((List.length x2 : Nat) : Int))) then
      (call ii_IsPart [tA8 (List.getD x2 (Int.toNat x5) (List.replicate 8 0)), tI x3]).bind fun o9 =>
      bif (!(gB o9 0)) then
        some [tI 1, tB false]
      else
        (call ii_finePart [tI x3]).bind fun o10 =>
        bif ((List.getD x2 (Int.toNat x5) (List.replicate 8 0)) == (gA8 o10 0)) then
          some [tI 1, tB false]
        else
          (call ii_wholePart [tI x3]).bind fun o11 =>
          bif ((List.getD x2 (Int.toNat x5) (List.replicate 8 0)) == (gA8 o11 0)) then
            some [tI 1, tB false]
          else
            bif decide (0 < x5) then
              bif (decide (0 ≤ (wi64 (x5 - 1))) && decide ((wi64 (x5 - 1)) < ((List.length x2 : Nat) : Int))) then
                (call ii_complementPart [tA8 (List.getD x2 (Int.toNat (wi64 (x5 - 1))) (List.replicate 8 0)), tI x3]).bind fun o12 =>
                (call ii_meetParts [tA8 (gA8 o12 0), tA8 (List.getD x2 (Int.toNat x5) (List.replicate 8 0)), tI x3]).bind fun o13 =>
                (call ii_finePart [tI x3]).bind fun o14 =>
                bif ((gA8 o13 0) != (gA8 o14 0)) then
                  some [tI 1, tB false]
                else
                  call ii_IsDual_5 [tI x0, tI x1, tLA8 x2, tI x3, tI x4, tI (wi64 (x5 + 1))]
              else none
            else
              call ii_IsDual_5 [tI x0, tI x1, tLA8 x2, tI x3, tI x4, tI (wi64 (x5 + 1))]
    else none
  else
    some [tI 0]
theorem ei_IsDual_5 (call : Oracle) (x0 x1 : Int) (x2 : List (List Int)) (x3 x4 x5 : Int) : run1 E call ii_IsDual_5 [tI x0, tI x1, tLA8 x2, tI x3, tI x4, tI x5] = bi_IsDual_5 call x0 x1 x2 x3 x4 x5 := by kernel_rfl
theorem vi_IsDual_5 (x0 x1 : Int) (x2 : List (List Int)) (x3 x4 x5 : Int) {o : List TV} (h : bi_IsDual_5 R x0 x1 x2 x3 x4 x5 = some o) : R ii_IsDual_5 [tI x0, tI x1, tLA8 x2, tI x3, tI x4, tI x5] = some o := ev_step ((ei_IsDual_5 R x0 x1 x2 x3 x4 x5).trans h)
def bi_IsDual (call : Oracle) (a0 : Int × Int × List (List Int)) : Option (List TV) :=
  (call ii_isCount [tI a0.1]).bind fun o1 =>
  bif (!(gB o1 0)) then
    some [tB false]
  else
    (call ii_within [tI a0.2.1, tI (-400), tI 400]).bind fun o2 =>
    bif (!(gB o2 0)) then
      some [tB false]
    else
      bif decide (400 < ((List.length a0.2.2 : Nat) : Int)) then
        some [tB false]
      else
        bif (a0.1 == 1) then
          bif (a0.2.1 != 0) then
            some [tB false]
          else
            (call ii_IsDual_5 [tI a0.1, tI a0.2.1, tLA8 a0.2.2, tI a0.1, tI ((List.length a0.2.2 : Nat) : Int), tI 0]).bind fun o15 =>
            bif ((gI o15 0) == 0) then
              some [tB true]
            else
              some [tB (gB o15 1)]
        else
          (call ii_IsDual_5 [tI a0.1, tI a0.2.1, tLA8 a0.2.2, tI a0.1, tI ((List.length a0.2.2 : Nat) : Int), tI 0]).bind fun o16 =>
          bif ((gI o16 0) == 0) then
            some [tB true]
          else
            some [tB (gB o16 1)]
theorem ei_IsDual (call : Oracle) (a0 : Int × Int × List (List Int)) : run1 E call ii_IsDual [tPIPILA8 a0] = bi_IsDual call a0 := by kernel_rfl
theorem vi_IsDual (a0 : Int × Int × List (List Int)) {o : List TV} (h : bi_IsDual R a0 = some o) : R ii_IsDual [tPIPILA8 a0] = some o := ev_step ((ei_IsDual R a0).trans h)
def bi_blocksOf_4 (call : Oracle) (x0 : List Int) (x1 : List (List Int)) (x2 x3 x4 : Int) : Option (List TV) :=
  bif decide (x4 < x3) then
    bif (decide (0 ≤ x4) && decide (x4 < ((List.length x0 : Nat) : Int))) then
      bif ((List.getD x0 (Int.toNat x4) 0) != x4) then
        call ii_blocksOf_4 [tLI x0, tLLI x1, tI x2, tI x3, tI (wi64 (x4 + 1))]
      else
        (call ii_blocksOf_9 [tLI x0, tLLI x1, tLI [], tI x2, tI x4, tI x4, tI x3, tI x4]).bind fun o3 =>
        bif (apOk (gLLI o3 2) [(gLI o3 3)]) then
          call ii_blocksOf_4 [tLI (gLI o3 1), tLLI ((gLLI o3 2) ++ [(gLI o3 3)]), tI (gI o3 4), tI (gI o3 5), tI (wi64 ((gI o3 6) + 1))]
        else none
    else none
  else
    some [tI 0, tLLI x1]
theorem ei_blocksOf_4 (call : Oracle) (x0 : List Int) (x1 : List (List Int)) (x2 x3 x4 : Int) : run1 E call ii_blocksOf_4 [tLI x0, tLLI x1, tI x2, tI x3, tI x4] = bi_blocksOf_4 call x0 x1 x2 x3 x4 := by kernel_rfl
theorem vi_blocksOf_4 (x0 : List Int) (x1 : List (List Int)) (x2 x3 x4 : Int) {o : List TV} (h : bi_blocksOf_4 R x0 x1 x2 x3 x4 = some o) : R ii_blocksOf_4 [tLI x0, tLLI x1, tI x2, tI x3, tI x4] = some o := ev_step ((ei_blocksOf_4 R x0 x1 x2 x3 x4).trans h)
def bi_blocksOf_9 (call : Oracle) (x0 : List Int) (x1 : List (List Int)) (x2 : List Int) (x3 x4 : Int) (x5 x6 x7 : Int) : Option (List TV) :=
  bif decide (x5 < x3) then
    bif (decide (0 ≤ x5) && decide (x5 < ((List.length x0 : Nat) : Int))) then
      bif ((List.getD x0 (Int.toNat x5) 0) == x4) then
        bif (apOk x2 [x5]) then
          call ii_blocksOf_9 [tLI x0, tLLI x1, tLI (x2 ++ [x5]), tI x3, tI x4, tI (wi64 (x5 + 1)), tI x6, tI x7]
        else none
      else
        call ii_blocksOf_9 [tLI x0, tLLI x1, tLI x2, tI x3, tI x4, tI (wi64 (x5 + 1)), tI x6, tI x7]
    else none
  else
    some [tI 0, tLI x0, tLLI x1, tLI x2, tI x3, tI x6, tI x7]
theorem ei_blocksOf_9 (call : Oracle) (x0 : List Int) (x1 : List (List Int)) (x2 : List Int) (x3 x4 : Int) (x5 x6 x7 : Int) : run1 E call ii_blocksOf_9 [tLI x0, tLLI x1, tLI x2, tI x3, tI x4, tI x5, tI x6, tI x7] = bi_blocksOf_9 call x0 x1 x2 x3 x4 x5 x6 x7 := by kernel_rfl
theorem vi_blocksOf_9 (x0 : List Int) (x1 : List (List Int)) (x2 : List Int) (x3 x4 : Int) (x5 x6 x7 : Int) {o : List TV} (h : bi_blocksOf_9 R x0 x1 x2 x3 x4 x5 x6 x7 = some o) : R ii_blocksOf_9 [tLI x0, tLLI x1, tLI x2, tI x3, tI x4, tI x5, tI x6, tI x7] = some o := ev_step ((ei_blocksOf_9 R x0 x1 x2 x3 x4 x5 x6 x7).trans h)
def bi_blocksOf (call : Oracle) (a0 : List Int) (a1 : Int) : Option (List TV) :=
  (call ii_groupsOf [tA8 a0, tI a1]).bind fun o1 =>
  (call ii_blocksOf_4 [tLI (gLI o1 0), tLLI [], tI a1, tI a1, tI 0]).bind fun o4 =>
  some [tLLI (gLLI o4 1)]
theorem ei_blocksOf (call : Oracle) (a0 : List Int) (a1 : Int) : run1 E call ii_blocksOf [tA8 a0, tI a1] = bi_blocksOf call a0 a1 := by kernel_rfl
theorem vi_blocksOf (a0 : List Int) (a1 : Int) {o : List TV} (h : bi_blocksOf R a0 a1 = some o) : R ii_blocksOf [tA8 a0, tI a1] = some o := ev_step ((ei_blocksOf R a0 a1).trans h)
def bi_band_3 (call : Oracle) (x0 : List Int) (x1 x2 x3 : Int) : Option (List TV) :=
  bif decide (x2 < x3) then
    bif (apOk x0 [x3]) then
      call ii_band_3 [tLI (x0 ++ [x3]), tI x1, tI x2, tI (wi64 (x3 - 1))]
    else none
  else
    some [tI 0, tLI x0, tI x1, tI x2]
theorem ei_band_3 (call : Oracle) (x0 : List Int) (x1 x2 x3 : Int) : run1 E call ii_band_3 [tLI x0, tI x1, tI x2, tI x3] = bi_band_3 call x0 x1 x2 x3 := by kernel_rfl
theorem vi_band_3 (x0 : List Int) (x1 x2 x3 : Int) {o : List TV} (h : bi_band_3 R x0 x1 x2 x3 = some o) : R ii_band_3 [tLI x0, tI x1, tI x2, tI x3] = some o := ev_step ((ei_band_3 R x0 x1 x2 x3).trans h)
def bi_band_7 (call : Oracle) (x0 : List Int) (x1 x2 : Int) : Option (List TV) :=
  bif decide (x2 ≤ x1) then
    bif (apOk x0 [(wi64 (0 - x2))]) then
      call ii_band_7 [tLI (x0 ++ [(wi64 (0 - x2))]), tI x1, tI (wi64 (x2 + 1))]
    else none
  else
    some [tI 0, tLI x0]
theorem ei_band_7 (call : Oracle) (x0 : List Int) (x1 x2 : Int) : run1 E call ii_band_7 [tLI x0, tI x1, tI x2] = bi_band_7 call x0 x1 x2 := by kernel_rfl
theorem vi_band_7 (x0 : List Int) (x1 x2 : Int) {o : List TV} (h : bi_band_7 R x0 x1 x2 = some o) : R ii_band_7 [tLI x0, tI x1, tI x2] = some o := ev_step ((ei_band_7 R x0 x1 x2).trans h)
def bi_band (call : Oracle) (a0 a1 : Int) : Option (List TV) :=
  (call ii_band_3 [tLI [], tI a0, tI a1, tI a0]).bind fun o1 =>
  (call ii_band_7 [tLI (gLI o1 1), tI (gI o1 2), tI (wi64 ((gI o1 3) + 2))]).bind fun o2 =>
  some [tLI (gLI o2 1)]
theorem ei_band (call : Oracle) (a0 a1 : Int) : run1 E call ii_band [tI a0, tI a1] = bi_band call a0 a1 := by kernel_rfl
theorem vi_band (a0 a1 : Int) {o : List TV} (h : bi_band R a0 a1 = some o) : R ii_band [tI a0, tI a1] = some o := ev_step ((ei_band R a0 a1).trans h)
def bi_wordOfPart_3 (call : Oracle) (x0 : List Int) (x1 : List (List Int)) (x2 x3 : Int) : Option (List TV) :=
  bif decide (x3 < x2) then
    bif (decide (0 ≤ x3) && decide (x3 < ((List.length x1 : Nat) : Int))) then
      (call ii_wordOfPart_6 [tLI x0, tLI (List.getD x1 (Int.toNat x3) []), tLLI x1, tI (wi64 (((List.length (List.getD x1 (Int.toNat x3) []) : Nat) : Int) - 1)), tI x2, tI x3]).bind fun o5 =>
      call ii_wordOfPart_3 [tLI (gLI o5 1), tLLI (gLLI o5 2), tI (gI o5 3), tI (wi64 ((gI o5 4) + 1))]
    else none
  else
    some [tI 0, tLI x0]
theorem ei_wordOfPart_3 (call : Oracle) (x0 : List Int) (x1 : List (List Int)) (x2 x3 : Int) : run1 E call ii_wordOfPart_3 [tLI x0, tLLI x1, tI x2, tI x3] = bi_wordOfPart_3 call x0 x1 x2 x3 := by kernel_rfl
theorem vi_wordOfPart_3 (x0 : List Int) (x1 : List (List Int)) (x2 x3 : Int) {o : List TV} (h : bi_wordOfPart_3 R x0 x1 x2 x3 = some o) : R ii_wordOfPart_3 [tLI x0, tLLI x1, tI x2, tI x3] = some o := ev_step ((ei_wordOfPart_3 R x0 x1 x2 x3).trans h)
end
end Go.Ev.Yteclcmiopobnaaa
