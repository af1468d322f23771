/- Bodies, part 3. -/
import Derived.KernelRfl
import Derived.Test.YtfkpbhbghbhmgaaGreatEnv
set_option linter.unusedVariables false
namespace Go.Ev.YtfkpbhbghbhmgaaGreat
open Go.Ev
noncomputable section
variable {o : List TV}
def bs_l04Set_4 (call : Oracle) (x0 x1 : Int) (x2 : List (List Int)) (x3 : List (Int × Int × List (List Int))) (x4 : List (Int × Int × List (List Int))) (x5 : List (List Int)) (x6 : Int) : Option (List TV) :=
  bif decide (x6 < ((List.length x4 : Nat) : Int)) then
    (call is_l04Set_7 [tI x0, tI x1, tLA8 x2, tLPIPILA8 x3, tLPIPILA8 x4, tLA8 x5, tI x6, tI 0]).bind fun o9 =>
    bif ((gI o9 0) == 0) then
      call is_l04Set_4 [tI (gI o9 1), tI (gI o9 2), tLA8 (gLA8 o9 3), tLPIPILA8 (gLPIPILA8 o9 4), tLPIPILA8 (gLPIPILA8 o9 5), tLA8 (gLA8 o9 6), tI (wi64 ((gI o9 7) + 1))]
    else
      some [tI 1, tLPIPILA8 (gLPIPILA8 o9 1), tB (gB o9 2)]
  else
    some [tI 0, tLPIPILA8 x3]
theorem vs_l04Set_4 (x0 x1 : Int) (x2 : List (List Int)) (x3 : List (Int × Int × List (List Int))) (x4 : List (Int × Int × List (List Int))) (x5 : List (List Int)) (x6 : Int) (h : bs_l04Set_4 R x0 x1 x2 x3 x4 x5 x6 = some o) : R is_l04Set_4 [tI x0, tI x1, tLA8 x2, tLPIPILA8 x3, tLPIPILA8 x4, tLA8 x5, tI x6] = some o := go_ (b := fun c => bs_l04Set_4 c x0 x1 x2 x3 x4 x5 x6) (fun c => by kernel_rfl) h
def bs_l04Set_7 (call : Oracle) (x0 x1 : Int) (x2 : List (List Int)) (x3 : List (Int × Int × List (List Int))) (x4 : List (Int × Int × List (List Int))) (x5 : List (List Int)) (x6 x7 : Int) : Option (List TV) :=
  bif decide (x7 < ((List.length x5 : Nat) : Int)) then
    bif (decide (0 ≤ x6) && decide (x6 < ((List.length x4 : Nat) : Int))) then
      bif (decide (0 ≤ x7) && decide (x7 < ((List.length x5 : Nat) : Int))) then
        (call is_l04Conjugate [tPIPILA8 (List.getD x4 (Int.toNat x6) (0, (0, []))), tA8 (List.getD x5 (Int.toNat x7) (List.replicate 8 0))]).bind fun o6 =>
        bif (((gPIPILA8 o6 0).2).1 != x1) then
          call is_l04Set_7 [tI x0, tI x1, tLA8 x2, tLPIPILA8 x3, tLPIPILA8 x4, tLA8 x5, tI x6, tI (wi64 (x7 + 1))]
        else
          bif (((List.length (((gPIPILA8 o6 0).2).2) : Nat) : Int) != ((List.length x2 : Nat) : Int)) then
            call is_l04Set_7 [tI x0, tI x1, tLA8 x2, tLPIPILA8 x3, tLPIPILA8 x4, tLA8 x5, tI x6, tI (wi64 (x7 + 1))]
          else
            (call is_l04Insert [tLPIPILA8 x3, tPIPILA8 (gPIPILA8 o6 0)]).bind fun o7 =>
            bif (gB o7 1) then
              bif decide (120 < ((List.length (gLPIPILA8 o7 0) : Nat) : Int)) then
                some [tI 1, tLPIPILA8 [], tB false]
              else
                bif (apOk x4 [(gPIPILA8 o6 0)]) then
                  call is_l04Set_7 [tI x0, tI x1, tLA8 x2, tLPIPILA8 (gLPIPILA8 o7 0), tLPIPILA8 (x4 ++ [(gPIPILA8 o6 0)]), tLA8 x5, tI x6, tI (wi64 (x7 + 1))]
                else none
            else
              call is_l04Set_7 [tI x0, tI x1, tLA8 x2, tLPIPILA8 x3, tLPIPILA8 x4, tLA8 x5, tI x6, tI (wi64 (x7 + 1))]
      else none
    else none
  else
    some [tI 0, tI x0, tI x1, tLA8 x2, tLPIPILA8 x3, tLPIPILA8 x4, tLA8 x5, tI x6]
theorem vs_l04Set_7 (x0 x1 : Int) (x2 : List (List Int)) (x3 : List (Int × Int × List (List Int))) (x4 : List (Int × Int × List (List Int))) (x5 : List (List Int)) (x6 x7 : Int) (h : bs_l04Set_7 R x0 x1 x2 x3 x4 x5 x6 x7 = some o) : R is_l04Set_7 [tI x0, tI x1, tLA8 x2, tLPIPILA8 x3, tLPIPILA8 x4, tLA8 x5, tI x6, tI x7] = some o := go_ (b := fun c => bs_l04Set_7 c x0 x1 x2 x3 x4 x5 x6 x7) (fun c => by kernel_rfl) h
def bs_l04Set (call : Oracle) (a0 : Int × Int × List (List Int)) : Option (List TV) :=
  (call is_l04Summit [tPIPILA8 a0]).bind fun o1 =>
  (call is_l02Same [tI a0.1]).bind fun o2 =>
  (call is_l04Simples [tLA8 [], tA8 (gA8 o2 0), tI 0, tI a0.1]).bind fun o3 =>
  (call is_l04Set_4 [tI ((gPIPILA8 o1 0).1), tI (((gPIPILA8 o1 0).2).1), tLA8 (((gPIPILA8 o1 0).2).2), tLPIPILA8 [(gPIPILA8 o1 0)], tLPIPILA8 [(gPIPILA8 o1 0)], tLA8 (gLA8 o3 0), tI 0]).bind fun o10 =>
  bif ((gI o10 0) == 0) then
    some [tLPIPILA8 (gLPIPILA8 o10 1), tB true]
  else
    some [tLPIPILA8 (gLPIPILA8 o10 1), tB (gB o10 2)]
theorem vs_l04Set (a0 : Int × Int × List (List Int)) (h : bs_l04Set R a0 = some o) : R is_l04Set [tPIPILA8 a0] = some o := go_ (b := fun c => bs_l04Set c a0) (fun c => by kernel_rfl) h
def bs_SuperSummit_9 (call : Oracle) (x0 : List (Int × Int × List (List Int))) (x1 : List (Int × Int × List (List Int))) (x2 : Int) : Option (List TV) :=
  bif decide (x2 < ((List.length x0 : Nat) : Int)) then
    bif (decide (0 ≤ x2) && decide (x2 < ((List.length x0 : Nat) : Int))) then
      bif (decide (0 ≤ x2) && decide (x2 < ((List.length x0 : Nat) : Int))) then
        bif (decide (0 ≤ x2) && decide (x2 < ((List.length x0 : Nat) : Int))) then
          bif (apOk [] (((List.getD x0 (Int.toNat x2) (0, (0, []))).2).2)) then
            (call is_l03Fit [tPIPILA8 (List.getD x0 (Int.toNat x2) (0, (0, [])))]).bind fun o4 =>
            bif ((gI o4 1) != 0) then
              some [tI 1, tLPIPILA8 [], tI (gI o4 1)]
            else
              bif (apOk x1 [(gPIPILA8 o4 0)]) then
                call is_SuperSummit_9 [tLPIPILA8 x0, tLPIPILA8 (x1 ++ [(gPIPILA8 o4 0)]), tI (wi64 (x2 + 1))]
              else none
          else none
        else none
      else none
    else none
  else
    some [tI 0, tLPIPILA8 x1]
theorem vs_SuperSummit_9 (x0 : List (Int × Int × List (List Int))) (x1 : List (Int × Int × List (List Int))) (x2 : Int) (h : bs_SuperSummit_9 R x0 x1 x2 = some o) : R is_SuperSummit_9 [tLPIPILA8 x0, tLPIPILA8 x1, tI x2] = some o := go_ (b := fun c => bs_SuperSummit_9 c x0 x1 x2) (fun c => by kernel_rfl) h
def bs_SuperSummit (call : Oracle) (a0 : Int × Int × List (List Int)) : Option (List TV) :=
  (call is_l04Code [tPIPILA8 a0]).bind fun o1 =>
  bif ((gI o1 0) != 0) then
    some [tLPIPILA8 [], tI (gI o1 0)]
  else
    (call is_l04Set [tPIPILA8 a0]).bind fun o2 =>
    bif (!(gB o2 1)) then
      some [tLPIPILA8 [], tI 3]
    else
      (call is_SuperSummit_9 [tLPIPILA8 (gLPIPILA8 o2 0), tLPIPILA8 [], tI 0]).bind fun o5 =>
      bif ((gI o5 0) == 0) then
        some [tLPIPILA8 (gLPIPILA8 o5 1), tI 0]
      else
        some [tLPIPILA8 (gLPIPILA8 o5 1), tI (gI o5 2)]
theorem vs_SuperSummit (a0 : Int × Int × List (List Int)) (h : bs_SuperSummit R a0 = some o) : R is_SuperSummit [tPIPILA8 a0] = some o := go_ (b := fun c => bs_SuperSummit c a0) (fun c => by kernel_rfl) h
def bw_normals9_4 (call : Oracle) (x0 : List (Int × Int × List (List Int))) (x1 : List (Int × Int × List (List Int))) (x2 : Int) : Option (List TV) :=
  bif decide (x2 < ((List.length x0 : Nat) : Int)) then
    bif (decide (0 ≤ x2) && decide (x2 < ((List.length x0 : Nat) : Int))) then
      bif (decide (0 ≤ x2) && decide (x2 < ((List.length x1 : Nat) : Int))) then
        (call iw_normal9 [tPIPILA8 (List.getD x0 (Int.toNat x2) (0, (0, []))), tPIPILA8 (List.getD x1 (Int.toNat x2) (0, (0, [])))]).bind fun o2 =>
        bif (!(gB o2 0)) then
          some [tI 1, tB false]
        else
          call iw_normals9_4 [tLPIPILA8 x0, tLPIPILA8 x1, tI (wi64 (x2 + 1))]
      else none
    else none
  else
    some [tI 0]
theorem vw_normals9_4 (x0 : List (Int × Int × List (List Int))) (x1 : List (Int × Int × List (List Int))) (x2 : Int) (h : bw_normals9_4 R x0 x1 x2 = some o) : R iw_normals9_4 [tLPIPILA8 x0, tLPIPILA8 x1, tI x2] = some o := go_ (b := fun c => bw_normals9_4 c x0 x1 x2) (fun c => by kernel_rfl) h
def bw_normals9 (call : Oracle) (a0 : List (Int × Int × List (List Int))) (a1 : List (Int × Int × List (List Int))) : Option (List TV) :=
  bif (((List.length a0 : Nat) : Int) != ((List.length a1 : Nat) : Int)) then
    some [tB false]
  else
    (call iw_normals9_4 [tLPIPILA8 a0, tLPIPILA8 a1, tI 0]).bind fun o3 =>
    bif ((gI o3 0) == 0) then
      some [tB true]
    else
      some [tB (gB o3 1)]
theorem vw_normals9 (a0 : List (Int × Int × List (List Int))) (a1 : List (Int × Int × List (List Int))) (h : bw_normals9 R a0 a1 = some o) : R iw_normals9 [tLPIPILA8 a0, tLPIPILA8 a1] = some o := go_ (b := fun c => bw_normals9 c a0 a1) (fun c => by kernel_rfl) h
def bi_comesBackK1 (call : Oracle) (a0 a1 : Int × Int × List (List Int)) : Option (List TV) :=
  (call ii_sameNormal [tPIPILA8 a0, tPIPILA8 a1]).bind fun o1 =>
  some [tB (gB o1 0)]
theorem vi_comesBackK1 (a0 a1 : Int × Int × List (List Int)) (h : bi_comesBackK1 R a0 a1 = some o) : R ii_comesBackK1 [tPIPILA8 a0, tPIPILA8 a1] = some o := go_ (b := fun c => bi_comesBackK1 c a0 a1) (fun c => by kernel_rfl) h
def bg_IndexFunc___i_Normal_i_Normal__v2_2 (call : Oracle) (x0 : List (Int × Int × List (List Int))) (x1 x2 : Int) (x3 : List (List Int)) (x4 x5 : Int) : Option (List TV) :=
  bif decide (x5 < x4) then
    bif (decide (0 ≤ x5) && decide (x5 < ((List.length x0 : Nat) : Int))) then
      (call ii_comesBackK1 [tPIPILA8 (List.getD x0 (Int.toNat x5) (0, (0, []))), tPIPILA8 (x1, (x2, x3))]).bind fun o2 =>
      bif (gB o2 0) then
        some [tI 1, tI x5]
      else
        call ig_IndexFunc___i_Normal_i_Normal__v2_2 [tLPIPILA8 x0, tI x1, tI x2, tLA8 x3, tI x4, tI (wi64 (x5 + 1))]
    else none
  else
    some [tI 0]
theorem vg_IndexFunc___i_Normal_i_Normal__v2_2 (x0 : List (Int × Int × List (List Int))) (x1 x2 : Int) (x3 : List (List Int)) (x4 x5 : Int) (h : bg_IndexFunc___i_Normal_i_Normal__v2_2 R x0 x1 x2 x3 x4 x5 = some o) : R ig_IndexFunc___i_Normal_i_Normal__v2_2 [tLPIPILA8 x0, tI x1, tI x2, tLA8 x3, tI x4, tI x5] = some o := go_ (b := fun c => bg_IndexFunc___i_Normal_i_Normal__v2_2 c x0 x1 x2 x3 x4 x5) (fun c => by kernel_rfl) h
def bg_IndexFunc___i_Normal_i_Normal__v2 (call : Oracle) (a0 : List (Int × Int × List (List Int))) (a1 : Int × Int × List (List Int)) : Option (List TV) :=
  (call ig_IndexFunc___i_Normal_i_Normal__v2_2 [tLPIPILA8 a0, tI a1.1, tI a1.2.1, tLA8 a1.2.2, tI ((List.length a0 : Nat) : Int), tI 0]).bind fun o3 =>
  bif ((gI o3 0) == 0) then
    some [tI (-1)]
  else
    some [tI (gI o3 1)]
theorem vg_IndexFunc___i_Normal_i_Normal__v2 (a0 : List (Int × Int × List (List Int))) (a1 : Int × Int × List (List Int)) (h : bg_IndexFunc___i_Normal_i_Normal__v2 R a0 a1 = some o) : R ig_IndexFunc___i_Normal_i_Normal__v2 [tLPIPILA8 a0, tPIPILA8 a1] = some o := go_ (b := fun c => bg_IndexFunc___i_Normal_i_Normal__v2 c a0 a1) (fun c => by kernel_rfl) h
def bg_ContainsFunc___i_Normal_i_Normal__v2 (call : Oracle) (a0 : List (Int × Int × List (List Int))) (a1 : Int × Int × List (List Int)) : Option (List TV) :=
  (call ig_IndexFunc___i_Normal_i_Normal__v2 [tLPIPILA8 a0, tPIPILA8 a1]).bind fun o1 =>
  some [tB (decide (0 ≤ (gI o1 0)))]
theorem vg_ContainsFunc___i_Normal_i_Normal__v2 (a0 : List (Int × Int × List (List Int))) (a1 : Int × Int × List (List Int)) (h : bg_ContainsFunc___i_Normal_i_Normal__v2 R a0 a1 = some o) : R ig_ContainsFunc___i_Normal_i_Normal__v2 [tLPIPILA8 a0, tPIPILA8 a1] = some o := go_ (b := fun c => bg_ContainsFunc___i_Normal_i_Normal__v2 c a0 a1) (fun c => by kernel_rfl) h
def bi_comesBack_4 (call : Oracle) (x0 x1 : Int) (x2 : List (List Int)) (x3 : List (Int × Int × List (List Int))) (x4 x5 : Int) (x6 : List (List Int)) : Option (List TV) :=
  (call ii_sameNormal [tPIPILA8 (x4, (x5, x6)), tPIPILA8 (x0, (x1, x2))]).bind fun o5 =>
  bif (gB o5 0) then
    some [tI 0, tB true]
  else
    (call ig_ContainsFunc___i_Normal_i_Normal__v2 [tLPIPILA8 x3, tPIPILA8 (x4, (x5, x6))]).bind fun o6 =>
    bif (gB o6 0) then
      some [tI 0, tB false]
    else
      bif (apOk x3 [(x4, (x5, x6))]) then
        (call ii_cycled [tPIPILA8 (x4, (x5, x6))]).bind fun o7 =>
        call ii_comesBack_4 [tI x0, tI x1, tLA8 x2, tLPIPILA8 (x3 ++ [(x4, (x5, x6))]), tI ((gPIPILA8 o7 0).1), tI (((gPIPILA8 o7 0).2).1), tLA8 (((gPIPILA8 o7 0).2).2)]
      else none
theorem vi_comesBack_4 (x0 x1 : Int) (x2 : List (List Int)) (x3 : List (Int × Int × List (List Int))) (x4 x5 : Int) (x6 : List (List Int)) (h : bi_comesBack_4 R x0 x1 x2 x3 x4 x5 x6 = some o) : R ii_comesBack_4 [tI x0, tI x1, tLA8 x2, tLPIPILA8 x3, tI x4, tI x5, tLA8 x6] = some o := go_ (b := fun c => bi_comesBack_4 c x0 x1 x2 x3 x4 x5 x6) (fun c => by kernel_rfl) h
def bi_comesBack (call : Oracle) (a0 : Int × Int × List (List Int)) : Option (List TV) :=
  (call ii_cycled [tPIPILA8 a0]).bind fun o1 =>
  (call ii_comesBack_4 [tI a0.1, tI a0.2.1, tLA8 a0.2.2, tLPIPILA8 [], tI ((gPIPILA8 o1 0).1), tI (((gPIPILA8 o1 0).2).1), tLA8 (((gPIPILA8 o1 0).2).2)]).bind fun o8 =>
  some [tB (gB o8 1)]
theorem vi_comesBack (a0 : Int × Int × List (List Int)) (h : bi_comesBack R a0 = some o) : R ii_comesBack [tPIPILA8 a0] = some o := go_ (b := fun c => bi_comesBack c a0) (fun c => by kernel_rfl) h
def bi_UltraSummitK1 (call : Oracle) (a0 : Int × Int × List (List Int)) : Option (List TV) :=
  (call ii_comesBack [tPIPILA8 a0]).bind fun o1 =>
  some [tB (!(gB o1 0))]
theorem vi_UltraSummitK1 (a0 : Int × Int × List (List Int)) (h : bi_UltraSummitK1 R a0 = some o) : R ii_UltraSummitK1 [tPIPILA8 a0] = some o := go_ (b := fun c => bi_UltraSummitK1 c a0) (fun c => by kernel_rfl) h
def bg_IndexFunc___i_Normal_i_Normal__v3_2 (call : Oracle) (x0 : List (Int × Int × List (List Int))) (x1 x2 : Int) : Option (List TV) :=
  bif decide (x2 < x1) then
    bif (decide (0 ≤ x2) && decide (x2 < ((List.length x0 : Nat) : Int))) then
      (call ii_UltraSummitK1 [tPIPILA8 (List.getD x0 (Int.toNat x2) (0, (0, [])))]).bind fun o2 =>
      bif (gB o2 0) then
        some [tI 1, tI x2]
      else
        call ig_IndexFunc___i_Normal_i_Normal__v3_2 [tLPIPILA8 x0, tI x1, tI (wi64 (x2 + 1))]
    else none
  else
    some [tI 0]
theorem vg_IndexFunc___i_Normal_i_Normal__v3_2 (x0 : List (Int × Int × List (List Int))) (x1 x2 : Int) (h : bg_IndexFunc___i_Normal_i_Normal__v3_2 R x0 x1 x2 = some o) : R ig_IndexFunc___i_Normal_i_Normal__v3_2 [tLPIPILA8 x0, tI x1, tI x2] = some o := go_ (b := fun c => bg_IndexFunc___i_Normal_i_Normal__v3_2 c x0 x1 x2) (fun c => by kernel_rfl) h
def bg_IndexFunc___i_Normal_i_Normal__v3 (call : Oracle) (a0 : List (Int × Int × List (List Int))) : Option (List TV) :=
  (call ig_IndexFunc___i_Normal_i_Normal__v3_2 [tLPIPILA8 a0, tI ((List.length a0 : Nat) : Int), tI 0]).bind fun o3 =>
  bif ((gI o3 0) == 0) then
    some [tI (-1)]
  else
    some [tI (gI o3 1)]
theorem vg_IndexFunc___i_Normal_i_Normal__v3 (a0 : List (Int × Int × List (List Int))) (h : bg_IndexFunc___i_Normal_i_Normal__v3 R a0 = some o) : R ig_IndexFunc___i_Normal_i_Normal__v3 [tLPIPILA8 a0] = some o := go_ (b := fun c => bg_IndexFunc___i_Normal_i_Normal__v3 c a0) (fun c => by kernel_rfl) h
def bg_DeleteFunc___i_Normal_i_Normal__5 (call : Oracle) (x0 : List (Int × Int × List (List Int))) (x1 x2 : Int) : Option (List TV) :=
  bif decide (x2 < ((List.length x0 : Nat) : Int)) then
    bif (decide (0 ≤ x2) && decide (x2 < ((List.length x0 : Nat) : Int))) then
      (call ii_UltraSummitK1 [tPIPILA8 (List.getD x0 (Int.toNat x2) (0, (0, [])))]).bind fun o3 =>
      bif (!(gB o3 0)) then
        bif (decide (0 ≤ x1) && decide (x1 < ((List.length x0 : Nat) : Int))) then
          call ig_DeleteFunc___i_Normal_i_Normal__5 [tLPIPILA8 (List.set x0 (Int.toNat x1) (List.getD x0 (Int.toNat x2) (0, (0, [])))), tI (wi64 (x1 + 1)), tI (wi64 (x2 + 1))]
        else none
      else
        call ig_DeleteFunc___i_Normal_i_Normal__5 [tLPIPILA8 x0, tI x1, tI (wi64 (x2 + 1))]
    else none
  else
    some [tI 0, tLPIPILA8 x0, tI x1]
theorem vg_DeleteFunc___i_Normal_i_Normal__5 (x0 : List (Int × Int × List (List Int))) (x1 x2 : Int) (h : bg_DeleteFunc___i_Normal_i_Normal__5 R x0 x1 x2 = some o) : R ig_DeleteFunc___i_Normal_i_Normal__5 [tLPIPILA8 x0, tI x1, tI x2] = some o := go_ (b := fun c => bg_DeleteFunc___i_Normal_i_Normal__5 c x0 x1 x2) (fun c => by kernel_rfl) h
def bg_DeleteFunc___i_Normal_i_Normal_ (call : Oracle) (a0 : List (Int × Int × List (List Int))) : Option (List TV) :=
  (call ig_IndexFunc___i_Normal_i_Normal__v3 [tLPIPILA8 a0]).bind fun o1 =>
  bif ((gI o1 0) == (-1)) then
    some [tLPIPILA8 a0]
  else
    (call ig_DeleteFunc___i_Normal_i_Normal__5 [tLPIPILA8 a0, tI (gI o1 0), tI (wi64 ((gI o1 0) + 1))]).bind fun o4 =>
    bif (decide (0 ≤ (gI o4 2)) && decide ((gI o4 2) ≤ ((List.length (gLPIPILA8 o4 1) : Nat) : Int))) then
      bif (decide (0 ≤ (gI o4 2)) && decide ((gI o4 2) ≤ ((List.length (List.take (Int.toNat (gI o4 2)) (gLPIPILA8 o4 1) ++ List.replicate (List.length (gLPIPILA8 o4 1) - Int.toNat (gI o4 2)) (0, (0, []))) : Nat) : Int))) then
        some [tLPIPILA8 (List.take (Int.toNat (gI o4 2)) (List.take (Int.toNat (gI o4 2)) (gLPIPILA8 o4 1) ++ List.replicate (List.length (gLPIPILA8 o4 1) - Int.toNat (gI o4 2)) (0, (0, []))))]
      else none
    else none
theorem vg_DeleteFunc___i_Normal_i_Normal_ (a0 : List (Int × Int × List (List Int))) (h : bg_DeleteFunc___i_Normal_i_Normal_ R a0 = some o) : R ig_DeleteFunc___i_Normal_i_Normal_ [tLPIPILA8 a0] = some o := go_ (b := fun c => bg_DeleteFunc___i_Normal_i_Normal_ c a0) (fun c => by kernel_rfl) h
def bi_UltraSummit (call : Oracle) (a0 : Int × Int × List (List Int)) : Option (List TV) :=
  (call ii_SuperSummit [tPIPILA8 a0]).bind fun o1 =>
  bif ((gI o1 1) != 0) then
    some [tLPIPILA8 [], tI (gI o1 1)]
  else
    (call ig_DeleteFunc___i_Normal_i_Normal_ [tLPIPILA8 (gLPIPILA8 o1 0)]).bind fun o2 =>
    some [tLPIPILA8 (gLPIPILA8 o2 0), tI 0]
theorem vi_UltraSummit (a0 : Int × Int × List (List Int)) (h : bi_UltraSummit R a0 = some o) : R ii_UltraSummit [tPIPILA8 a0] = some o := go_ (b := fun c => bi_UltraSummit c a0) (fun c => by kernel_rfl) h
def bs_UltraSummit_6 (call : Oracle) (x0 : List (Int × Int × List (List Int))) (x1 : List (Int × Int × List (List Int))) (x2 : Int) : Option (List TV) :=
  bif decide (x2 < ((List.length x0 : Nat) : Int)) then
    bif (decide (0 ≤ x2) && decide (x2 < ((List.length x0 : Nat) : Int))) then
      (call is_l04Cycle [tPIPILA8 (List.getD x0 (Int.toNat x2) (0, (0, [])))]).bind fun o9 =>
      (call is_UltraSummit_10 [tLPIPILA8 x0, tLPIPILA8 x1, tI ((gPIPILA8 o9 0).1), tI (((gPIPILA8 o9 0).2).1), tLA8 (((gPIPILA8 o9 0).2).2), tI x2, tI 0]).bind fun o10 =>
      bif (decide (0 ≤ (gI o10 6)) && decide ((gI o10 6) < ((List.length (gLPIPILA8 o10 1) : Nat) : Int))) then
        (call is_l03Like [tPIPILA8 ((gI o10 3), ((gI o10 4), (gLA8 o10 5))), tPIPILA8 (List.getD (gLPIPILA8 o10 1) (Int.toNat (gI o10 6)) (0, (0, [])))]).bind fun o11 =>
        bif (gB o11 0) then
          bif (decide (0 ≤ (gI o10 6)) && decide ((gI o10 6) < ((List.length (gLPIPILA8 o10 1) : Nat) : Int))) then
            bif (apOk (gLPIPILA8 o10 2) [(List.getD (gLPIPILA8 o10 1) (Int.toNat (gI o10 6)) (0, (0, [])))]) then
              call is_UltraSummit_6 [tLPIPILA8 (gLPIPILA8 o10 1), tLPIPILA8 ((gLPIPILA8 o10 2) ++ [(List.getD (gLPIPILA8 o10 1) (Int.toNat (gI o10 6)) (0, (0, [])))]), tI (wi64 ((gI o10 6) + 1))]
            else none
          else none
        else
          call is_UltraSummit_6 [tLPIPILA8 (gLPIPILA8 o10 1), tLPIPILA8 (gLPIPILA8 o10 2), tI (wi64 ((gI o10 6) + 1))]
      else none
    else none
  else
    some [tI 0, tLPIPILA8 x1]
theorem vs_UltraSummit_6 (x0 : List (Int × Int × List (List Int))) (x1 : List (Int × Int × List (List Int))) (x2 : Int) (h : bs_UltraSummit_6 R x0 x1 x2 = some o) : R is_UltraSummit_6 [tLPIPILA8 x0, tLPIPILA8 x1, tI x2] = some o := go_ (b := fun c => bs_UltraSummit_6 c x0 x1 x2) (fun c => by kernel_rfl) h
def bs_UltraSummit_10 (call : Oracle) (x0 : List (Int × Int × List (List Int))) (x1 : List (Int × Int × List (List Int))) (x2 x3 : Int) (x4 : List (List Int)) (x5 x6 : Int) : Option (List TV) :=
  bif decide (x6 < ((List.length x0 : Nat) : Int)) then
    bif (decide (0 ≤ x5) && decide (x5 < ((List.length x0 : Nat) : Int))) then
      (call is_l03Like [tPIPILA8 (x2, (x3, x4)), tPIPILA8 (List.getD x0 (Int.toNat x5) (0, (0, [])))]).bind fun o5 =>
      bif (!(gB o5 0)) then
        (call is_l04Cycle [tPIPILA8 (x2, (x3, x4))]).bind fun o6 =>
        call is_UltraSummit_10 [tLPIPILA8 x0, tLPIPILA8 x1, tI ((gPIPILA8 o6 0).1), tI (((gPIPILA8 o6 0).2).1), tLA8 (((gPIPILA8 o6 0).2).2), tI x5, tI (wi64 (x6 + 1))]
      else
        some [tI 0, tLPIPILA8 x0, tLPIPILA8 x1, tI x2, tI x3, tLA8 x4, tI x5]
    else none
  else
    some [tI 0, tLPIPILA8 x0, tLPIPILA8 x1, tI x2, tI x3, tLA8 x4, tI x5]
theorem vs_UltraSummit_10 (x0 : List (Int × Int × List (List Int))) (x1 : List (Int × Int × List (List Int))) (x2 x3 : Int) (x4 : List (List Int)) (x5 x6 : Int) (h : bs_UltraSummit_10 R x0 x1 x2 x3 x4 x5 x6 = some o) : R is_UltraSummit_10 [tLPIPILA8 x0, tLPIPILA8 x1, tI x2, tI x3, tLA8 x4, tI x5, tI x6] = some o := go_ (b := fun c => bs_UltraSummit_10 c x0 x1 x2 x3 x4 x5 x6) (fun c => by kernel_rfl) h
def bs_UltraSummit (call : Oracle) (a0 : Int × Int × List (List Int)) : Option (List TV) :=
  (call is_SuperSummit [tPIPILA8 a0]).bind fun o1 =>
  bif ((gI o1 1) != 0) then
    some [tLPIPILA8 [], tI (gI o1 1)]
  else
    (call is_UltraSummit_6 [tLPIPILA8 (gLPIPILA8 o1 0), tLPIPILA8 [], tI 0]).bind fun o12 =>
    some [tLPIPILA8 (gLPIPILA8 o12 1), tI 0]
theorem vs_UltraSummit (a0 : Int × Int × List (List Int)) (h : bs_UltraSummit R a0 = some o) : R is_UltraSummit [tPIPILA8 a0] = some o := go_ (b := fun c => bs_UltraSummit c a0) (fun c => by kernel_rfl) h
def bs_l04Pair (call : Oracle) (a0 : List Int) : Option (List TV) :=
  (call is_l01From [tLU8 a0]).bind fun o1 =>
  (call is_l04Draw [tPLU8PIU64 (gPLU8PIU64 o1 0)]).bind fun o2 =>
  (call is_l03Is [tPIPILA8 (gPIPILA8 o2 0)]).bind fun o3 =>
  bif (!(gB o3 0)) then
    (call is_l04Draw [tPLU8PIU64 (gPLU8PIU64 o2 1)]).bind fun o4 =>
    some [tPIPILA8 (gPIPILA8 o2 0), tPIPILA8 (gPIPILA8 o4 0)]
  else
    (call is_l01Next [tPLU8PIU64 (gPLU8PIU64 o2 1), tI 16]).bind fun o5 =>
    bif ((gI o5 0) == 0) then
      (call is_l04Draw [tPLU8PIU64 (gPLU8PIU64 o5 1)]).bind fun o6 =>
      some [tPIPILA8 (gPIPILA8 o2 0), tPIPILA8 (gPIPILA8 o6 0)]
    else
      (call is_l01Draw [tPLU8PIU64 (gPLU8PIU64 o5 1), tI ((gPIPILA8 o2 0).1), tI 4]).bind fun o7 =>
      (call is_l03Of [tI ((gPIPILA8 o2 0).1), tLI (gLI o7 0)]).bind fun o8 =>
      (call is_l01Next [tPLU8PIU64 (gPLU8PIU64 o7 1), tI 2]).bind fun o9 =>
      bif ((gI o9 0) == 0) then
        (call is_l03Inverse [tPIPILA8 (gPIPILA8 o8 0)]).bind fun o10 =>
        (call is_l03Product [tPIPILA8 (gPIPILA8 o10 0), tPIPILA8 (gPIPILA8 o2 0)]).bind fun o11 =>
        (call is_l03Product [tPIPILA8 (gPIPILA8 o11 0), tPIPILA8 (gPIPILA8 o8 0)]).bind fun o12 =>
        some [tPIPILA8 (gPIPILA8 o2 0), tPIPILA8 (gPIPILA8 o12 0)]
      else
        (call is_l01Draw [tPLU8PIU64 (gPLU8PIU64 o9 1), tI ((gPIPILA8 o2 0).1), tI 7]).bind fun o13 =>
        (call is_l03Of [tI ((gPIPILA8 o2 0).1), tLI (gLI o13 0)]).bind fun o14 =>
        some [tPIPILA8 (gPIPILA8 o2 0), tPIPILA8 (gPIPILA8 o14 0)]
theorem vs_l04Pair (a0 : List Int) (h : bs_l04Pair R a0 = some o) : R is_l04Pair [tLU8 a0] = some o := go_ (b := fun c => bs_l04Pair c a0) (fun c => by kernel_rfl) h
def bs_DrawAreConjugate (call : Oracle) (a0 : List Int) : Option (List TV) :=
  (call is_l04Pair [tLU8 a0]).bind fun o1 =>
  some [tPIPILA8 (gPIPILA8 o1 0), tPIPILA8 (gPIPILA8 o1 1)]
theorem vs_DrawAreConjugate (a0 : List Int) (h : bs_DrawAreConjugate R a0 = some o) : R is_DrawAreConjugate [tLU8 a0] = some o := go_ (b := fun c => bs_DrawAreConjugate c a0) (fun c => by kernel_rfl) h
def bi_areSameCount (call : Oracle) (a0 a1 : Int × Int × List (List Int)) : Option (List TV) :=
  (call ii_IsNormal [tPIPILA8 a0]).bind fun o1 =>
  bif (!(gB o1 0)) then
    some [tI 1]
  else
    (call ii_IsNormal [tPIPILA8 a1]).bind fun o2 =>
    bif (!(gB o2 0)) then
      some [tI 1]
    else
      bif (a0.1 != a1.1) then
        some [tI 2]
      else
        some [tI 0]
theorem vi_areSameCount (a0 a1 : Int × Int × List (List Int)) (h : bi_areSameCount R a0 a1 = some o) : R ii_areSameCount [tPIPILA8 a0, tPIPILA8 a1] = some o := go_ (b := fun c => bi_areSameCount c a0 a1) (fun c => by kernel_rfl) h
def bi_AreConjugateK1 (call : Oracle) (a0 a1 : Int × Int × List (List Int)) : Option (List TV) :=
  (call ii_sameNormal [tPIPILA8 a0, tPIPILA8 a1]).bind fun o1 =>
  some [tB (gB o1 0)]
theorem vi_AreConjugateK1 (a0 a1 : Int × Int × List (List Int)) (h : bi_AreConjugateK1 R a0 a1 = some o) : R ii_AreConjugateK1 [tPIPILA8 a0, tPIPILA8 a1] = some o := go_ (b := fun c => bi_AreConjugateK1 c a0 a1) (fun c => by kernel_rfl) h
def bg_IndexFunc___i_Normal_i_Normal__v4_2 (call : Oracle) (x0 : List (Int × Int × List (List Int))) (x1 x2 : Int) (x3 : List (List Int)) (x4 x5 : Int) : Option (List TV) :=
  bif decide (x5 < x4) then
    bif (decide (0 ≤ x5) && decide (x5 < ((List.length x0 : Nat) : Int))) then
      (call ii_AreConjugateK1 [tPIPILA8 (List.getD x0 (Int.toNat x5) (0, (0, []))), tPIPILA8 (x1, (x2, x3))]).bind fun o2 =>
      bif (gB o2 0) then
        some [tI 1, tI x5]
      else
        call ig_IndexFunc___i_Normal_i_Normal__v4_2 [tLPIPILA8 x0, tI x1, tI x2, tLA8 x3, tI x4, tI (wi64 (x5 + 1))]
    else none
  else
    some [tI 0]
theorem vg_IndexFunc___i_Normal_i_Normal__v4_2 (x0 : List (Int × Int × List (List Int))) (x1 x2 : Int) (x3 : List (List Int)) (x4 x5 : Int) (h : bg_IndexFunc___i_Normal_i_Normal__v4_2 R x0 x1 x2 x3 x4 x5 = some o) : R ig_IndexFunc___i_Normal_i_Normal__v4_2 [tLPIPILA8 x0, tI x1, tI x2, tLA8 x3, tI x4, tI x5] = some o := go_ (b := fun c => bg_IndexFunc___i_Normal_i_Normal__v4_2 c x0 x1 x2 x3 x4 x5) (fun c => by kernel_rfl) h
def bg_IndexFunc___i_Normal_i_Normal__v4 (call : Oracle) (a0 : List (Int × Int × List (List Int))) (a1 : Int × Int × List (List Int)) : Option (List TV) :=
  (call ig_IndexFunc___i_Normal_i_Normal__v4_2 [tLPIPILA8 a0, tI a1.1, tI a1.2.1, tLA8 a1.2.2, tI ((List.length a0 : Nat) : Int), tI 0]).bind fun o3 =>
  bif ((gI o3 0) == 0) then
    some [tI (-1)]
  else
    some [tI (gI o3 1)]
theorem vg_IndexFunc___i_Normal_i_Normal__v4 (a0 : List (Int × Int × List (List Int))) (a1 : Int × Int × List (List Int)) (h : bg_IndexFunc___i_Normal_i_Normal__v4 R a0 a1 = some o) : R ig_IndexFunc___i_Normal_i_Normal__v4 [tLPIPILA8 a0, tPIPILA8 a1] = some o := go_ (b := fun c => bg_IndexFunc___i_Normal_i_Normal__v4 c a0 a1) (fun c => by kernel_rfl) h
def bg_ContainsFunc___i_Normal_i_Normal__v3 (call : Oracle) (a0 : List (Int × Int × List (List Int))) (a1 : Int × Int × List (List Int)) : Option (List TV) :=
  (call ig_IndexFunc___i_Normal_i_Normal__v4 [tLPIPILA8 a0, tPIPILA8 a1]).bind fun o1 =>
  some [tB (decide (0 ≤ (gI o1 0)))]
theorem vg_ContainsFunc___i_Normal_i_Normal__v3 (a0 : List (Int × Int × List (List Int))) (a1 : Int × Int × List (List Int)) (h : bg_ContainsFunc___i_Normal_i_Normal__v3 R a0 a1 = some o) : R ig_ContainsFunc___i_Normal_i_Normal__v3 [tLPIPILA8 a0, tPIPILA8 a1] = some o := go_ (b := fun c => bg_ContainsFunc___i_Normal_i_Normal__v3 c a0 a1) (fun c => by kernel_rfl) h
def bi_AreConjugate (call : Oracle) (a0 a1 : Int × Int × List (List Int)) : Option (List TV) :=
  (call ii_areSameCount [tPIPILA8 a0, tPIPILA8 a1]).bind fun o1 =>
  bif ((gI o1 0) != 0) then
    some [tB false, tI (gI o1 0)]
  else
    bif decide (4 < a0.1) then
      some [tB false, tI 2]
    else
      (call ii_summit [tPIPILA8 a0]).bind fun o2 =>
      (call ii_summit [tPIPILA8 a1]).bind fun o3 =>
      bif (((gPIPILA8 o2 0).2).1 != ((gPIPILA8 o3 0).2).1) then
        some [tB false, tI 0]
      else
        bif (((List.length (((gPIPILA8 o2 0).2).2) : Nat) : Int) != ((List.length (((gPIPILA8 o3 0).2).2) : Nat) : Int)) then
          some [tB false, tI 0]
        else
          (call ii_superSummit [tPIPILA8 a0]).bind fun o4 =>
          bif (!(gB o4 1)) then
            some [tB false, tI 3]
          else
            (call ig_ContainsFunc___i_Normal_i_Normal__v3 [tLPIPILA8 (gLPIPILA8 o4 0), tPIPILA8 (gPIPILA8 o3 0)]).bind fun o5 =>
            some [tB (gB o5 0), tI 0]
theorem vi_AreConjugate (a0 a1 : Int × Int × List (List Int)) (h : bi_AreConjugate R a0 a1 = some o) : R ii_AreConjugate [tPIPILA8 a0, tPIPILA8 a1] = some o := go_ (b := fun c => bi_AreConjugate c a0 a1) (fun c => by kernel_rfl) h
def bs_l03Both (call : Oracle) (a0 a1 : Int × Int × List (List Int)) : Option (List TV) :=
  (call is_l03Is [tPIPILA8 a0]).bind fun o1 =>
  bif (!(gB o1 0)) then
    some [tI 1]
  else
    (call is_l03Is [tPIPILA8 a1]).bind fun o2 =>
    bif (!(gB o2 0)) then
      some [tI 1]
    else
      bif (a0.1 != a1.1) then
        some [tI 2]
      else
        some [tI 0]
theorem vs_l03Both (a0 a1 : Int × Int × List (List Int)) (h : bs_l03Both R a0 a1 = some o) : R is_l03Both [tPIPILA8 a0, tPIPILA8 a1] = some o := go_ (b := fun c => bs_l03Both c a0 a1) (fun c => by kernel_rfl) h
def bs_AreConjugate (call : Oracle) (a0 a1 : Int × Int × List (List Int)) : Option (List TV) :=
  (call is_l03Both [tPIPILA8 a0, tPIPILA8 a1]).bind fun o1 =>
  bif ((gI o1 0) == 0) then
    bif decide (4 < a0.1) then
      some [tB false, tI 2]
    else
      bif ((gI o1 0) != 0) then
        some [tB false, tI (gI o1 0)]
      else
        (call is_l04Summit [tPIPILA8 a0]).bind fun o2 =>
        (call is_l04Summit [tPIPILA8 a1]).bind fun o3 =>
        bif (((gPIPILA8 o2 0).2).1 != ((gPIPILA8 o3 0).2).1) then
          some [tB false, tI 0]
        else
          bif (((List.length (((gPIPILA8 o2 0).2).2) : Nat) : Int) != ((List.length (((gPIPILA8 o3 0).2).2) : Nat) : Int)) then
            some [tB false, tI 0]
          else
            (call is_l04Set [tPIPILA8 a0]).bind fun o4 =>
            bif (!(gB o4 1)) then
              some [tB false, tI 3]
            else
              (call is_l04Insert [tLPIPILA8 (gLPIPILA8 o4 0), tPIPILA8 (gPIPILA8 o3 0)]).bind fun o5 =>
              some [tB (!(gB o5 1)), tI 0]
  else
    bif ((gI o1 0) != 0) then
      some [tB false, tI (gI o1 0)]
    else
      (call is_l04Summit [tPIPILA8 a0]).bind fun o6 =>
      (call is_l04Summit [tPIPILA8 a1]).bind fun o7 =>
      bif (((gPIPILA8 o6 0).2).1 != ((gPIPILA8 o7 0).2).1) then
        some [tB false, tI 0]
      else
        bif (((List.length (((gPIPILA8 o6 0).2).2) : Nat) : Int) != ((List.length (((gPIPILA8 o7 0).2).2) : Nat) : Int)) then
          some [tB false, tI 0]
        else
          (call is_l04Set [tPIPILA8 a0]).bind fun o8 =>
          bif (!(gB o8 1)) then
            some [tB false, tI 3]
          else
            (call is_l04Insert [tLPIPILA8 (gLPIPILA8 o8 0), tPIPILA8 (gPIPILA8 o7 0)]).bind fun o9 =>
            some [tB (!(gB o9 1)), tI 0]
theorem vs_AreConjugate (a0 a1 : Int × Int × List (List Int)) (h : bs_AreConjugate R a0 a1 = some o) : R is_AreConjugate [tPIPILA8 a0, tPIPILA8 a1] = some o := go_ (b := fun c => bs_AreConjugate c a0 a1) (fun c => by kernel_rfl) h
def bw_roll_3 (call : Oracle) (x0 : List Int) (x1 x2 x3 : Int) : Option (List TV) :=
  bif decide (x3 < ((List.length x0 : Nat) : Int)) then
    bif (decide (0 ≤ x3) && decide (x3 < ((List.length x0 : Nat) : Int))) then
      call iw_roll_3 [tLU8 x0, tI x1, tU64 (wu64 ((wu64 ((wu64 (x2 * 1099511628211)) + (wu64 ((List.getD x0 (Int.toNat x3) 0))))) + 5)), tI (wi64 (x3 + 1))]
    else none
  else
    some [tI 0, tI x1, tU64 x2, tLU8 x0]
theorem vw_roll_3 (x0 : List Int) (x1 x2 x3 : Int) (h : bw_roll_3 R x0 x1 x2 x3 = some o) : R iw_roll_3 [tLU8 x0, tI x1, tU64 x2, tI x3] = some o := go_ (b := fun c => bw_roll_3 c x0 x1 x2 x3) (fun c => by kernel_rfl) h
def bw_roll (call : Oracle) (a0 : List Int) (a1 : Int) : Option (List TV) :=
  (call iw_roll_3 [tLU8 a0, tI 0, tU64 (wu64 ((wu64 (a1 * 7919)) + (wu64 (((List.length a0 : Nat) : Int))))), tI 0]).bind fun o1 =>
  some [tPLU8PIU64 ((gLU8 o1 3), ((gI o1 1), (gU64 o1 2)))]
theorem vw_roll (a0 : List Int) (a1 : Int) (h : bw_roll R a0 a1 = some o) : R iw_roll [tLU8 a0, tU64 a1] = some o := go_ (b := fun c => bw_roll c a0 a1) (fun c => by kernel_rfl) h
def b__w_dice__below (call : Oracle) (a0 : List Int × Int × Int) (a1 : Int) : Option (List TV) :=
  bif decide (a1 < 1) then
    some [tI 0, tPLU8PIU64 a0]
  else
    bif decide (a0.2.1 < ((List.length a0.1 : Nat) : Int)) then
      bif (decide (0 ≤ a0.2.1) && decide (a0.2.1 < ((List.length a0.1 : Nat) : Int))) then
        bif (a1 != 0) then
          some [tI (Int.tmod (wi64 ((wi64 ((bitsAnd .u64 (shr .u64 (wu64 ((wu64 (a0.2.2 * 6364136223846793005)) + 1442695040888963407)) 33) 16777215))) + (wi64 ((List.getD a0.1 (Int.toNat a0.2.1) 0))))) a1), tPLU8PIU64 (a0.1, ((wi64 (a0.2.1 + 1)), (wu64 ((wu64 (a0.2.2 * 6364136223846793005)) + 1442695040888963407))))]
        else none
      else none
    else
      bif (a1 != 0) then
        some [tI (Int.tmod (wi64 ((bitsAnd .u64 (shr .u64 (wu64 ((wu64 (a0.2.2 * 6364136223846793005)) + 1442695040888963407)) 33) 16777215))) a1), tPLU8PIU64 (a0.1, (a0.2.1, (wu64 ((wu64 (a0.2.2 * 6364136223846793005)) + 1442695040888963407))))]
      else none
theorem v__w_dice__below (a0 : List Int × Int × Int) (a1 : Int) (h : b__w_dice__below R a0 a1 = some o) : R i__w_dice__below [tPLU8PIU64 a0, tI a1] = some o := go_ (b := fun c => b__w_dice__below c a0 a1) (fun c => by kernel_rfl) h
def bw_letters9_2 (call : Oracle) (x0 x1 : Int) (x2 x3 : List Int) (x4 x5 : Int) : Option (List TV) :=
  bif decide (0 < x5) then
    bif decide (1 < x4) then
      (call i__w_dice__below [tPLU8PIU64 (x2, (x0, x1)), tI (wi64 (x4 - 1))]).bind fun o3 =>
      (call i__w_dice__below [tPLU8PIU64 (gPLU8PIU64 o3 1), tI 2]).bind fun o4 =>
      bif (apOk x3 [(wi64 ((wi64 (1 + (gI o3 0))) * (wi64 (1 - (wi64 (2 * (gI o4 0)))))))]) then
        call iw_letters9_2 [tI (((gPLU8PIU64 o4 1).2).1), tU64 (((gPLU8PIU64 o4 1).2).2), tLU8 ((gPLU8PIU64 o4 1).1), tLI (x3 ++ [(wi64 ((wi64 (1 + (gI o3 0))) * (wi64 (1 - (wi64 (2 * (gI o4 0)))))))]), tI x4, tI (wi64 (x5 - 1))]
      else none
    else
      some [tI 0, tI x0, tU64 x1, tLU8 x2, tLI x3]
  else
    some [tI 0, tI x0, tU64 x1, tLU8 x2, tLI x3]
theorem vw_letters9_2 (x0 x1 : Int) (x2 x3 : List Int) (x4 x5 : Int) (h : bw_letters9_2 R x0 x1 x2 x3 x4 x5 = some o) : R iw_letters9_2 [tI x0, tU64 x1, tLU8 x2, tLI x3, tI x4, tI x5] = some o := go_ (b := fun c => bw_letters9_2 c x0 x1 x2 x3 x4 x5) (fun c => by kernel_rfl) h
def bw_letters9 (call : Oracle) (a0 : List Int × Int × Int) (a1 a2 : Int) : Option (List TV) :=
  (call iw_letters9_2 [tI a0.2.1, tU64 a0.2.2, tLU8 a0.1, tLI [], tI a1, tI a2]).bind fun o5 =>
  some [tLI (gLI o5 4), tPLU8PIU64 ((gLU8 o5 3), ((gI o5 1), (gU64 o5 2)))]
theorem vw_letters9 (a0 : List Int × Int × Int) (a1 a2 : Int) (h : bw_letters9 R a0 a1 a2 = some o) : R iw_letters9 [tPLU8PIU64 a0, tI a1, tI a2] = some o := go_ (b := fun c => bw_letters9 c a0 a1 a2) (fun c => by kernel_rfl) h
def bi_isLetter (call : Oracle) (a0 a1 : Int) : Option (List TV) :=
  bif (a0 != 0) then
    (call ii_within [tI a0, tI (wi64 (1 - a1)), tI (wi64 (a1 - 1))]).bind fun o1 =>
    some [tB (gB o1 0)]
  else
    some [tB false]
theorem vi_isLetter (a0 a1 : Int) (h : bi_isLetter R a0 a1 = some o) : R ii_isLetter [tI a0, tI a1] = some o := go_ (b := fun c => bi_isLetter c a0 a1) (fun c => by kernel_rfl) h
def bi_IsBraid_4 (call : Oracle) (x0 : Int) (x1 : List Int) (x2 x3 : Int) : Option (List TV) :=
  bif decide (x3 < x2) then
    bif (decide (0 ≤ x3) && decide (x3 < ((List.length x1 : Nat) : Int))) then
      (call ii_isLetter [tI (List.getD x1 (Int.toNat x3) 0), tI x0]).bind fun o3 =>
      bif (!(gB o3 0)) then
        some [tI 1, tB false]
      else
        call ii_IsBraid_4 [tI x0, tLI x1, tI x2, tI (wi64 (x3 + 1))]
    else none
  else
    some [tI 0]
theorem vi_IsBraid_4 (x0 : Int) (x1 : List Int) (x2 x3 : Int) (h : bi_IsBraid_4 R x0 x1 x2 x3 = some o) : R ii_IsBraid_4 [tI x0, tLI x1, tI x2, tI x3] = some o := go_ (b := fun c => bi_IsBraid_4 c x0 x1 x2 x3) (fun c => by kernel_rfl) h
def bi_IsBraid (call : Oracle) (a0 : Int × List Int) : Option (List TV) :=
  (call ii_isCount [tI a0.1]).bind fun o1 =>
  bif (!(gB o1 0)) then
    some [tB false]
  else
    bif decide (200 < ((List.length a0.2 : Nat) : Int)) then
      some [tB false]
    else
      (call ii_IsBraid_4 [tI a0.1, tLI a0.2, tI ((List.length a0.2 : Nat) : Int), tI 0]).bind fun o4 =>
      bif ((gI o4 0) == 0) then
        some [tB true]
      else
        some [tB (gB o4 1)]
theorem vi_IsBraid (a0 : Int × List Int) (h : bi_IsBraid R a0 = some o) : R ii_IsBraid [tPILI a0] = some o := go_ (b := fun c => bi_IsBraid c a0) (fun c => by kernel_rfl) h
def bi_normalOf_3 (call : Oracle) (x0 : Int) (x1 : List Int) (x2 x3 : Int) (x4 : List (List Int)) (x5 x6 : Int) (x7 : List (List Int)) (x8 x9 : Int) : Option (List TV) :=
  bif decide (x9 < x8) then
    bif (decide (0 ≤ x9) && decide (x9 < ((List.length x1 : Nat) : Int))) then
      bif decide (0 < (List.getD x1 (Int.toNat x9) 0)) then
        (call ii_exchange [tI (List.getD x1 (Int.toNat x9) 0), tI x0]).bind fun o5 =>
        (call i__i_Normal__put [tPIPILA8 (x5, (x6, x7)), tA8 (gA8 o5 0)]).bind fun o6 =>
        call ii_normalOf_3 [tI x0, tLI x1, tI x2, tI x3, tLA8 x4, tI ((gPIPILA8 o6 0).1), tI (((gPIPILA8 o6 0).2).1), tLA8 (((gPIPILA8 o6 0).2).2), tI x8, tI (wi64 (x9 + 1))]
      else
        (call ii_exchange [tI (wi64 (0 - (List.getD x1 (Int.toNat x9) 0))), tI x0]).bind fun o7 =>
        (call i__i_Normal__putInverse [tPIPILA8 (x5, (x6, x7)), tA8 (gA8 o7 0)]).bind fun o8 =>
        call ii_normalOf_3 [tI x0, tLI x1, tI x2, tI x3, tLA8 x4, tI ((gPIPILA8 o8 0).1), tI (((gPIPILA8 o8 0).2).1), tLA8 (((gPIPILA8 o8 0).2).2), tI x8, tI (wi64 (x9 + 1))]
    else none
  else
    some [tI 0, tI x2, tI x3, tLA8 x4, tI x5, tI x6, tLA8 x7]
theorem vi_normalOf_3 (x0 : Int) (x1 : List Int) (x2 x3 : Int) (x4 : List (List Int)) (x5 x6 : Int) (x7 : List (List Int)) (x8 x9 : Int) (h : bi_normalOf_3 R x0 x1 x2 x3 x4 x5 x6 x7 x8 x9 = some o) : R ii_normalOf_3 [tI x0, tLI x1, tI x2, tI x3, tLA8 x4, tI x5, tI x6, tLA8 x7, tI x8, tI x9] = some o := go_ (b := fun c => bi_normalOf_3 c x0 x1 x2 x3 x4 x5 x6 x7 x8 x9) (fun c => by kernel_rfl) h
def bi_normalOf (call : Oracle) (a0 : Int × List Int) : Option (List TV) :=
  (call ii_normalOf_3 [tI a0.1, tLI a0.2, tI 0, tI 0, tLA8 [], tI a0.1, tI 0, tLA8 [], tI ((List.length a0.2 : Nat) : Int), tI 0]).bind fun o9 =>
  some [tPIPILA8 ((gI o9 4), ((gI o9 5), (gLA8 o9 6)))]
theorem vi_normalOf (a0 : Int × List Int) (h : bi_normalOf R a0 = some o) : R ii_normalOf [tPILI a0] = some o := go_ (b := fun c => bi_normalOf c a0) (fun c => by kernel_rfl) h
def bi_NormalOf (call : Oracle) (a0 : Int × List Int) : Option (List TV) :=
  (call ii_IsBraid [tPILI a0]).bind fun o1 =>
  bif (!(gB o1 0)) then
    some [tPIPILA8 (0, (0, [])), tI 1]
  else
    (call ii_normalOf [tPILI a0]).bind fun o2 =>
    (call ii_limited [tPIPILA8 (gPIPILA8 o2 0)]).bind fun o3 =>
    some [tPIPILA8 (gPIPILA8 o3 0), tI (gI o3 1)]
theorem vi_NormalOf (a0 : Int × List Int) (h : bi_NormalOf R a0 = some o) : R ii_NormalOf [tPILI a0] = some o := go_ (b := fun c => bi_NormalOf c a0) (fun c => by kernel_rfl) h
def bi_inverse_3 (call : Oracle) (x0 x1 : Int) (x2 : List (List Int)) (x3 x4 : Int) (x5 : List (List Int)) (x6 x7 : Int) (x8 : List (List Int)) (x9 : Int) : Option (List TV) :=
  bif decide (0 ≤ x9) then
    bif (decide (0 ≤ x9) && decide (x9 < ((List.length x2 : Nat) : Int))) then
      (call i__i_Normal__putInverse [tPIPILA8 (x6, (x7, x8)), tA8 (List.getD x2 (Int.toNat x9) (List.replicate 8 0))]).bind fun o2 =>
      call ii_inverse_3 [tI x0, tI x1, tLA8 x2, tI x3, tI x4, tLA8 x5, tI ((gPIPILA8 o2 0).1), tI (((gPIPILA8 o2 0).2).1), tLA8 (((gPIPILA8 o2 0).2).2), tI (wi64 (x9 - 1))]
    else none
  else
    some [tI 0, tI x0, tI x1, tLA8 x2, tI x3, tI x4, tLA8 x5, tI x6, tI x7, tLA8 x8]
theorem vi_inverse_3 (x0 x1 : Int) (x2 : List (List Int)) (x3 x4 : Int) (x5 : List (List Int)) (x6 x7 : Int) (x8 : List (List Int)) (x9 : Int) (h : bi_inverse_3 R x0 x1 x2 x3 x4 x5 x6 x7 x8 x9 = some o) : R ii_inverse_3 [tI x0, tI x1, tLA8 x2, tI x3, tI x4, tLA8 x5, tI x6, tI x7, tLA8 x8, tI x9] = some o := go_ (b := fun c => bi_inverse_3 c x0 x1 x2 x3 x4 x5 x6 x7 x8 x9) (fun c => by kernel_rfl) h
def bi_inverse (call : Oracle) (a0 : Int × Int × List (List Int)) : Option (List TV) :=
  (call ii_inverse_3 [tI a0.1, tI a0.2.1, tLA8 a0.2.2, tI 0, tI 0, tLA8 [], tI a0.1, tI 0, tLA8 [], tI (wi64 (((List.length a0.2.2 : Nat) : Int) - 1))]).bind fun o3 =>
  (call i__i_Normal__turnBy [tPIPILA8 ((gI o3 7), ((gI o3 8), (gLA8 o3 9))), tI (wi64 (0 - (gI o3 2)))]).bind fun o4 =>
  some [tPIPILA8 (gPIPILA8 o4 0)]
theorem vi_inverse (a0 : Int × Int × List (List Int)) (h : bi_inverse R a0 = some o) : R ii_inverse [tPIPILA8 a0] = some o := go_ (b := fun c => bi_inverse c a0) (fun c => by kernel_rfl) h
def bi_ConjugateBy (call : Oracle) (a0 a1 : Int × Int × List (List Int)) : Option (List TV) :=
  (call ii_areSameCount [tPIPILA8 a0, tPIPILA8 a1]).bind fun o1 =>
  bif ((gI o1 0) != 0) then
    some [tPIPILA8 (0, (0, [])), tI (gI o1 0)]
  else
    (call ii_inverse [tPIPILA8 a1]).bind fun o2 =>
    (call ii_product [tPIPILA8 (gPIPILA8 o2 0), tPIPILA8 a0]).bind fun o3 =>
    (call ii_limited [tPIPILA8 (gPIPILA8 o3 0)]).bind fun o4 =>
    bif ((gI o4 1) != 0) then
      some [tPIPILA8 (0, (0, [])), tI (gI o4 1)]
    else
      (call ii_product [tPIPILA8 (gPIPILA8 o4 0), tPIPILA8 a1]).bind fun o5 =>
      (call ii_limited [tPIPILA8 (gPIPILA8 o5 0)]).bind fun o6 =>
      some [tPIPILA8 (gPIPILA8 o6 0), tI (gI o6 1)]
theorem vi_ConjugateBy (a0 a1 : Int × Int × List (List Int)) (h : bi_ConjugateBy R a0 a1 = some o) : R ii_ConjugateBy [tPIPILA8 a0, tPIPILA8 a1] = some o := go_ (b := fun c => bi_ConjugateBy c a0 a1) (fun c => by kernel_rfl) h
def bw_FnSummits_41 (call : Oracle) (x0 x1 : Int) (x2 : List (List Int)) (x3 : List (Int × Int × List (List Int))) (x4 : List (Int × Int × List (List Int))) (x5 : List (Int × Int × List (List Int))) (x6 : Int) (x7 : Bool) (x8 : Int) : Option (List TV) :=
  bif decide (x8 < ((List.length x3 : Nat) : Int)) then
    bif x7 then
      call iw_FnSummits_41 [tI x0, tI x1, tLA8 x2, tLPIPILA8 x3, tLPIPILA8 x4, tLPIPILA8 x5, tI x6, tB true, tI (wi64 (x8 + 1))]
    else
      bif (decide (0 ≤ x8) && decide (x8 < ((List.length x3 : Nat) : Int))) then
        (call iw_normal9 [tPIPILA8 (List.getD x3 (Int.toNat x8) (0, (0, []))), tPIPILA8 (x0, (x1, x2))]).bind fun o26 =>
        call iw_FnSummits_41 [tI x0, tI x1, tLA8 x2, tLPIPILA8 x3, tLPIPILA8 x4, tLPIPILA8 x5, tI x6, tB (gB o26 0), tI (wi64 (x8 + 1))]
      else none
  else
    some [tI 0, tLPIPILA8 x3, tLPIPILA8 x4, tLPIPILA8 x5, tI x6, tB x7]
theorem vw_FnSummits_41 (x0 x1 : Int) (x2 : List (List Int)) (x3 : List (Int × Int × List (List Int))) (x4 : List (Int × Int × List (List Int))) (x5 : List (Int × Int × List (List Int))) (x6 : Int) (x7 : Bool) (x8 : Int) (h : bw_FnSummits_41 R x0 x1 x2 x3 x4 x5 x6 x7 x8 = some o) : R iw_FnSummits_41 [tI x0, tI x1, tLA8 x2, tLPIPILA8 x3, tLPIPILA8 x4, tLPIPILA8 x5, tI x6, tB x7, tI x8] = some o := go_ (b := fun c => bw_FnSummits_41 c x0 x1 x2 x3 x4 x5 x6 x7 x8) (fun c => by kernel_rfl) h
end
end Go.Ev.YtfkpbhbghbhmgaaGreat
