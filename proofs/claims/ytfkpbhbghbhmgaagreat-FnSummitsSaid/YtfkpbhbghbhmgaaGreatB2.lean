/- Bodies, part 2. -/
import Derived.KernelRfl
import Derived.Test.YtfkpbhbghbhmgaaGreatEnv
set_option linter.unusedVariables false
namespace Go.Ev.YtfkpbhbghbhmgaaGreat
open Go.Ev
noncomputable section
variable {o : List TV}
def bs_l04Summit_11 (call : Oracle) (x0 x1 : Int) (x2 : List (List Int)) (x3 x4 : Int) (x5 : List (List Int)) (x6 x7 : Int) (x8 : List (List Int)) (x9 : Int) (x10 : Bool) (x11 : Int) : Option (List TV) :=
  bif decide (0 < x11) then
    bif (!x10) then
      (call is_l04Decycle [tPIPILA8 (x6, (x7, x8))]).bind fun o5 =>
      call is_l04Summit_11 [tI x0, tI x1, tLA8 x2, tI x3, tI x4, tLA8 x5, tI ((gPIPILA8 o5 0).1), tI (((gPIPILA8 o5 0).2).1), tLA8 (((gPIPILA8 o5 0).2).2), tI x9, tB (decide ((wi64 ((((gPIPILA8 o5 0).2).1) + ((List.length (((gPIPILA8 o5 0).2).2) : Nat) : Int))) < (wi64 (x1 + ((List.length x2 : Nat) : Int))))), tI (wi64 (x11 - 1))]
    else
      some [tI 0, tI x0, tI x1, tLA8 x2, tI x3, tI x4, tLA8 x5, tI x6, tI x7, tLA8 x8, tI x9, tB x10]
  else
    some [tI 0, tI x0, tI x1, tLA8 x2, tI x3, tI x4, tLA8 x5, tI x6, tI x7, tLA8 x8, tI x9, tB x10]
theorem vs_l04Summit_11 (x0 x1 : Int) (x2 : List (List Int)) (x3 x4 : Int) (x5 : List (List Int)) (x6 x7 : Int) (x8 : List (List Int)) (x9 : Int) (x10 : Bool) (x11 : Int) (h : bs_l04Summit_11 R x0 x1 x2 x3 x4 x5 x6 x7 x8 x9 x10 x11 = some o) : R is_l04Summit_11 [tI x0, tI x1, tLA8 x2, tI x3, tI x4, tLA8 x5, tI x6, tI x7, tLA8 x8, tI x9, tB x10, tI x11] = some o := go_ (b := fun c => bs_l04Summit_11 c x0 x1 x2 x3 x4 x5 x6 x7 x8 x9 x10 x11) (fun c => by kernel_rfl) h
def bs_l04Summit (call : Oracle) (a0 : Int × Int × List (List Int)) : Option (List TV) :=
  (call is_l04Summit_2 [tI a0.1, tI a0.2.1, tLA8 a0.2.2, tI 0, tI 0, tLA8 [], tI a0.1]).bind fun o11 =>
  some [tPIPILA8 ((gI o11 1), ((gI o11 2), (gLA8 o11 3)))]
theorem vs_l04Summit (a0 : Int × Int × List (List Int)) (h : bs_l04Summit R a0 = some o) : R is_l04Summit [tPIPILA8 a0] = some o := go_ (b := fun c => bs_l04Summit c a0) (fun c => by kernel_rfl) h
def bs_l03Fit (call : Oracle) (a0 : Int × Int × List (List Int)) : Option (List TV) :=
  (call is_l01In [tI a0.2.1, tI (-200), tI 200]).bind fun o1 =>
  bif (!(gB o1 0)) then
    some [tPIPILA8 (0, (0, [])), tI 3]
  else
    bif decide (200 < ((List.length a0.2.2 : Nat) : Int)) then
      some [tPIPILA8 (0, (0, [])), tI 3]
    else
      some [tPIPILA8 a0, tI 0]
theorem vs_l03Fit (a0 : Int × Int × List (List Int)) (h : bs_l03Fit R a0 = some o) : R is_l03Fit [tPIPILA8 a0] = some o := go_ (b := fun c => bs_l03Fit c a0) (fun c => by kernel_rfl) h
def bs_SummitOf (call : Oracle) (a0 : Int × Int × List (List Int)) : Option (List TV) :=
  (call is_l03Is [tPIPILA8 a0]).bind fun o1 =>
  bif (!(gB o1 0)) then
    some [tPIPILA8 (0, (0, [])), tI 1]
  else
    (call is_l04Summit [tPIPILA8 a0]).bind fun o2 =>
    (call is_l03Make [tI ((gPIPILA8 o2 0).1), tI (((gPIPILA8 o2 0).2).1), tLA8 (((gPIPILA8 o2 0).2).2)]).bind fun o3 =>
    (call is_l03Fit [tPIPILA8 (gPIPILA8 o3 0)]).bind fun o4 =>
    some [tPIPILA8 (gPIPILA8 o4 0), tI (gI o4 1)]
theorem vs_SummitOf (a0 : Int × Int × List (List Int)) (h : bs_SummitOf R a0 = some o) : R is_SummitOf [tPIPILA8 a0] = some o := go_ (b := fun c => bs_SummitOf c a0) (fun c => by kernel_rfl) h
def bw_normal9_4 (call : Oracle) (x0 x1 : Int) (x2 : List (List Int)) (x3 x4 : Int) (x5 : List (List Int)) (x6 : Int) : Option (List TV) :=
  bif decide (x6 < ((List.length x2 : Nat) : Int)) then
    bif (decide (0 ≤ x6) && decide (x6 < ((List.length x2 : Nat) : Int))) then
      bif (decide (0 ≤ x6) && decide (x6 < ((List.length x5 : Nat) : Int))) then
        bif ((List.getD x2 (Int.toNat x6) (List.replicate 8 0)) != (List.getD x5 (Int.toNat x6) (List.replicate 8 0))) then
          some [tI 1, tB false]
        else
          call iw_normal9_4 [tI x0, tI x1, tLA8 x2, tI x3, tI x4, tLA8 x5, tI (wi64 (x6 + 1))]
      else none
    else none
  else
    some [tI 0]
theorem vw_normal9_4 (x0 x1 : Int) (x2 : List (List Int)) (x3 x4 : Int) (x5 : List (List Int)) (x6 : Int) (h : bw_normal9_4 R x0 x1 x2 x3 x4 x5 x6 = some o) : R iw_normal9_4 [tI x0, tI x1, tLA8 x2, tI x3, tI x4, tLA8 x5, tI x6] = some o := go_ (b := fun c => bw_normal9_4 c x0 x1 x2 x3 x4 x5 x6) (fun c => by kernel_rfl) h
def bw_normal9 (call : Oracle) (a0 a1 : Int × Int × List (List Int)) : Option (List TV) :=
  bif (a0.1 != a1.1) then
    some [tB false]
  else
    bif (a0.2.1 != a1.2.1) then
      some [tB false]
    else
      bif (((List.length a0.2.2 : Nat) : Int) != ((List.length a1.2.2 : Nat) : Int)) then
        some [tB false]
      else
        (call iw_normal9_4 [tI a0.1, tI a0.2.1, tLA8 a0.2.2, tI a1.1, tI a1.2.1, tLA8 a1.2.2, tI 0]).bind fun o1 =>
        bif ((gI o1 0) == 0) then
          some [tB true]
        else
          some [tB (gB o1 1)]
theorem vw_normal9 (a0 a1 : Int × Int × List (List Int)) (h : bw_normal9 R a0 a1 = some o) : R iw_normal9 [tPIPILA8 a0, tPIPILA8 a1] = some o := go_ (b := fun c => bw_normal9 c a0 a1) (fun c => by kernel_rfl) h
def bi_SummitLengths (call : Oracle) (a0 : Int × Int × List (List Int)) : Option (List TV) :=
  (call ii_IsNormal [tPIPILA8 a0]).bind fun o1 =>
  bif (!(gB o1 0)) then
    some [tLI [], tI 1]
  else
    (call ii_summit [tPIPILA8 a0]).bind fun o2 =>
    some [tLI [((gPIPILA8 o2 0).2).1, ((List.length (((gPIPILA8 o2 0).2).2) : Nat) : Int)], tI 0]
theorem vi_SummitLengths (a0 : Int × Int × List (List Int)) (h : bi_SummitLengths R a0 = some o) : R ii_SummitLengths [tPIPILA8 a0] = some o := go_ (b := fun c => bi_SummitLengths c a0) (fun c => by kernel_rfl) h
def bs_SummitLengths (call : Oracle) (a0 : Int × Int × List (List Int)) : Option (List TV) :=
  (call is_l03Is [tPIPILA8 a0]).bind fun o1 =>
  bif (!(gB o1 0)) then
    some [tLI [], tI 1]
  else
    (call is_l04Summit [tPIPILA8 a0]).bind fun o2 =>
    some [tLI [((gPIPILA8 o2 0).2).1, ((List.length (((gPIPILA8 o2 0).2).2) : Nat) : Int)], tI 0]
theorem vs_SummitLengths (a0 : Int × Int × List (List Int)) (h : bs_SummitLengths R a0 = some o) : R is_SummitLengths [tPIPILA8 a0] = some o := go_ (b := fun c => bs_SummitLengths c a0) (fun c => by kernel_rfl) h
def bw_likeInts_4 (call : Oracle) (x0 x1 : List Int) (x2 : Int) : Option (List TV) :=
  bif decide (x2 < ((List.length x0 : Nat) : Int)) then
    bif (decide (0 ≤ x2) && decide (x2 < ((List.length x0 : Nat) : Int))) then
      bif (decide (0 ≤ x2) && decide (x2 < ((List.length x1 : Nat) : Int))) then
        bif ((List.getD x0 (Int.toNat x2) 0) != (List.getD x1 (Int.toNat x2) 0)) then
          some [tI 1, tB false]
        else
          call iw_likeInts_4 [tLI x0, tLI x1, tI (wi64 (x2 + 1))]
      else none
    else none
  else
    some [tI 0]
theorem vw_likeInts_4 (x0 x1 : List Int) (x2 : Int) (h : bw_likeInts_4 R x0 x1 x2 = some o) : R iw_likeInts_4 [tLI x0, tLI x1, tI x2] = some o := go_ (b := fun c => bw_likeInts_4 c x0 x1 x2) (fun c => by kernel_rfl) h
def bw_likeInts (call : Oracle) (a0 a1 : List Int) : Option (List TV) :=
  bif (((List.length a0 : Nat) : Int) != ((List.length a1 : Nat) : Int)) then
    some [tB false]
  else
    (call iw_likeInts_4 [tLI a0, tLI a1, tI 0]).bind fun o1 =>
    bif ((gI o1 0) == 0) then
      some [tB true]
    else
      some [tB (gB o1 1)]
theorem vw_likeInts (a0 a1 : List Int) (h : bw_likeInts R a0 a1 = some o) : R iw_likeInts [tLI a0, tLI a1] = some o := go_ (b := fun c => bw_likeInts c a0 a1) (fun c => by kernel_rfl) h
def bi_exchange (call : Oracle) (a0 a1 : Int) : Option (List TV) :=
  (call ii_nothing [tI a1]).bind fun o1 =>
  bif (decide (0 ≤ a0) && decide (a0 < 8)) then
    bif (decide (0 ≤ (wi64 (a0 - 1))) && decide ((wi64 (a0 - 1)) < 8)) then
      bif (decide (0 ≤ (wi64 (a0 - 1))) && decide ((wi64 (a0 - 1)) < 8)) then
        bif (decide (0 ≤ a0) && decide (a0 < 8)) then
          some [tA8 (List.set (List.set (gA8 o1 0) (Int.toNat (wi64 (a0 - 1))) (List.getD (gA8 o1 0) (Int.toNat a0) 0)) (Int.toNat a0) (List.getD (gA8 o1 0) (Int.toNat (wi64 (a0 - 1))) 0))]
        else none
      else none
    else none
  else none
theorem vi_exchange (a0 a1 : Int) (h : bi_exchange R a0 a1 = some o) : R ii_exchange [tI a0, tI a1] = some o := go_ (b := fun c => bi_exchange c a0 a1) (fun c => by kernel_rfl) h
def bg_Index___i_Simple_i_Simple__2 (call : Oracle) (x0 : List (List Int)) (x1 : List Int) (x2 x3 : Int) : Option (List TV) :=
  bif decide (x3 < x2) then
    bif (decide (0 ≤ x3) && decide (x3 < ((List.length x0 : Nat) : Int))) then
      bif (x1 == (List.getD x0 (Int.toNat x3) (List.replicate 8 0))) then
        some [tI 1, tI x3]
      else
        call ig_Index___i_Simple_i_Simple__2 [tLA8 x0, tA8 x1, tI x2, tI (wi64 (x3 + 1))]
    else none
  else
    some [tI 0]
theorem vg_Index___i_Simple_i_Simple__2 (x0 : List (List Int)) (x1 : List Int) (x2 x3 : Int) (h : bg_Index___i_Simple_i_Simple__2 R x0 x1 x2 x3 = some o) : R ig_Index___i_Simple_i_Simple__2 [tLA8 x0, tA8 x1, tI x2, tI x3] = some o := go_ (b := fun c => bg_Index___i_Simple_i_Simple__2 c x0 x1 x2 x3) (fun c => by kernel_rfl) h
def bg_Index___i_Simple_i_Simple_ (call : Oracle) (a0 : List (List Int)) (a1 : List Int) : Option (List TV) :=
  (call ig_Index___i_Simple_i_Simple__2 [tLA8 a0, tA8 a1, tI ((List.length a0 : Nat) : Int), tI 0]).bind fun o1 =>
  bif ((gI o1 0) == 0) then
    some [tI (-1)]
  else
    some [tI (gI o1 1)]
theorem vg_Index___i_Simple_i_Simple_ (a0 : List (List Int)) (a1 : List Int) (h : bg_Index___i_Simple_i_Simple_ R a0 a1 = some o) : R ig_Index___i_Simple_i_Simple_ [tLA8 a0, tA8 a1] = some o := go_ (b := fun c => bg_Index___i_Simple_i_Simple_ c a0 a1) (fun c => by kernel_rfl) h
def bg_Contains___i_Simple_i_Simple_ (call : Oracle) (a0 : List (List Int)) (a1 : List Int) : Option (List TV) :=
  (call ig_Index___i_Simple_i_Simple_ [tLA8 a0, tA8 a1]).bind fun o1 =>
  some [tB (decide (0 ≤ (gI o1 0)))]
theorem vg_Contains___i_Simple_i_Simple_ (a0 : List (List Int)) (a1 : List Int) (h : bg_Contains___i_Simple_i_Simple_ R a0 a1 = some o) : R ig_Contains___i_Simple_i_Simple_ [tLA8 a0, tA8 a1] = some o := go_ (b := fun c => bg_Contains___i_Simple_i_Simple_ c a0 a1) (fun c => by kernel_rfl) h
def bi_allSimple_3 (call : Oracle) (x0 : List (List Int)) (x1 x2 : Int) : Option (List TV) :=
  bif decide (x2 < ((List.length x0 : Nat) : Int)) then
    (call ii_allSimple_6 [tLA8 x0, tI x1, tI x2, tI 1]).bind fun o9 =>
    call ii_allSimple_3 [tLA8 (gLA8 o9 1), tI (gI o9 2), tI (wi64 ((gI o9 3) + 1))]
  else
    some [tI 0, tLA8 x0]
theorem vi_allSimple_3 (x0 : List (List Int)) (x1 x2 : Int) (h : bi_allSimple_3 R x0 x1 x2 = some o) : R ii_allSimple_3 [tLA8 x0, tI x1, tI x2] = some o := go_ (b := fun c => bi_allSimple_3 c x0 x1 x2) (fun c => by kernel_rfl) h
def bi_allSimple_6 (call : Oracle) (x0 : List (List Int)) (x1 x2 x3 : Int) : Option (List TV) :=
  bif decide (x3 < x1) then
    bif (decide (0 ≤ x2) && decide (x2 < ((List.length x0 : Nat) : Int))) then
      (call ii_exchange [tI x3, tI x1]).bind fun o5 =>
      (call ii_then [tA8 (List.getD x0 (Int.toNat x2) (List.replicate 8 0)), tA8 (gA8 o5 0), tI x1]).bind fun o6 =>
      (call ig_Contains___i_Simple_i_Simple_ [tLA8 x0, tA8 (gA8 o6 0)]).bind fun o7 =>
      bif (!(gB o7 0)) then
        bif (apOk x0 [(gA8 o6 0)]) then
          call ii_allSimple_6 [tLA8 (x0 ++ [(gA8 o6 0)]), tI x1, tI x2, tI (wi64 (x3 + 1))]
        else none
      else
        call ii_allSimple_6 [tLA8 x0, tI x1, tI x2, tI (wi64 (x3 + 1))]
    else none
  else
    some [tI 0, tLA8 x0, tI x1, tI x2]
theorem vi_allSimple_6 (x0 : List (List Int)) (x1 x2 x3 : Int) (h : bi_allSimple_6 R x0 x1 x2 x3 = some o) : R ii_allSimple_6 [tLA8 x0, tI x1, tI x2, tI x3] = some o := go_ (b := fun c => bi_allSimple_6 c x0 x1 x2 x3) (fun c => by kernel_rfl) h
def bi_allSimple (call : Oracle) (a0 : Int) : Option (List TV) :=
  (call ii_nothing [tI a0]).bind fun o1 =>
  (call ii_allSimple_3 [tLA8 [(gA8 o1 0)], tI a0, tI 0]).bind fun o10 =>
  some [tLA8 (gLA8 o10 1)]
theorem vi_allSimple (a0 : Int) (h : bi_allSimple R a0 = some o) : R ii_allSimple [tI a0] = some o := go_ (b := fun c => bi_allSimple c a0) (fun c => by kernel_rfl) h
def b__i_Normal__turnBy_4 (call : Oracle) (x0 x1 : Int) (x2 : List (List Int)) (x3 x4 : Int) : Option (List TV) :=
  bif decide (x4 < x3) then
    bif (decide (0 ≤ x4) && decide (x4 < ((List.length x2 : Nat) : Int))) then
      (call ii_turn [tA8 (List.getD x2 (Int.toNat x4) (List.replicate 8 0)), tI x0]).bind fun o2 =>
      bif (decide (0 ≤ x4) && decide (x4 < ((List.length x2 : Nat) : Int))) then
        call i__i_Normal__turnBy_4 [tI x0, tI x1, tLA8 (List.set x2 (Int.toNat x4) (gA8 o2 0)), tI x3, tI (wi64 (x4 + 1))]
      else none
    else none
  else
    some [tI 0, tI x0, tI x1, tLA8 x2]
theorem v__i_Normal__turnBy_4 (x0 x1 : Int) (x2 : List (List Int)) (x3 x4 : Int) (h : b__i_Normal__turnBy_4 R x0 x1 x2 x3 x4 = some o) : R i__i_Normal__turnBy_4 [tI x0, tI x1, tLA8 x2, tI x3, tI x4] = some o := go_ (b := fun c => b__i_Normal__turnBy_4 c x0 x1 x2 x3 x4) (fun c => by kernel_rfl) h
def b__i_Normal__turnBy (call : Oracle) (a0 : Int × Int × List (List Int)) (a1 : Int) : Option (List TV) :=
  bif decide (a0.1 < 2) then
    some [tPIPILA8 a0]
  else
    bif ((Int.tmod a1 2) != 0) then
      (call i__i_Normal__turnBy_4 [tI a0.1, tI (wi64 (a0.2.1 + a1)), tLA8 a0.2.2, tI ((List.length a0.2.2 : Nat) : Int), tI 0]).bind fun o3 =>
      some [tPIPILA8 ((gI o3 1), ((gI o3 2), (gLA8 o3 3)))]
    else
      some [tPIPILA8 (a0.1, ((wi64 (a0.2.1 + a1)), a0.2.2))]
theorem v__i_Normal__turnBy (a0 : Int × Int × List (List Int)) (a1 : Int) (h : b__i_Normal__turnBy R a0 a1 = some o) : R i__i_Normal__turnBy [tPIPILA8 a0, tI a1] = some o := go_ (b := fun c => b__i_Normal__turnBy c a0 a1) (fun c => by kernel_rfl) h
def bi_leftComplement (call : Oracle) (a0 : List Int) (a1 : Int) : Option (List TV) :=
  (call ii_halfTurn [tI a1]).bind fun o1 =>
  (call ii_backOf [tA8 a0, tI a1]).bind fun o2 =>
  (call ii_then [tA8 (gA8 o1 0), tA8 (gA8 o2 0), tI a1]).bind fun o3 =>
  some [tA8 (gA8 o3 0)]
theorem vi_leftComplement (a0 : List Int) (a1 : Int) (h : bi_leftComplement R a0 a1 = some o) : R ii_leftComplement [tA8 a0, tI a1] = some o := go_ (b := fun c => bi_leftComplement c a0 a1) (fun c => by kernel_rfl) h
def b__i_Normal__putInverse (call : Oracle) (a0 : Int × Int × List (List Int)) (a1 : List Int) : Option (List TV) :=
  (call i__i_Normal__turnBy [tPIPILA8 a0, tI (-1)]).bind fun o1 =>
  (call ii_leftComplement [tA8 a1, tI ((gPIPILA8 o1 0).1)]).bind fun o2 =>
  (call i__i_Normal__put [tPIPILA8 (gPIPILA8 o1 0), tA8 (gA8 o2 0)]).bind fun o3 =>
  some [tPIPILA8 (gPIPILA8 o3 0)]
theorem v__i_Normal__putInverse (a0 : Int × Int × List (List Int)) (a1 : List Int) (h : b__i_Normal__putInverse R a0 a1 = some o) : R i__i_Normal__putInverse [tPIPILA8 a0, tA8 a1] = some o := go_ (b := fun c => b__i_Normal__putInverse c a0 a1) (fun c => by kernel_rfl) h
def bi_product_4 (call : Oracle) (x0 x1 : Int) (x2 : List (List Int)) (x3 x4 : Int) (x5 x6 : List (List Int)) (x7 x8 : Int) : Option (List TV) :=
  bif decide (x8 < x7) then
    bif (decide (0 ≤ x8) && decide (x8 < ((List.length x6 : Nat) : Int))) then
      (call i__i_Normal__put [tPIPILA8 (x3, (x4, x5)), tA8 (List.getD x6 (Int.toNat x8) (List.replicate 8 0))]).bind fun o4 =>
      call ii_product_4 [tI x0, tI x1, tLA8 x2, tI ((gPIPILA8 o4 0).1), tI (((gPIPILA8 o4 0).2).1), tLA8 (((gPIPILA8 o4 0).2).2), tLA8 x6, tI x7, tI (wi64 (x8 + 1))]
    else none
  else
    some [tI 0, tI x0, tI x1, tLA8 x2, tI x3, tI x4, tLA8 x5]
theorem vi_product_4 (x0 x1 : Int) (x2 : List (List Int)) (x3 x4 : Int) (x5 x6 : List (List Int)) (x7 x8 : Int) (h : bi_product_4 R x0 x1 x2 x3 x4 x5 x6 x7 x8 = some o) : R ii_product_4 [tI x0, tI x1, tLA8 x2, tI x3, tI x4, tLA8 x5, tLA8 x6, tI x7, tI x8] = some o := go_ (b := fun c => bi_product_4 c x0 x1 x2 x3 x4 x5 x6 x7 x8) (fun c => by kernel_rfl) h
def bi_product (call : Oracle) (a0 a1 : Int × Int × List (List Int)) : Option (List TV) :=
  (call ii_copyNormal [tPIPILA8 a0]).bind fun o1 =>
  (call i__i_Normal__turnBy [tPIPILA8 (gPIPILA8 o1 0), tI a1.2.1]).bind fun o2 =>
  (call ii_product_4 [tI 0, tI 0, tLA8 [], tI ((gPIPILA8 o2 0).1), tI (((gPIPILA8 o2 0).2).1), tLA8 (((gPIPILA8 o2 0).2).2), tLA8 a1.2.2, tI ((List.length a1.2.2 : Nat) : Int), tI 0]).bind fun o5 =>
  some [tPIPILA8 ((gI o5 4), ((gI o5 5), (gLA8 o5 6)))]
theorem vi_product (a0 a1 : Int × Int × List (List Int)) (h : bi_product R a0 a1 = some o) : R ii_product [tPIPILA8 a0, tPIPILA8 a1] = some o := go_ (b := fun c => bi_product c a0 a1) (fun c => by kernel_rfl) h
def bi_withoutHead (call : Oracle) (a0 : Int × Int × List (List Int)) (a1 : List Int) : Option (List TV) :=
  (call i__i_Normal__putInverse [tPIPILA8 (a0.1, (0, [])), tA8 a1]).bind fun o1 =>
  (call ii_product [tPIPILA8 (gPIPILA8 o1 0), tPIPILA8 a0]).bind fun o2 =>
  some [tPIPILA8 (gPIPILA8 o2 0)]
theorem vi_withoutHead (a0 : Int × Int × List (List Int)) (a1 : List Int) (h : bi_withoutHead R a0 a1 = some o) : R ii_withoutHead [tPIPILA8 a0, tA8 a1] = some o := go_ (b := fun c => bi_withoutHead c a0 a1) (fun c => by kernel_rfl) h
def bi_conjugate (call : Oracle) (a0 : Int × Int × List (List Int)) (a1 : List Int) : Option (List TV) :=
  (call ii_withoutHead [tPIPILA8 a0, tA8 a1]).bind fun o1 =>
  (call i__i_Normal__put [tPIPILA8 (gPIPILA8 o1 0), tA8 a1]).bind fun o2 =>
  some [tPIPILA8 (gPIPILA8 o2 0)]
theorem vi_conjugate (a0 : Int × Int × List (List Int)) (a1 : List Int) (h : bi_conjugate R a0 a1 = some o) : R ii_conjugate [tPIPILA8 a0, tA8 a1] = some o := go_ (b := fun c => bi_conjugate c a0 a1) (fun c => by kernel_rfl) h
def bg_Equal___i_Simple_i_Simple__4 (call : Oracle) (x0 x1 : List (List Int)) (x2 x3 : Int) : Option (List TV) :=
  bif decide (x3 < x2) then
    bif (decide (0 ≤ x3) && decide (x3 < ((List.length x0 : Nat) : Int))) then
      bif (decide (0 ≤ x3) && decide (x3 < ((List.length x1 : Nat) : Int))) then
        bif ((List.getD x0 (Int.toNat x3) (List.replicate 8 0)) != (List.getD x1 (Int.toNat x3) (List.replicate 8 0))) then
          some [tI 1, tB false]
        else
          call ig_Equal___i_Simple_i_Simple__4 [tLA8 x0, tLA8 x1, tI x2, tI (wi64 (x3 + 1))]
      else none
    else none
  else
    some [tI 0]
theorem vg_Equal___i_Simple_i_Simple__4 (x0 x1 : List (List Int)) (x2 x3 : Int) (h : bg_Equal___i_Simple_i_Simple__4 R x0 x1 x2 x3 = some o) : R ig_Equal___i_Simple_i_Simple__4 [tLA8 x0, tLA8 x1, tI x2, tI x3] = some o := go_ (b := fun c => bg_Equal___i_Simple_i_Simple__4 c x0 x1 x2 x3) (fun c => by kernel_rfl) h
def bg_Equal___i_Simple_i_Simple_ (call : Oracle) (a0 a1 : List (List Int)) : Option (List TV) :=
  bif (((List.length a0 : Nat) : Int) != ((List.length a1 : Nat) : Int)) then
    some [tB false]
  else
    (call ig_Equal___i_Simple_i_Simple__4 [tLA8 a0, tLA8 a1, tI ((List.length a0 : Nat) : Int), tI 0]).bind fun o1 =>
    bif ((gI o1 0) == 0) then
      some [tB true]
    else
      some [tB (gB o1 1)]
theorem vg_Equal___i_Simple_i_Simple_ (a0 a1 : List (List Int)) (h : bg_Equal___i_Simple_i_Simple_ R a0 a1 = some o) : R ig_Equal___i_Simple_i_Simple_ [tLA8 a0, tLA8 a1] = some o := go_ (b := fun c => bg_Equal___i_Simple_i_Simple_ c a0 a1) (fun c => by kernel_rfl) h
def bi_sameNormal (call : Oracle) (a0 a1 : Int × Int × List (List Int)) : Option (List TV) :=
  bif (a0.1 == a1.1) then
    bif (a0.2.1 == a1.2.1) then
      (call ig_Equal___i_Simple_i_Simple_ [tLA8 a0.2.2, tLA8 a1.2.2]).bind fun o1 =>
      some [tB (gB o1 0)]
    else
      some [tB false]
  else
    some [tB false]
theorem vi_sameNormal (a0 a1 : Int × Int × List (List Int)) (h : bi_sameNormal R a0 a1 = some o) : R ii_sameNormal [tPIPILA8 a0, tPIPILA8 a1] = some o := go_ (b := fun c => bi_sameNormal c a0 a1) (fun c => by kernel_rfl) h
def bi_superSummitK1 (call : Oracle) (a0 a1 : Int × Int × List (List Int)) : Option (List TV) :=
  (call ii_sameNormal [tPIPILA8 a0, tPIPILA8 a1]).bind fun o1 =>
  some [tB (gB o1 0)]
theorem vi_superSummitK1 (a0 a1 : Int × Int × List (List Int)) (h : bi_superSummitK1 R a0 a1 = some o) : R ii_superSummitK1 [tPIPILA8 a0, tPIPILA8 a1] = some o := go_ (b := fun c => bi_superSummitK1 c a0 a1) (fun c => by kernel_rfl) h
def bg_IndexFunc___i_Normal_i_Normal__2 (call : Oracle) (x0 : List (Int × Int × List (List Int))) (x1 x2 : Int) (x3 : List (List Int)) (x4 x5 : Int) : Option (List TV) :=
  bif decide (x5 < x4) then
    bif (decide (0 ≤ x5) && decide (x5 < ((List.length x0 : Nat) : Int))) then
      (call ii_superSummitK1 [tPIPILA8 (List.getD x0 (Int.toNat x5) (0, (0, []))), tPIPILA8 (x1, (x2, x3))]).bind fun o2 =>
      bif (gB o2 0) then
        some [tI 1, tI x5]
      else
        call ig_IndexFunc___i_Normal_i_Normal__2 [tLPIPILA8 x0, tI x1, tI x2, tLA8 x3, tI x4, tI (wi64 (x5 + 1))]
    else none
  else
    some [tI 0]
theorem vg_IndexFunc___i_Normal_i_Normal__2 (x0 : List (Int × Int × List (List Int))) (x1 x2 : Int) (x3 : List (List Int)) (x4 x5 : Int) (h : bg_IndexFunc___i_Normal_i_Normal__2 R x0 x1 x2 x3 x4 x5 = some o) : R ig_IndexFunc___i_Normal_i_Normal__2 [tLPIPILA8 x0, tI x1, tI x2, tLA8 x3, tI x4, tI x5] = some o := go_ (b := fun c => bg_IndexFunc___i_Normal_i_Normal__2 c x0 x1 x2 x3 x4 x5) (fun c => by kernel_rfl) h
def bg_IndexFunc___i_Normal_i_Normal_ (call : Oracle) (a0 : List (Int × Int × List (List Int))) (a1 : Int × Int × List (List Int)) : Option (List TV) :=
  (call ig_IndexFunc___i_Normal_i_Normal__2 [tLPIPILA8 a0, tI a1.1, tI a1.2.1, tLA8 a1.2.2, tI ((List.length a0 : Nat) : Int), tI 0]).bind fun o3 =>
  bif ((gI o3 0) == 0) then
    some [tI (-1)]
  else
    some [tI (gI o3 1)]
theorem vg_IndexFunc___i_Normal_i_Normal_ (a0 : List (Int × Int × List (List Int))) (a1 : Int × Int × List (List Int)) (h : bg_IndexFunc___i_Normal_i_Normal_ R a0 a1 = some o) : R ig_IndexFunc___i_Normal_i_Normal_ [tLPIPILA8 a0, tPIPILA8 a1] = some o := go_ (b := fun c => bg_IndexFunc___i_Normal_i_Normal_ c a0 a1) (fun c => by kernel_rfl) h
def bg_ContainsFunc___i_Normal_i_Normal_ (call : Oracle) (a0 : List (Int × Int × List (List Int))) (a1 : Int × Int × List (List Int)) : Option (List TV) :=
  (call ig_IndexFunc___i_Normal_i_Normal_ [tLPIPILA8 a0, tPIPILA8 a1]).bind fun o1 =>
  some [tB (decide (0 ≤ (gI o1 0)))]
theorem vg_ContainsFunc___i_Normal_i_Normal_ (a0 : List (Int × Int × List (List Int))) (a1 : Int × Int × List (List Int)) (h : bg_ContainsFunc___i_Normal_i_Normal_ R a0 a1 = some o) : R ig_ContainsFunc___i_Normal_i_Normal_ [tLPIPILA8 a0, tPIPILA8 a1] = some o := go_ (b := fun c => bg_ContainsFunc___i_Normal_i_Normal_ c a0 a1) (fun c => by kernel_rfl) h
def bcmp_isNaN_byte_ (call : Oracle) (a0 : Int) : Option (List TV) :=
  some [tB (a0 != a0)]
theorem vcmp_isNaN_byte_ (a0 : Int) (h : bcmp_isNaN_byte_ R a0 = some o) : R icmp_isNaN_byte_ [tU8 a0] = some o := go_ (b := fun c => bcmp_isNaN_byte_ c a0) (fun c => by kernel_rfl) h
def bcmp_Compare_byte_ (call : Oracle) (a0 a1 : Int) : Option (List TV) :=
  (call icmp_isNaN_byte_ [tU8 a0]).bind fun o1 =>
  (call icmp_isNaN_byte_ [tU8 a1]).bind fun o2 =>
  bif (gB o1 0) then
    bif (gB o2 0) then
      some [tI 0]
    else
      some [tI (-1)]
  else
    bif (gB o2 0) then
      some [tI 1]
    else
      bif decide (a0 < a1) then
        some [tI (-1)]
      else
        bif decide (a1 < a0) then
          some [tI 1]
        else
          some [tI 0]
theorem vcmp_Compare_byte_ (a0 a1 : Int) (h : bcmp_Compare_byte_ R a0 a1 = some o) : R icmp_Compare_byte_ [tU8 a0, tU8 a1] = some o := go_ (b := fun c => bcmp_Compare_byte_ c a0 a1) (fun c => by kernel_rfl) h
def bg_Compare___byte_byte__2 (call : Oracle) (x0 x1 : List Int) (x2 x3 : Int) : Option (List TV) :=
  bif decide (x3 < x2) then
    bif (decide (0 ≤ x3) && decide (x3 < ((List.length x0 : Nat) : Int))) then
      bif decide (((List.length x1 : Nat) : Int) ≤ x3) then
        some [tI 1, tI 1]
      else
        bif (decide (0 ≤ x3) && decide (x3 < ((List.length x1 : Nat) : Int))) then
          (call icmp_Compare_byte_ [tU8 (List.getD x0 (Int.toNat x3) 0), tU8 (List.getD x1 (Int.toNat x3) 0)]).bind fun o2 =>
          bif ((gI o2 0) != 0) then
            some [tI 1, tI (gI o2 0)]
          else
            call ig_Compare___byte_byte__2 [tLU8 x0, tLU8 x1, tI x2, tI (wi64 (x3 + 1))]
        else none
    else none
  else
    some [tI 0, tLU8 x0, tLU8 x1]
theorem vg_Compare___byte_byte__2 (x0 x1 : List Int) (x2 x3 : Int) (h : bg_Compare___byte_byte__2 R x0 x1 x2 x3 = some o) : R ig_Compare___byte_byte__2 [tLU8 x0, tLU8 x1, tI x2, tI x3] = some o := go_ (b := fun c => bg_Compare___byte_byte__2 c x0 x1 x2 x3) (fun c => by kernel_rfl) h
def bg_Compare___byte_byte_ (call : Oracle) (a0 a1 : List Int) : Option (List TV) :=
  (call ig_Compare___byte_byte__2 [tLU8 a0, tLU8 a1, tI ((List.length a0 : Nat) : Int), tI 0]).bind fun o3 =>
  bif ((gI o3 0) == 0) then
    bif decide (((List.length (gLU8 o3 1) : Nat) : Int) < ((List.length (gLU8 o3 2) : Nat) : Int)) then
      some [tI (-1)]
    else
      some [tI 0]
  else
    some [tI (gI o3 1)]
theorem vg_Compare___byte_byte_ (a0 a1 : List Int) (h : bg_Compare___byte_byte_ R a0 a1 = some o) : R ig_Compare___byte_byte_ [tLU8 a0, tLU8 a1] = some o := go_ (b := fun c => bg_Compare___byte_byte_ c a0 a1) (fun c => by kernel_rfl) h
def bi_compareSimple (call : Oracle) (a0 a1 : List Int) : Option (List TV) :=
  (call ig_Compare___byte_byte_ [tLU8 a0, tLU8 a1]).bind fun o1 =>
  some [tI (gI o1 0)]
theorem vi_compareSimple (a0 a1 : List Int) (h : bi_compareSimple R a0 a1 = some o) : R ii_compareSimple [tA8 a0, tA8 a1] = some o := go_ (b := fun c => bi_compareSimple c a0 a1) (fun c => by kernel_rfl) h
def bg_CompareFunc___i_Simple___i_Simple_i_Simple_i_Simple__2 (call : Oracle) (x0 x1 : List (List Int)) (x2 x3 : Int) : Option (List TV) :=
  bif decide (x3 < x2) then
    bif (decide (0 ≤ x3) && decide (x3 < ((List.length x0 : Nat) : Int))) then
      bif decide (((List.length x1 : Nat) : Int) ≤ x3) then
        some [tI 1, tI 1]
      else
        bif (decide (0 ≤ x3) && decide (x3 < ((List.length x1 : Nat) : Int))) then
          (call ii_compareSimple [tA8 (List.getD x0 (Int.toNat x3) (List.replicate 8 0)), tA8 (List.getD x1 (Int.toNat x3) (List.replicate 8 0))]).bind fun o2 =>
          bif ((gI o2 0) != 0) then
            some [tI 1, tI (gI o2 0)]
          else
            call ig_CompareFunc___i_Simple___i_Simple_i_Simple_i_Simple__2 [tLA8 x0, tLA8 x1, tI x2, tI (wi64 (x3 + 1))]
        else none
    else none
  else
    some [tI 0, tLA8 x0, tLA8 x1]
theorem vg_CompareFunc___i_Simple___i_Simple_i_Simple_i_Simple__2 (x0 x1 : List (List Int)) (x2 x3 : Int) (h : bg_CompareFunc___i_Simple___i_Simple_i_Simple_i_Simple__2 R x0 x1 x2 x3 = some o) : R ig_CompareFunc___i_Simple___i_Simple_i_Simple_i_Simple__2 [tLA8 x0, tLA8 x1, tI x2, tI x3] = some o := go_ (b := fun c => bg_CompareFunc___i_Simple___i_Simple_i_Simple_i_Simple__2 c x0 x1 x2 x3) (fun c => by kernel_rfl) h
def bg_CompareFunc___i_Simple___i_Simple_i_Simple_i_Simple_ (call : Oracle) (a0 a1 : List (List Int)) : Option (List TV) :=
  (call ig_CompareFunc___i_Simple___i_Simple_i_Simple_i_Simple__2 [tLA8 a0, tLA8 a1, tI ((List.length a0 : Nat) : Int), tI 0]).bind fun o3 =>
  bif ((gI o3 0) == 0) then
    bif decide (((List.length (gLA8 o3 1) : Nat) : Int) < ((List.length (gLA8 o3 2) : Nat) : Int)) then
      some [tI (-1)]
    else
      some [tI 0]
  else
    some [tI (gI o3 1)]
theorem vg_CompareFunc___i_Simple___i_Simple_i_Simple_i_Simple_ (a0 a1 : List (List Int)) (h : bg_CompareFunc___i_Simple___i_Simple_i_Simple_i_Simple_ R a0 a1 = some o) : R ig_CompareFunc___i_Simple___i_Simple_i_Simple_i_Simple_ [tLA8 a0, tLA8 a1] = some o := go_ (b := fun c => bg_CompareFunc___i_Simple___i_Simple_i_Simple_i_Simple_ c a0 a1) (fun c => by kernel_rfl) h
def bi_compareFactors (call : Oracle) (a0 a1 : Int × Int × List (List Int)) : Option (List TV) :=
  (call ig_CompareFunc___i_Simple___i_Simple_i_Simple_i_Simple_ [tLA8 a0.2.2, tLA8 a1.2.2]).bind fun o1 =>
  some [tI (gI o1 0)]
theorem vi_compareFactors (a0 a1 : Int × Int × List (List Int)) (h : bi_compareFactors R a0 a1 = some o) : R ii_compareFactors [tPIPILA8 a0, tPIPILA8 a1] = some o := go_ (b := fun c => bi_compareFactors c a0 a1) (fun c => by kernel_rfl) h
def bg_SortFunc___i_Normal_i_Normal_ (call : Oracle) (x0 : List (Int × Int × List (List Int))) : Option (List TV) :=
  sortE call 85 (.pair (.int .i64) (.pair (.int .i64) (.slice (.arr .u8 8)))) x0
theorem vg_SortFunc___i_Normal_i_Normal_ (x0 : List (Int × Int × List (List Int))) (h : bg_SortFunc___i_Normal_i_Normal_ R x0 = some o) : R ig_SortFunc___i_Normal_i_Normal_ [tLPIPILA8 x0] = some o := go_ (b := fun c => bg_SortFunc___i_Normal_i_Normal_ c x0) (fun c => by kernel_rfl) h
def bi_superSummit_4 (call : Oracle) (x0 : List (Int × Int × List (List Int))) (x1 : List (List Int)) (x2 : Int) : Option (List TV) :=
  bif decide (x2 < ((List.length x0 : Nat) : Int)) then
    (call ii_superSummit_7 [tLPIPILA8 x0, tLA8 x1, tI x2, tI ((List.length x1 : Nat) : Int), tI 0]).bind fun o8 =>
    bif ((gI o8 0) == 0) then
      call ii_superSummit_4 [tLPIPILA8 (gLPIPILA8 o8 1), tLA8 (gLA8 o8 2), tI (wi64 ((gI o8 3) + 1))]
    else
      some [tI 1, tLPIPILA8 (gLPIPILA8 o8 1), tB (gB o8 2)]
  else
    some [tI 0, tLPIPILA8 x0]
theorem vi_superSummit_4 (x0 : List (Int × Int × List (List Int))) (x1 : List (List Int)) (x2 : Int) (h : bi_superSummit_4 R x0 x1 x2 = some o) : R ii_superSummit_4 [tLPIPILA8 x0, tLA8 x1, tI x2] = some o := go_ (b := fun c => bi_superSummit_4 c x0 x1 x2) (fun c => by kernel_rfl) h
def bi_superSummit_7 (call : Oracle) (x0 : List (Int × Int × List (List Int))) (x1 : List (List Int)) (x2 x3 x4 : Int) : Option (List TV) :=
  bif decide (x4 < x3) then
    bif (decide (0 ≤ x4) && decide (x4 < ((List.length x1 : Nat) : Int))) then
      bif (decide (0 ≤ x2) && decide (x2 < ((List.length x0 : Nat) : Int))) then
        (call ii_conjugate [tPIPILA8 (List.getD x0 (Int.toNat x2) (0, (0, []))), tA8 (List.getD x1 (Int.toNat x4) (List.replicate 8 0))]).bind fun o5 =>
        bif decide (0 < ((List.length x0 : Nat) : Int)) then
          bif (((gPIPILA8 o5 0).2).1 != ((List.getD x0 0 (0, (0, []))).2).1) then
            call ii_superSummit_7 [tLPIPILA8 x0, tLA8 x1, tI x2, tI x3, tI (wi64 (x4 + 1))]
          else
            bif decide (0 < ((List.length x0 : Nat) : Int)) then
              bif (((List.length (((gPIPILA8 o5 0).2).2) : Nat) : Int) != ((List.length (((List.getD x0 0 (0, (0, []))).2).2) : Nat) : Int)) then
                call ii_superSummit_7 [tLPIPILA8 x0, tLA8 x1, tI x2, tI x3, tI (wi64 (x4 + 1))]
              else
                (call ig_ContainsFunc___i_Normal_i_Normal_ [tLPIPILA8 x0, tPIPILA8 (gPIPILA8 o5 0)]).bind fun o6 =>
                bif (gB o6 0) then
                  call ii_superSummit_7 [tLPIPILA8 x0, tLA8 x1, tI x2, tI x3, tI (wi64 (x4 + 1))]
                else
                  bif (((List.length x0 : Nat) : Int) == 120) then
                    some [tI 1, tLPIPILA8 [], tB false]
                  else
                    bif (apOk x0 [(gPIPILA8 o5 0)]) then
                      call ii_superSummit_7 [tLPIPILA8 (x0 ++ [(gPIPILA8 o5 0)]), tLA8 x1, tI x2, tI x3, tI (wi64 (x4 + 1))]
                    else none
            else none
        else none
      else none
    else none
  else
    some [tI 0, tLPIPILA8 x0, tLA8 x1, tI x2]
theorem vi_superSummit_7 (x0 : List (Int × Int × List (List Int))) (x1 : List (List Int)) (x2 x3 x4 : Int) (h : bi_superSummit_7 R x0 x1 x2 x3 x4 = some o) : R ii_superSummit_7 [tLPIPILA8 x0, tLA8 x1, tI x2, tI x3, tI x4] = some o := go_ (b := fun c => bi_superSummit_7 c x0 x1 x2 x3 x4) (fun c => by kernel_rfl) h
def bi_superSummit (call : Oracle) (a0 : Int × Int × List (List Int)) : Option (List TV) :=
  (call ii_summit [tPIPILA8 a0]).bind fun o1 =>
  (call ii_allSimple [tI a0.1]).bind fun o2 =>
  (call ii_superSummit_4 [tLPIPILA8 [(gPIPILA8 o1 0)], tLA8 (gLA8 o2 0), tI 0]).bind fun o9 =>
  bif ((gI o9 0) == 0) then
    (call ig_SortFunc___i_Normal_i_Normal_ [tLPIPILA8 (gLPIPILA8 o9 1)]).bind fun o10 =>
    some [tLPIPILA8 (gLPIPILA8 o10 0), tB true]
  else
    some [tLPIPILA8 (gLPIPILA8 o9 1), tB (gB o9 2)]
theorem vi_superSummit (a0 : Int × Int × List (List Int)) (h : bi_superSummit R a0 = some o) : R ii_superSummit [tPIPILA8 a0] = some o := go_ (b := fun c => bi_superSummit c a0) (fun c => by kernel_rfl) h
def bi_SuperSummit (call : Oracle) (a0 : Int × Int × List (List Int)) : Option (List TV) :=
  (call ii_IsNormal [tPIPILA8 a0]).bind fun o1 =>
  bif (!(gB o1 0)) then
    some [tLPIPILA8 [], tI 1]
  else
    bif decide (4 < a0.1) then
      some [tLPIPILA8 [], tI 2]
    else
      (call ii_superSummit [tPIPILA8 a0]).bind fun o2 =>
      bif (!(gB o2 1)) then
        some [tLPIPILA8 [], tI 3]
      else
        bif decide (0 < ((List.length (gLPIPILA8 o2 0) : Nat) : Int)) then
          (call ii_limited [tPIPILA8 (List.getD (gLPIPILA8 o2 0) 0 (0, (0, [])))]).bind fun o3 =>
          bif ((gI o3 1) != 0) then
            some [tLPIPILA8 [], tI (gI o3 1)]
          else
            some [tLPIPILA8 (gLPIPILA8 o2 0), tI 0]
        else none
theorem vi_SuperSummit (a0 : Int × Int × List (List Int)) (h : bi_SuperSummit R a0 = some o) : R ii_SuperSummit [tPIPILA8 a0] = some o := go_ (b := fun c => bi_SuperSummit c a0) (fun c => by kernel_rfl) h
def bs_l04Code (call : Oracle) (a0 : Int × Int × List (List Int)) : Option (List TV) :=
  (call is_l03Is [tPIPILA8 a0]).bind fun o1 =>
  bif (!(gB o1 0)) then
    some [tI 1]
  else
    bif decide (4 < a0.1) then
      some [tI 2]
    else
      some [tI 0]
theorem vs_l04Code (a0 : Int × Int × List (List Int)) (h : bs_l04Code R a0 = some o) : R is_l04Code [tPIPILA8 a0] = some o := go_ (b := fun c => bs_l04Code c a0) (fun c => by kernel_rfl) h
def bs_l04Simples_6 (call : Oracle) (x0 : List (List Int)) (x1 : List Int) (x2 x3 x4 : Int) : Option (List TV) :=
  bif decide (x4 < x3) then
    bif (decide (0 ≤ x4) && decide (x4 < 8)) then
      bif (decide (0 ≤ x2) && decide (x2 < 8)) then
        bif (decide (0 ≤ x2) && decide (x2 < 8)) then
          bif (decide (0 ≤ x4) && decide (x4 < 8)) then
            (call is_l04Simples [tLA8 x0, tA8 (List.set (List.set x1 (Int.toNat x2) (List.getD x1 (Int.toNat x4) 0)) (Int.toNat x4) (List.getD x1 (Int.toNat x2) 0)), tI (wi64 (x2 + 1)), tI x3]).bind fun o3 =>
            call is_l04Simples_6 [tLA8 (gLA8 o3 0), tA8 x1, tI x2, tI x3, tI (wi64 (x4 + 1))]
          else none
        else none
      else none
    else none
  else
    some [tI 0, tLA8 x0]
theorem vs_l04Simples_6 (x0 : List (List Int)) (x1 : List Int) (x2 x3 x4 : Int) (h : bs_l04Simples_6 R x0 x1 x2 x3 x4 = some o) : R is_l04Simples_6 [tLA8 x0, tA8 x1, tI x2, tI x3, tI x4] = some o := go_ (b := fun c => bs_l04Simples_6 c x0 x1 x2 x3 x4) (fun c => by kernel_rfl) h
def bs_l04Simples (call : Oracle) (a0 : List (List Int)) (a1 : List Int) (a2 a3 : Int) : Option (List TV) :=
  bif (a2 == a3) then
    (call is_l02Same [tI a3]).bind fun o1 =>
    bif (a1 == (gA8 o1 0)) then
      some [tLA8 a0]
    else
      bif (apOk a0 [a1]) then
        some [tLA8 (a0 ++ [a1])]
      else none
  else
    (call is_l04Simples_6 [tLA8 a0, tA8 a1, tI a2, tI a3, tI a2]).bind fun o4 =>
    some [tLA8 (gLA8 o4 1)]
theorem vs_l04Simples (a0 : List (List Int)) (a1 : List Int) (a2 a3 : Int) (h : bs_l04Simples R a0 a1 a2 a3 = some o) : R is_l04Simples [tLA8 a0, tA8 a1, tI a2, tI a3] = some o := go_ (b := fun c => bs_l04Simples c a0 a1 a2 a3) (fun c => by kernel_rfl) h
def bs_l03Less (call : Oracle) (a0 : Int × Int × List (List Int)) (a1 : List Int) : Option (List TV) :=
  (call is_l02Left [tA8 a1, tI a0.1]).bind fun o1 =>
  bif (apOk [(gA8 o1 0)] a0.2.2) then
    bif ((Int.tmod a0.2.1 2) != 0) then
      bif decide (0 < ((List.length ([(gA8 o1 0)] ++ a0.2.2) : Nat) : Int)) then
        (call is_l02Turn [tA8 (List.getD ([(gA8 o1 0)] ++ a0.2.2) 0 (List.replicate 8 0)), tI a0.1]).bind fun o2 =>
        bif decide (0 < ((List.length ([(gA8 o1 0)] ++ a0.2.2) : Nat) : Int)) then
          (call is_l03Make [tI a0.1, tI (wi64 (a0.2.1 - 1)), tLA8 (List.set ([(gA8 o1 0)] ++ a0.2.2) 0 (gA8 o2 0))]).bind fun o3 =>
          some [tPIPILA8 (gPIPILA8 o3 0)]
        else none
      else none
    else
      (call is_l03Make [tI a0.1, tI (wi64 (a0.2.1 - 1)), tLA8 ([(gA8 o1 0)] ++ a0.2.2)]).bind fun o4 =>
      some [tPIPILA8 (gPIPILA8 o4 0)]
  else none
theorem vs_l03Less (a0 : Int × Int × List (List Int)) (a1 : List Int) (h : bs_l03Less R a0 a1 = some o) : R is_l03Less [tPIPILA8 a0, tA8 a1] = some o := go_ (b := fun c => bs_l03Less c a0 a1) (fun c => by kernel_rfl) h
def bs_l04Conjugate (call : Oracle) (a0 : Int × Int × List (List Int)) (a1 : List Int) : Option (List TV) :=
  (call is_l03Less [tPIPILA8 a0, tA8 a1]).bind fun o1 =>
  (call is_l03Times [tPIPILA8 (gPIPILA8 o1 0), tA8 a1, tB false]).bind fun o2 =>
  some [tPIPILA8 (gPIPILA8 o2 0)]
theorem vs_l04Conjugate (a0 : Int × Int × List (List Int)) (a1 : List Int) (h : bs_l04Conjugate R a0 a1 = some o) : R is_l04Conjugate [tPIPILA8 a0, tA8 a1] = some o := go_ (b := fun c => bs_l04Conjugate c a0 a1) (fun c => by kernel_rfl) h
def bs_l04Before_2 (call : Oracle) (x0 x1 : Int) (x2 : List (List Int)) (x3 x4 : Int) (x5 : List (List Int)) (x6 : Int) : Option (List TV) :=
  bif decide (x6 < ((List.length x2 : Nat) : Int)) then
    (call is_l04Before_5 [tI x0, tI x1, tLA8 x2, tI x3, tI x4, tLA8 x5, tI x6, tI 0]).bind fun o2 =>
    bif ((gI o2 0) == 0) then
      call is_l04Before_2 [tI (gI o2 1), tI (gI o2 2), tLA8 (gLA8 o2 3), tI (gI o2 4), tI (gI o2 5), tLA8 (gLA8 o2 6), tI (wi64 ((gI o2 7) + 1))]
    else
      some [tI 1, tB (gB o2 1)]
  else
    some [tI 0]
theorem vs_l04Before_2 (x0 x1 : Int) (x2 : List (List Int)) (x3 x4 : Int) (x5 : List (List Int)) (x6 : Int) (h : bs_l04Before_2 R x0 x1 x2 x3 x4 x5 x6 = some o) : R is_l04Before_2 [tI x0, tI x1, tLA8 x2, tI x3, tI x4, tLA8 x5, tI x6] = some o := go_ (b := fun c => bs_l04Before_2 c x0 x1 x2 x3 x4 x5 x6) (fun c => by kernel_rfl) h
def bs_l04Before_5 (call : Oracle) (x0 x1 : Int) (x2 : List (List Int)) (x3 x4 : Int) (x5 : List (List Int)) (x6 x7 : Int) : Option (List TV) :=
  bif decide (x7 < 8) then
    bif (decide (0 ≤ x6) && decide (x6 < ((List.length x2 : Nat) : Int))) then
      bif (decide (0 ≤ x7) && decide (x7 < 8)) then
        bif (decide (0 ≤ x6) && decide (x6 < ((List.length x5 : Nat) : Int))) then
          bif (decide (0 ≤ x7) && decide (x7 < 8)) then
            bif ((List.getD (List.getD x2 (Int.toNat x6) []) (Int.toNat x7) 0) != (List.getD (List.getD x5 (Int.toNat x6) []) (Int.toNat x7) 0)) then
              bif (decide (0 ≤ x6) && decide (x6 < ((List.length x2 : Nat) : Int))) then
                bif (decide (0 ≤ x7) && decide (x7 < 8)) then
                  bif (decide (0 ≤ x6) && decide (x6 < ((List.length x5 : Nat) : Int))) then
                    bif (decide (0 ≤ x7) && decide (x7 < 8)) then
                      some [tI 1, tB (decide ((List.getD (List.getD x2 (Int.toNat x6) []) (Int.toNat x7) 0) < (List.getD (List.getD x5 (Int.toNat x6) []) (Int.toNat x7) 0)))]
                    else none
                  else none
                else none
              else none
            else
              call is_l04Before_5 [tI x0, tI x1, tLA8 x2, tI x3, tI x4, tLA8 x5, tI x6, tI (wi64 (x7 + 1))]
          else none
        else none
      else none
    else none
  else
    some [tI 0, tI x0, tI x1, tLA8 x2, tI x3, tI x4, tLA8 x5, tI x6]
theorem vs_l04Before_5 (x0 x1 : Int) (x2 : List (List Int)) (x3 x4 : Int) (x5 : List (List Int)) (x6 x7 : Int) (h : bs_l04Before_5 R x0 x1 x2 x3 x4 x5 x6 x7 = some o) : R is_l04Before_5 [tI x0, tI x1, tLA8 x2, tI x3, tI x4, tLA8 x5, tI x6, tI x7] = some o := go_ (b := fun c => bs_l04Before_5 c x0 x1 x2 x3 x4 x5 x6 x7) (fun c => by kernel_rfl) h
def bs_l04Before (call : Oracle) (a0 a1 : Int × Int × List (List Int)) : Option (List TV) :=
  (call is_l04Before_2 [tI a0.1, tI a0.2.1, tLA8 a0.2.2, tI a1.1, tI a1.2.1, tLA8 a1.2.2, tI 0]).bind fun o3 =>
  bif ((gI o3 0) == 0) then
    some [tB false]
  else
    some [tB (gB o3 1)]
theorem vs_l04Before (a0 a1 : Int × Int × List (List Int)) (h : bs_l04Before R a0 a1 = some o) : R is_l04Before [tPIPILA8 a0, tPIPILA8 a1] = some o := go_ (b := fun c => bs_l04Before c a0 a1) (fun c => by kernel_rfl) h
def bs_l03Like_4 (call : Oracle) (x0 x1 : Int) (x2 : List (List Int)) (x3 x4 : Int) (x5 : List (List Int)) (x6 : Int) : Option (List TV) :=
  bif decide (x6 < ((List.length x2 : Nat) : Int)) then
    bif (decide (0 ≤ x6) && decide (x6 < ((List.length x2 : Nat) : Int))) then
      bif (decide (0 ≤ x6) && decide (x6 < ((List.length x5 : Nat) : Int))) then
        bif ((List.getD x2 (Int.toNat x6) (List.replicate 8 0)) != (List.getD x5 (Int.toNat x6) (List.replicate 8 0))) then
          some [tI 1, tB false]
        else
          call is_l03Like_4 [tI x0, tI x1, tLA8 x2, tI x3, tI x4, tLA8 x5, tI (wi64 (x6 + 1))]
      else none
    else none
  else
    some [tI 0]
theorem vs_l03Like_4 (x0 x1 : Int) (x2 : List (List Int)) (x3 x4 : Int) (x5 : List (List Int)) (x6 : Int) (h : bs_l03Like_4 R x0 x1 x2 x3 x4 x5 x6 = some o) : R is_l03Like_4 [tI x0, tI x1, tLA8 x2, tI x3, tI x4, tLA8 x5, tI x6] = some o := go_ (b := fun c => bs_l03Like_4 c x0 x1 x2 x3 x4 x5 x6) (fun c => by kernel_rfl) h
def bs_l03Like (call : Oracle) (a0 a1 : Int × Int × List (List Int)) : Option (List TV) :=
  bif (a0.1 != a1.1) then
    some [tB false]
  else
    bif (a0.2.1 != a1.2.1) then
      some [tB false]
    else
      bif (((List.length a0.2.2 : Nat) : Int) != ((List.length a1.2.2 : Nat) : Int)) then
        some [tB false]
      else
        (call is_l03Like_4 [tI a0.1, tI a0.2.1, tLA8 a0.2.2, tI a1.1, tI a1.2.1, tLA8 a1.2.2, tI 0]).bind fun o1 =>
        bif ((gI o1 0) == 0) then
          some [tB true]
        else
          some [tB (gB o1 1)]
theorem vs_l03Like (a0 a1 : Int × Int × List (List Int)) (h : bs_l03Like R a0 a1 = some o) : R is_l03Like [tPIPILA8 a0, tPIPILA8 a1] = some o := go_ (b := fun c => bs_l03Like c a0 a1) (fun c => by kernel_rfl) h
def bs_l04Insert_2 (call : Oracle) (x0 : List (Int × Int × List (List Int))) (x1 x2 : Int) (x3 : List (List Int)) (x4 : Int) : Option (List TV) :=
  bif decide (x4 < ((List.length x0 : Nat) : Int)) then
    bif (decide (0 ≤ x4) && decide (x4 < ((List.length x0 : Nat) : Int))) then
      (call is_l04Before [tPIPILA8 (List.getD x0 (Int.toNat x4) (0, (0, []))), tPIPILA8 (x1, (x2, x3))]).bind fun o2 =>
      bif (gB o2 0) then
        call is_l04Insert_2 [tLPIPILA8 x0, tI x1, tI x2, tLA8 x3, tI (wi64 (x4 + 1))]
      else
        some [tI 0, tLPIPILA8 x0, tI x1, tI x2, tLA8 x3, tI x4]
    else none
  else
    some [tI 0, tLPIPILA8 x0, tI x1, tI x2, tLA8 x3, tI x4]
theorem vs_l04Insert_2 (x0 : List (Int × Int × List (List Int))) (x1 x2 : Int) (x3 : List (List Int)) (x4 : Int) (h : bs_l04Insert_2 R x0 x1 x2 x3 x4 = some o) : R is_l04Insert_2 [tLPIPILA8 x0, tI x1, tI x2, tLA8 x3, tI x4] = some o := go_ (b := fun c => bs_l04Insert_2 c x0 x1 x2 x3 x4) (fun c => by kernel_rfl) h
def bs_l04Insert (call : Oracle) (a0 : List (Int × Int × List (List Int))) (a1 : Int × Int × List (List Int)) : Option (List TV) :=
  (call is_l04Insert_2 [tLPIPILA8 a0, tI a1.1, tI a1.2.1, tLA8 a1.2.2, tI 0]).bind fun o3 =>
  bif decide ((gI o3 5) < ((List.length (gLPIPILA8 o3 1) : Nat) : Int)) then
    bif (decide (0 ≤ (gI o3 5)) && decide ((gI o3 5) < ((List.length (gLPIPILA8 o3 1) : Nat) : Int))) then
      (call is_l03Like [tPIPILA8 (List.getD (gLPIPILA8 o3 1) (Int.toNat (gI o3 5)) (0, (0, []))), tPIPILA8 ((gI o3 2), ((gI o3 3), (gLA8 o3 4)))]).bind fun o4 =>
      bif (gB o4 0) then
        some [tLPIPILA8 (gLPIPILA8 o3 1), tB false]
      else
        bif (decide (0 ≤ (gI o3 5)) && decide ((gI o3 5) ≤ ((List.length (gLPIPILA8 o3 1) : Nat) : Int))) then
          bif (apOk [((gI o3 2), ((gI o3 3), (gLA8 o3 4)))] (List.drop (Int.toNat (gI o3 5)) (gLPIPILA8 o3 1))) then
            bif (decide (0 ≤ (gI o3 5)) && decide ((gI o3 5) ≤ ((List.length (gLPIPILA8 o3 1) : Nat) : Int))) then
              bif (apOk [] (List.take (Int.toNat (gI o3 5)) (gLPIPILA8 o3 1))) then
                bif (apOk (List.take (Int.toNat (gI o3 5)) (gLPIPILA8 o3 1)) ([((gI o3 2), ((gI o3 3), (gLA8 o3 4)))] ++ (List.drop (Int.toNat (gI o3 5)) (gLPIPILA8 o3 1)))) then
                  some [tLPIPILA8 ((List.take (Int.toNat (gI o3 5)) (gLPIPILA8 o3 1)) ++ ([((gI o3 2), ((gI o3 3), (gLA8 o3 4)))] ++ (List.drop (Int.toNat (gI o3 5)) (gLPIPILA8 o3 1)))), tB true]
                else none
              else none
            else none
          else none
        else none
    else none
  else
    bif (decide (0 ≤ (gI o3 5)) && decide ((gI o3 5) ≤ ((List.length (gLPIPILA8 o3 1) : Nat) : Int))) then
      bif (apOk [((gI o3 2), ((gI o3 3), (gLA8 o3 4)))] (List.drop (Int.toNat (gI o3 5)) (gLPIPILA8 o3 1))) then
        bif (decide (0 ≤ (gI o3 5)) && decide ((gI o3 5) ≤ ((List.length (gLPIPILA8 o3 1) : Nat) : Int))) then
          bif (apOk [] (List.take (Int.toNat (gI o3 5)) (gLPIPILA8 o3 1))) then
            bif (apOk (List.take (Int.toNat (gI o3 5)) (gLPIPILA8 o3 1)) ([((gI o3 2), ((gI o3 3), (gLA8 o3 4)))] ++ (List.drop (Int.toNat (gI o3 5)) (gLPIPILA8 o3 1)))) then
              some [tLPIPILA8 ((List.take (Int.toNat (gI o3 5)) (gLPIPILA8 o3 1)) ++ ([((gI o3 2), ((gI o3 3), (gLA8 o3 4)))] ++ (List.drop (Int.toNat (gI o3 5)) (gLPIPILA8 o3 1)))), tB true]
            else none
          else none
        else none
      else none
    else none
theorem vs_l04Insert (a0 : List (Int × Int × List (List Int))) (a1 : Int × Int × List (List Int)) (h : bs_l04Insert R a0 a1 = some o) : R is_l04Insert [tLPIPILA8 a0, tPIPILA8 a1] = some o := go_ (b := fun c => bs_l04Insert c a0 a1) (fun c => by kernel_rfl) h
end
end Go.Ev.YtfkpbhbghbhmgaaGreat
