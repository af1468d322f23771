/- Bodies, part 2. -/
import Derived.KernelRfl
import Derived.Test.YtmdkgikjnaijeaaGreatEnv
set_option linter.unusedVariables false
namespace Go.Ev.YtmdkgikjnaijeaaGreat
open Go.Ev
noncomputable section
variable {o : List TV}
def zEm (call : Oracle) (a0 : Int × Int × List (List Int)) : Option (List TV) :=
  (call zBC [tI a0.1, tI a0.2.1, tLA8 a0.2.2, tI 0, tI 0, tLA8 [], tI a0.1, tI a0.2.1, tLA8 a0.2.2, tI (wi64 (Int.tdiv (wi64 (a0.1 * (wi64 (a0.1 - 1)))) 2)), tI 0]).bind fun o5 =>
  bif ((gI o5 0) == 0) then
    some [zA ((gI o5 1), ((gI o5 2), (gLA8 o5 3))), tB false]
  else
    some [zA ((gI o5 1), ((gI o5 2), (gLA8 o5 3))), tB (gB o5 4)]
theorem zL3 (a0 : Int × Int × List (List Int)) (h : zEm R a0 = some o) : R zEV [zA a0] = some o := go_ (b := fun c => zEm c a0) (fun c => by kernel_rfl) h
def zCY (call : Oracle) (x0 x1 : Int) (x2 : List (List Int)) (x3 x4 : Int) (x5 : List (List Int)) : Option (List TV) :=
  (call zIt [zA (x0, (x1, x2))]).bind fun o5 =>
  bif (!(gB o5 1)) then
    (call zEV [zA (x0, (x1, x2))]).bind fun o6 =>
    bif (!(gB o6 1)) then
      (call kJ [zA (x0, (x1, x2))]).bind fun o7 =>
      some [tI 0, tI ((zD o7 0).1), tI (((zD o7 0).2).1), tLA8 (((zD o7 0).2).2)]
    else
      call zCR [tI ((zD o6 0).1), tI (((zD o6 0).2).1), tLA8 (((zD o6 0).2).2), tI x3, tI x4, tLA8 x5]
  else
    bif (!(gB o5 1)) then
      (call kJ [zA (x0, (x1, x2))]).bind fun o8 =>
      some [tI 0, tI ((zD o8 0).1), tI (((zD o8 0).2).1), tLA8 (((zD o8 0).2).2)]
    else
      call zCR [tI ((zD o5 0).1), tI (((zD o5 0).2).1), tLA8 (((zD o5 0).2).2), tI x3, tI x4, tLA8 x5]
theorem zNU (x0 x1 : Int) (x2 : List (List Int)) (x3 x4 : Int) (x5 : List (List Int)) (h : zCY R x0 x1 x2 x3 x4 x5 = some o) : R zCR [tI x0, tI x1, tLA8 x2, tI x3, tI x4, tLA8 x5] = some o := go_ (b := fun c => zCY c x0 x1 x2 x3 x4 x5) (fun c => by kernel_rfl) h
def zJT (call : Oracle) (a0 : Int × Int × List (List Int)) : Option (List TV) :=
  (call zCR [tI a0.1, tI a0.2.1, tLA8 a0.2.2, tI 0, tI 0, tLA8 []]).bind fun o9 =>
  some [zA ((gI o9 1), ((gI o9 2), (gLA8 o9 3)))]
theorem zQs (a0 : Int × Int × List (List Int)) (h : zJT R a0 = some o) : R zIs [zA a0] = some o := go_ (b := fun c => zJT c a0) (fun c => by kernel_rfl) h
def zF7 (call : Oracle) (a0 a1 : Int) : Option (List TV) :=
  (call ja [tI a1]).bind fun o1 =>
  bif (decide (0 ≤ a0) && decide (a0 < 8)) then
    bif (decide (0 ≤ (wi64 (a0 - 1))) && decide ((wi64 (a0 - 1)) < 8)) then
      bif (decide (0 ≤ (wi64 (a0 - 1))) && decide ((wi64 (a0 - 1)) < 8)) then
        bif (decide (0 ≤ a0) && decide (a0 < 8)) then
          some [tA8 (List.set (List.set (gA8 o1 0) (Int.toNat (wi64 (a0 - 1))) (List.getD (gA8 o1 0) (Int.toNat a0) 0)) (Int.toNat a0) (List.getD (gA8 o1 0) (Int.toNat (wi64 (a0 - 1))) 0))]
        else none
      else none
    else none
  else none
theorem zNZ (a0 a1 : Int) (h : zF7 R a0 a1 = some o) : R zFn [tI a0, tI a1] = some o := go_ (b := fun c => zF7 c a0 a1) (fun c => by kernel_rfl) h
def zW (call : Oracle) (x0 : List (List Int)) (x1 : List Int) (x2 x3 : Int) : Option (List TV) :=
  bif decide (x3 < x2) then
    bif (decide (0 ≤ x3) && decide (x3 < ((List.length x0 : Nat) : Int))) then
      bif (x1 == (List.getD x0 (Int.toNat x3) (List.replicate 8 0))) then
        some [tI 1, tI x3]
      else
        call zN [tLA8 x0, tA8 x1, tI x2, tI (wi64 (x3 + 1))]
    else none
  else
    some [tI 0]
theorem kB (x0 : List (List Int)) (x1 : List Int) (x2 x3 : Int) (h : zW R x0 x1 x2 x3 = some o) : R zN [tLA8 x0, tA8 x1, tI x2, tI x3] = some o := go_ (b := fun c => zW c x0 x1 x2 x3) (fun c => by kernel_rfl) h
def zq (call : Oracle) (a0 : List (List Int)) (a1 : List Int) : Option (List TV) :=
  (call zN [tLA8 a0, tA8 a1, tI ((List.length a0 : Nat) : Int), tI 0]).bind fun o1 =>
  bif ((gI o1 0) == 0) then
    some [tI (-1)]
  else
    some [tI (gI o1 1)]
theorem kz (a0 : List (List Int)) (a1 : List Int) (h : zq R a0 a1 = some o) : R zp [tLA8 a0, tA8 a1] = some o := go_ (b := fun c => zq c a0 a1) (fun c => by kernel_rfl) h
def zg (call : Oracle) (a0 : List (List Int)) (a1 : List Int) : Option (List TV) :=
  (call zp [tLA8 a0, tA8 a1]).bind fun o1 =>
  some [tB (decide (0 ≤ (gI o1 0)))]
theorem zAl (a0 : List (List Int)) (a1 : List Int) (h : zg R a0 a1 = some o) : R zz [tLA8 a0, tA8 a1] = some o := go_ (b := fun c => zg c a0 a1) (fun c => by kernel_rfl) h
def zBO (call : Oracle) (x0 : List (List Int)) (x1 x2 : Int) : Option (List TV) :=
  bif decide (x2 < ((List.length x0 : Nat) : Int)) then
    (call jm [tLA8 x0, tI x1, tI x2, tI 1]).bind fun o9 =>
    call zBD [tLA8 (gLA8 o9 1), tI (gI o9 2), tI (wi64 ((gI o9 3) + 1))]
  else
    some [tI 0, tLA8 x0]
theorem zFH (x0 : List (List Int)) (x1 x2 : Int) (h : zBO R x0 x1 x2 = some o) : R zBD [tLA8 x0, tI x1, tI x2] = some o := go_ (b := fun c => zBO c x0 x1 x2) (fun c => by kernel_rfl) h
def ju (call : Oracle) (x0 : List (List Int)) (x1 x2 x3 : Int) : Option (List TV) :=
  bif decide (x3 < x1) then
    bif (decide (0 ≤ x2) && decide (x2 < ((List.length x0 : Nat) : Int))) then
      (call zFn [tI x3, tI x1]).bind fun o5 =>
      (call zDl [tA8 (List.getD x0 (Int.toNat x2) (List.replicate 8 0)), tA8 (gA8 o5 0), tI x1]).bind fun o6 =>
      (call zz [tLA8 x0, tA8 (gA8 o6 0)]).bind fun o7 =>
      bif (!(gB o7 0)) then
        bif (apOk x0 [(gA8 o6 0)]) then
          call jm [tLA8 (x0 ++ [(gA8 o6 0)]), tI x1, tI x2, tI (wi64 (x3 + 1))]
        else none
      else
        call jm [tLA8 x0, tI x1, tI x2, tI (wi64 (x3 + 1))]
    else none
  else
    some [tI 0, tLA8 x0, tI x1, tI x2]
theorem zC3 (x0 : List (List Int)) (x1 x2 x3 : Int) (h : ju R x0 x1 x2 x3 = some o) : R jm [tLA8 x0, tI x1, tI x2, tI x3] = some o := go_ (b := fun c => ju c x0 x1 x2 x3) (fun c => by kernel_rfl) h
def zEo (call : Oracle) (a0 : Int) : Option (List TV) :=
  (call ja [tI a0]).bind fun o1 =>
  (call zBD [tLA8 [(gA8 o1 0)], tI a0, tI 0]).bind fun o10 =>
  some [tLA8 (gLA8 o10 1)]
theorem zL5 (a0 : Int) (h : zEo R a0 = some o) : R zEX [tI a0] = some o := go_ (b := fun c => zEo c a0) (fun c => by kernel_rfl) h
def b__i_Normal__turnBy_4 (call : Oracle) (x0 x1 : Int) (x2 : List (List Int)) (x3 x4 : Int) : Option (List TV) :=
  bif decide (x4 < x3) then
    bif (decide (0 ≤ x4) && decide (x4 < ((List.length x2 : Nat) : Int))) then
      (call zLC [tA8 (List.getD x2 (Int.toNat x4) (List.replicate 8 0)), tI x0]).bind fun o2 =>
      bif (decide (0 ≤ x4) && decide (x4 < ((List.length x2 : Nat) : Int))) then
        call i__i_Normal__turnBy_4 [tI x0, tI x1, tLA8 (List.set x2 (Int.toNat x4) (gA8 o2 0)), tI x3, tI (wi64 (x4 + 1))]
      else none
    else none
  else
    some [tI 0, tI x0, tI x1, tLA8 x2]
theorem zBQ (x0 x1 : Int) (x2 : List (List Int)) (x3 x4 : Int) (h : b__i_Normal__turnBy_4 R x0 x1 x2 x3 x4 = some o) : R i__i_Normal__turnBy_4 [tI x0, tI x1, tLA8 x2, tI x3, tI x4] = some o := go_ (b := fun c => b__i_Normal__turnBy_4 c x0 x1 x2 x3 x4) (fun c => by kernel_rfl) h
def b__i_Normal__turnBy (call : Oracle) (a0 : Int × Int × List (List Int)) (a1 : Int) : Option (List TV) :=
  bif decide (a0.1 < 2) then
    some [zA a0]
  else
    bif ((Int.tmod a1 2) != 0) then
      (call i__i_Normal__turnBy_4 [tI a0.1, tI (wi64 (a0.2.1 + a1)), tLA8 a0.2.2, tI ((List.length a0.2.2 : Nat) : Int), tI 0]).bind fun o3 =>
      some [zA ((gI o3 1), ((gI o3 2), (gLA8 o3 3)))]
    else
      some [zA (a0.1, ((wi64 (a0.2.1 + a1)), a0.2.2))]
theorem zCG (a0 : Int × Int × List (List Int)) (a1 : Int) (h : b__i_Normal__turnBy R a0 a1 = some o) : R i__i_Normal__turnBy [zA a0, tI a1] = some o := go_ (b := fun c => b__i_Normal__turnBy c a0 a1) (fun c => by kernel_rfl) h
def zAu (call : Oracle) (a0 : List Int) (a1 : Int) : Option (List TV) :=
  (call jP [tI a1]).bind fun o1 =>
  (call zCT [tA8 a0, tI a1]).bind fun o2 =>
  (call zDl [tA8 (gA8 o1 0), tA8 (gA8 o2 0), tI a1]).bind fun o3 =>
  some [tA8 (gA8 o3 0)]
theorem zG3 (a0 : List Int) (a1 : Int) (h : zAu R a0 a1 = some o) : R zAq [tA8 a0, tI a1] = some o := go_ (b := fun c => zAu c a0 a1) (fun c => by kernel_rfl) h
def b__i_Normal__putInverse (call : Oracle) (a0 : Int × Int × List (List Int)) (a1 : List Int) : Option (List TV) :=
  (call i__i_Normal__turnBy [zA a0, tI (-1)]).bind fun o1 =>
  (call zAq [tA8 a1, tI ((zD o1 0).1)]).bind fun o2 =>
  (call i__i_Normal__put [zA (zD o1 0), tA8 (gA8 o2 0)]).bind fun o3 =>
  some [zA (zD o3 0)]
theorem zAX (a0 : Int × Int × List (List Int)) (a1 : List Int) (h : b__i_Normal__putInverse R a0 a1 = some o) : R i__i_Normal__putInverse [zA a0, tA8 a1] = some o := go_ (b := fun c => b__i_Normal__putInverse c a0 a1) (fun c => by kernel_rfl) h
def zAR (call : Oracle) (x0 x1 : Int) (x2 : List (List Int)) (x3 x4 : Int) (x5 x6 : List (List Int)) (x7 x8 : Int) : Option (List TV) :=
  bif decide (x8 < x7) then
    bif (decide (0 ≤ x8) && decide (x8 < ((List.length x6 : Nat) : Int))) then
      (call i__i_Normal__put [zA (x3, (x4, x5)), tA8 (List.getD x6 (Int.toNat x8) (List.replicate 8 0))]).bind fun o4 =>
      call zAQ [tI x0, tI x1, tLA8 x2, tI ((zD o4 0).1), tI (((zD o4 0).2).1), tLA8 (((zD o4 0).2).2), tLA8 x6, tI x7, tI (wi64 (x8 + 1))]
    else none
  else
    some [tI 0, tI x0, tI x1, tLA8 x2, tI x3, tI x4, tLA8 x5]
theorem zCd (x0 x1 : Int) (x2 : List (List Int)) (x3 x4 : Int) (x5 x6 : List (List Int)) (x7 x8 : Int) (h : zAR R x0 x1 x2 x3 x4 x5 x6 x7 x8 = some o) : R zAQ [tI x0, tI x1, tLA8 x2, tI x3, tI x4, tLA8 x5, tLA8 x6, tI x7, tI x8] = some o := go_ (b := fun c => zAR c x0 x1 x2 x3 x4 x5 x6 x7 x8) (fun c => by kernel_rfl) h
def zDZ (call : Oracle) (a0 a1 : Int × Int × List (List Int)) : Option (List TV) :=
  (call kJ [zA a0]).bind fun o1 =>
  (call i__i_Normal__turnBy [zA (zD o1 0), tI a1.2.1]).bind fun o2 =>
  (call zAQ [tI 0, tI 0, tLA8 [], tI ((zD o2 0).1), tI (((zD o2 0).2).1), tLA8 (((zD o2 0).2).2), tLA8 a1.2.2, tI ((List.length a1.2.2 : Nat) : Int), tI 0]).bind fun o5 =>
  some [zA ((gI o5 4), ((gI o5 5), (gLA8 o5 6)))]
theorem zJ1 (a0 a1 : Int × Int × List (List Int)) (h : zDZ R a0 a1 = some o) : R zEw [zA a0, zA a1] = some o := go_ (b := fun c => zDZ c a0 a1) (fun c => by kernel_rfl) h
def zBN (call : Oracle) (a0 : Int × Int × List (List Int)) (a1 : List Int) : Option (List TV) :=
  (call i__i_Normal__putInverse [zA (a0.1, (0, [])), tA8 a1]).bind fun o1 =>
  (call zEw [zA (zD o1 0), zA a0]).bind fun o2 =>
  some [zA (zD o2 0)]
theorem zFE (a0 : Int × Int × List (List Int)) (a1 : List Int) (h : zBN R a0 a1 = some o) : R zBA [zA a0, tA8 a1] = some o := go_ (b := fun c => zBN c a0 a1) (fun c => by kernel_rfl) h
def zC0 (call : Oracle) (a0 : Int × Int × List (List Int)) (a1 : List Int) : Option (List TV) :=
  (call zBA [zA a0, tA8 a1]).bind fun o1 =>
  (call i__i_Normal__put [zA (zD o1 0), tA8 a1]).bind fun o2 =>
  some [zA (zD o2 0)]
theorem zHi (a0 : Int × Int × List (List Int)) (a1 : List Int) (h : zC0 R a0 a1 = some o) : R zCq [zA a0, tA8 a1] = some o := go_ (b := fun c => zC0 c a0 a1) (fun c => by kernel_rfl) h
def zk (call : Oracle) (x0 x1 : List (List Int)) (x2 x3 : Int) : Option (List TV) :=
  bif decide (x3 < x2) then
    bif (decide (0 ≤ x3) && decide (x3 < ((List.length x0 : Nat) : Int))) then
      bif (decide (0 ≤ x3) && decide (x3 < ((List.length x1 : Nat) : Int))) then
        bif ((List.getD x0 (Int.toNat x3) (List.replicate 8 0)) != (List.getD x1 (Int.toNat x3) (List.replicate 8 0))) then
          some [tI 1, tB false]
        else
          call zj [tLA8 x0, tLA8 x1, tI x2, tI (wi64 (x3 + 1))]
      else none
    else none
  else
    some [tI 0]
theorem ke (x0 x1 : List (List Int)) (x2 x3 : Int) (h : zk R x0 x1 x2 x3 = some o) : R zj [tLA8 x0, tLA8 x1, tI x2, tI x3] = some o := go_ (b := fun c => zk c x0 x1 x2 x3) (fun c => by kernel_rfl) h
def zr (call : Oracle) (a0 a1 : List (List Int)) : Option (List TV) :=
  bif (((List.length a0 : Nat) : Int) != ((List.length a1 : Nat) : Int)) then
    some [tB false]
  else
    (call zj [tLA8 a0, tLA8 a1, tI ((List.length a0 : Nat) : Int), tI 0]).bind fun o1 =>
    bif ((gI o1 0) == 0) then
      some [tB true]
    else
      some [tB (gB o1 1)]
theorem zBd (a0 a1 : List (List Int)) (h : zr R a0 a1 = some o) : R kI [tLA8 a0, tLA8 a1] = some o := go_ (b := fun c => zr c a0 a1) (fun c => by kernel_rfl) h
def zAi (call : Oracle) (a0 a1 : Int × Int × List (List Int)) : Option (List TV) :=
  bif (a0.1 == a1.1) then
    bif (a0.2.1 == a1.2.1) then
      (call kI [tLA8 a0.2.2, tLA8 a1.2.2]).bind fun o1 =>
      some [tB (gB o1 0)]
    else
      some [tB false]
  else
    some [tB false]
theorem zKl (a0 a1 : Int × Int × List (List Int)) (h : zAi R a0 a1 = some o) : R zAb [zA a0, zA a1] = some o := go_ (b := fun c => zAi c a0 a1) (fun c => by kernel_rfl) h
def zBj (call : Oracle) (a0 a1 : Int × Int × List (List Int)) : Option (List TV) :=
  (call zAb [zA a0, zA a1]).bind fun o1 =>
  some [tB (gB o1 0)]
theorem zH5 (a0 a1 : Int × Int × List (List Int)) (h : zBj R a0 a1 = some o) : R zBf [zA a0, zA a1] = some o := go_ (b := fun c => zBj c a0 a1) (fun c => by kernel_rfl) h
def zR (call : Oracle) (x0 : List (Int × Int × List (List Int))) (x1 x2 : Int) (x3 : List (List Int)) (x4 x5 : Int) : Option (List TV) :=
  bif decide (x5 < x4) then
    bif (decide (0 ≤ x5) && decide (x5 < ((List.length x0 : Nat) : Int))) then
      (call zBf [zA (List.getD x0 (Int.toNat x5) (0, (0, []))), zA (x1, (x2, x3))]).bind fun o2 =>
      bif (gB o2 0) then
        some [tI 1, tI x5]
      else
        call zM [zB x0, tI x1, tI x2, tLA8 x3, tI x4, tI (wi64 (x5 + 1))]
    else none
  else
    some [tI 0]
theorem zt (x0 : List (Int × Int × List (List Int))) (x1 x2 : Int) (x3 : List (List Int)) (x4 x5 : Int) (h : zR R x0 x1 x2 x3 x4 x5 = some o) : R zM [zB x0, tI x1, tI x2, tLA8 x3, tI x4, tI x5] = some o := go_ (b := fun c => zR c x0 x1 x2 x3 x4 x5) (fun c => by kernel_rfl) h
def ze (call : Oracle) (a0 : List (Int × Int × List (List Int))) (a1 : Int × Int × List (List Int)) : Option (List TV) :=
  (call zM [zB a0, tI a1.1, tI a1.2.1, tLA8 a1.2.2, tI ((List.length a0 : Nat) : Int), tI 0]).bind fun o3 =>
  bif ((gI o3 0) == 0) then
    some [tI (-1)]
  else
    some [tI (gI o3 1)]
theorem kX (a0 : List (Int × Int × List (List Int))) (a1 : Int × Int × List (List Int)) (h : ze R a0 a1 = some o) : R zd [zB a0, zA a1] = some o := go_ (b := fun c => ze c a0 a1) (fun c => by kernel_rfl) h
def zZ (call : Oracle) (a0 : List (Int × Int × List (List Int))) (a1 : Int × Int × List (List Int)) : Option (List TV) :=
  (call zd [zB a0, zA a1]).bind fun o1 =>
  some [tB (decide (0 ≤ (gI o1 0)))]
theorem jh (a0 : List (Int × Int × List (List Int))) (a1 : Int × Int × List (List Int)) (h : zZ R a0 a1 = some o) : R zn [zB a0, zA a1] = some o := go_ (b := fun c => zZ c a0 a1) (fun c => by kernel_rfl) h
def bcmp_isNaN_byte_ (call : Oracle) (a0 : Int) : Option (List TV) :=
  some [tB (a0 != a0)]
theorem zH8 (a0 : Int) (h : bcmp_isNaN_byte_ R a0 = some o) : R icmp_isNaN_byte_ [tU8 a0] = some o := go_ (b := fun c => bcmp_isNaN_byte_ c a0) (fun c => by kernel_rfl) h
def bcmp_Compare_byte_ (call : Oracle) (a0 a1 : Int) : Option (List TV) :=
  (call icmp_isNaN_byte_ [tU8 a0]).bind fun o1 =>
  (call icmp_isNaN_byte_ [tU8 a1]).bind fun o2 =>
  bif (gB o1 0) then
    bif (gB o2 0) then
      some [tI 0]
    else
      some [tI (-1)]
  else
    bif (gB o2 0) then
      some [tI 1]
    else
      bif decide (a0 < a1) then
        some [tI (-1)]
      else
        bif decide (a1 < a0) then
          some [tI 1]
        else
          some [tI 0]
theorem zGJ (a0 a1 : Int) (h : bcmp_Compare_byte_ R a0 a1 = some o) : R icmp_Compare_byte_ [tU8 a0, tU8 a1] = some o := go_ (b := fun c => bcmp_Compare_byte_ c a0 a1) (fun c => by kernel_rfl) h
def kD (call : Oracle) (x0 x1 : List Int) (x2 x3 : Int) : Option (List TV) :=
  bif decide (x3 < x2) then
    bif (decide (0 ≤ x3) && decide (x3 < ((List.length x0 : Nat) : Int))) then
      bif decide (((List.length x1 : Nat) : Int) ≤ x3) then
        some [tI 1, tI 1]
      else
        bif (decide (0 ≤ x3) && decide (x3 < ((List.length x1 : Nat) : Int))) then
          (call icmp_Compare_byte_ [tU8 (List.getD x0 (Int.toNat x3) 0), tU8 (List.getD x1 (Int.toNat x3) 0)]).bind fun o2 =>
          bif ((gI o2 0) != 0) then
            some [tI 1, tI (gI o2 0)]
          else
            call kC [tLU8 x0, tLU8 x1, tI x2, tI (wi64 (x3 + 1))]
        else none
    else none
  else
    some [tI 0, tLU8 x0, tLU8 x1]
theorem ji (x0 x1 : List Int) (x2 x3 : Int) (h : kD R x0 x1 x2 x3 = some o) : R kC [tLU8 x0, tLU8 x1, tI x2, tI x3] = some o := go_ (b := fun c => kD c x0 x1 x2 x3) (fun c => by kernel_rfl) h
def ky (call : Oracle) (a0 a1 : List Int) : Option (List TV) :=
  (call kC [tLU8 a0, tLU8 a1, tI ((List.length a0 : Nat) : Int), tI 0]).bind fun o3 =>
  bif ((gI o3 0) == 0) then
    bif decide (((List.length (gLU8 o3 1) : Nat) : Int) < ((List.length (gLU8 o3 2) : Nat) : Int)) then
      some [tI (-1)]
    else
      some [tI 0]
  else
    some [tI (gI o3 1)]
theorem zDe (a0 a1 : List Int) (h : ky R a0 a1 = some o) : R kv [tLU8 a0, tLU8 a1] = some o := go_ (b := fun c => ky c a0 a1) (fun c => by kernel_rfl) h
def zBk (call : Oracle) (a0 a1 : List Int) : Option (List TV) :=
  (call kv [tLU8 a0, tLU8 a1]).bind fun o1 =>
  some [tI (gI o1 0)]
theorem zH6 (a0 a1 : List Int) (h : zBk R a0 a1 = some o) : R zBg [tA8 a0, tA8 a1] = some o := go_ (b := fun c => zBk c a0 a1) (fun c => by kernel_rfl) h
def zK (call : Oracle) (x0 x1 : List (List Int)) (x2 x3 : Int) : Option (List TV) :=
  bif decide (x3 < x2) then
    bif (decide (0 ≤ x3) && decide (x3 < ((List.length x0 : Nat) : Int))) then
      bif decide (((List.length x1 : Nat) : Int) ≤ x3) then
        some [tI 1, tI 1]
      else
        bif (decide (0 ≤ x3) && decide (x3 < ((List.length x1 : Nat) : Int))) then
          (call zBg [tA8 (List.getD x0 (Int.toNat x3) (List.replicate 8 0)), tA8 (List.getD x1 (Int.toNat x3) (List.replicate 8 0))]).bind fun o2 =>
          bif ((gI o2 0) != 0) then
            some [tI 1, tI (gI o2 0)]
          else
            call zJ [tLA8 x0, tLA8 x1, tI x2, tI (wi64 (x3 + 1))]
        else none
    else none
  else
    some [tI 0, tLA8 x0, tLA8 x1]
theorem za (x0 x1 : List (List Int)) (x2 x3 : Int) (h : zK R x0 x1 x2 x3 = some o) : R zJ [tLA8 x0, tLA8 x1, tI x2, tI x3] = some o := go_ (b := fun c => zK c x0 x1 x2 x3) (fun c => by kernel_rfl) h
def zQ (call : Oracle) (a0 a1 : List (List Int)) : Option (List TV) :=
  (call zJ [tLA8 a0, tLA8 a1, tI ((List.length a0 : Nat) : Int), tI 0]).bind fun o3 =>
  bif ((gI o3 0) == 0) then
    bif decide (((List.length (gLA8 o3 1) : Nat) : Int) < ((List.length (gLA8 o3 2) : Nat) : Int)) then
      some [tI (-1)]
    else
      some [tI 0]
  else
    some [tI (gI o3 1)]
theorem kH (a0 a1 : List (List Int)) (h : zQ R a0 a1 = some o) : R zP [tLA8 a0, tLA8 a1] = some o := go_ (b := fun c => zQ c a0 a1) (fun c => by kernel_rfl) h
def zAv (call : Oracle) (a0 a1 : Int × Int × List (List Int)) : Option (List TV) :=
  (call zP [tLA8 a0.2.2, tLA8 a1.2.2]).bind fun o1 =>
  some [tI (gI o1 0)]
theorem zG4 (a0 a1 : Int × Int × List (List Int)) (h : zAv R a0 a1 = some o) : R zAr [zA a0, zA a1] = some o := go_ (b := fun c => zAv c a0 a1) (fun c => by kernel_rfl) h
def kd (call : Oracle) (x0 : List (Int × Int × List (List Int))) : Option (List TV) :=
  sortE call 61 (.pair (.int .i64) (.pair (.int .i64) (.slice (.arr .u8 8)))) x0
theorem zAk (x0 : List (Int × Int × List (List Int))) (h : kd R x0 = some o) : R zy [zB x0] = some o := go_ (b := fun c => kd c x0) (fun c => by kernel_rfl) h
def kV (call : Oracle) (x0 : List (Int × Int × List (List Int))) (x1 : List (List Int)) (x2 : Int) : Option (List TV) :=
  bif decide (x2 < ((List.length x0 : Nat) : Int)) then
    (call zx [zB x0, tLA8 x1, tI x2, tI ((List.length x1 : Nat) : Int), tI 0]).bind fun o8 =>
    bif ((gI o8 0) == 0) then
      call kT [zB (zG o8 1), tLA8 (gLA8 o8 2), tI (wi64 ((gI o8 3) + 1))]
    else
      some [tI 1, zB (zG o8 1), tB (gB o8 2)]
  else
    some [tI 0, zB x0]
theorem zBc (x0 : List (Int × Int × List (List Int))) (x1 : List (List Int)) (x2 : Int) (h : kV R x0 x1 x2 = some o) : R kT [zB x0, tLA8 x1, tI x2] = some o := go_ (b := fun c => kV c x0 x1 x2) (fun c => by kernel_rfl) h
def kU (call : Oracle) (x0 : List (Int × Int × List (List Int))) (x1 : List (List Int)) (x2 x3 x4 : Int) : Option (List TV) :=
  bif decide (x4 < x3) then
    bif (decide (0 ≤ x4) && decide (x4 < ((List.length x1 : Nat) : Int))) then
      bif (decide (0 ≤ x2) && decide (x2 < ((List.length x0 : Nat) : Int))) then
        (call zCq [zA (List.getD x0 (Int.toNat x2) (0, (0, []))), tA8 (List.getD x1 (Int.toNat x4) (List.replicate 8 0))]).bind fun o5 =>
        bif decide (0 < ((List.length x0 : Nat) : Int)) then
          bif (((zD o5 0).2).1 != ((List.getD x0 0 (0, (0, []))).2).1) then
            call zx [zB x0, tLA8 x1, tI x2, tI x3, tI (wi64 (x4 + 1))]
          else
            bif decide (0 < ((List.length x0 : Nat) : Int)) then
              bif (((List.length (((zD o5 0).2).2) : Nat) : Int) != ((List.length (((List.getD x0 0 (0, (0, []))).2).2) : Nat) : Int)) then
                call zx [zB x0, tLA8 x1, tI x2, tI x3, tI (wi64 (x4 + 1))]
              else
                (call zn [zB x0, zA (zD o5 0)]).bind fun o6 =>
                bif (gB o6 0) then
                  call zx [zB x0, tLA8 x1, tI x2, tI x3, tI (wi64 (x4 + 1))]
                else
                  bif (((List.length x0 : Nat) : Int) == 120) then
                    some [tI 1, zB [], tB false]
                  else
                    bif (apOk x0 [(zD o5 0)]) then
                      call zx [zB (x0 ++ [(zD o5 0)]), tLA8 x1, tI x2, tI x3, tI (wi64 (x4 + 1))]
                    else none
            else none
        else none
      else none
    else none
  else
    some [tI 0, zB x0, tLA8 x1, tI x2]
theorem jv (x0 : List (Int × Int × List (List Int))) (x1 : List (List Int)) (x2 x3 x4 : Int) (h : kU R x0 x1 x2 x3 x4 = some o) : R zx [zB x0, tLA8 x1, tI x2, tI x3, tI x4] = some o := go_ (b := fun c => kU c x0 x1 x2 x3 x4) (fun c => by kernel_rfl) h
def jq (call : Oracle) (a0 : Int × Int × List (List Int)) : Option (List TV) :=
  (call zIs [zA a0]).bind fun o1 =>
  (call zEX [tI a0.1]).bind fun o2 =>
  (call kT [zB [(zD o1 0)], tLA8 (gLA8 o2 0), tI 0]).bind fun o9 =>
  bif ((gI o9 0) == 0) then
    (call zy [zB (zG o9 1)]).bind fun o10 =>
    some [zB (zG o10 0), tB true]
  else
    some [zB (zG o9 1), tB (gB o9 2)]
theorem zC2 (a0 : Int × Int × List (List Int)) (h : jq R a0 = some o) : R jH [zA a0] = some o := go_ (b := fun c => jq c a0) (fun c => by kernel_rfl) h
def zHX (call : Oracle) (a0 : Int × Int × List (List Int)) : Option (List TV) :=
  (call zET [tI a0.2.1, tI (-200), tI 200]).bind fun o1 =>
  bif (!(gB o1 0)) then
    some [zA (0, (0, [])), tI 3]
  else
    bif decide (200 < ((List.length a0.2.2 : Nat) : Int)) then
      some [zA (0, (0, [])), tI 3]
    else
      some [zA a0, tI 0]
theorem zPu (a0 : Int × Int × List (List Int)) (h : zHX R a0 = some o) : R zHI [zA a0] = some o := go_ (b := fun c => zHX c a0) (fun c => by kernel_rfl) h
def kc (call : Oracle) (a0 : Int × Int × List (List Int)) : Option (List TV) :=
  (call zFq [zA a0]).bind fun o1 =>
  bif (!(gB o1 0)) then
    some [zB [], tI 1]
  else
    bif decide (4 < a0.1) then
      some [zB [], tI 2]
    else
      (call jH [zA a0]).bind fun o2 =>
      bif (!(gB o2 1)) then
        some [zB [], tI 3]
      else
        bif decide (0 < ((List.length (zG o2 0) : Nat) : Int)) then
          (call zHI [zA (List.getD (zG o2 0) 0 (0, (0, [])))]).bind fun o3 =>
          bif ((gI o3 1) != 0) then
            some [zB [], tI (gI o3 1)]
          else
            some [zB (zG o2 0), tI 0]
        else none
theorem jg (a0 : Int × Int × List (List Int)) (h : kc R a0 = some o) : R jn [zA a0] = some o := go_ (b := fun c => kc c a0) (fun c => by kernel_rfl) h
def zDL (call : Oracle) (a0 a1 : Int × Int × List (List Int)) : Option (List TV) :=
  (call zAb [zA a0, zA a1]).bind fun o1 =>
  some [tB (gB o1 0)]
theorem zJi (a0 a1 : Int × Int × List (List Int)) (h : zDL R a0 a1 = some o) : R zDC [zA a0, zA a1] = some o := go_ (b := fun c => zDL c a0 a1) (fun c => by kernel_rfl) h
def zO (call : Oracle) (x0 : List (Int × Int × List (List Int))) (x1 x2 : Int) (x3 : List (List Int)) (x4 x5 : Int) : Option (List TV) :=
  bif decide (x5 < x4) then
    bif (decide (0 ≤ x5) && decide (x5 < ((List.length x0 : Nat) : Int))) then
      (call zDC [zA (List.getD x0 (Int.toNat x5) (0, (0, []))), zA (x1, (x2, x3))]).bind fun o2 =>
      bif (gB o2 0) then
        some [tI 1, tI x5]
      else
        call zI [zB x0, tI x1, tI x2, tLA8 x3, tI x4, tI (wi64 (x5 + 1))]
    else none
  else
    some [tI 0]
theorem zi (x0 : List (Int × Int × List (List Int))) (x1 x2 : Int) (x3 : List (List Int)) (x4 x5 : Int) (h : zO R x0 x1 x2 x3 x4 x5 = some o) : R zI [zB x0, tI x1, tI x2, tLA8 x3, tI x4, tI x5] = some o := go_ (b := fun c => zO c x0 x1 x2 x3 x4 x5) (fun c => by kernel_rfl) h
def zY (call : Oracle) (a0 : List (Int × Int × List (List Int))) (a1 : Int × Int × List (List Int)) : Option (List TV) :=
  (call zI [zB a0, tI a1.1, tI a1.2.1, tLA8 a1.2.2, tI ((List.length a0 : Nat) : Int), tI 0]).bind fun o3 =>
  bif ((gI o3 0) == 0) then
    some [tI (-1)]
  else
    some [tI (gI o3 1)]
theorem kK (a0 : List (Int × Int × List (List Int))) (a1 : Int × Int × List (List Int)) (h : zY R a0 a1 = some o) : R zX [zB a0, zA a1] = some o := go_ (b := fun c => zY c a0 a1) (fun c => by kernel_rfl) h
def zU (call : Oracle) (a0 : List (Int × Int × List (List Int))) (a1 : Int × Int × List (List Int)) : Option (List TV) :=
  (call zX [zB a0, zA a1]).bind fun o1 =>
  some [tB (decide (0 ≤ (gI o1 0)))]
theorem jN (a0 : List (Int × Int × List (List Int))) (a1 : Int × Int × List (List Int)) (h : zU R a0 a1 = some o) : R zh [zB a0, zA a1] = some o := go_ (b := fun c => zU c a0 a1) (fun c => by kernel_rfl) h
def jr (call : Oracle) (x0 x1 : Int) (x2 : List (List Int)) (x3 : List (Int × Int × List (List Int))) (x4 x5 : Int) (x6 : List (List Int)) : Option (List TV) :=
  (call zAb [zA (x4, (x5, x6)), zA (x0, (x1, x2))]).bind fun o5 =>
  bif (gB o5 0) then
    some [tI 0, tB true]
  else
    (call zh [zB x3, zA (x4, (x5, x6))]).bind fun o6 =>
    bif (gB o6 0) then
      some [tI 0, tB false]
    else
      bif (apOk x3 [(x4, (x5, x6))]) then
        (call zCS [zA (x4, (x5, x6))]).bind fun o7 =>
        call zBB [tI x0, tI x1, tLA8 x2, zB (x3 ++ [(x4, (x5, x6))]), tI ((zD o7 0).1), tI (((zD o7 0).2).1), tLA8 (((zD o7 0).2).2)]
      else none
theorem zJh (x0 x1 : Int) (x2 : List (List Int)) (x3 : List (Int × Int × List (List Int))) (x4 x5 : Int) (x6 : List (List Int)) (h : jr R x0 x1 x2 x3 x4 x5 x6 = some o) : R zBB [tI x0, tI x1, tLA8 x2, zB x3, tI x4, tI x5, tLA8 x6] = some o := go_ (b := fun c => jr c x0 x1 x2 x3 x4 x5 x6) (fun c => by kernel_rfl) h
def zEl (call : Oracle) (a0 : Int × Int × List (List Int)) : Option (List TV) :=
  (call zCS [zA a0]).bind fun o1 =>
  (call zBB [tI a0.1, tI a0.2.1, tLA8 a0.2.2, zB [], tI ((zD o1 0).1), tI (((zD o1 0).2).1), tLA8 (((zD o1 0).2).2)]).bind fun o8 =>
  some [tB (gB o8 1)]
theorem zL2 (a0 : Int × Int × List (List Int)) (h : zEl R a0 = some o) : R zEU [zA a0] = some o := go_ (b := fun c => zEl c a0) (fun c => by kernel_rfl) h
def zBl (call : Oracle) (a0 : Int × Int × List (List Int)) : Option (List TV) :=
  (call zEU [zA a0]).bind fun o1 =>
  some [tB (!(gB o1 0))]
theorem zH7 (a0 : Int × Int × List (List Int)) (h : zBl R a0 = some o) : R jE [zA a0] = some o := go_ (b := fun c => zBl c a0) (fun c => by kernel_rfl) h
def kR (call : Oracle) (x0 : List (Int × Int × List (List Int))) : Option (List TV) :=
  delE call 20 (.pair (.int .i64) (.pair (.int .i64) (.slice (.arr .u8 8)))) x0
theorem zAS (x0 : List (Int × Int × List (List Int))) (h : kR R x0 = some o) : R zu [zB x0] = some o := go_ (b := fun c => kR c x0) (fun c => by kernel_rfl) h
def zBP (call : Oracle) (a0 : Int × Int × List (List Int)) : Option (List TV) :=
  (call jn [zA a0]).bind fun o1 =>
  bif ((gI o1 1) != 0) then
    some [zB [], tI (gI o1 1)]
  else
    (call zu [zB (zG o1 0)]).bind fun o2 =>
    some [zB (zG o2 0), tI 0]
theorem zFI (a0 : Int × Int × List (List Int)) (h : zBP R a0 = some o) : R zBE [zA a0] = some o := go_ (b := fun c => zBP c a0) (fun c => by kernel_rfl) h
def zBv (call : Oracle) (x0 x1 : List Int) (x2 : Int) : Option (List TV) :=
  bif decide (x2 < 8) then
    bif (decide (0 ≤ x2) && decide (x2 < 8)) then
      bif (decide (0 ≤ x2) && decide (x2 < 8)) then
        bif ((List.getD x0 (Int.toNat x2) 0) != (List.getD x1 (Int.toNat x2) 0)) then
          some [tI 1, tB false]
        else
          call zBq [tA8 x0, tA8 x1, tI (wi64 (x2 + 1))]
      else none
    else none
  else
    some [tI 0]
theorem zGC (x0 x1 : List Int) (x2 : Int) (h : zBv R x0 x1 x2 = some o) : R zBq [tA8 x0, tA8 x1, tI x2] = some o := go_ (b := fun c => zBv c x0 x1 x2) (fun c => by kernel_rfl) h
def zFx (call : Oracle) (a0 a1 : List Int) : Option (List TV) :=
  (call zBq [tA8 a0, tA8 a1, tI 0]).bind fun o1 =>
  bif ((gI o1 0) == 0) then
    some [tB true]
  else
    some [tB (gB o1 1)]
theorem zNN (a0 a1 : List Int) (h : zFx R a0 a1 = some o) : R zFh [tA8 a0, tA8 a1] = some o := go_ (b := fun c => zFx c a0 a1) (fun c => by kernel_rfl) h
def zBH (call : Oracle) (x0 x1 : List (List Int)) (x2 : Int) : Option (List TV) :=
  bif decide (x2 < ((List.length x0 : Nat) : Int)) then
    bif (decide (0 ≤ x2) && decide (x2 < ((List.length x0 : Nat) : Int))) then
      bif (decide (0 ≤ x2) && decide (x2 < ((List.length x1 : Nat) : Int))) then
        (call zFh [tA8 (List.getD x0 (Int.toNat x2) (List.replicate 8 0)), tA8 (List.getD x1 (Int.toNat x2) (List.replicate 8 0))]).bind fun o2 =>
        bif (!(gB o2 0)) then
          some [tI 1, tB false]
        else
          call zA3 [tLA8 x0, tLA8 x1, tI (wi64 (x2 + 1))]
      else none
    else none
  else
    some [tI 0]
theorem zE8 (x0 x1 : List (List Int)) (x2 : Int) (h : zBH R x0 x1 x2 = some o) : R zA3 [tLA8 x0, tLA8 x1, tI x2] = some o := go_ (b := fun c => zBH c x0 x1 x2) (fun c => by kernel_rfl) h
def zCr (call : Oracle) (a0 a1 : List (List Int)) : Option (List TV) :=
  bif (((List.length a0 : Nat) : Int) != ((List.length a1 : Nat) : Int)) then
    some [tB false]
  else
    (call zA3 [tLA8 a0, tLA8 a1, tI 0]).bind fun o3 =>
    bif ((gI o3 0) == 0) then
      some [tB true]
    else
      some [tB (gB o3 1)]
theorem zLv (a0 a1 : List (List Int)) (h : zCr R a0 a1 = some o) : R zEQ [tLA8 a0, tLA8 a1] = some o := go_ (b := fun c => zCr c a0 a1) (fun c => by kernel_rfl) h
def zFy (call : Oracle) (a0 a1 : Int × Int × List (List Int)) : Option (List TV) :=
  bif (a0.1 != a1.1) then
    some [tB false]
  else
    bif (a0.2.1 != a1.2.1) then
      some [tB false]
    else
      (call zEQ [tLA8 a0.2.2, tLA8 a1.2.2]).bind fun o1 =>
      bif (!(gB o1 0)) then
        some [tB false]
      else
        some [tB true]
theorem zNO (a0 a1 : Int × Int × List (List Int)) (h : zFy R a0 a1 = some o) : R zDj [zA a0, zA a1] = some o := go_ (b := fun c => zFy c a0 a1) (fun c => by kernel_rfl) h
def zBI (call : Oracle) (x0 : List (Int × Int × List (List Int))) (x1 : List (Int × Int × List (List Int))) (x2 : Int) : Option (List TV) :=
  bif decide (x2 < ((List.length x0 : Nat) : Int)) then
    bif (decide (0 ≤ x2) && decide (x2 < ((List.length x0 : Nat) : Int))) then
      bif (decide (0 ≤ x2) && decide (x2 < ((List.length x1 : Nat) : Int))) then
        (call zDj [zA (List.getD x0 (Int.toNat x2) (0, (0, []))), zA (List.getD x1 (Int.toNat x2) (0, (0, [])))]).bind fun o2 =>
        bif (!(gB o2 0)) then
          some [tI 1, tB false]
        else
          call zA4 [zB x0, zB x1, tI (wi64 (x2 + 1))]
      else none
    else none
  else
    some [tI 0]
theorem zE9 (x0 : List (Int × Int × List (List Int))) (x1 : List (Int × Int × List (List Int))) (x2 : Int) (h : zBI R x0 x1 x2 = some o) : R zA4 [zB x0, zB x1, tI x2] = some o := go_ (b := fun c => zBI c x0 x1 x2) (fun c => by kernel_rfl) h
def zEg (call : Oracle) (a0 : List (Int × Int × List (List Int))) (a1 : List (Int × Int × List (List Int))) : Option (List TV) :=
  bif (((List.length a0 : Nat) : Int) != ((List.length a1 : Nat) : Int)) then
    some [tB false]
  else
    (call zA4 [zB a0, zB a1, tI 0]).bind fun o3 =>
    bif ((gI o3 0) == 0) then
      some [tB true]
    else
      some [tB (gB o3 1)]
theorem zLw (a0 : List (Int × Int × List (List Int))) (a1 : List (Int × Int × List (List Int))) (h : zEg R a0 a1 = some o) : R zBV [zB a0, zB a1] = some o := go_ (b := fun c => zEg c a0 a1) (fun c => by kernel_rfl) h
def zAD (call : Oracle) (x0 : List (List Int)) (x1 x2 : Int) : Option (List TV) :=
  bif decide (x2 < ((List.length x0 : Nat) : Int)) then
    (call jw [tLA8 x0, tI x1, tI x2, tI 0]).bind fun o2 =>
    call jx [tLA8 (gLA8 o2 1), tI (gI o2 2), tI (wi64 ((gI o2 3) + 1))]
  else
    some [tI 0, tLA8 x0, tI x1]
theorem zD1 (x0 : List (List Int)) (x1 x2 : Int) (h : zAD R x0 x1 x2 = some o) : R jx [tLA8 x0, tI x1, tI x2] = some o := go_ (b := fun c => zAD c x0 x1 x2) (fun c => by kernel_rfl) h
def zAC (call : Oracle) (x0 : List (List Int)) (x1 x2 x3 : Int) : Option (List TV) :=
  bif decide (x3 < 8) then
    bif (decide (0 ≤ x2) && decide (x2 < ((List.length x0 : Nat) : Int))) then
      bif (decide (0 ≤ x3) && decide (x3 < 8)) then
        call jw [tLA8 (List.set x0 (Int.toNat x2) (List.set (List.getD x0 (Int.toNat x2) []) (Int.toNat x3) (wu8 (x1)))), tI (wi64 (x1 + 1)), tI x2, tI (wi64 (x3 + 1))]
      else none
    else none
  else
    some [tI 0, tLA8 x0, tI x1, tI x2]
theorem zD0 (x0 : List (List Int)) (x1 x2 x3 : Int) (h : zAC R x0 x1 x2 x3 = some o) : R jw [tLA8 x0, tI x1, tI x2, tI x3] = some o := go_ (b := fun c => zAC c x0 x1 x2 x3) (fun c => by kernel_rfl) h
def zDE (call : Oracle) (a0 : List (List Int)) (a1 : Int) : Option (List TV) :=
  (call jx [tLA8 a0, tI a1, tI 0]).bind fun o3 =>
  some [tI (gI o3 2), tLA8 (gLA8 o3 1)]
theorem zJa (a0 : List (List Int)) (a1 : Int) (h : zDE R a0 a1 = some o) : R zA1 [tLA8 a0, tI a1] = some o := go_ (b := fun c => zDE c a0 a1) (fun c => by kernel_rfl) h
def zDu (call : Oracle) (a0 : Int × Int × List (List Int)) (a1 : Int) : Option (List TV) :=
  (call zA1 [tLA8 a0.2.2, tI a1]).bind fun o1 =>
  some [tI (gI o1 0), zA (a0.1, (a0.2.1, (gLA8 o1 1)))]
theorem zKj (a0 : Int × Int × List (List Int)) (a1 : Int) (h : zDu R a0 a1 = some o) : R zDi [zA a0, tI a1] = some o := go_ (b := fun c => zDu c a0 a1) (fun c => by kernel_rfl) h
def zAE (call : Oracle) (x0 : List (Int × Int × List (List Int))) (x1 x2 : Int) : Option (List TV) :=
  bif decide (x2 < ((List.length x0 : Nat) : Int)) then
    bif (decide (0 ≤ x2) && decide (x2 < ((List.length x0 : Nat) : Int))) then
      bif (decide (0 ≤ x2) && decide (x2 < ((List.length (List.set x0 (Int.toNat x2) (x1, (List.getD x0 (Int.toNat x2) (0, (0, []))).2)) : Nat) : Int))) then
        bif (decide (0 ≤ x2) && decide (x2 < ((List.length (List.set (List.set x0 (Int.toNat x2) (x1, (List.getD x0 (Int.toNat x2) (0, (0, []))).2)) (Int.toNat x2) ((List.getD (List.set x0 (Int.toNat x2) (x1, (List.getD x0 (Int.toNat x2) (0, (0, []))).2)) (Int.toNat x2) (0, (0, []))).1, ((wi64 (x1 + 1)), ((List.getD (List.set x0 (Int.toNat x2) (x1, (List.getD x0 (Int.toNat x2) (0, (0, []))).2)) (Int.toNat x2) (0, (0, []))).2).2))) : Nat) : Int))) then
          (call zA1 [tLA8 (((List.getD (List.set (List.set x0 (Int.toNat x2) (x1, (List.getD x0 (Int.toNat x2) (0, (0, []))).2)) (Int.toNat x2) ((List.getD (List.set x0 (Int.toNat x2) (x1, (List.getD x0 (Int.toNat x2) (0, (0, []))).2)) (Int.toNat x2) (0, (0, []))).1, ((wi64 (x1 + 1)), ((List.getD (List.set x0 (Int.toNat x2) (x1, (List.getD x0 (Int.toNat x2) (0, (0, []))).2)) (Int.toNat x2) (0, (0, []))).2).2))) (Int.toNat x2) (0, (0, []))).2).2), tI (wi64 ((wi64 (x1 + 1)) + 1))]).bind fun o2 =>
          call jy [zB (List.set (List.set (List.set x0 (Int.toNat x2) (x1, (List.getD x0 (Int.toNat x2) (0, (0, []))).2)) (Int.toNat x2) ((List.getD (List.set x0 (Int.toNat x2) (x1, (List.getD x0 (Int.toNat x2) (0, (0, []))).2)) (Int.toNat x2) (0, (0, []))).1, ((wi64 (x1 + 1)), ((List.getD (List.set x0 (Int.toNat x2) (x1, (List.getD x0 (Int.toNat x2) (0, (0, []))).2)) (Int.toNat x2) (0, (0, []))).2).2))) (Int.toNat x2) ((List.getD (List.set (List.set x0 (Int.toNat x2) (x1, (List.getD x0 (Int.toNat x2) (0, (0, []))).2)) (Int.toNat x2) ((List.getD (List.set x0 (Int.toNat x2) (x1, (List.getD x0 (Int.toNat x2) (0, (0, []))).2)) (Int.toNat x2) (0, (0, []))).1, ((wi64 (x1 + 1)), ((List.getD (List.set x0 (Int.toNat x2) (x1, (List.getD x0 (Int.toNat x2) (0, (0, []))).2)) (Int.toNat x2) (0, (0, []))).2).2))) (Int.toNat x2) (0, (0, []))).1, (((List.getD (List.set (List.set x0 (Int.toNat x2) (x1, (List.getD x0 (Int.toNat x2) (0, (0, []))).2)) (Int.toNat x2) ((List.getD (List.set x0 (Int.toNat x2) (x1, (List.getD x0 (Int.toNat x2) (0, (0, []))).2)) (Int.toNat x2) (0, (0, []))).1, ((wi64 (x1 + 1)), ((List.getD (List.set x0 (Int.toNat x2) (x1, (List.getD x0 (Int.toNat x2) (0, (0, []))).2)) (Int.toNat x2) (0, (0, []))).2).2))) (Int.toNat x2) (0, (0, []))).2).1, (gLA8 o2 1)))), tI (gI o2 0), tI (wi64 (x2 + 1))]
        else none
      else none
    else none
  else
    some [tI 0, zB x0, tI x1]
theorem zD2 (x0 : List (Int × Int × List (List Int))) (x1 x2 : Int) (h : zAE R x0 x1 x2 = some o) : R jy [zB x0, tI x1, tI x2] = some o := go_ (b := fun c => zAE c x0 x1 x2) (fun c => by kernel_rfl) h
end
end Go.Ev.YtmdkgikjnaijeaaGreat
