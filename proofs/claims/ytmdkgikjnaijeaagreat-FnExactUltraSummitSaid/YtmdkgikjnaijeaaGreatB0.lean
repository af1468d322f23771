/- Bodies, part 0. -/
import Derived.KernelRfl
import Derived.Test.YtmdkgikjnaijeaaGreatEnv
set_option linter.unusedVariables false
namespace Go.Ev.YtmdkgikjnaijeaaGreat
open Go.Ev
noncomputable section
variable {o : List TV}
def zEf (call : Oracle) (a0 : List (List Int)) (a1 : Int) : Option (List TV) :=
  bif decide ((wi64 (a1 - ((List.length a0 : Nat) : Int))) < 0) then
    some [tI (-1)]
  else
    some [tI (wi64 (a1 - ((List.length a0 : Nat) : Int)))]
theorem zLu (a0 : List (List Int)) (a1 : Int) (h : zEf R a0 a1 = some o) : R zEP [tLA8 a0, tI a1] = some o := go_ (b := fun c => zEf c a0 a1) (fun c => by kernel_rfl) h
def zFw (call : Oracle) (a0 : Int × Int × List (List Int)) (a1 : Int) : Option (List TV) :=
  (call zEP [tLA8 a0.2.2, tI a1]).bind fun o1 =>
  bif decide ((gI o1 0) < 0) then
    some [tI (-1)]
  else
    some [tI (gI o1 0)]
theorem zNM (a0 : Int × Int × List (List Int)) (a1 : Int) (h : zFw R a0 a1 = some o) : R zFg [zA a0, tI a1] = some o := go_ (b := fun c => zFw c a0 a1) (fun c => by kernel_rfl) h
def zBu (call : Oracle) (x0 x1 x2 : List Int) (x3 : Int) : Option (List TV) :=
  bif decide (x3 < 8) then
    bif (decide (0 ≤ x3) && decide (x3 < 8)) then
      bif (decide (0 ≤ x3) && decide (x3 < 8)) then
        call zBp [tA8 x0, tA8 x1, tA8 (List.set x2 (Int.toNat x3) (List.getD x0 (Int.toNat x3) 0)), tI (wi64 (x3 + 1))]
      else none
    else none
  else
    some [tI 0, tA8 x1, tA8 x2]
theorem zGB (x0 x1 x2 : List Int) (x3 : Int) (h : zBu R x0 x1 x2 x3 = some o) : R zBp [tA8 x0, tA8 x1, tA8 x2, tI x3] = some o := go_ (b := fun c => zBu c x0 x1 x2 x3) (fun c => by kernel_rfl) h
def zFu (call : Oracle) (a0 : List Int) : Option (List TV) :=
  (call zBp [tA8 a0, tA8 (List.replicate 8 0), tA8 (List.replicate 8 0), tI 0]).bind fun o1 =>
  some [tA8 (gA8 o1 2)]
theorem zNK (a0 : List Int) (h : zFu R a0 = some o) : R zFf [tA8 a0] = some o := go_ (b := fun c => zFu c a0) (fun c => by kernel_rfl) h
def zBG (call : Oracle) (x0 x1 : List (List Int)) (x2 : Int) : Option (List TV) :=
  bif decide (x2 < ((List.length x0 : Nat) : Int)) then
    bif (decide (0 ≤ x2) && decide (x2 < ((List.length x0 : Nat) : Int))) then
      (call zFf [tA8 (List.getD x0 (Int.toNat x2) (List.replicate 8 0))]).bind fun o2 =>
      bif (decide (0 ≤ x2) && decide (x2 < ((List.length x1 : Nat) : Int))) then
        call zA0 [tLA8 x0, tLA8 (List.set x1 (Int.toNat x2) (gA8 o2 0)), tI (wi64 (x2 + 1))]
      else none
    else none
  else
    some [tI 0, tLA8 x1]
theorem zE7 (x0 x1 : List (List Int)) (x2 : Int) (h : zBG R x0 x1 x2 = some o) : R zA0 [tLA8 x0, tLA8 x1, tI x2] = some o := go_ (b := fun c => zBG c x0 x1 x2) (fun c => by kernel_rfl) h
def zEe (call : Oracle) (a0 : List (List Int)) : Option (List TV) :=
  bif (mkOk ((List.length a0 : Nat) : Int)) then
    (call zA0 [tLA8 a0, tLA8 (List.replicate (Int.toNat ((List.length a0 : Nat) : Int)) (List.replicate 8 0)), tI 0]).bind fun o3 =>
    some [tLA8 (gLA8 o3 1)]
  else none
theorem zLt (a0 : List (List Int)) (h : zEe R a0 = some o) : R zEO [tLA8 a0] = some o := go_ (b := fun c => zEe c a0) (fun c => by kernel_rfl) h
def zFv (call : Oracle) (a0 : Int × Int × List (List Int)) : Option (List TV) :=
  (call zEO [tLA8 a0.2.2]).bind fun o1 =>
  some [zA (a0.1, (a0.2.1, (gLA8 o1 0)))]
theorem zNL (a0 : Int × Int × List (List Int)) (h : zFv R a0 = some o) : R zAo [zA a0] = some o := go_ (b := fun c => zFv c a0) (fun c => by kernel_rfl) h
def zLl (call : Oracle) (a0 a1 a2 : Int) : Option (List TV) :=
  bif decide (a1 ≤ a0) then
    some [tB (decide (a0 ≤ a2))]
  else
    some [tB false]
theorem zSO (a0 a1 a2 : Int) (h : zLl R a0 a1 a2 = some o) : R zEu [tI a0, tI a1, tI a2] = some o := go_ (b := fun c => zLl c a0 a1 a2) (fun c => by kernel_rfl) h
def zE4 (call : Oracle) (x0 : List Int) (x1 : List Bool) (x2 x3 : Int) : Option (List TV) :=
  bif decide (x3 < 8) then
    bif decide (x2 ≤ x3) then
      bif (decide (0 ≤ x3) && decide (x3 < 8)) then
        bif ((List.getD x0 (Int.toNat x3) 0) != 0) then
          some [tI 1, tB false]
        else
          call zDU [tA8 x0, tAB8 x1, tI x2, tI (wi64 (x3 + 1))]
      else none
    else
      bif (decide (0 ≤ x3) && decide (x3 < 8)) then
        bif decide (x2 ≤ (wi64 ((List.getD x0 (Int.toNat x3) 0)))) then
          some [tI 1, tB false]
        else
          bif (decide (0 ≤ x3) && decide (x3 < 8)) then
            bif (decide (0 ≤ (List.getD x0 (Int.toNat x3) 0)) && decide ((List.getD x0 (Int.toNat x3) 0) < 8)) then
              bif (List.getD x1 (Int.toNat (List.getD x0 (Int.toNat x3) 0)) false) then
                some [tI 1, tB false]
              else
                bif (decide (0 ≤ x3) && decide (x3 < 8)) then
                  bif (decide (0 ≤ (List.getD x0 (Int.toNat x3) 0)) && decide ((List.getD x0 (Int.toNat x3) 0) < 8)) then
                    call zDU [tA8 x0, tAB8 (List.set x1 (Int.toNat (List.getD x0 (Int.toNat x3) 0)) true), tI x2, tI (wi64 (x3 + 1))]
                  else none
                else none
            else none
          else none
      else none
  else
    some [tI 0]
theorem zJ0 (x0 : List Int) (x1 : List Bool) (x2 x3 : Int) (h : zE4 R x0 x1 x2 x3 = some o) : R zDU [tA8 x0, tAB8 x1, tI x2, tI x3] = some o := go_ (b := fun c => zE4 c x0 x1 x2 x3) (fun c => by kernel_rfl) h
def zLk (call : Oracle) (a0 : List Int) (a1 : Int) : Option (List TV) :=
  (call zEu [tI a1, tI 1, tI 8]).bind fun o1 =>
  bif (!(gB o1 0)) then
    some [tB false]
  else
    (call zDU [tA8 a0, tAB8 (List.replicate 8 false), tI a1, tI 0]).bind fun o2 =>
    bif ((gI o2 0) == 0) then
      some [tB true]
    else
      some [tB (gB o2 1)]
theorem zSN (a0 : List Int) (a1 : Int) (h : zLk R a0 a1 = some o) : R zLB [tA8 a0, tI a1] = some o := go_ (b := fun c => zLk c a0 a1) (fun c => by kernel_rfl) h
def zCw (call : Oracle) (x0 x1 : List Int) (x2 x3 : Int) : Option (List TV) :=
  bif decide (x3 < x2) then
    bif (decide (0 ≤ x3) && decide (x3 < 8)) then
      call zCl [tA8 x0, tA8 (List.set x1 (Int.toNat x3) (wu8 (x3))), tI x2, tI (wi64 (x3 + 1))]
    else none
  else
    some [tI 0, tA8 x0, tA8 x1]
theorem zHe (x0 x1 : List Int) (x2 x3 : Int) (h : zCw R x0 x1 x2 x3 = some o) : R zCl [tA8 x0, tA8 x1, tI x2, tI x3] = some o := go_ (b := fun c => zCw c x0 x1 x2 x3) (fun c => by kernel_rfl) h
def zHR (call : Oracle) (a0 : Int) : Option (List TV) :=
  (call zCl [tA8 (List.replicate 8 0), tA8 (List.replicate 8 0), tI a0, tI 0]).bind fun o1 =>
  some [tA8 (gA8 o1 2)]
theorem zPo (a0 : Int) (h : zHR R a0 = some o) : R jY [tI a0] = some o := go_ (b := fun c => zHR c a0) (fun c => by kernel_rfl) h
def zCx (call : Oracle) (x0 x1 : List Int) (x2 x3 : Int) : Option (List TV) :=
  bif decide (x3 < x2) then
    bif (decide (0 ≤ x3) && decide (x3 < 8)) then
      call zCm [tA8 x0, tA8 (List.set x1 (Int.toNat x3) (wu8 ((wi64 ((wi64 (x2 - 1)) - x3))))), tI x2, tI (wi64 (x3 + 1))]
    else none
  else
    some [tI 0, tA8 x0, tA8 x1]
theorem zHf (x0 x1 : List Int) (x2 x3 : Int) (h : zCx R x0 x1 x2 x3 = some o) : R zCm [tA8 x0, tA8 x1, tI x2, tI x3] = some o := go_ (b := fun c => zCx c x0 x1 x2 x3) (fun c => by kernel_rfl) h
def zHU (call : Oracle) (a0 : Int) : Option (List TV) :=
  (call zCm [tA8 (List.replicate 8 0), tA8 (List.replicate 8 0), tI a0, tI 0]).bind fun o1 =>
  some [tA8 (gA8 o1 2)]
theorem zPr (a0 : Int) (h : zHU R a0 = some o) : R zAp [tI a0] = some o := go_ (b := fun c => zHU c a0) (fun c => by kernel_rfl) h
def zCy (call : Oracle) (x0 x1 x2 : List Int) (x3 x4 : Int) : Option (List TV) :=
  bif decide (x4 < x3) then
    bif (decide (0 ≤ x4) && decide (x4 < 8)) then
      bif (decide (0 ≤ (List.getD x0 (Int.toNat x4) 0)) && decide ((List.getD x0 (Int.toNat x4) 0) < 8)) then
        call zCn [tA8 x0, tA8 x1, tA8 (List.set x2 (Int.toNat (List.getD x0 (Int.toNat x4) 0)) (wu8 (x4))), tI x3, tI (wi64 (x4 + 1))]
      else none
    else none
  else
    some [tI 0, tA8 x1, tA8 x2]
theorem zHg (x0 x1 x2 : List Int) (x3 x4 : Int) (h : zCy R x0 x1 x2 x3 x4 = some o) : R zCn [tA8 x0, tA8 x1, tA8 x2, tI x3, tI x4] = some o := go_ (b := fun c => zCy c x0 x1 x2 x3 x4) (fun c => by kernel_rfl) h
def zHV (call : Oracle) (a0 : List Int) (a1 : Int) : Option (List TV) :=
  (call zCn [tA8 a0, tA8 (List.replicate 8 0), tA8 (List.replicate 8 0), tI a1, tI 0]).bind fun o1 =>
  some [tA8 (gA8 o1 2)]
theorem zPs (a0 : List Int) (a1 : Int) (h : zHV R a0 a1 = some o) : R zCB [tA8 a0, tI a1] = some o := go_ (b := fun c => zHV c a0 a1) (fun c => by kernel_rfl) h
def jF (call : Oracle) (x0 x1 : List Int) (x2 x3 : Int) : Option (List TV) :=
  bif decide (x3 < x2) then
    bif (decide (0 ≤ (wi64 (x3 - 1))) && decide ((wi64 (x3 - 1)) < 8)) then
      bif (decide (0 ≤ x3) && decide (x3 < 8)) then
        bif decide ((List.getD x0 (Int.toNat x3) 0) < (List.getD x0 (Int.toNat (wi64 (x3 - 1))) 0)) then
          bif (decide (0 ≤ (wi64 (x3 - 1))) && decide ((wi64 (x3 - 1)) < 8)) then
            bif (decide (0 ≤ x3) && decide (x3 < 8)) then
              bif decide ((List.getD x1 (Int.toNat (wi64 (x3 - 1))) 0) < (List.getD x1 (Int.toNat x3) 0)) then
                some [tI 1, tB false]
              else
                call jB [tA8 x0, tA8 x1, tI x2, tI (wi64 (x3 + 1))]
            else none
          else none
        else
          call jB [tA8 x0, tA8 x1, tI x2, tI (wi64 (x3 + 1))]
      else none
    else none
  else
    some [tI 0]
theorem zD6 (x0 x1 : List Int) (x2 x3 : Int) (h : jF R x0 x1 x2 x3 = some o) : R jB [tA8 x0, tA8 x1, tI x2, tI x3] = some o := go_ (b := fun c => jF c x0 x1 x2 x3) (fun c => by kernel_rfl) h
def zDJ (call : Oracle) (a0 a1 : List Int) (a2 : Int) : Option (List TV) :=
  (call zCB [tA8 a0, tI a2]).bind fun o1 =>
  (call jB [tA8 a1, tA8 (gA8 o1 0), tI a2, tI 1]).bind fun o2 =>
  bif ((gI o2 0) == 0) then
    some [tB true]
  else
    some [tB (gB o2 1)]
theorem zJf (a0 a1 : List Int) (a2 : Int) (h : zDJ R a0 a1 a2 = some o) : R zC8 [tA8 a0, tA8 a1, tI a2] = some o := go_ (b := fun c => zDJ c a0 a1 a2) (fun c => by kernel_rfl) h
def zE3 (call : Oracle) (x0 x1 : Int) (x2 : List (List Int)) (x3 x4 : Int) : Option (List TV) :=
  bif decide (x4 < ((List.length x2 : Nat) : Int)) then
    bif (decide (0 ≤ x4) && decide (x4 < ((List.length x2 : Nat) : Int))) then
      (call zLB [tA8 (List.getD x2 (Int.toNat x4) (List.replicate 8 0)), tI x3]).bind fun o7 =>
      bif (!(gB o7 0)) then
        some [tI 1, tB false]
      else
        (call jY [tI x3]).bind fun o8 =>
        bif ((List.getD x2 (Int.toNat x4) (List.replicate 8 0)) == (gA8 o8 0)) then
          some [tI 1, tB false]
        else
          (call zAp [tI x3]).bind fun o9 =>
          bif ((List.getD x2 (Int.toNat x4) (List.replicate 8 0)) == (gA8 o9 0)) then
            some [tI 1, tB false]
          else
            bif decide (0 < x4) then
              bif (decide (0 ≤ (wi64 (x4 - 1))) && decide ((wi64 (x4 - 1)) < ((List.length x2 : Nat) : Int))) then
                (call zC8 [tA8 (List.getD x2 (Int.toNat (wi64 (x4 - 1))) (List.replicate 8 0)), tA8 (List.getD x2 (Int.toNat x4) (List.replicate 8 0)), tI x3]).bind fun o10 =>
                bif (!(gB o10 0)) then
                  some [tI 1, tB false]
                else
                  call zB9 [tI x0, tI x1, tLA8 x2, tI x3, tI (wi64 (x4 + 1))]
              else none
            else
              call zB9 [tI x0, tI x1, tLA8 x2, tI x3, tI (wi64 (x4 + 1))]
    else none
  else
    some [tI 0]
theorem zJz (x0 x1 : Int) (x2 : List (List Int)) (x3 x4 : Int) (h : zE3 R x0 x1 x2 x3 x4 = some o) : R zB9 [tI x0, tI x1, tLA8 x2, tI x3, tI x4] = some o := go_ (b := fun c => zE3 c x0 x1 x2 x3 x4) (fun c => by kernel_rfl) h
def zLj (call : Oracle) (a0 : Int × Int × List (List Int)) : Option (List TV) :=
  (call zEu [tI a0.1, tI 1, tI 8]).bind fun o1 =>
  bif (!(gB o1 0)) then
    some [tB false]
  else
    (call zEu [tI a0.2.1, tI (-200), tI 200]).bind fun o2 =>
    bif (!(gB o2 0)) then
      some [tB false]
    else
      bif decide (200 < ((List.length a0.2.2 : Nat) : Int)) then
        some [tB false]
      else
        bif decide (a0.1 < 2) then
          bif (a0.2.1 != 0) then
            some [tB false]
          else
            (call zB9 [tI a0.1, tI a0.2.1, tLA8 a0.2.2, tI a0.1, tI 0]).bind fun o11 =>
            bif ((gI o11 0) == 0) then
              some [tB true]
            else
              some [tB (gB o11 1)]
        else
          (call zB9 [tI a0.1, tI a0.2.1, tLA8 a0.2.2, tI a0.1, tI 0]).bind fun o12 =>
          bif ((gI o12 0) == 0) then
            some [tB true]
          else
            some [tB (gB o12 1)]
theorem zSM (a0 : Int × Int × List (List Int)) (h : zLj R a0 = some o) : R zLA [zA a0] = some o := go_ (b := fun c => zLj c a0) (fun c => by kernel_rfl) h
def zCC (call : Oracle) (a0 : Int × Int × List (List Int)) : Option (List TV) :=
  (call zLA [zA a0]).bind fun o1 =>
  bif (!(gB o1 0)) then
    some [tI 1]
  else
    bif decide (4 < a0.1) then
      some [tI 2]
    else
      some [tI 0]
theorem zEr (a0 : Int × Int × List (List Int)) (h : zCC R a0 = some o) : R zB8 [zA a0] = some o := go_ (b := fun c => zCC c a0) (fun c => by kernel_rfl) h
def zCv (call : Oracle) (x0 x1 : List Int) (x2 x3 : List Int) (x4 x5 : Int) : Option (List TV) :=
  bif decide (x5 < x4) then
    bif (decide (0 ≤ x5) && decide (x5 < 8)) then
      bif (decide (0 ≤ (List.getD x0 (Int.toNat x5) 0)) && decide ((List.getD x0 (Int.toNat x5) 0) < 8)) then
        bif (decide (0 ≤ x5) && decide (x5 < 8)) then
          call zCk [tA8 x0, tA8 x1, tA8 x2, tA8 (List.set x3 (Int.toNat x5) (List.getD x1 (Int.toNat (List.getD x0 (Int.toNat x5) 0)) 0)), tI x4, tI (wi64 (x5 + 1))]
        else none
      else none
    else none
  else
    some [tI 0, tA8 x2, tA8 x3]
theorem zHd (x0 x1 : List Int) (x2 x3 : List Int) (x4 x5 : Int) (h : zCv R x0 x1 x2 x3 x4 x5 = some o) : R zCk [tA8 x0, tA8 x1, tA8 x2, tA8 x3, tI x4, tI x5] = some o := go_ (b := fun c => zCv c x0 x1 x2 x3 x4 x5) (fun c => by kernel_rfl) h
def zHQ (call : Oracle) (a0 a1 : List Int) (a2 : Int) : Option (List TV) :=
  (call zCk [tA8 a0, tA8 a1, tA8 (List.replicate 8 0), tA8 (List.replicate 8 0), tI a2, tI 0]).bind fun o1 =>
  some [tA8 (gA8 o1 2)]
theorem zPn (a0 a1 : List Int) (a2 : Int) (h : zHQ R a0 a1 a2 = some o) : R ki [tA8 a0, tA8 a1, tI a2] = some o := go_ (b := fun c => zHQ c a0 a1 a2) (fun c => by kernel_rfl) h
def zHP (call : Oracle) (a0 : List Int) (a1 : Int) : Option (List TV) :=
  (call zAp [tI a1]).bind fun o1 =>
  (call ki [tA8 (gA8 o1 0), tA8 a0, tI a1]).bind fun o2 =>
  (call ki [tA8 (gA8 o2 0), tA8 (gA8 o1 0), tI a1]).bind fun o3 =>
  some [tA8 (gA8 o3 0)]
theorem zPm (a0 : List Int) (a1 : Int) (h : zHP R a0 a1 = some o) : R zCA [tA8 a0, tI a1] = some o := go_ (b := fun c => zHP c a0 a1) (fun c => by kernel_rfl) h
def zFz (call : Oracle) (a0 : Int × Int × List (List Int)) : Option (List TV) :=
  bif ((Int.tmod a0.2.1 2) != 0) then
    bif decide (0 < ((List.length a0.2.2 : Nat) : Int)) then
      (call zCA [tA8 (List.getD a0.2.2 0 (List.replicate 8 0)), tI a0.1]).bind fun o1 =>
      some [tA8 (gA8 o1 0)]
    else none
  else
    bif decide (0 < ((List.length a0.2.2 : Nat) : Int)) then
      some [tA8 (List.getD a0.2.2 0 (List.replicate 8 0))]
    else none
theorem zNP (a0 : Int × Int × List (List Int)) (h : zFz R a0 = some o) : R zFi [zA a0] = some o := go_ (b := fun c => zFz c a0) (fun c => by kernel_rfl) h
def zBi (call : Oracle) (a0 : List Int) (a1 : Int) : Option (List TV) :=
  (call zCB [tA8 a0, tI a1]).bind fun o1 =>
  (call zAp [tI a1]).bind fun o2 =>
  (call ki [tA8 (gA8 o1 0), tA8 (gA8 o2 0), tI a1]).bind fun o3 =>
  some [tA8 (gA8 o3 0)]
theorem zH4 (a0 : List Int) (a1 : Int) (h : zBi R a0 a1 = some o) : R zBe [tA8 a0, tI a1] = some o := go_ (b := fun c => zBi c a0 a1) (fun c => by kernel_rfl) h
def zDK (call : Oracle) (a0 a1 : Int) : Option (List TV) :=
  (call jY [tI a0]).bind fun o1 =>
  bif (decide (0 ≤ (wi64 (a1 - 1))) && decide ((wi64 (a1 - 1)) < 8)) then
    bif (decide (0 ≤ a1) && decide (a1 < 8)) then
      some [tA8 (List.set (List.set (gA8 o1 0) (Int.toNat (wi64 (a1 - 1))) (wu8 (a1))) (Int.toNat a1) (wu8 ((wi64 (a1 - 1)))))]
    else none
  else none
theorem zJg (a0 a1 : Int) (h : zDK R a0 a1 = some o) : R zC9 [tI a0, tI a1] = some o := go_ (b := fun c => zDK c a0 a1) (fun c => by kernel_rfl) h
def kp (call : Oracle) (x0 x1 : List Int) (x2 x3 : List Int) (x4 x5 : Int) : Option (List TV) :=
  bif decide (x5 < x4) then
    bif (decide (0 ≤ (wi64 (x5 - 1))) && decide ((wi64 (x5 - 1)) < 8)) then
      bif (decide (0 ≤ x5) && decide (x5 < 8)) then
        bif decide ((List.getD x0 (Int.toNat x5) 0) < (List.getD x0 (Int.toNat (wi64 (x5 - 1))) 0)) then
          bif (decide (0 ≤ (wi64 (x5 - 1))) && decide ((wi64 (x5 - 1)) < 8)) then
            bif (decide (0 ≤ x5) && decide (x5 < 8)) then
              bif decide ((List.getD x1 (Int.toNat x5) 0) < (List.getD x1 (Int.toNat (wi64 (x5 - 1))) 0)) then
                (call zC9 [tI x4, tI x5]).bind fun o6 =>
                (call ki [tA8 x3, tA8 (gA8 o6 0), tI x4]).bind fun o7 =>
                (call ki [tA8 (gA8 o6 0), tA8 x0, tI x4]).bind fun o8 =>
                (call ki [tA8 (gA8 o6 0), tA8 x1, tI x4]).bind fun o9 =>
                call zAP [tA8 (gA8 o8 0), tA8 (gA8 o9 0), tA8 x2, tA8 (gA8 o7 0), tI x4, tI 1]
              else
                call zAP [tA8 x0, tA8 x1, tA8 x2, tA8 x3, tI x4, tI (wi64 (x5 + 1))]
            else none
          else none
        else
          call zAP [tA8 x0, tA8 x1, tA8 x2, tA8 x3, tI x4, tI (wi64 (x5 + 1))]
      else none
    else none
  else
    some [tI 0, tA8 x2, tA8 x3]
theorem zAN (x0 x1 : List Int) (x2 x3 : List Int) (x4 x5 : Int) (h : kp R x0 x1 x2 x3 x4 x5 = some o) : R zAP [tA8 x0, tA8 x1, tA8 x2, tA8 x3, tI x4, tI x5] = some o := go_ (b := fun c => kp c x0 x1 x2 x3 x4 x5) (fun c => by kernel_rfl) h
def zHS (call : Oracle) (a0 a1 : List Int) (a2 : Int) : Option (List TV) :=
  (call jY [tI a2]).bind fun o1 =>
  (call zAP [tA8 a0, tA8 a1, tA8 (List.replicate 8 0), tA8 (gA8 o1 0), tI a2, tI 1]).bind fun o10 =>
  some [tA8 (gA8 o10 2)]
theorem zPp (a0 a1 : List Int) (a2 : Int) (h : zHS R a0 a1 a2 = some o) : R zHH [tA8 a0, tA8 a1, tI a2] = some o := go_ (b := fun c => zHS c a0 a1 a2) (fun c => by kernel_rfl) h
def zw (call : Oracle) (x0 : List (List Int)) (x1 : Int) (x2 : Bool) : Option (List TV) :=
  bif x2 then
    (call ku [tLA8 x0, tI x1, tB false, tI (wi64 (((List.length x0 : Nat) : Int) - 2))]).bind fun o14 =>
    call kZ [tLA8 (gLA8 o14 1), tI (gI o14 2), tB (gB o14 3)]
  else
    some [tI 0, tLA8 x0]
theorem jS (x0 : List (List Int)) (x1 : Int) (x2 : Bool) (h : zw R x0 x1 x2 = some o) : R kZ [tLA8 x0, tI x1, tB x2] = some o := go_ (b := fun c => zw c x0 x1 x2) (fun c => by kernel_rfl) h
def kx (call : Oracle) (x0 : List (List Int)) (x1 : Int) (x2 : Bool) (x3 : Int) : Option (List TV) :=
  bif decide (0 ≤ x3) then
    bif (decide (0 ≤ x3) && decide (x3 < ((List.length x0 : Nat) : Int))) then
      (call zBe [tA8 (List.getD x0 (Int.toNat x3) (List.replicate 8 0)), tI x1]).bind fun o7 =>
      bif (decide (0 ≤ (wi64 (x3 + 1))) && decide ((wi64 (x3 + 1)) < ((List.length x0 : Nat) : Int))) then
        (call zHH [tA8 (gA8 o7 0), tA8 (List.getD x0 (Int.toNat (wi64 (x3 + 1))) (List.replicate 8 0)), tI x1]).bind fun o8 =>
        (call jY [tI x1]).bind fun o9 =>
        bif ((gA8 o8 0) == (gA8 o9 0)) then
          call ku [tLA8 x0, tI x1, tB x2, tI (wi64 (x3 - 1))]
        else
          bif (decide (0 ≤ x3) && decide (x3 < ((List.length x0 : Nat) : Int))) then
            (call ki [tA8 (List.getD x0 (Int.toNat x3) (List.replicate 8 0)), tA8 (gA8 o8 0), tI x1]).bind fun o10 =>
            bif (decide (0 ≤ x3) && decide (x3 < ((List.length x0 : Nat) : Int))) then
              (call zCB [tA8 (gA8 o8 0), tI x1]).bind fun o11 =>
              bif (decide (0 ≤ (wi64 (x3 + 1))) && decide ((wi64 (x3 + 1)) < ((List.length (List.set x0 (Int.toNat x3) (gA8 o10 0)) : Nat) : Int))) then
                (call ki [tA8 (gA8 o11 0), tA8 (List.getD (List.set x0 (Int.toNat x3) (gA8 o10 0)) (Int.toNat (wi64 (x3 + 1))) (List.replicate 8 0)), tI x1]).bind fun o12 =>
                bif (decide (0 ≤ (wi64 (x3 + 1))) && decide ((wi64 (x3 + 1)) < ((List.length (List.set x0 (Int.toNat x3) (gA8 o10 0)) : Nat) : Int))) then
                  call ku [tLA8 (List.set (List.set x0 (Int.toNat x3) (gA8 o10 0)) (Int.toNat (wi64 (x3 + 1))) (gA8 o12 0)), tI x1, tB true, tI (wi64 (x3 - 1))]
                else none
              else none
            else none
          else none
      else none
    else none
  else
    some [tI 0, tLA8 x0, tI x1, tB x2]
theorem zAV (x0 : List (List Int)) (x1 : Int) (x2 : Bool) (x3 : Int) (h : kx R x0 x1 x2 x3 = some o) : R ku [tLA8 x0, tI x1, tB x2, tI x3] = some o := go_ (b := fun c => kx c x0 x1 x2 x3) (fun c => by kernel_rfl) h
def zF0 (call : Oracle) (a0 : List (List Int)) (a1 : Int) : Option (List TV) :=
  bif (apOk [] a0) then
    (call kZ [tLA8 a0, tI a1, tB true]).bind fun o15 =>
    some [tLA8 (gLA8 o15 1)]
  else none
theorem zNR (a0 : List (List Int)) (a1 : Int) (h : zF0 R a0 a1 = some o) : R zFj [tLA8 a0, tI a1] = some o := go_ (b := fun c => zF0 c a0 a1) (fun c => by kernel_rfl) h
def zCt (call : Oracle) (x0 : List (List Int)) (x1 x2 : Int) (x3 : List (List Int)) (x4 x5 : Int) (x6 x7 : Int) : Option (List TV) :=
  bif decide (x6 < x7) then
    bif (decide (0 ≤ x6) && decide (x6 < ((List.length x0 : Nat) : Int))) then
      (call zAp [tI x4]).bind fun o3 =>
      bif ((List.getD x0 (Int.toNat x6) (List.replicate 8 0)) == (gA8 o3 0)) then
        call zBX [tLA8 x0, tI x1, tI x2, tLA8 x3, tI x4, tI (wi64 (x5 + 1)), tI (wi64 (x6 + 1)), tI x7]
      else
        some [tI 0, tLA8 x0, tI x1, tI x2, tLA8 x3, tI x4, tI x5, tI x6, tI x7]
    else none
  else
    some [tI 0, tLA8 x0, tI x1, tI x2, tLA8 x3, tI x4, tI x5, tI x6, tI x7]
theorem zHb (x0 : List (List Int)) (x1 x2 : Int) (x3 : List (List Int)) (x4 x5 : Int) (x6 x7 : Int) (h : zCt R x0 x1 x2 x3 x4 x5 x6 x7 = some o) : R zBX [tLA8 x0, tI x1, tI x2, tLA8 x3, tI x4, tI x5, tI x6, tI x7] = some o := go_ (b := fun c => zCt c x0 x1 x2 x3 x4 x5 x6 x7) (fun c => by kernel_rfl) h
def zCs (call : Oracle) (x0 : List (List Int)) (x1 x2 : Int) (x3 : List (List Int)) (x4 x5 : Int) (x6 x7 : Int) : Option (List TV) :=
  bif decide (x6 < x7) then
    bif (decide (0 ≤ (wi64 (x7 - 1))) && decide ((wi64 (x7 - 1)) < ((List.length x0 : Nat) : Int))) then
      (call jY [tI x4]).bind fun o6 =>
      bif ((List.getD x0 (Int.toNat (wi64 (x7 - 1))) (List.replicate 8 0)) == (gA8 o6 0)) then
        call zBW [tLA8 x0, tI x1, tI x2, tLA8 x3, tI x4, tI x5, tI x6, tI (wi64 (x7 - 1))]
      else
        some [tI 0, tLA8 x0, tI x1, tI x2, tLA8 x3, tI x4, tI x5, tI x6, tI x7]
    else none
  else
    some [tI 0, tLA8 x0, tI x1, tI x2, tLA8 x3, tI x4, tI x5, tI x6, tI x7]
theorem zHa (x0 : List (List Int)) (x1 x2 : Int) (x3 : List (List Int)) (x4 x5 : Int) (x6 x7 : Int) (h : zCs R x0 x1 x2 x3 x4 x5 x6 x7 = some o) : R zBW [tLA8 x0, tI x1, tI x2, tLA8 x3, tI x4, tI x5, tI x6, tI x7] = some o := go_ (b := fun c => zCs c x0 x1 x2 x3 x4 x5 x6 x7) (fun c => by kernel_rfl) h
def zE2 (call : Oracle) (a0 a1 : Int) (a2 : List (List Int)) : Option (List TV) :=
  (call zFj [tLA8 a2, tI a0]).bind fun o1 =>
  bif decide (1 < a0) then
    (call zBX [tLA8 (gLA8 o1 0), tI 0, tI 0, tLA8 [], tI a0, tI a1, tI 0, tI ((List.length (gLA8 o1 0) : Nat) : Int)]).bind fun o4 =>
    (call zBW [tLA8 (gLA8 o4 1), tI (gI o4 2), tI (gI o4 3), tLA8 (gLA8 o4 4), tI (gI o4 5), tI (gI o4 6), tI (gI o4 7), tI (gI o4 8)]).bind fun o7 =>
    bif ((decide (0 ≤ (gI o7 7)) && decide ((gI o7 7) ≤ (gI o7 8))) && decide ((gI o7 8) ≤ ((List.length (gLA8 o7 1) : Nat) : Int))) then
      bif (apOk [] (List.drop (Int.toNat (gI o7 7)) (List.take (Int.toNat (gI o7 8)) (gLA8 o7 1)))) then
        some [zA ((gI o7 5), ((gI o7 6), (List.drop (Int.toNat (gI o7 7)) (List.take (Int.toNat (gI o7 8)) (gLA8 o7 1)))))]
      else none
    else none
  else
    (call zBW [tLA8 (gLA8 o1 0), tI 0, tI 0, tLA8 [], tI a0, tI a1, tI 0, tI ((List.length (gLA8 o1 0) : Nat) : Int)]).bind fun o8 =>
    bif ((decide (0 ≤ (gI o8 7)) && decide ((gI o8 7) ≤ (gI o8 8))) && decide ((gI o8 8) ≤ ((List.length (gLA8 o8 1) : Nat) : Int))) then
      bif (apOk [] (List.drop (Int.toNat (gI o8 7)) (List.take (Int.toNat (gI o8 8)) (gLA8 o8 1)))) then
        some [zA ((gI o8 5), ((gI o8 6), (List.drop (Int.toNat (gI o8 7)) (List.take (Int.toNat (gI o8 8)) (gLA8 o8 1)))))]
      else none
    else none
theorem zPj (a0 a1 : Int) (a2 : List (List Int)) (h : zE2 R a0 a1 a2 = some o) : R jX [tI a0, tI a1, tLA8 a2] = some o := go_ (b := fun c => zE2 c a0 a1 a2) (fun c => by kernel_rfl) h
def zDv (call : Oracle) (a0 : Int × Int × List (List Int)) : Option (List TV) :=
  bif (((List.length a0.2.2 : Nat) : Int) == 0) then
    some [zA a0]
  else
    bif decide (1 ≤ ((List.length a0.2.2 : Nat) : Int)) then
      bif (apOk [] (List.drop 1 a0.2.2)) then
        (call zFi [zA a0]).bind fun o1 =>
        bif (apOk (List.drop 1 a0.2.2) [(gA8 o1 0)]) then
          (call jX [tI a0.1, tI a0.2.1, tLA8 ((List.drop 1 a0.2.2) ++ [(gA8 o1 0)])]).bind fun o2 =>
          some [zA (zD o2 0)]
        else none
      else none
    else none
theorem zNQ (a0 : Int × Int × List (List Int)) (h : zDv R a0 = some o) : R zAJ [zA a0] = some o := go_ (b := fun c => zDv c a0) (fun c => by kernel_rfl) h
def zBw (call : Oracle) (a0 : Int × Int × List (List Int)) : Option (List TV) :=
  bif (((List.length a0.2.2 : Nat) : Int) == 0) then
    some [zA a0]
  else
    bif (decide (0 ≤ (wi64 (((List.length a0.2.2 : Nat) : Int) - 1))) && decide ((wi64 (((List.length a0.2.2 : Nat) : Int) - 1)) < ((List.length a0.2.2 : Nat) : Int))) then
      bif ((Int.tmod a0.2.1 2) != 0) then
        (call zCA [tA8 (List.getD a0.2.2 (Int.toNat (wi64 (((List.length a0.2.2 : Nat) : Int) - 1))) (List.replicate 8 0)), tI a0.1]).bind fun o1 =>
        bif (decide (0 ≤ (wi64 (((List.length a0.2.2 : Nat) : Int) - 1))) && decide ((wi64 (((List.length a0.2.2 : Nat) : Int) - 1)) ≤ ((List.length a0.2.2 : Nat) : Int))) then
          bif (apOk [(gA8 o1 0)] (List.take (Int.toNat (wi64 (((List.length a0.2.2 : Nat) : Int) - 1))) a0.2.2)) then
            (call jX [tI a0.1, tI a0.2.1, tLA8 ([(gA8 o1 0)] ++ (List.take (Int.toNat (wi64 (((List.length a0.2.2 : Nat) : Int) - 1))) a0.2.2))]).bind fun o2 =>
            some [zA (zD o2 0)]
          else none
        else none
      else
        bif (decide (0 ≤ (wi64 (((List.length a0.2.2 : Nat) : Int) - 1))) && decide ((wi64 (((List.length a0.2.2 : Nat) : Int) - 1)) ≤ ((List.length a0.2.2 : Nat) : Int))) then
          bif (apOk [(List.getD a0.2.2 (Int.toNat (wi64 (((List.length a0.2.2 : Nat) : Int) - 1))) (List.replicate 8 0))] (List.take (Int.toNat (wi64 (((List.length a0.2.2 : Nat) : Int) - 1))) a0.2.2)) then
            (call jX [tI a0.1, tI a0.2.1, tLA8 ([(List.getD a0.2.2 (Int.toNat (wi64 (((List.length a0.2.2 : Nat) : Int) - 1))) (List.replicate 8 0))] ++ (List.take (Int.toNat (wi64 (((List.length a0.2.2 : Nat) : Int) - 1))) a0.2.2))]).bind fun o3 =>
            some [zA (zD o3 0)]
          else none
        else none
    else none
theorem zKk (a0 : Int × Int × List (List Int)) (h : zBw R a0 = some o) : R zDk [zA a0] = some o := go_ (b := fun c => zBw c a0) (fun c => by kernel_rfl) h
def zDI (call : Oracle) (x0 x1 : Int) (x2 : List (List Int)) (x3 x4 : Int) (x5 : List (List Int)) (x6 : Int) : Option (List TV) :=
  (call zA5 [tI x0, tI x1, tLA8 x2, tI x3, tI x4, tLA8 x5, tI x0, tI x1, tLA8 x2, tI x6, tB false, tI (wi64 (Int.tdiv (wi64 (x6 * (wi64 (x6 - 1)))) 2))]).bind fun o8 =>
  bif (!(gB o8 11)) then
    (call kh [tI (gI o8 1), tI (gI o8 2), tLA8 (gLA8 o8 3), tI (gI o8 4), tI (gI o8 5), tLA8 (gLA8 o8 6), tI (gI o8 1), tI (gI o8 2), tLA8 (gLA8 o8 3), tI (gI o8 10), tB (gB o8 11), tI (wi64 (Int.tdiv (wi64 ((gI o8 10) * (wi64 ((gI o8 10) - 1)))) 2))]).bind fun o9 =>
    bif (!(gB o9 11)) then
      some [tI 0, tI (gI o9 1), tI (gI o9 2), tLA8 (gLA8 o9 3)]
    else
      call jj [tI (gI o9 7), tI (gI o9 8), tLA8 (gLA8 o9 9), tI (gI o9 4), tI (gI o9 5), tLA8 (gLA8 o9 6), tI (gI o9 10)]
  else
    (call kh [tI (gI o8 1), tI (gI o8 2), tLA8 (gLA8 o8 3), tI (gI o8 4), tI (gI o8 5), tLA8 (gLA8 o8 6), tI (gI o8 7), tI (gI o8 8), tLA8 (gLA8 o8 9), tI (gI o8 10), tB (gB o8 11), tI (wi64 (Int.tdiv (wi64 ((gI o8 10) * (wi64 ((gI o8 10) - 1)))) 2))]).bind fun o10 =>
    bif (!(gB o10 11)) then
      some [tI 0, tI (gI o10 1), tI (gI o10 2), tLA8 (gLA8 o10 3)]
    else
      call jj [tI (gI o10 7), tI (gI o10 8), tLA8 (gLA8 o10 9), tI (gI o10 4), tI (gI o10 5), tLA8 (gLA8 o10 6), tI (gI o10 10)]
theorem zJe (x0 x1 : Int) (x2 : List (List Int)) (x3 x4 : Int) (x5 : List (List Int)) (x6 : Int) (h : zDI R x0 x1 x2 x3 x4 x5 x6 = some o) : R jj [tI x0, tI x1, tLA8 x2, tI x3, tI x4, tLA8 x5, tI x6] = some o := go_ (b := fun c => zDI c x0 x1 x2 x3 x4 x5 x6) (fun c => by kernel_rfl) h
def jI (call : Oracle) (x0 x1 : Int) (x2 : List (List Int)) (x3 x4 : Int) (x5 : List (List Int)) (x6 x7 : Int) (x8 : List (List Int)) (x9 : Int) (x10 : Bool) (x11 : Int) : Option (List TV) :=
  bif decide (0 < x11) then
    bif (!x10) then
      (call zAJ [zA (x6, (x7, x8))]).bind fun o2 =>
      call zA5 [tI x0, tI x1, tLA8 x2, tI x3, tI x4, tLA8 x5, tI ((zD o2 0).1), tI (((zD o2 0).2).1), tLA8 (((zD o2 0).2).2), tI x9, tB (decide (x1 < ((zD o2 0).2).1)), tI (wi64 (x11 - 1))]
    else
      some [tI 0, tI x0, tI x1, tLA8 x2, tI x3, tI x4, tLA8 x5, tI x6, tI x7, tLA8 x8, tI x9, tB x10]
  else
    some [tI 0, tI x0, tI x1, tLA8 x2, tI x3, tI x4, tLA8 x5, tI x6, tI x7, tLA8 x8, tI x9, tB x10]
theorem zAx (x0 x1 : Int) (x2 : List (List Int)) (x3 x4 : Int) (x5 : List (List Int)) (x6 x7 : Int) (x8 : List (List Int)) (x9 : Int) (x10 : Bool) (x11 : Int) (h : jI R x0 x1 x2 x3 x4 x5 x6 x7 x8 x9 x10 x11 = some o) : R zA5 [tI x0, tI x1, tLA8 x2, tI x3, tI x4, tLA8 x5, tI x6, tI x7, tLA8 x8, tI x9, tB x10, tI x11] = some o := go_ (b := fun c => jI c x0 x1 x2 x3 x4 x5 x6 x7 x8 x9 x10 x11) (fun c => by kernel_rfl) h
def kP (call : Oracle) (x0 x1 : Int) (x2 : List (List Int)) (x3 x4 : Int) (x5 : List (List Int)) (x6 x7 : Int) (x8 : List (List Int)) (x9 : Int) (x10 : Bool) (x11 : Int) : Option (List TV) :=
  bif decide (0 < x11) then
    bif (!x10) then
      (call zDk [zA (x6, (x7, x8))]).bind fun o5 =>
      call kh [tI x0, tI x1, tLA8 x2, tI x3, tI x4, tLA8 x5, tI ((zD o5 0).1), tI (((zD o5 0).2).1), tLA8 (((zD o5 0).2).2), tI x9, tB (decide ((wi64 ((((zD o5 0).2).1) + ((List.length (((zD o5 0).2).2) : Nat) : Int))) < (wi64 (x1 + ((List.length x2 : Nat) : Int))))), tI (wi64 (x11 - 1))]
    else
      some [tI 0, tI x0, tI x1, tLA8 x2, tI x3, tI x4, tLA8 x5, tI x6, tI x7, tLA8 x8, tI x9, tB x10]
  else
    some [tI 0, tI x0, tI x1, tLA8 x2, tI x3, tI x4, tLA8 x5, tI x6, tI x7, tLA8 x8, tI x9, tB x10]
theorem jM (x0 x1 : Int) (x2 : List (List Int)) (x3 x4 : Int) (x5 : List (List Int)) (x6 x7 : Int) (x8 : List (List Int)) (x9 : Int) (x10 : Bool) (x11 : Int) (h : kP R x0 x1 x2 x3 x4 x5 x6 x7 x8 x9 x10 x11 = some o) : R kh [tI x0, tI x1, tLA8 x2, tI x3, tI x4, tLA8 x5, tI x6, tI x7, tLA8 x8, tI x9, tB x10, tI x11] = some o := go_ (b := fun c => kP c x0 x1 x2 x3 x4 x5 x6 x7 x8 x9 x10 x11) (fun c => by kernel_rfl) h
def zEh (call : Oracle) (a0 : Int × Int × List (List Int)) : Option (List TV) :=
  (call jj [tI a0.1, tI a0.2.1, tLA8 a0.2.2, tI 0, tI 0, tLA8 [], tI a0.1]).bind fun o11 =>
  some [zA ((gI o11 1), ((gI o11 2), (gLA8 o11 3)))]
theorem zLx (a0 : Int × Int × List (List Int)) (h : zEh R a0 = some o) : R zER [zA a0] = some o := go_ (b := fun c => zEh c a0) (fun c => by kernel_rfl) h
def zAg (call : Oracle) (x0 : List (List Int)) (x1 : List Int) (x2 x3 x4 : Int) : Option (List TV) :=
  bif decide (x4 < x3) then
    bif (decide (0 ≤ x4) && decide (x4 < 8)) then
      bif (decide (0 ≤ x2) && decide (x2 < 8)) then
        bif (decide (0 ≤ x2) && decide (x2 < 8)) then
          bif (decide (0 ≤ x4) && decide (x4 < 8)) then
            (call zAa [tLA8 x0, tA8 (List.set (List.set x1 (Int.toNat x2) (List.getD x1 (Int.toNat x4) 0)) (Int.toNat x4) (List.getD x1 (Int.toNat x2) 0)), tI (wi64 (x2 + 1)), tI x3]).bind fun o3 =>
            call zAZ [tLA8 (gLA8 o3 0), tA8 x1, tI x2, tI x3, tI (wi64 (x4 + 1))]
          else none
        else none
      else none
    else none
  else
    some [tI 0, tLA8 x0]
theorem zED (x0 : List (List Int)) (x1 : List Int) (x2 x3 x4 : Int) (h : zAg R x0 x1 x2 x3 x4 = some o) : R zAZ [tLA8 x0, tA8 x1, tI x2, tI x3, tI x4] = some o := go_ (b := fun c => zAg c x0 x1 x2 x3 x4) (fun c => by kernel_rfl) h
def zAh (call : Oracle) (a0 : List (List Int)) (a1 : List Int) (a2 a3 : Int) : Option (List TV) :=
  bif (a2 == a3) then
    (call jY [tI a3]).bind fun o1 =>
    bif (a1 == (gA8 o1 0)) then
      some [tLA8 a0]
    else
      bif (apOk a0 [a1]) then
        some [tLA8 (a0 ++ [a1])]
      else none
  else
    (call zAZ [tLA8 a0, tA8 a1, tI a2, tI a3, tI a2]).bind fun o4 =>
    some [tLA8 (gLA8 o4 1)]
theorem zDc (a0 : List (List Int)) (a1 : List Int) (a2 a3 : Int) (h : zAh R a0 a1 a2 a3 = some o) : R zAa [tLA8 a0, tA8 a1, tI a2, tI a3] = some o := go_ (b := fun c => zAh c a0 a1 a2 a3) (fun c => by kernel_rfl) h
def zHT (call : Oracle) (a0 : List Int) (a1 : Int) : Option (List TV) :=
  (call zAp [tI a1]).bind fun o1 =>
  (call zCB [tA8 a0, tI a1]).bind fun o2 =>
  (call ki [tA8 (gA8 o1 0), tA8 (gA8 o2 0), tI a1]).bind fun o3 =>
  some [tA8 (gA8 o3 0)]
theorem zPq (a0 : List Int) (a1 : Int) (h : zHT R a0 a1 = some o) : R zEt [tA8 a0, tI a1] = some o := go_ (b := fun c => zHT c a0 a1) (fun c => by kernel_rfl) h
def zHO (call : Oracle) (a0 : Int × Int × List (List Int)) (a1 : List Int) : Option (List TV) :=
  (call zEt [tA8 a1, tI a0.1]).bind fun o1 =>
  bif (apOk [(gA8 o1 0)] a0.2.2) then
    bif ((Int.tmod a0.2.1 2) != 0) then
      bif decide (0 < ((List.length ([(gA8 o1 0)] ++ a0.2.2) : Nat) : Int)) then
        (call zCA [tA8 (List.getD ([(gA8 o1 0)] ++ a0.2.2) 0 (List.replicate 8 0)), tI a0.1]).bind fun o2 =>
        bif decide (0 < ((List.length ([(gA8 o1 0)] ++ a0.2.2) : Nat) : Int)) then
          (call jX [tI a0.1, tI (wi64 (a0.2.1 - 1)), tLA8 (List.set ([(gA8 o1 0)] ++ a0.2.2) 0 (gA8 o2 0))]).bind fun o3 =>
          some [zA (zD o3 0)]
        else none
      else none
    else
      (call jX [tI a0.1, tI (wi64 (a0.2.1 - 1)), tLA8 ([(gA8 o1 0)] ++ a0.2.2)]).bind fun o4 =>
      some [zA (zD o4 0)]
  else none
theorem zPl (a0 : Int × Int × List (List Int)) (a1 : List Int) (h : zHO R a0 a1 = some o) : R zHG [zA a0, tA8 a1] = some o := go_ (b := fun c => zHO c a0 a1) (fun c => by kernel_rfl) h
def zFW (call : Oracle) (x0 x1 : List (List Int)) (x2 x3 x4 : Int) : Option (List TV) :=
  bif decide (x4 < ((List.length x0 : Nat) : Int)) then
    bif ((Int.tmod x3 2) != 0) then
      bif (decide (0 ≤ x4) && decide (x4 < ((List.length x0 : Nat) : Int))) then
        (call zCA [tA8 (List.getD x0 (Int.toNat x4) (List.replicate 8 0)), tI x2]).bind fun o2 =>
        bif (apOk x1 [(gA8 o2 0)]) then
          call zA9 [tLA8 x0, tLA8 (x1 ++ [(gA8 o2 0)]), tI x2, tI x3, tI (wi64 (x4 + 1))]
        else none
      else none
    else
      bif (decide (0 ≤ x4) && decide (x4 < ((List.length x0 : Nat) : Int))) then
        bif (apOk x1 [(List.getD x0 (Int.toNat x4) (List.replicate 8 0))]) then
          call zA9 [tLA8 x0, tLA8 (x1 ++ [(List.getD x0 (Int.toNat x4) (List.replicate 8 0))]), tI x2, tI x3, tI (wi64 (x4 + 1))]
        else none
      else none
  else
    some [tI 0, tLA8 x1]
theorem zSJ (x0 x1 : List (List Int)) (x2 x3 x4 : Int) (h : zFW R x0 x1 x2 x3 x4 = some o) : R zA9 [tLA8 x0, tLA8 x1, tI x2, tI x3, tI x4] = some o := go_ (b := fun c => zFW c x0 x1 x2 x3 x4) (fun c => by kernel_rfl) h
def zH2 (call : Oracle) (a0 : List (List Int)) (a1 a2 : Int) : Option (List TV) :=
  (call zA9 [tLA8 a0, tLA8 [], tI a1, tI a2, tI 0]).bind fun o3 =>
  some [tLA8 (gLA8 o3 1)]
theorem zTF (a0 : List (List Int)) (a1 a2 : Int) (h : zH2 R a0 a1 a2 = some o) : R zHt [tLA8 a0, tI a1, tI a2] = some o := go_ (b := fun c => zH2 c a0 a1 a2) (fun c => by kernel_rfl) h
def zF1 (call : Oracle) (a0 : Int × Int × List (List Int)) (a1 : List Int) (a2 : Bool) : Option (List TV) :=
  bif a2 then
    (call zHt [tLA8 a0.2.2, tI a0.1, tI 1]).bind fun o1 =>
    (call zEt [tA8 a1, tI a0.1]).bind fun o2 =>
    bif (apOk (gLA8 o1 0) [(gA8 o2 0)]) then
      (call jX [tI a0.1, tI (wi64 (a0.2.1 - 1)), tLA8 ((gLA8 o1 0) ++ [(gA8 o2 0)])]).bind fun o3 =>
      some [zA (zD o3 0)]
    else none
  else
    bif (apOk [] a0.2.2) then
      bif (apOk a0.2.2 [a1]) then
        (call jX [tI a0.1, tI a0.2.1, tLA8 (a0.2.2 ++ [a1])]).bind fun o4 =>
        some [zA (zD o4 0)]
      else none
    else none
theorem zNS (a0 : Int × Int × List (List Int)) (a1 : List Int) (a2 : Bool) (h : zF1 R a0 a1 a2 = some o) : R zFk [zA a0, tA8 a1, tB a2] = some o := go_ (b := fun c => zF1 c a0 a1 a2) (fun c => by kernel_rfl) h
def zCX (call : Oracle) (a0 : Int × Int × List (List Int)) (a1 : List Int) : Option (List TV) :=
  (call zHG [zA a0, tA8 a1]).bind fun o1 =>
  (call zFk [zA (zD o1 0), tA8 a1, tB false]).bind fun o2 =>
  some [zA (zD o2 0)]
theorem zIR (a0 : Int × Int × List (List Int)) (a1 : List Int) (h : zCX R a0 a1 = some o) : R zCQ [zA a0, tA8 a1] = some o := go_ (b := fun c => zCX c a0 a1) (fun c => by kernel_rfl) h
def zBL (call : Oracle) (x0 x1 : Int) (x2 : List (List Int)) (x3 x4 : Int) (x5 : List (List Int)) (x6 : Int) : Option (List TV) :=
  bif decide (x6 < ((List.length x2 : Nat) : Int)) then
    (call zA7 [tI x0, tI x1, tLA8 x2, tI x3, tI x4, tLA8 x5, tI x6, tI 0]).bind fun o2 =>
    bif ((gI o2 0) == 0) then
      call zA8 [tI (gI o2 1), tI (gI o2 2), tLA8 (gLA8 o2 3), tI (gI o2 4), tI (gI o2 5), tLA8 (gLA8 o2 6), tI (wi64 ((gI o2 7) + 1))]
    else
      some [tI 1, tB (gB o2 1)]
  else
    some [tI 0]
theorem zFC (x0 x1 : Int) (x2 : List (List Int)) (x3 x4 : Int) (x5 : List (List Int)) (x6 : Int) (h : zBL R x0 x1 x2 x3 x4 x5 x6 = some o) : R zA8 [tI x0, tI x1, tLA8 x2, tI x3, tI x4, tLA8 x5, tI x6] = some o := go_ (b := fun c => zBL c x0 x1 x2 x3 x4 x5 x6) (fun c => by kernel_rfl) h
def zBK (call : Oracle) (x0 x1 : Int) (x2 : List (List Int)) (x3 x4 : Int) (x5 : List (List Int)) (x6 x7 : Int) : Option (List TV) :=
  bif decide (x7 < 8) then
    bif (decide (0 ≤ x6) && decide (x6 < ((List.length x2 : Nat) : Int))) then
      bif (decide (0 ≤ x7) && decide (x7 < 8)) then
        bif (decide (0 ≤ x6) && decide (x6 < ((List.length x5 : Nat) : Int))) then
          bif (decide (0 ≤ x7) && decide (x7 < 8)) then
            bif ((List.getD (List.getD x2 (Int.toNat x6) []) (Int.toNat x7) 0) != (List.getD (List.getD x5 (Int.toNat x6) []) (Int.toNat x7) 0)) then
              bif (decide (0 ≤ x6) && decide (x6 < ((List.length x2 : Nat) : Int))) then
                bif (decide (0 ≤ x7) && decide (x7 < 8)) then
                  bif (decide (0 ≤ x6) && decide (x6 < ((List.length x5 : Nat) : Int))) then
                    bif (decide (0 ≤ x7) && decide (x7 < 8)) then
                      some [tI 1, tB (decide ((List.getD (List.getD x2 (Int.toNat x6) []) (Int.toNat x7) 0) < (List.getD (List.getD x5 (Int.toNat x6) []) (Int.toNat x7) 0)))]
                    else none
                  else none
                else none
              else none
            else
              call zA7 [tI x0, tI x1, tLA8 x2, tI x3, tI x4, tLA8 x5, tI x6, tI (wi64 (x7 + 1))]
          else none
        else none
      else none
    else none
  else
    some [tI 0, tI x0, tI x1, tLA8 x2, tI x3, tI x4, tLA8 x5, tI x6]
theorem zFB (x0 x1 : Int) (x2 : List (List Int)) (x3 x4 : Int) (x5 : List (List Int)) (x6 x7 : Int) (h : zBK R x0 x1 x2 x3 x4 x5 x6 x7 = some o) : R zA7 [tI x0, tI x1, tLA8 x2, tI x3, tI x4, tLA8 x5, tI x6, tI x7] = some o := go_ (b := fun c => zBK c x0 x1 x2 x3 x4 x5 x6 x7) (fun c => by kernel_rfl) h
def zEk (call : Oracle) (a0 a1 : Int × Int × List (List Int)) : Option (List TV) :=
  (call zA8 [tI a0.1, tI a0.2.1, tLA8 a0.2.2, tI a1.1, tI a1.2.1, tLA8 a1.2.2, tI 0]).bind fun o3 =>
  bif ((gI o3 0) == 0) then
    some [tB false]
  else
    some [tB (gB o3 1)]
theorem zLz (a0 a1 : Int × Int × List (List Int)) (h : zEk R a0 a1 = some o) : R zES [zA a0, zA a1] = some o := go_ (b := fun c => zEk c a0 a1) (fun c => by kernel_rfl) h
def zCu (call : Oracle) (x0 x1 : Int) (x2 : List (List Int)) (x3 x4 : Int) (x5 : List (List Int)) (x6 : Int) : Option (List TV) :=
  bif decide (x6 < ((List.length x2 : Nat) : Int)) then
    bif (decide (0 ≤ x6) && decide (x6 < ((List.length x2 : Nat) : Int))) then
      bif (decide (0 ≤ x6) && decide (x6 < ((List.length x5 : Nat) : Int))) then
        bif ((List.getD x2 (Int.toNat x6) (List.replicate 8 0)) != (List.getD x5 (Int.toNat x6) (List.replicate 8 0))) then
          some [tI 1, tB false]
        else
          call zCj [tI x0, tI x1, tLA8 x2, tI x3, tI x4, tLA8 x5, tI (wi64 (x6 + 1))]
      else none
    else none
  else
    some [tI 0]
theorem zHc (x0 x1 : Int) (x2 : List (List Int)) (x3 x4 : Int) (x5 : List (List Int)) (x6 : Int) (h : zCu R x0 x1 x2 x3 x4 x5 x6 = some o) : R zCj [tI x0, tI x1, tLA8 x2, tI x3, tI x4, tLA8 x5, tI x6] = some o := go_ (b := fun c => zCu c x0 x1 x2 x3 x4 x5 x6) (fun c => by kernel_rfl) h
def zCD (call : Oracle) (a0 a1 : Int × Int × List (List Int)) : Option (List TV) :=
  bif (a0.1 != a1.1) then
    some [tB false]
  else
    bif (a0.2.1 != a1.2.1) then
      some [tB false]
    else
      bif (((List.length a0.2.2 : Nat) : Int) != ((List.length a1.2.2 : Nat) : Int)) then
        some [tB false]
      else
        (call zCj [tI a0.1, tI a0.2.1, tLA8 a0.2.2, tI a1.1, tI a1.2.1, tLA8 a1.2.2, tI 0]).bind fun o1 =>
        bif ((gI o1 0) == 0) then
          some [tB true]
        else
          some [tB (gB o1 1)]
theorem zPk (a0 a1 : Int × Int × List (List Int)) (h : zCD R a0 a1 = some o) : R zDT [zA a0, zA a1] = some o := go_ (b := fun c => zCD c a0 a1) (fun c => by kernel_rfl) h
def zBJ (call : Oracle) (x0 : List (Int × Int × List (List Int))) (x1 x2 : Int) (x3 : List (List Int)) (x4 : Int) : Option (List TV) :=
  bif decide (x4 < ((List.length x0 : Nat) : Int)) then
    bif (decide (0 ≤ x4) && decide (x4 < ((List.length x0 : Nat) : Int))) then
      (call zES [zA (List.getD x0 (Int.toNat x4) (0, (0, []))), zA (x1, (x2, x3))]).bind fun o2 =>
      bif (gB o2 0) then
        call zA6 [zB x0, tI x1, tI x2, tLA8 x3, tI (wi64 (x4 + 1))]
      else
        some [tI 0, zB x0, tI x1, tI x2, tLA8 x3, tI x4]
    else none
  else
    some [tI 0, zB x0, tI x1, tI x2, tLA8 x3, tI x4]
theorem zFA (x0 : List (Int × Int × List (List Int))) (x1 x2 : Int) (x3 : List (List Int)) (x4 : Int) (h : zBJ R x0 x1 x2 x3 x4 = some o) : R zA6 [zB x0, tI x1, tI x2, tLA8 x3, tI x4] = some o := go_ (b := fun c => zBJ c x0 x1 x2 x3 x4) (fun c => by kernel_rfl) h
end
end Go.Ev.YtmdkgikjnaijeaaGreat
