/- Bodies, part 1. -/
import Derived.KernelRfl
import Derived.Test.YtmdkgikjnaijeaaGreatEnv
set_option linter.unusedVariables false
namespace Go.Ev.YtmdkgikjnaijeaaGreat
open Go.Ev
noncomputable section
variable {o : List TV}
def zEj (call : Oracle) (a0 : List (Int × Int × List (List Int))) (a1 : Int × Int × List (List Int)) : Option (List TV) :=
  (call zA6 [zB a0, tI a1.1, tI a1.2.1, tLA8 a1.2.2, tI 0]).bind fun o3 =>
  bif decide ((gI o3 5) < ((List.length (zG o3 1) : Nat) : Int)) then
    bif (decide (0 ≤ (gI o3 5)) && decide ((gI o3 5) < ((List.length (zG o3 1) : Nat) : Int))) then
      (call zDT [zA (List.getD (zG o3 1) (Int.toNat (gI o3 5)) (0, (0, []))), zA ((gI o3 2), ((gI o3 3), (gLA8 o3 4)))]).bind fun o4 =>
      bif (gB o4 0) then
        some [zB (zG o3 1), tB false]
      else
        bif (decide (0 ≤ (gI o3 5)) && decide ((gI o3 5) ≤ ((List.length (zG o3 1) : Nat) : Int))) then
          bif (apOk [((gI o3 2), ((gI o3 3), (gLA8 o3 4)))] (List.drop (Int.toNat (gI o3 5)) (zG o3 1))) then
            bif (decide (0 ≤ (gI o3 5)) && decide ((gI o3 5) ≤ ((List.length (zG o3 1) : Nat) : Int))) then
              bif (apOk [] (List.take (Int.toNat (gI o3 5)) (zG o3 1))) then
                bif (apOk (List.take (Int.toNat (gI o3 5)) (zG o3 1)) ([((gI o3 2), ((gI o3 3), (gLA8 o3 4)))] ++ (List.drop (Int.toNat (gI o3 5)) (zG o3 1)))) then
                  some [zB ((List.take (Int.toNat (gI o3 5)) (zG o3 1)) ++ ([((gI o3 2), ((gI o3 3), (gLA8 o3 4)))] ++ (List.drop (Int.toNat (gI o3 5)) (zG o3 1)))), tB true]
                else none
              else none
            else none
          else none
        else none
    else none
  else
    bif (decide (0 ≤ (gI o3 5)) && decide ((gI o3 5) ≤ ((List.length (zG o3 1) : Nat) : Int))) then
      bif (apOk [((gI o3 2), ((gI o3 3), (gLA8 o3 4)))] (List.drop (Int.toNat (gI o3 5)) (zG o3 1))) then
        bif (decide (0 ≤ (gI o3 5)) && decide ((gI o3 5) ≤ ((List.length (zG o3 1) : Nat) : Int))) then
          bif (apOk [] (List.take (Int.toNat (gI o3 5)) (zG o3 1))) then
            bif (apOk (List.take (Int.toNat (gI o3 5)) (zG o3 1)) ([((gI o3 2), ((gI o3 3), (gLA8 o3 4)))] ++ (List.drop (Int.toNat (gI o3 5)) (zG o3 1)))) then
              some [zB ((List.take (Int.toNat (gI o3 5)) (zG o3 1)) ++ ([((gI o3 2), ((gI o3 3), (gLA8 o3 4)))] ++ (List.drop (Int.toNat (gI o3 5)) (zG o3 1)))), tB true]
            else none
          else none
        else none
      else none
    else none
theorem zLy (a0 : List (Int × Int × List (List Int))) (a1 : Int × Int × List (List Int)) (h : zEj R a0 a1 = some o) : R zCi [zB a0, zA a1] = some o := go_ (b := fun c => zEj c a0 a1) (fun c => by kernel_rfl) h
def zAL (call : Oracle) (x0 x1 : Int) (x2 : List (List Int)) (x3 : List (Int × Int × List (List Int))) (x4 : List (Int × Int × List (List Int))) (x5 : List (List Int)) (x6 : Int) : Option (List TV) :=
  bif decide (x6 < ((List.length x4 : Nat) : Int)) then
    (call zv [tI x0, tI x1, tLA8 x2, zB x3, zB x4, tLA8 x5, tI x6, tI 0]).bind fun o9 =>
    bif ((gI o9 0) == 0) then
      call kt [tI (gI o9 1), tI (gI o9 2), tLA8 (gLA8 o9 3), zB (zG o9 4), zB (zG o9 5), tLA8 (gLA8 o9 6), tI (wi64 ((gI o9 7) + 1))]
    else
      some [tI 1, zB (zG o9 1), tB (gB o9 2)]
  else
    some [tI 0, zB x3]
theorem zCF (x0 x1 : Int) (x2 : List (List Int)) (x3 : List (Int × Int × List (List Int))) (x4 : List (Int × Int × List (List Int))) (x5 : List (List Int)) (x6 : Int) (h : zAL R x0 x1 x2 x3 x4 x5 x6 = some o) : R kt [tI x0, tI x1, tLA8 x2, zB x3, zB x4, tLA8 x5, tI x6] = some o := go_ (b := fun c => zAL c x0 x1 x2 x3 x4 x5 x6) (fun c => by kernel_rfl) h
def zCW (call : Oracle) (x0 x1 : Int) (x2 : List (List Int)) (x3 : List (Int × Int × List (List Int))) (x4 : List (Int × Int × List (List Int))) (x5 : List (List Int)) (x6 x7 : Int) : Option (List TV) :=
  bif decide (x7 < ((List.length x5 : Nat) : Int)) then
    bif (decide (0 ≤ x6) && decide (x6 < ((List.length x4 : Nat) : Int))) then
      bif (decide (0 ≤ x7) && decide (x7 < ((List.length x5 : Nat) : Int))) then
        (call zCQ [zA (List.getD x4 (Int.toNat x6) (0, (0, []))), tA8 (List.getD x5 (Int.toNat x7) (List.replicate 8 0))]).bind fun o6 =>
        bif (((zD o6 0).2).1 != x1) then
          call zv [tI x0, tI x1, tLA8 x2, zB x3, zB x4, tLA8 x5, tI x6, tI (wi64 (x7 + 1))]
        else
          bif (((List.length (((zD o6 0).2).2) : Nat) : Int) != ((List.length x2 : Nat) : Int)) then
            call zv [tI x0, tI x1, tLA8 x2, zB x3, zB x4, tLA8 x5, tI x6, tI (wi64 (x7 + 1))]
          else
            (call zCi [zB x3, zA (zD o6 0)]).bind fun o7 =>
            bif (gB o7 1) then
              bif decide (120 < ((List.length (zG o7 0) : Nat) : Int)) then
                some [tI 1, zB [], tB false]
              else
                bif (apOk x4 [(zD o6 0)]) then
                  call zv [tI x0, tI x1, tLA8 x2, zB (zG o7 0), zB (x4 ++ [(zD o6 0)]), tLA8 x5, tI x6, tI (wi64 (x7 + 1))]
                else none
            else
              call zv [tI x0, tI x1, tLA8 x2, zB x3, zB x4, tLA8 x5, tI x6, tI (wi64 (x7 + 1))]
      else none
    else none
  else
    some [tI 0, tI x0, tI x1, tLA8 x2, zB x3, zB x4, tLA8 x5, tI x6]
theorem zFX (x0 x1 : Int) (x2 : List (List Int)) (x3 : List (Int × Int × List (List Int))) (x4 : List (Int × Int × List (List Int))) (x5 : List (List Int)) (x6 x7 : Int) (h : zCW R x0 x1 x2 x3 x4 x5 x6 x7 = some o) : R zv [tI x0, tI x1, tLA8 x2, zB x3, zB x4, tLA8 x5, tI x6, tI x7] = some o := go_ (b := fun c => zCW c x0 x1 x2 x3 x4 x5 x6 x7) (fun c => by kernel_rfl) h
def zEi (call : Oracle) (a0 : Int × Int × List (List Int)) : Option (List TV) :=
  (call zER [zA a0]).bind fun o1 =>
  (call jY [tI a0.1]).bind fun o2 =>
  (call zAa [tLA8 [], tA8 (gA8 o2 0), tI 0, tI a0.1]).bind fun o3 =>
  (call kt [tI ((zD o1 0).1), tI (((zD o1 0).2).1), tLA8 (((zD o1 0).2).2), zB [(zD o1 0)], zB [(zD o1 0)], tLA8 (gLA8 o3 0), tI 0]).bind fun o10 =>
  bif ((gI o10 0) == 0) then
    some [zB (zG o10 1), tB true]
  else
    some [zB (zG o10 1), tB (gB o10 2)]
theorem zIQ (a0 : Int × Int × List (List Int)) (h : zEi R a0 = some o) : R zDS [zA a0] = some o := go_ (b := fun c => zEi c a0) (fun c => by kernel_rfl) h
def zJP (call : Oracle) (a0 : Int × Int × List (List Int)) : Option (List TV) :=
  (call zEu [tI a0.2.1, tI (-200), tI 200]).bind fun o1 =>
  bif (!(gB o1 0)) then
    some [zA (0, (0, [])), tI 3]
  else
    bif decide (200 < ((List.length a0.2.2 : Nat) : Int)) then
      some [zA (0, (0, [])), tI 3]
    else
      some [zA a0, tI 0]
theorem zQp (a0 : Int × Int × List (List Int)) (h : zJP R a0 = some o) : R zIr [zA a0] = some o := go_ (b := fun c => zJP c a0) (fun c => by kernel_rfl) h
def zAI (call : Oracle) (x0 : List (Int × Int × List (List Int))) (x1 : List (Int × Int × List (List Int))) (x2 : Int) : Option (List TV) :=
  bif decide (x2 < ((List.length x0 : Nat) : Int)) then
    bif (decide (0 ≤ x2) && decide (x2 < ((List.length x0 : Nat) : Int))) then
      bif (decide (0 ≤ x2) && decide (x2 < ((List.length x0 : Nat) : Int))) then
        bif (decide (0 ≤ x2) && decide (x2 < ((List.length x0 : Nat) : Int))) then
          bif (apOk [] (((List.getD x0 (Int.toNat x2) (0, (0, []))).2).2)) then
            (call zIr [zA (List.getD x0 (Int.toNat x2) (0, (0, [])))]).bind fun o4 =>
            bif ((gI o4 1) != 0) then
              some [tI 1, zB [], tI (gI o4 1)]
            else
              bif (apOk x1 [(zD o4 0)]) then
                call jD [zB x0, zB (x1 ++ [(zD o4 0)]), tI (wi64 (x2 + 1))]
              else none
          else none
        else none
      else none
    else none
  else
    some [tI 0, zB x1]
theorem zD8 (x0 : List (Int × Int × List (List Int))) (x1 : List (Int × Int × List (List Int))) (x2 : Int) (h : zAI R x0 x1 x2 = some o) : R jD [zB x0, zB x1, tI x2] = some o := go_ (b := fun c => zAI c x0 x1 x2) (fun c => by kernel_rfl) h
def kb (call : Oracle) (a0 : Int × Int × List (List Int)) : Option (List TV) :=
  (call zB8 [zA a0]).bind fun o1 =>
  bif ((gI o1 0) != 0) then
    some [zB [], tI (gI o1 0)]
  else
    (call zDS [zA a0]).bind fun o2 =>
    bif (!(gB o2 1)) then
      some [zB [], tI 3]
    else
      (call jD [zB (zG o2 0), zB [], tI 0]).bind fun o5 =>
      bif ((gI o5 0) == 0) then
        some [zB (zG o5 1), tI 0]
      else
        some [zB (zG o5 1), tI (gI o5 2)]
theorem jf (a0 : Int × Int × List (List Int)) (h : kb R a0 = some o) : R jk [zA a0] = some o := go_ (b := fun c => kb c a0) (fun c => by kernel_rfl) h
def jG (call : Oracle) (x0 : List (Int × Int × List (List Int))) (x1 : List (Int × Int × List (List Int))) (x2 : Int) : Option (List TV) :=
  bif decide (x2 < ((List.length x0 : Nat) : Int)) then
    bif (decide (0 ≤ x2) && decide (x2 < ((List.length x0 : Nat) : Int))) then
      (call zAJ [zA (List.getD x0 (Int.toNat x2) (0, (0, [])))]).bind fun o9 =>
      (call jZ [zB x0, zB x1, tI ((zD o9 0).1), tI (((zD o9 0).2).1), tLA8 (((zD o9 0).2).2), tI x2, tI 0]).bind fun o10 =>
      bif (decide (0 ≤ (gI o10 6)) && decide ((gI o10 6) < ((List.length (zG o10 1) : Nat) : Int))) then
        (call zDT [zA ((gI o10 3), ((gI o10 4), (gLA8 o10 5))), zA (List.getD (zG o10 1) (Int.toNat (gI o10 6)) (0, (0, [])))]).bind fun o11 =>
        bif (gB o11 0) then
          bif (decide (0 ≤ (gI o10 6)) && decide ((gI o10 6) < ((List.length (zG o10 1) : Nat) : Int))) then
            bif (apOk (zG o10 2) [(List.getD (zG o10 1) (Int.toNat (gI o10 6)) (0, (0, [])))]) then
              call jC [zB (zG o10 1), zB ((zG o10 2) ++ [(List.getD (zG o10 1) (Int.toNat (gI o10 6)) (0, (0, [])))]), tI (wi64 ((gI o10 6) + 1))]
            else none
          else none
        else
          call jC [zB (zG o10 1), zB (zG o10 2), tI (wi64 ((gI o10 6) + 1))]
      else none
    else none
  else
    some [tI 0, zB x1]
theorem zD7 (x0 : List (Int × Int × List (List Int))) (x1 : List (Int × Int × List (List Int))) (x2 : Int) (h : jG R x0 x1 x2 = some o) : R jC [zB x0, zB x1, tI x2] = some o := go_ (b := fun c => jG c x0 x1 x2) (fun c => by kernel_rfl) h
def kl (call : Oracle) (x0 : List (Int × Int × List (List Int))) (x1 : List (Int × Int × List (List Int))) (x2 x3 : Int) (x4 : List (List Int)) (x5 x6 : Int) : Option (List TV) :=
  bif decide (x6 < ((List.length x0 : Nat) : Int)) then
    bif (decide (0 ≤ x5) && decide (x5 < ((List.length x0 : Nat) : Int))) then
      (call zDT [zA (x2, (x3, x4)), zA (List.getD x0 (Int.toNat x5) (0, (0, [])))]).bind fun o5 =>
      bif (!(gB o5 0)) then
        (call zAJ [zA (x2, (x3, x4))]).bind fun o6 =>
        call jZ [zB x0, zB x1, tI ((zD o6 0).1), tI (((zD o6 0).2).1), tLA8 (((zD o6 0).2).2), tI x5, tI (wi64 (x6 + 1))]
      else
        some [tI 0, zB x0, zB x1, tI x2, tI x3, tLA8 x4, tI x5]
    else none
  else
    some [tI 0, zB x0, zB x1, tI x2, tI x3, tLA8 x4, tI x5]
theorem zAm (x0 : List (Int × Int × List (List Int))) (x1 : List (Int × Int × List (List Int))) (x2 x3 : Int) (x4 : List (List Int)) (x5 x6 : Int) (h : kl R x0 x1 x2 x3 x4 x5 x6 = some o) : R jZ [zB x0, zB x1, tI x2, tI x3, tLA8 x4, tI x5, tI x6] = some o := go_ (b := fun c => kl c x0 x1 x2 x3 x4 x5 x6) (fun c => by kernel_rfl) h
def zBM (call : Oracle) (a0 : Int × Int × List (List Int)) : Option (List TV) :=
  (call jk [zA a0]).bind fun o1 =>
  bif ((gI o1 1) != 0) then
    some [zB [], tI (gI o1 1)]
  else
    (call jC [zB (zG o1 0), zB [], tI 0]).bind fun o12 =>
    some [zB (zG o12 1), tI 0]
theorem zFD (a0 : Int × Int × List (List Int)) (h : zBM R a0 = some o) : R zDA [zA a0] = some o := go_ (b := fun c => zBM c a0) (fun c => by kernel_rfl) h
def zJR (call : Oracle) (a0 a1 a2 : Int) : Option (List TV) :=
  bif decide (a1 ≤ a0) then
    some [tB (decide (a0 ≤ a2))]
  else
    some [tB false]
theorem zQq (a0 a1 a2 : Int) (h : zJR R a0 a1 a2 = some o) : R zET [tI a0, tI a1, tI a2] = some o := go_ (b := fun c => zJR c a0 a1 a2) (fun c => by kernel_rfl) h
def zHY (call : Oracle) (a0 : Int) : Option (List TV) :=
  (call zET [tI a0, tI 1, tI 8]).bind fun o1 =>
  some [tB (gB o1 0)]
theorem zPv (a0 : Int) (h : zHY R a0 = some o) : R zEx [tI a0] = some o := go_ (b := fun c => zHY c a0) (fun c => by kernel_rfl) h
def zB1 (call : Oracle) (x0 : List Bool) (x1 : Int) (x2 : List Int) (x3 : Int) : Option (List TV) :=
  bif decide (x3 < 8) then
    bif (decide (0 ≤ x3) && decide (x3 < 8)) then
      bif decide (x1 ≤ x3) then
        bif ((List.getD x2 (Int.toNat x3) 0) != 0) then
          some [tI 1, tB false]
        else
          call zAd [tAB8 x0, tI x1, tA8 x2, tI (wi64 (x3 + 1))]
      else
        bif decide (x1 ≤ (wi64 ((List.getD x2 (Int.toNat x3) 0)))) then
          some [tI 1, tB false]
        else
          bif (decide (0 ≤ (List.getD x2 (Int.toNat x3) 0)) && decide ((List.getD x2 (Int.toNat x3) 0) < 8)) then
            bif (List.getD x0 (Int.toNat (List.getD x2 (Int.toNat x3) 0)) false) then
              some [tI 1, tB false]
            else
              bif (decide (0 ≤ (List.getD x2 (Int.toNat x3) 0)) && decide ((List.getD x2 (Int.toNat x3) 0) < 8)) then
                call zAd [tAB8 (List.set x0 (Int.toNat (List.getD x2 (Int.toNat x3) 0)) true), tI x1, tA8 x2, tI (wi64 (x3 + 1))]
              else none
          else none
    else none
  else
    some [tI 0]
theorem zGH (x0 : List Bool) (x1 : Int) (x2 : List Int) (x3 : Int) (h : zB1 R x0 x1 x2 x3 = some o) : R zAd [tAB8 x0, tI x1, tA8 x2, tI x3] = some o := go_ (b := fun c => zB1 c x0 x1 x2 x3) (fun c => by kernel_rfl) h
def zF9 (call : Oracle) (a0 : List Int) (a1 : Int) : Option (List TV) :=
  (call zEx [tI a1]).bind fun o1 =>
  bif (!(gB o1 0)) then
    some [tB false]
  else
    (call zAd [tAB8 (List.replicate 8 false), tI a1, tA8 a0, tI 0]).bind fun o2 =>
    bif ((gI o2 0) == 0) then
      some [tB true]
    else
      some [tB (gB o2 1)]
theorem zNc (a0 : List Int) (a1 : Int) (h : zF9 R a0 a1 = some o) : R zFp [tA8 a0, tI a1] = some o := go_ (b := fun c => zF9 c a0 a1) (fun c => by kernel_rfl) h
def zCz (call : Oracle) (x0 x1 : List Int) (x2 x3 : Int) : Option (List TV) :=
  bif decide (x3 < x2) then
    bif (decide (0 ≤ x3) && decide (x3 < 8)) then
      call zCo [tA8 x0, tA8 (List.set x1 (Int.toNat x3) (wu8 (x3))), tI x2, tI (wi64 (x3 + 1))]
    else none
  else
    some [tI 0, tA8 x0, tA8 x1]
theorem zHh (x0 x1 : List Int) (x2 x3 : Int) (h : zCz R x0 x1 x2 x3 = some o) : R zCo [tA8 x0, tA8 x1, tI x2, tI x3] = some o := go_ (b := fun c => zCz c x0 x1 x2 x3) (fun c => by kernel_rfl) h
def zHW (call : Oracle) (a0 : Int) : Option (List TV) :=
  (call zCo [tA8 (List.replicate 8 0), tA8 (List.replicate 8 0), tI a0, tI 0]).bind fun o1 =>
  some [tA8 (gA8 o1 2)]
theorem zPt (a0 : Int) (h : zHW R a0 = some o) : R ja [tI a0] = some o := go_ (b := fun c => zHW c a0) (fun c => by kernel_rfl) h
def zBx (call : Oracle) (x0 x1 : List Int) (x2 x3 x4 : Int) : Option (List TV) :=
  bif decide (x4 < x3) then
    bif (decide (0 ≤ x4) && decide (x4 < 8)) then
      call zBr [tA8 x0, tA8 (List.set x1 (Int.toNat x4) (wu8 ((wi64 ((wi64 (x2 - 1)) - x4))))), tI x2, tI x3, tI (wi64 (x4 + 1))]
    else none
  else
    some [tI 0, tA8 x0, tA8 x1]
theorem zGD (x0 x1 : List Int) (x2 x3 x4 : Int) (h : zBx R x0 x1 x2 x3 x4 = some o) : R zBr [tA8 x0, tA8 x1, tI x2, tI x3, tI x4] = some o := go_ (b := fun c => zBx c x0 x1 x2 x3 x4) (fun c => by kernel_rfl) h
def zF5 (call : Oracle) (a0 : Int) : Option (List TV) :=
  (call zBr [tA8 (List.replicate 8 0), tA8 (List.replicate 8 0), tI a0, tI a0, tI 0]).bind fun o1 =>
  some [tA8 (gA8 o1 2)]
theorem zNX (a0 : Int) (h : zF5 R a0 = some o) : R jP [tI a0] = some o := go_ (b := fun c => zF5 c a0) (fun c => by kernel_rfl) h
def zDy (call : Oracle) (x0 x1 x2 : List Int) (x3 x4 : Int) : Option (List TV) :=
  bif decide (x4 < x3) then
    bif (decide (0 ≤ x4) && decide (x4 < 8)) then
      bif (decide (0 ≤ (List.getD x0 (Int.toNat x4) 0)) && decide ((List.getD x0 (Int.toNat x4) 0) < 8)) then
        call zDq [tA8 x0, tA8 x1, tA8 (List.set x2 (Int.toNat (List.getD x0 (Int.toNat x4) 0)) (wu8 (x4))), tI x3, tI (wi64 (x4 + 1))]
      else none
    else none
  else
    some [tI 0, tA8 x1, tA8 x2]
theorem zIT (x0 x1 x2 : List Int) (x3 x4 : Int) (h : zDy R x0 x1 x2 x3 x4 = some o) : R zDq [tA8 x0, tA8 x1, tA8 x2, tI x3, tI x4] = some o := go_ (b := fun c => zDy c x0 x1 x2 x3 x4) (fun c => by kernel_rfl) h
def zJW (call : Oracle) (a0 : List Int) (a1 : Int) : Option (List TV) :=
  (call zDq [tA8 a0, tA8 (List.replicate 8 0), tA8 (List.replicate 8 0), tI a1, tI 0]).bind fun o1 =>
  some [tA8 (gA8 o1 2)]
theorem zQw (a0 : List Int) (a1 : Int) (h : zJW R a0 a1 = some o) : R zCT [tA8 a0, tI a1] = some o := go_ (b := fun c => zJW c a0 a1) (fun c => by kernel_rfl) h
def zJV (call : Oracle) (a0 : List Int) (a1 : Int) : Option (List TV) :=
  bif (decide (0 ≤ (wi64 (a1 - 1))) && decide ((wi64 (a1 - 1)) < 8)) then
    bif (decide (0 ≤ a1) && decide (a1 < 8)) then
      some [tB (decide ((List.getD a0 (Int.toNat a1) 0) < (List.getD a0 (Int.toNat (wi64 (a1 - 1))) 0)))]
    else none
  else none
theorem zQv (a0 : List Int) (a1 : Int) (h : zJV R a0 a1 = some o) : R zGi [tA8 a0, tI a1] = some o := go_ (b := fun c => zJV c a0 a1) (fun c => by kernel_rfl) h
def jt (call : Oracle) (x0 x1 : List Int) (x2 x3 : Int) : Option (List TV) :=
  bif decide (x3 < x2) then
    (call zGi [tA8 x0, tI x3]).bind fun o2 =>
    bif (gB o2 0) then
      bif (apOk x1 [x3]) then
        call jl [tA8 x0, tLI (x1 ++ [x3]), tI x2, tI (wi64 (x3 + 1))]
      else none
    else
      call jl [tA8 x0, tLI x1, tI x2, tI (wi64 (x3 + 1))]
  else
    some [tI 0, tLI x1]
theorem zFG (x0 x1 : List Int) (x2 x3 : Int) (h : jt R x0 x1 x2 x3 = some o) : R jl [tA8 x0, tLI x1, tI x2, tI x3] = some o := go_ (b := fun c => jt c x0 x1 x2 x3) (fun c => by kernel_rfl) h
def zEn (call : Oracle) (a0 : List Int) (a1 : Int) : Option (List TV) :=
  (call jl [tA8 a0, tLI [], tI a1, tI 1]).bind fun o3 =>
  some [tLI (gLI o3 1)]
theorem zL4 (a0 : List Int) (a1 : Int) (h : zEn R a0 a1 = some o) : R zEW [tA8 a0, tI a1] = some o := go_ (b := fun c => zEn c a0 a1) (fun c => by kernel_rfl) h
def zBb (call : Oracle) (x0 x1 : List Int) (x2 x3 : Int) : Option (List TV) :=
  bif decide (x3 < x2) then
    bif (decide (0 ≤ x3) && decide (x3 < ((List.length x1 : Nat) : Int))) then
      (call zGi [tA8 x0, tI (List.getD x1 (Int.toNat x3) 0)]).bind fun o4 =>
      bif (!(gB o4 0)) then
        some [tI 1, tB false]
      else
        call zCp [tA8 x0, tLI x1, tI x2, tI (wi64 (x3 + 1))]
    else none
  else
    some [tI 0]
theorem zEF (x0 x1 : List Int) (x2 x3 : Int) (h : zBb R x0 x1 x2 x3 = some o) : R zCp [tA8 x0, tLI x1, tI x2, tI x3] = some o := go_ (b := fun c => zBb c x0 x1 x2 x3) (fun c => by kernel_rfl) h
def zHZ (call : Oracle) (a0 a1 : List Int) (a2 : Int) : Option (List TV) :=
  (call zCT [tA8 a0, tI a2]).bind fun o1 =>
  (call zEW [tA8 a1, tI a2]).bind fun o2 =>
  (call zCp [tA8 (gA8 o1 0), tLI (gLI o2 0), tI ((List.length (gLI o2 0) : Nat) : Int), tI 0]).bind fun o5 =>
  bif ((gI o5 0) == 0) then
    some [tB true]
  else
    some [tB (gB o5 1)]
theorem zPw (a0 a1 : List Int) (a2 : Int) (h : zHZ R a0 a1 a2 = some o) : R zHJ [tA8 a0, tA8 a1, tI a2] = some o := go_ (b := fun c => zHZ c a0 a1 a2) (fun c => by kernel_rfl) h
def zB2 (call : Oracle) (x0 x1 : Int) (x2 : List (List Int)) (x3 x4 x5 : Int) : Option (List TV) :=
  bif decide (x5 < x4) then
    bif (decide (0 ≤ x5) && decide (x5 < ((List.length x2 : Nat) : Int))) then
      (call zFp [tA8 (List.getD x2 (Int.toNat x5) (List.replicate 8 0)), tI x3]).bind fun o7 =>
      bif (!(gB o7 0)) then
        some [tI 1, tB false]
      else
        (call ja [tI x3]).bind fun o8 =>
        bif ((List.getD x2 (Int.toNat x5) (List.replicate 8 0)) == (gA8 o8 0)) then
          some [tI 1, tB false]
        else
          (call jP [tI x3]).bind fun o9 =>
          bif ((List.getD x2 (Int.toNat x5) (List.replicate 8 0)) == (gA8 o9 0)) then
            some [tI 1, tB false]
          else
            bif decide (0 < x5) then
              bif (decide (0 ≤ (wi64 (x5 - 1))) && decide ((wi64 (x5 - 1)) < ((List.length x2 : Nat) : Int))) then
                (call zHJ [tA8 (List.getD x2 (Int.toNat (wi64 (x5 - 1))) (List.replicate 8 0)), tA8 (List.getD x2 (Int.toNat x5) (List.replicate 8 0)), tI x3]).bind fun o10 =>
                bif (!(gB o10 0)) then
                  some [tI 1, tB false]
                else
                  call jb [tI x0, tI x1, tLA8 x2, tI x3, tI x4, tI (wi64 (x5 + 1))]
              else none
            else
              call jb [tI x0, tI x1, tLA8 x2, tI x3, tI x4, tI (wi64 (x5 + 1))]
    else none
  else
    some [tI 0]
theorem zGI (x0 x1 : Int) (x2 : List (List Int)) (x3 x4 x5 : Int) (h : zB2 R x0 x1 x2 x3 x4 x5 = some o) : R jb [tI x0, tI x1, tLA8 x2, tI x3, tI x4, tI x5] = some o := go_ (b := fun c => zB2 c x0 x1 x2 x3 x4 x5) (fun c => by kernel_rfl) h
def zGA (call : Oracle) (a0 : Int × Int × List (List Int)) : Option (List TV) :=
  (call zEx [tI a0.1]).bind fun o1 =>
  bif (!(gB o1 0)) then
    some [tB false]
  else
    (call zET [tI a0.2.1, tI (-200), tI 200]).bind fun o2 =>
    bif (!(gB o2 0)) then
      some [tB false]
    else
      bif decide (200 < ((List.length a0.2.2 : Nat) : Int)) then
        some [tB false]
      else
        bif decide (a0.1 < 2) then
          bif (a0.2.1 != 0) then
            some [tB false]
          else
            (call jb [tI a0.1, tI a0.2.1, tLA8 a0.2.2, tI a0.1, tI ((List.length a0.2.2 : Nat) : Int), tI 0]).bind fun o11 =>
            bif ((gI o11 0) == 0) then
              some [tB true]
            else
              some [tB (gB o11 1)]
        else
          (call jb [tI a0.1, tI a0.2.1, tLA8 a0.2.2, tI a0.1, tI ((List.length a0.2.2 : Nat) : Int), tI 0]).bind fun o12 =>
          bif ((gI o12 0) == 0) then
            some [tB true]
          else
            some [tB (gB o12 1)]
theorem zNd (a0 : Int × Int × List (List Int)) (h : zGA R a0 = some o) : R zFq [zA a0] = some o := go_ (b := fun c => zGA c a0) (fun c => by kernel_rfl) h
def zB0 (call : Oracle) (a0 : Int × Int × List (List Int)) : Option (List TV) :=
  bif (apOk [] a0.2.2) then
    some [zA a0]
  else none
theorem zGG (a0 : Int × Int × List (List Int)) (h : zB0 R a0 = some o) : R kJ [zA a0] = some o := go_ (b := fun c => zB0 c a0) (fun c => by kernel_rfl) h
def zGx (call : Oracle) (x0 x1 : List Int) (x2 x3 : List Int) (x4 x5 : Int) : Option (List TV) :=
  bif decide (x5 < x4) then
    bif (decide (0 ≤ x5) && decide (x5 < 8)) then
      bif (decide (0 ≤ (List.getD x0 (Int.toNat x5) 0)) && decide ((List.getD x0 (Int.toNat x5) 0) < 8)) then
        bif (decide (0 ≤ x5) && decide (x5 < 8)) then
          call zGg [tA8 x0, tA8 x1, tA8 x2, tA8 (List.set x3 (Int.toNat x5) (List.getD x1 (Int.toNat (List.getD x0 (Int.toNat x5) 0)) 0)), tI x4, tI (wi64 (x5 + 1))]
        else none
      else none
    else none
  else
    some [tI 0, tA8 x2, tA8 x3]
theorem zL0 (x0 x1 : List Int) (x2 x3 : List Int) (x4 x5 : Int) (h : zGx R x0 x1 x2 x3 x4 x5 = some o) : R zGg [tA8 x0, tA8 x1, tA8 x2, tA8 x3, tI x4, tI x5] = some o := go_ (b := fun c => zGx c x0 x1 x2 x3 x4 x5) (fun c => by kernel_rfl) h
def zOj (call : Oracle) (a0 a1 : List Int) (a2 : Int) : Option (List TV) :=
  (call zGg [tA8 a0, tA8 a1, tA8 (List.replicate 8 0), tA8 (List.replicate 8 0), tI a2, tI 0]).bind fun o1 =>
  some [tA8 (gA8 o1 2)]
theorem zTk (a0 a1 : List Int) (a2 : Int) (h : zOj R a0 a1 a2 = some o) : R zDl [tA8 a0, tA8 a1, tI a2] = some o := go_ (b := fun c => zOj c a0 a1 a2) (fun c => by kernel_rfl) h
def zOi (call : Oracle) (a0 : List Int) (a1 : Int) : Option (List TV) :=
  (call jP [tI a1]).bind fun o1 =>
  (call zDl [tA8 (gA8 o1 0), tA8 a0, tI a1]).bind fun o2 =>
  (call jP [tI a1]).bind fun o3 =>
  (call zDl [tA8 (gA8 o2 0), tA8 (gA8 o3 0), tI a1]).bind fun o4 =>
  some [tA8 (gA8 o4 0)]
theorem zTj (a0 : List Int) (a1 : Int) (h : zOi R a0 a1 = some o) : R zLC [tA8 a0, tI a1] = some o := go_ (b := fun c => zOi c a0 a1) (fun c => by kernel_rfl) h
def zJS (call : Oracle) (a0 : List Int) (a1 : Int × Int × List (List Int)) : Option (List TV) :=
  bif ((Int.tmod a1.2.1 2) != 0) then
    (call zLC [tA8 a0, tI a1.1]).bind fun o1 =>
    some [tA8 (gA8 o1 0)]
  else
    some [tA8 a0]
theorem zQr (a0 : List Int) (a1 : Int × Int × List (List Int)) (h : zJS R a0 a1 = some o) : R zGf [tA8 a0, zA a1] = some o := go_ (b := fun c => zJS c a0 a1) (fun c => by kernel_rfl) h
def zDx (call : Oracle) (a0 : List Int) (a1 : Int) : Option (List TV) :=
  (call zCT [tA8 a0, tI a1]).bind fun o1 =>
  (call jP [tI a1]).bind fun o2 =>
  (call zDl [tA8 (gA8 o1 0), tA8 (gA8 o2 0), tI a1]).bind fun o3 =>
  some [tA8 (gA8 o3 0)]
theorem zKm (a0 : List Int) (a1 : Int) (h : zDx R a0 a1 = some o) : R zDo [tA8 a0, tI a1] = some o := go_ (b := fun c => zDx c a0 a1) (fun c => by kernel_rfl) h
def zBy (call : Oracle) (x0 : List Int) (x1 x2 x3 : Int) : Option (List TV) :=
  bif decide (x3 < x2) then
    (call zAc [tA8 x0, tU64 x1, tI x3, tI x2, tI x3, tI x3, tI 0]).bind fun o2 =>
    call zBs [tA8 (gA8 o2 1), tU64 (gU64 o2 2), tI (gI o2 3), tI (wi64 ((gI o2 4) + 1))]
  else
    some [tI 0, tU64 x1]
theorem zGE (x0 : List Int) (x1 x2 x3 : Int) (h : zBy R x0 x1 x2 x3 = some o) : R zBs [tA8 x0, tU64 x1, tI x2, tI x3] = some o := go_ (b := fun c => zBy c x0 x1 x2 x3) (fun c => by kernel_rfl) h
def zAj (call : Oracle) (x0 : List Int) (x1 x2 : Int) (x3 x4 : Int) (x5 x6 : Int) : Option (List TV) :=
  bif decide (x6 < x5) then
    bif (decide (0 ≤ x6) && decide (x6 < 8)) then
      bif (decide (0 ≤ x2) && decide (x2 < 8)) then
        bif decide ((List.getD x0 (Int.toNat x2) 0) < (List.getD x0 (Int.toNat x6) 0)) then
          bif decide (0 ≤ (wi64 ((wi64 (8 * x6)) + x2))) then
            call zAc [tA8 x0, tU64 (bitsOr .u64 x1 (shl .u64 1 (wi64 ((wi64 (8 * x6)) + x2)))), tI x2, tI x3, tI x4, tI x5, tI (wi64 (x6 + 1))]
          else none
        else
          call zAc [tA8 x0, tU64 x1, tI x2, tI x3, tI x4, tI x5, tI (wi64 (x6 + 1))]
      else none
    else none
  else
    some [tI 0, tA8 x0, tU64 x1, tI x3, tI x4]
theorem zDd (x0 : List Int) (x1 x2 : Int) (x3 x4 : Int) (x5 x6 : Int) (h : zAj R x0 x1 x2 x3 x4 x5 x6 = some o) : R zAc [tA8 x0, tU64 x1, tI x2, tI x3, tI x4, tI x5, tI x6] = some o := go_ (b := fun c => zAj c x0 x1 x2 x3 x4 x5 x6) (fun c => by kernel_rfl) h
def zF8 (call : Oracle) (a0 : List Int) (a1 : Int) : Option (List TV) :=
  (call zBs [tA8 a0, tU64 0, tI a1, tI 0]).bind fun o3 =>
  some [tU64 (gU64 o3 1)]
theorem zNa (a0 : List Int) (a1 : Int) (h : zF8 R a0 a1 = some o) : R zDn [tA8 a0, tI a1] = some o := go_ (b := fun c => zF8 c a0 a1) (fun c => by kernel_rfl) h
def zGy (call : Oracle) (x0 x1 : List Int) (x2 x3 : Int) (x4 : Bool) : Option (List TV) :=
  bif x4 then
    (call zDV [tA8 x0, tA8 x1, tI x2, tU64 x3, tB false, tI 1]).bind fun o5 =>
    call zGh [tA8 (gA8 o5 1), tA8 (gA8 o5 2), tI (gI o5 3), tU64 (gU64 o5 4), tB (gB o5 5)]
  else
    some [tI 0, tA8 x0, tA8 x1, tI x2]
theorem zL1 (x0 x1 : List Int) (x2 x3 : Int) (x4 : Bool) (h : zGy R x0 x1 x2 x3 x4 = some o) : R zGh [tA8 x0, tA8 x1, tI x2, tU64 x3, tB x4] = some o := go_ (b := fun c => zGy c x0 x1 x2 x3 x4) (fun c => by kernel_rfl) h
def zCZ (call : Oracle) (x0 x1 : List Int) (x2 x3 : Int) (x4 : Bool) (x5 : Int) : Option (List TV) :=
  bif decide (x5 < x2) then
    bif (decide (0 ≤ (wi64 (x5 - 1))) && decide ((wi64 (x5 - 1)) < 8)) then
      bif (decide (0 ≤ x5) && decide (x5 < 8)) then
        bif decide ((List.getD x1 (Int.toNat (wi64 (x5 - 1))) 0) < (List.getD x1 (Int.toNat x5) 0)) then
          bif decide (0 ≤ (wu8 ((wu8 (8 * (List.getD x1 (Int.toNat (wi64 (x5 - 1))) 0))) + (List.getD x1 (Int.toNat x5) 0)))) then
            bif ((bitsAnd .u64 (shr .u64 x3 (wu8 ((wu8 (8 * (List.getD x1 (Int.toNat (wi64 (x5 - 1))) 0))) + (List.getD x1 (Int.toNat x5) 0)))) 1) == 1) then
              bif (decide (0 ≤ (wi64 (x5 - 1))) && decide ((wi64 (x5 - 1)) < 8)) then
                bif (decide (0 ≤ x5) && decide (x5 < 8)) then
                  call zDV [tA8 x0, tA8 (List.set (List.set x1 (Int.toNat (wi64 (x5 - 1))) (List.getD x1 (Int.toNat x5) 0)) (Int.toNat x5) (List.getD x1 (Int.toNat (wi64 (x5 - 1))) 0)), tI x2, tU64 x3, tB true, tI (wi64 (x5 + 1))]
                else none
              else none
            else
              call zDV [tA8 x0, tA8 x1, tI x2, tU64 x3, tB x4, tI (wi64 (x5 + 1))]
          else none
        else
          call zDV [tA8 x0, tA8 x1, tI x2, tU64 x3, tB x4, tI (wi64 (x5 + 1))]
      else none
    else none
  else
    some [tI 0, tA8 x0, tA8 x1, tI x2, tU64 x3, tB x4]
theorem zEE (x0 x1 : List Int) (x2 x3 : Int) (x4 : Bool) (x5 : Int) (h : zCZ R x0 x1 x2 x3 x4 x5 = some o) : R zDV [tA8 x0, tA8 x1, tI x2, tU64 x3, tB x4, tI x5] = some o := go_ (b := fun c => zCZ c x0 x1 x2 x3 x4 x5) (fun c => by kernel_rfl) h
def zOk (call : Oracle) (a0 a1 : List Int) (a2 : Int) : Option (List TV) :=
  (call zDn [tA8 a0, tI a2]).bind fun o1 =>
  (call zDn [tA8 a1, tI a2]).bind fun o2 =>
  (call ja [tI a2]).bind fun o3 =>
  (call zGh [tA8 (List.replicate 8 0), tA8 (gA8 o3 0), tI a2, tU64 (bitsAnd .u64 (gU64 o1 0) (gU64 o2 0)), tB true]).bind fun o6 =>
  (call zCT [tA8 (gA8 o6 2), tI (gI o6 3)]).bind fun o7 =>
  some [tA8 (gA8 o7 0)]
theorem zTl (a0 a1 : List Int) (a2 : Int) (h : zOk R a0 a1 a2 = some o) : R zN2 [tA8 a0, tA8 a1, tI a2] = some o := go_ (b := fun c => zOk c a0 a1 a2) (fun c => by kernel_rfl) h
def b__i_Normal__put_5 (call : Oracle) (x0 x1 : Int) (x2 : List (List Int)) (x3 x4 : Int) : Option (List TV) :=
  bif decide (0 < x4) then
    bif (decide (0 ≤ (wi64 (x4 - 1))) && decide ((wi64 (x4 - 1)) < ((List.length x2 : Nat) : Int))) then
      (call zDo [tA8 (List.getD x2 (Int.toNat (wi64 (x4 - 1))) (List.replicate 8 0)), tI x3]).bind fun o8 =>
      bif (decide (0 ≤ x4) && decide (x4 < ((List.length x2 : Nat) : Int))) then
        (call zN2 [tA8 (gA8 o8 0), tA8 (List.getD x2 (Int.toNat x4) (List.replicate 8 0)), tI x3]).bind fun o9 =>
        (call ja [tI x3]).bind fun o10 =>
        bif ((gA8 o9 0) == (gA8 o10 0)) then
          some [tI 0, tI x0, tI x1, tLA8 x2, tI x3]
        else
          bif (decide (0 ≤ (wi64 (x4 - 1))) && decide ((wi64 (x4 - 1)) < ((List.length x2 : Nat) : Int))) then
            (call zDl [tA8 (List.getD x2 (Int.toNat (wi64 (x4 - 1))) (List.replicate 8 0)), tA8 (gA8 o9 0), tI x3]).bind fun o11 =>
            bif (decide (0 ≤ (wi64 (x4 - 1))) && decide ((wi64 (x4 - 1)) < ((List.length x2 : Nat) : Int))) then
              (call zCT [tA8 (gA8 o9 0), tI x3]).bind fun o12 =>
              bif (decide (0 ≤ x4) && decide (x4 < ((List.length (List.set x2 (Int.toNat (wi64 (x4 - 1))) (gA8 o11 0)) : Nat) : Int))) then
                (call zDl [tA8 (gA8 o12 0), tA8 (List.getD (List.set x2 (Int.toNat (wi64 (x4 - 1))) (gA8 o11 0)) (Int.toNat x4) (List.replicate 8 0)), tI x3]).bind fun o13 =>
                bif (decide (0 ≤ x4) && decide (x4 < ((List.length (List.set x2 (Int.toNat (wi64 (x4 - 1))) (gA8 o11 0)) : Nat) : Int))) then
                  call i__i_Normal__put_5 [tI x0, tI x1, tLA8 (List.set (List.set x2 (Int.toNat (wi64 (x4 - 1))) (gA8 o11 0)) (Int.toNat x4) (gA8 o13 0)), tI x3, tI (wi64 (x4 - 1))]
                else none
              else none
            else none
          else none
      else none
    else none
  else
    some [tI 0, tI x0, tI x1, tLA8 x2, tI x3]
theorem zAW (x0 x1 : Int) (x2 : List (List Int)) (x3 x4 : Int) (h : b__i_Normal__put_5 R x0 x1 x2 x3 x4 = some o) : R i__i_Normal__put_5 [tI x0, tI x1, tLA8 x2, tI x3, tI x4] = some o := go_ (b := fun c => b__i_Normal__put_5 c x0 x1 x2 x3 x4) (fun c => by kernel_rfl) h
def b__i_Normal__put_11 (call : Oracle) (x0 x1 : Int) (x2 : List (List Int)) (x3 : Int) : Option (List TV) :=
  bif decide (0 < ((List.length x2 : Nat) : Int)) then
    bif decide (0 < ((List.length x2 : Nat) : Int)) then
      (call jP [tI x3]).bind fun o16 =>
      bif ((List.getD x2 0 (List.replicate 8 0)) == (gA8 o16 0)) then
        bif decide (1 ≤ ((List.length x2 : Nat) : Int)) then
          call i__i_Normal__put_11 [tI x0, tI (wi64 (x1 + 1)), tLA8 (List.drop 1 x2), tI x3]
        else none
      else
        some [tI 0, tI x0, tI x1, tLA8 x2, tI x3]
    else none
  else
    some [tI 0, tI x0, tI x1, tLA8 x2, tI x3]
theorem zCI (x0 x1 : Int) (x2 : List (List Int)) (x3 : Int) (h : b__i_Normal__put_11 R x0 x1 x2 x3 = some o) : R i__i_Normal__put_11 [tI x0, tI x1, tLA8 x2, tI x3] = some o := go_ (b := fun c => b__i_Normal__put_11 c x0 x1 x2 x3) (fun c => by kernel_rfl) h
def b__i_Normal__put_14 (call : Oracle) (x0 x1 : Int) (x2 : List (List Int)) (x3 : Int) : Option (List TV) :=
  bif decide (0 < ((List.length x2 : Nat) : Int)) then
    bif (decide (0 ≤ (wi64 (((List.length x2 : Nat) : Int) - 1))) && decide ((wi64 (((List.length x2 : Nat) : Int) - 1)) < ((List.length x2 : Nat) : Int))) then
      (call ja [tI x3]).bind fun o19 =>
      bif ((List.getD x2 (Int.toNat (wi64 (((List.length x2 : Nat) : Int) - 1))) (List.replicate 8 0)) == (gA8 o19 0)) then
        bif (decide (0 ≤ (wi64 (((List.length x2 : Nat) : Int) - 1))) && decide ((wi64 (((List.length x2 : Nat) : Int) - 1)) ≤ ((List.length x2 : Nat) : Int))) then
          call i__i_Normal__put_14 [tI x0, tI x1, tLA8 (List.take (Int.toNat (wi64 (((List.length x2 : Nat) : Int) - 1))) x2), tI x3]
        else none
      else
        some [tI 0, tI x0, tI x1, tLA8 x2]
    else none
  else
    some [tI 0, tI x0, tI x1, tLA8 x2]
theorem zCH (x0 x1 : Int) (x2 : List (List Int)) (x3 : Int) (h : b__i_Normal__put_14 R x0 x1 x2 x3 = some o) : R i__i_Normal__put_14 [tI x0, tI x1, tLA8 x2, tI x3] = some o := go_ (b := fun c => b__i_Normal__put_14 c x0 x1 x2 x3) (fun c => by kernel_rfl) h
def b__i_Normal__put (call : Oracle) (a0 : Int × Int × List (List Int)) (a1 : List Int) : Option (List TV) :=
  (call ja [tI a0.1]).bind fun o1 =>
  bif (a1 == (gA8 o1 0)) then
    some [zA a0]
  else
    bif (apOk a0.2.2 [a1]) then
      (call i__i_Normal__put_5 [tI a0.1, tI a0.2.1, tLA8 (a0.2.2 ++ [a1]), tI a0.1, tI (wi64 (((List.length (a0.2.2 ++ [a1]) : Nat) : Int) - 1))]).bind fun o14 =>
      (call i__i_Normal__put_11 [tI (gI o14 1), tI (gI o14 2), tLA8 (gLA8 o14 3), tI (gI o14 4)]).bind fun o17 =>
      (call i__i_Normal__put_14 [tI (gI o17 1), tI (gI o17 2), tLA8 (gLA8 o17 3), tI (gI o17 4)]).bind fun o20 =>
      some [zA ((gI o20 1), ((gI o20 2), (gLA8 o20 3)))]
    else none
theorem zD9 (a0 : Int × Int × List (List Int)) (a1 : List Int) (h : b__i_Normal__put R a0 a1 = some o) : R i__i_Normal__put [zA a0, tA8 a1] = some o := go_ (b := fun c => b__i_Normal__put c a0 a1) (fun c => by kernel_rfl) h
def zGz (call : Oracle) (a0 : Int × Int × List (List Int)) : Option (List TV) :=
  bif (((List.length a0.2.2 : Nat) : Int) == 0) then
    (call kJ [zA a0]).bind fun o1 =>
    some [zA (zD o1 0)]
  else
    bif decide (1 ≤ ((List.length a0.2.2 : Nat) : Int)) then
      (call kJ [zA (a0.1, (a0.2.1, (List.drop 1 a0.2.2)))]).bind fun o2 =>
      bif decide (0 < ((List.length a0.2.2 : Nat) : Int)) then
        (call zGf [tA8 (List.getD a0.2.2 0 (List.replicate 8 0)), zA a0]).bind fun o3 =>
        (call i__i_Normal__put [zA (zD o2 0), tA8 (gA8 o3 0)]).bind fun o4 =>
        some [zA (zD o4 0)]
      else none
    else none
theorem zQt (a0 : Int × Int × List (List Int)) (h : zGz R a0 = some o) : R zCS [zA a0] = some o := go_ (b := fun c => zGz c a0) (fun c => by kernel_rfl) h
def zF4 (call : Oracle) (a0 a1 : Int × Int × List (List Int)) : Option (List TV) :=
  some [tB (decide (a1.2.1 < a0.2.1))]
theorem zNW (a0 a1 : Int × Int × List (List Int)) (h : zF4 R a0 a1 = some o) : R zFm [zA a0, zA a1] = some o := go_ (b := fun c => zF4 c a0 a1) (fun c => by kernel_rfl) h
def zCa (call : Oracle) (x0 x1 : Int) (x2 : List (List Int)) (x3 x4 : Int) (x5 : List (List Int)) (x6 x7 : Int) (x8 : List (List Int)) (x9 x10 : Int) : Option (List TV) :=
  bif decide (x10 < x9) then
    (call zCS [zA (x6, (x7, x8))]).bind fun o3 =>
    (call zFm [zA (zD o3 0), zA (x0, (x1, x2))]).bind fun o4 =>
    bif (gB o4 0) then
      some [tI 1, tI ((zD o3 0).1), tI (((zD o3 0).2).1), tLA8 (((zD o3 0).2).2), tB true]
    else
      call zDp [tI x0, tI x1, tLA8 x2, tI x3, tI x4, tLA8 x5, tI ((zD o3 0).1), tI (((zD o3 0).2).1), tLA8 (((zD o3 0).2).2), tI x9, tI (wi64 (x10 + 1))]
  else
    some [tI 0, tI x0, tI x1, tLA8 x2, tI x3, tI x4, tLA8 x5]
theorem zIS (x0 x1 : Int) (x2 : List (List Int)) (x3 x4 : Int) (x5 : List (List Int)) (x6 x7 : Int) (x8 : List (List Int)) (x9 x10 : Int) (h : zCa R x0 x1 x2 x3 x4 x5 x6 x7 x8 x9 x10 = some o) : R zDp [tI x0, tI x1, tLA8 x2, tI x3, tI x4, tLA8 x5, tI x6, tI x7, tLA8 x8, tI x9, tI x10] = some o := go_ (b := fun c => zCa c x0 x1 x2 x3 x4 x5 x6 x7 x8 x9 x10) (fun c => by kernel_rfl) h
def zJU (call : Oracle) (a0 : Int × Int × List (List Int)) : Option (List TV) :=
  (call zDp [tI a0.1, tI a0.2.1, tLA8 a0.2.2, tI 0, tI 0, tLA8 [], tI a0.1, tI a0.2.1, tLA8 a0.2.2, tI (wi64 (Int.tdiv (wi64 (a0.1 * (wi64 (a0.1 - 1)))) 2)), tI 0]).bind fun o5 =>
  bif ((gI o5 0) == 0) then
    some [zA ((gI o5 1), ((gI o5 2), (gLA8 o5 3))), tB false]
  else
    some [zA ((gI o5 1), ((gI o5 2), (gLA8 o5 3))), tB (gB o5 4)]
theorem zQu (a0 : Int × Int × List (List Int)) (h : zJU R a0 = some o) : R zIt [zA a0] = some o := go_ (b := fun c => zJU c a0) (fun c => by kernel_rfl) h
def zBz (call : Oracle) (x0 x1 : Int) (x2 : List (List Int)) (x3 x4 : Int) (x5 x6 : List (List Int)) (x7 x8 : Int) : Option (List TV) :=
  bif decide (x8 < x7) then
    bif (decide (0 ≤ x8) && decide (x8 < ((List.length x6 : Nat) : Int))) then
      (call i__i_Normal__put [zA (x3, (x4, x5)), tA8 (List.getD x6 (Int.toNat x8) (List.replicate 8 0))]).bind fun o5 =>
      call zBt [tI x0, tI x1, tLA8 x2, tI ((zD o5 0).1), tI (((zD o5 0).2).1), tLA8 (((zD o5 0).2).2), tLA8 x6, tI x7, tI (wi64 (x8 + 1))]
    else none
  else
    some [tI 0, tI x0, tI x1, tLA8 x2, tI x3, tI x4, tLA8 x5]
theorem zGF (x0 x1 : Int) (x2 : List (List Int)) (x3 x4 : Int) (x5 x6 : List (List Int)) (x7 x8 : Int) (h : zBz R x0 x1 x2 x3 x4 x5 x6 x7 x8 = some o) : R zBt [tI x0, tI x1, tLA8 x2, tI x3, tI x4, tLA8 x5, tLA8 x6, tI x7, tI x8] = some o := go_ (b := fun c => zBz c x0 x1 x2 x3 x4 x5 x6 x7 x8) (fun c => by kernel_rfl) h
def zDw (call : Oracle) (a0 : Int × Int × List (List Int)) : Option (List TV) :=
  bif decide ((wi64 (((List.length a0.2.2 : Nat) : Int) - 1)) < 0) then
    (call kJ [zA a0]).bind fun o1 =>
    some [zA (zD o1 0)]
  else
    bif (decide (0 ≤ (wi64 (((List.length a0.2.2 : Nat) : Int) - 1))) && decide ((wi64 (((List.length a0.2.2 : Nat) : Int) - 1)) < ((List.length a0.2.2 : Nat) : Int))) then
      (call zGf [tA8 (List.getD a0.2.2 (Int.toNat (wi64 (((List.length a0.2.2 : Nat) : Int) - 1))) (List.replicate 8 0)), zA a0]).bind fun o2 =>
      (call i__i_Normal__put [zA (a0.1, (a0.2.1, [])), tA8 (gA8 o2 0)]).bind fun o3 =>
      bif (decide (0 ≤ (wi64 (((List.length a0.2.2 : Nat) : Int) - 1))) && decide ((wi64 (((List.length a0.2.2 : Nat) : Int) - 1)) ≤ ((List.length a0.2.2 : Nat) : Int))) then
        (call zBt [tI 0, tI 0, tLA8 [], tI ((zD o3 0).1), tI (((zD o3 0).2).1), tLA8 (((zD o3 0).2).2), tLA8 (List.take (Int.toNat (wi64 (((List.length a0.2.2 : Nat) : Int) - 1))) a0.2.2), tI ((List.length (List.take (Int.toNat (wi64 (((List.length a0.2.2 : Nat) : Int) - 1))) a0.2.2) : Nat) : Int), tI 0]).bind fun o6 =>
        some [zA ((gI o6 4), ((gI o6 5), (gLA8 o6 6)))]
      else none
    else none
theorem zNb (a0 : Int × Int × List (List Int)) (h : zDw R a0 = some o) : R zFo [zA a0] = some o := go_ (b := fun c => zDw c a0) (fun c => by kernel_rfl) h
def zF6 (call : Oracle) (a0 : Int × Int × List (List Int)) : Option (List TV) :=
  some [tI (wi64 (a0.2.1 + ((List.length a0.2.2 : Nat) : Int)))]
theorem zNY (a0 : Int × Int × List (List Int)) (h : zF6 R a0 = some o) : R zDm [zA a0] = some o := go_ (b := fun c => zF6 c a0) (fun c => by kernel_rfl) h
def zF3 (call : Oracle) (a0 a1 : Int × Int × List (List Int)) : Option (List TV) :=
  (call zDm [zA a0]).bind fun o1 =>
  (call zDm [zA a1]).bind fun o2 =>
  some [tB (decide ((gI o1 0) < (gI o2 0)))]
theorem zNV (a0 a1 : Int × Int × List (List Int)) (h : zF3 R a0 a1 = some o) : R zFl [zA a0, zA a1] = some o := go_ (b := fun c => zF3 c a0 a1) (fun c => by kernel_rfl) h
def js (call : Oracle) (x0 x1 : Int) (x2 : List (List Int)) (x3 x4 : Int) (x5 : List (List Int)) (x6 x7 : Int) (x8 : List (List Int)) (x9 x10 : Int) : Option (List TV) :=
  bif decide (x10 < x9) then
    (call zFo [zA (x6, (x7, x8))]).bind fun o3 =>
    (call zFl [zA (zD o3 0), zA (x0, (x1, x2))]).bind fun o4 =>
    bif (gB o4 0) then
      some [tI 1, tI ((zD o3 0).1), tI (((zD o3 0).2).1), tLA8 (((zD o3 0).2).2), tB true]
    else
      call zBC [tI x0, tI x1, tLA8 x2, tI x3, tI x4, tLA8 x5, tI ((zD o3 0).1), tI (((zD o3 0).2).1), tLA8 (((zD o3 0).2).2), tI x9, tI (wi64 (x10 + 1))]
  else
    some [tI 0, tI x0, tI x1, tLA8 x2, tI x3, tI x4, tLA8 x5]
theorem zFF (x0 x1 : Int) (x2 : List (List Int)) (x3 x4 : Int) (x5 : List (List Int)) (x6 x7 : Int) (x8 : List (List Int)) (x9 x10 : Int) (h : js R x0 x1 x2 x3 x4 x5 x6 x7 x8 x9 x10 = some o) : R zBC [tI x0, tI x1, tLA8 x2, tI x3, tI x4, tLA8 x5, tI x6, tI x7, tLA8 x8, tI x9, tI x10] = some o := go_ (b := fun c => js c x0 x1 x2 x3 x4 x5 x6 x7 x8 x9 x10) (fun c => by kernel_rfl) h
end
end Go.Ev.YtmdkgikjnaijeaaGreat
