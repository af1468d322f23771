/- Bodies, part 3. -/
import Derived.KernelRfl
import Derived.Test.YtmdkgikjnaijeaaGreatEnv
set_option linter.unusedVariables false
namespace Go.Ev.YtmdkgikjnaijeaaGreat
open Go.Ev
noncomputable section
variable {o : List TV}
def zDF (call : Oracle) (a0 : List (Int × Int × List (List Int))) (a1 : Int) : Option (List TV) :=
  (call jy [zB a0, tI a1, tI 0]).bind fun o3 =>
  some [tI (gI o3 2), zB (zG o3 1)]
theorem zJb (a0 : List (Int × Int × List (List Int))) (a1 : Int) (h : zDF R a0 a1 = some o) : R zC6 [zB a0, tI a1] = some o := go_ (b := fun c => zDF c a0 a1) (fun c => by kernel_rfl) h
def zAG (call : Oracle) (x0 : List (List Int)) (x1 x2 : Int) : Option (List TV) :=
  bif decide (x2 < ((List.length x0 : Nat) : Int)) then
    (call jz [tLA8 x0, tI x1, tI x2, tI 0]).bind fun o2 =>
    bif ((gI o2 0) == 0) then
      call zAA [tLA8 (gLA8 o2 1), tI (gI o2 2), tI (wi64 ((gI o2 3) + 1))]
    else
      some [tI 1, tI (gI o2 1)]
  else
    some [tI 0, tI x1]
theorem zD4 (x0 : List (List Int)) (x1 x2 : Int) (h : zAG R x0 x1 x2 = some o) : R zAA [tLA8 x0, tI x1, tI x2] = some o := go_ (b := fun c => zAG c x0 x1 x2) (fun c => by kernel_rfl) h
def zAF (call : Oracle) (x0 : List (List Int)) (x1 x2 x3 : Int) : Option (List TV) :=
  bif decide (x3 < 8) then
    bif (decide (0 ≤ x2) && decide (x2 < ((List.length x0 : Nat) : Int))) then
      bif (decide (0 ≤ x3) && decide (x3 < 8)) then
        bif ((List.getD (List.getD x0 (Int.toNat x2) []) (Int.toNat x3) 0) != (wu8 (x1))) then
          some [tI 1, tI (-1)]
        else
          call jz [tLA8 x0, tI (wi64 (x1 + 1)), tI x2, tI (wi64 (x3 + 1))]
      else none
    else none
  else
    some [tI 0, tLA8 x0, tI x1, tI x2]
theorem zD3 (x0 : List (List Int)) (x1 x2 x3 : Int) (h : zAF R x0 x1 x2 x3 = some o) : R jz [tLA8 x0, tI x1, tI x2, tI x3] = some o := go_ (b := fun c => zAF c x0 x1 x2 x3) (fun c => by kernel_rfl) h
def zDG (call : Oracle) (a0 : List (List Int)) (a1 : Int) : Option (List TV) :=
  (call zAA [tLA8 a0, tI a1, tI 0]).bind fun o3 =>
  bif ((gI o3 0) == 0) then
    some [tI (gI o3 1)]
  else
    some [tI (gI o3 1)]
theorem zJc (a0 : List (List Int)) (a1 : Int) (h : zDG R a0 a1 = some o) : R zC7 [tLA8 a0, tI a1] = some o := go_ (b := fun c => zDG c a0 a1) (fun c => by kernel_rfl) h
def zAH (call : Oracle) (x0 : List (Int × Int × List (List Int))) (x1 x2 : Int) : Option (List TV) :=
  bif decide (x2 < ((List.length x0 : Nat) : Int)) then
    bif (decide (0 ≤ x2) && decide (x2 < ((List.length x0 : Nat) : Int))) then
      bif ((List.getD x0 (Int.toNat x2) (0, (0, []))).1 != x1) then
        some [tI 1, tI (-1)]
      else
        bif (decide (0 ≤ x2) && decide (x2 < ((List.length x0 : Nat) : Int))) then
          bif (((List.getD x0 (Int.toNat x2) (0, (0, []))).2).1 != (wi64 (x1 + 1))) then
            some [tI 1, tI (-1)]
          else
            bif (decide (0 ≤ x2) && decide (x2 < ((List.length x0 : Nat) : Int))) then
              (call zC7 [tLA8 (((List.getD x0 (Int.toNat x2) (0, (0, []))).2).2), tI (wi64 ((wi64 (x1 + 1)) + 1))]).bind fun o2 =>
              bif decide ((gI o2 0) < 0) then
                some [tI 1, tI (-1)]
              else
                call zAB [zB x0, tI (gI o2 0), tI (wi64 (x2 + 1))]
            else none
        else none
    else none
  else
    some [tI 0, tI x1]
theorem zD5 (x0 : List (Int × Int × List (List Int))) (x1 x2 : Int) (h : zAH R x0 x1 x2 = some o) : R zAB [zB x0, tI x1, tI x2] = some o := go_ (b := fun c => zAH c x0 x1 x2) (fun c => by kernel_rfl) h
def zDH (call : Oracle) (a0 : List (Int × Int × List (List Int))) (a1 : Int) : Option (List TV) :=
  (call zAB [zB a0, tI a1, tI 0]).bind fun o3 =>
  bif ((gI o3 0) == 0) then
    some [tI (gI o3 1)]
  else
    some [tI (gI o3 1)]
theorem zJd (a0 : List (Int × Int × List (List Int))) (a1 : Int) (h : zDH R a0 a1 = some o) : R zA2 [zB a0, tI a1] = some o := go_ (b := fun c => zDH c a0 a1) (fun c => by kernel_rfl) h
def kj (call : Oracle) (x0 : List (List Int)) (x1 x2 : Int) (x3 : List (Int × Int × List (List Int))) (x4 x5 x6 : Int) : Option (List TV) :=
  (call zAo [zA (x1, (x2, x0))]).bind fun o17 =>
  (call zBE [zA (zD o17 0)]).bind fun o18 =>
  (call zBV [zB (zG o18 0), zB x3]).bind fun o19 =>
  bif (!(gB o19 0)) then
    some [tI 0, tLA8 x0, tI x4, tI x5, tB false]
  else
    bif ((gI o18 1) != x6) then
      some [tI 0, tLA8 x0, tI x4, tI x5, tB false]
    else
      (call zAo [zA (x1, (x2, x0))]).bind fun o20 =>
      (call zDj [zA (zD o17 0), zA (zD o20 0)]).bind fun o21 =>
      bif (!(gB o21 0)) then
        some [tI 0, tLA8 x0, tI x4, tI x5, tB false]
      else
        (call zDi [zA (zD o17 0), tI 1]).bind fun o22 =>
        bif decide ((gI o22 0) < 0) then
          some [tI 0, tLA8 x0, tI x4, tI x5, tB false]
        else
          (call zBV [zB (zG o18 0), zB x3]).bind fun o23 =>
          bif (!(gB o23 0)) then
            some [tI 0, tLA8 x0, tI x4, tI x5, tB false]
          else
            bif ((gI o18 1) != x6) then
              some [tI 0, tLA8 x0, tI x4, tI x5, tB false]
            else
              (call zC6 [zB (zG o18 0), tI 1]).bind fun o24 =>
              (call zA2 [zB (zG o24 1), tI 1]).bind fun o25 =>
              bif decide ((gI o25 0) < 0) then
                some [tI 0, tLA8 x0, tI x4, tI x5, tB false]
              else
                bif ((gI o25 0) != (gI o24 0)) then
                  some [tI 0, tLA8 x0, tI x4, tI x5, tB false]
                else
                  (call zAo [zA (x1, (x2, x0))]).bind fun o26 =>
                  (call zBE [zA (zD o26 0)]).bind fun o27 =>
                  (call zBV [zB (zG o27 0), zB x3]).bind fun o28 =>
                  bif (!(gB o28 0)) then
                    some [tI 0, tLA8 x0, tI x4, tI x5, tB false]
                  else
                    bif ((gI o27 1) != x6) then
                      some [tI 0, tLA8 x0, tI x4, tI x5, tB false]
                    else
                      (call zA2 [zB (zG o24 1), tI 1]).bind fun o29 =>
                      bif decide ((gI o29 0) < 0) then
                        some [tI 0, tLA8 x0, tI x4, tI x5, tB false]
                      else
                        bif ((gI o29 0) != (gI o24 0)) then
                          some [tI 0, tLA8 x0, tI x4, tI x5, tB false]
                        else
                          some [tI 0, tLA8 x0, tI x4, tI x5, tB true]
theorem zDN (x0 : List (List Int)) (x1 x2 : Int) (x3 : List (Int × Int × List (List Int))) (x4 x5 x6 : Int) (h : kj R x0 x1 x2 x3 x4 x5 x6 = some o) : R kg [tLA8 x0, tI x1, tI x2, zB x3, tI x4, tI x5, tI x6] = some o := go_ (b := fun c => kj c x0 x1 x2 x3 x4 x5 x6) (fun c => by kernel_rfl) h
def ka (call : Oracle) (a0 : Int × Int × List (List Int)) : Option (List TV) :=
  (call zFg [zA a0, tI 1048576]).bind fun o1 =>
  bif decide ((gI o1 0) < 0) then
    some [tB true]
  else
    (call zAo [zA a0]).bind fun o2 =>
    (call zDA [zA (zD o2 0)]).bind fun o3 =>
    (call kg [tLA8 a0.2.2, tI a0.1, tI a0.2.1, zB (zG o3 0), tI a0.1, tI a0.2.1, tI (gI o3 1)]).bind fun o30 =>
    some [tB (gB o30 4)]
theorem zEC (a0 : Int × Int × List (List Int)) (h : ka R a0 = some o) : R iw_FnExactUltraSummit [zA a0] = some o := go_ (b := fun c => ka c a0) (fun c => by kernel_rfl) h
end
end Go.Ev.YtmdkgikjnaijeaaGreat
