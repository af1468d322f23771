/- Bodies, part 0. -/
import Derived.KernelRfl
import Derived.Test.YtknhngnhjdpedaaGreatEnv
set_option linter.unusedVariables false
namespace Go.Ev.YtknhngnhjdpedaaGreat
open Go.Ev
noncomputable section
variable {o : List TV}
def zPz (call : Oracle) (a0 : List Int) : Option (List TV) :=
  some [tB (decide (4096 < ((List.length a0 : Nat) : Int)))]
theorem zSl (a0 : List Int) (h : zPz R a0 = some o) : R zPN [tLU8 a0] = some o := go_ (b := fun c => zPz c a0) (fun c => by kernel_rfl) h
def zCE (call : Oracle) (x0 : List Int) (x1 x2 x3 : Int) : Option (List TV) :=
  bif decide (x3 < ((List.length x0 : Nat) : Int)) then
    bif decide (x3 < 4096) then
      bif (decide (0 ≤ x3) && decide (x3 < ((List.length x0 : Nat) : Int))) then
        call zB4 [tLU8 x0, tI x1, tU64 (wu64 ((wu64 ((wu64 (x2 * 1099511628211)) + (wu64 ((List.getD x0 (Int.toNat x3) 0))))) + 29)), tI (wi64 (x3 + 1))]
      else none
    else
      some [tI 0, tI x1, tU64 x2, tLU8 x0]
  else
    some [tI 0, tI x1, tU64 x2, tLU8 x0]
theorem zGW (x0 : List Int) (x1 x2 x3 : Int) (h : zCE R x0 x1 x2 x3 = some o) : R zB4 [tLU8 x0, tI x1, tU64 x2, tI x3] = some o := go_ (b := fun c => zCE c x0 x1 x2 x3) (fun c => by kernel_rfl) h
def zGI (call : Oracle) (a0 : List Int) : Option (List TV) :=
  (call zB4 [tLU8 a0, tI 0, tU64 (wu64 (9049 + (wu64 (((List.length a0 : Nat) : Int))))), tI 0]).bind fun o1 =>
  some [zD ((gLU8 o1 3), ((gI o1 1), (gU64 o1 2)))]
theorem zNf (a0 : List Int) (h : zGI R a0 = some o) : R jh [tLU8 a0] = some o := go_ (b := fun c => zGI c a0) (fun c => by kernel_rfl) h
def zCf (call : Oracle) (a0 : List Int × Int × Int) (a1 : Int) : Option (List TV) :=
  bif decide (a1 < 1) then
    some [tI 0, zD a0]
  else
    bif decide (a0.2.1 < ((List.length a0.1 : Nat) : Int)) then
      bif (decide (0 ≤ a0.2.1) && decide (a0.2.1 < ((List.length a0.1 : Nat) : Int))) then
        bif (a1 != 0) then
          some [tI (Int.tmod (wi64 ((wi64 ((bitsAnd .u64 (shr .u64 (wu64 ((wu64 (a0.2.2 * 6364136223846793005)) + 1442695040888963407)) 33) 16777215))) + (wi64 ((List.getD a0.1 (Int.toNat a0.2.1) 0))))) a1), zD (a0.1, ((wi64 (a0.2.1 + 1)), (wu64 ((wu64 (a0.2.2 * 6364136223846793005)) + 1442695040888963407))))]
        else none
      else none
    else
      bif (a1 != 0) then
        some [tI (Int.tmod (wi64 ((bitsAnd .u64 (shr .u64 (wu64 ((wu64 (a0.2.2 * 6364136223846793005)) + 1442695040888963407)) 33) 16777215))) a1), zD (a0.1, (a0.2.1, (wu64 ((wu64 (a0.2.2 * 6364136223846793005)) + 1442695040888963407))))]
      else none
theorem zFl (a0 : List Int × Int × Int) (a1 : Int) (h : zCf R a0 a1 = some o) : R zJ [zD a0, tI a1] = some o := go_ (b := fun c => zCf c a0 a1) (fun c => by kernel_rfl) h
def zGH (call : Oracle) (a0 : List Int × Int × Int) (a1 : List Int) : Option (List TV) :=
  (call zJ [zD a0, tI ((List.length a1 : Nat) : Int)]).bind fun o1 =>
  bif (decide (0 ≤ (gI o1 0)) && decide ((gI o1 0) < ((List.length a1 : Nat) : Int))) then
    some [tI (List.getD a1 (Int.toNat (gI o1 0)) 0), zD (zG o1 1)]
  else none
theorem zNe (a0 : List Int × Int × Int) (a1 : List Int) (h : zGH R a0 a1 = some o) : R zl [zD a0, tLI a1] = some o := go_ (b := fun c => zGH c a0 a1) (fun c => by kernel_rfl) h
def zo (call : Oracle) (x0 : List Int) (x1 x2 : Int) : Option (List TV) :=
  bif decide (x2 < x1) then
    (call kN [tAi8 x0, tI x1, tI x2, tI (wi64 (x2 + 1))]).bind fun o6 =>
    bif ((gI o6 0) == 0) then
      call kO [tAi8 (gAi8 o6 1), tI (gI o6 2), tI (wi64 ((gI o6 3) + 1))]
    else
      some [tI 1, tB (gB o6 1)]
  else
    some [tI 0]
theorem jT (x0 : List Int) (x1 x2 : Int) (h : zo R x0 x1 x2 = some o) : R kO [tAi8 x0, tI x1, tI x2] = some o := go_ (b := fun c => zo c x0 x1 x2) (fun c => by kernel_rfl) h
def zn (call : Oracle) (x0 : List Int) (x1 x2 x3 : Int) : Option (List TV) :=
  bif decide (x3 < x1) then
    (call kM [tAi8 x0, tI x1, tI x2, tI x3, tI (wi64 (x3 + 1))]).bind fun o4 =>
    bif ((gI o4 0) == 0) then
      call kN [tAi8 (gAi8 o4 1), tI (gI o4 2), tI (gI o4 3), tI (wi64 ((gI o4 4) + 1))]
    else
      some [tI 1, tB (gB o4 1)]
  else
    some [tI 0, tAi8 x0, tI x1, tI x2]
theorem jS (x0 : List Int) (x1 x2 x3 : Int) (h : zn R x0 x1 x2 x3 = some o) : R kN [tAi8 x0, tI x1, tI x2, tI x3] = some o := go_ (b := fun c => zn c x0 x1 x2 x3) (fun c => by kernel_rfl) h
def zm (call : Oracle) (x0 : List Int) (x1 x2 : Int) (x3 x4 : Int) : Option (List TV) :=
  bif decide (x4 < x1) then
    (call zU [tAi8 x0, tI x1, tI x2, tI x3, tI x4, tI (wi64 (x4 + 1))]).bind fun o2 =>
    bif ((gI o2 0) == 0) then
      call kM [tAi8 (gAi8 o2 1), tI (gI o2 2), tI (gI o2 3), tI (gI o2 4), tI (wi64 ((gI o2 5) + 1))]
    else
      some [tI 1, tB (gB o2 1)]
  else
    some [tI 0, tAi8 x0, tI x1, tI x2, tI x3]
theorem jR (x0 : List Int) (x1 x2 : Int) (x3 x4 : Int) (h : zm R x0 x1 x2 x3 x4 = some o) : R kM [tAi8 x0, tI x1, tI x2, tI x3, tI x4] = some o := go_ (b := fun c => zm c x0 x1 x2 x3 x4) (fun c => by kernel_rfl) h
def ze (call : Oracle) (x0 : List Int) (x1 x2 : Int) (x3 x4 x5 : Int) : Option (List TV) :=
  bif decide (x5 < x1) then
    bif (decide (0 ≤ x2) && decide (x2 < 8)) then
      bif (decide (0 ≤ x4) && decide (x4 < 8)) then
        bif ((List.getD x0 (Int.toNat x2) 0) == (List.getD x0 (Int.toNat x4) 0)) then
          bif (decide (0 ≤ x3) && decide (x3 < 8)) then
            bif (decide (0 ≤ x5) && decide (x5 < 8)) then
              bif ((List.getD x0 (Int.toNat x3) 0) == (List.getD x0 (Int.toNat x5) 0)) then
                bif (decide (0 ≤ x2) && decide (x2 < 8)) then
                  bif (decide (0 ≤ x3) && decide (x3 < 8)) then
                    bif ((List.getD x0 (Int.toNat x2) 0) != (List.getD x0 (Int.toNat x3) 0)) then
                      some [tI 1, tB true]
                    else
                      call zU [tAi8 x0, tI x1, tI x2, tI x3, tI x4, tI (wi64 (x5 + 1))]
                  else none
                else none
              else
                call zU [tAi8 x0, tI x1, tI x2, tI x3, tI x4, tI (wi64 (x5 + 1))]
            else none
          else none
        else
          call zU [tAi8 x0, tI x1, tI x2, tI x3, tI x4, tI (wi64 (x5 + 1))]
      else none
    else none
  else
    some [tI 0, tAi8 x0, tI x1, tI x2, tI x3, tI x4]
theorem ki (x0 : List Int) (x1 x2 : Int) (x3 x4 x5 : Int) (h : ze R x0 x1 x2 x3 x4 x5 = some o) : R zU [tAi8 x0, tI x1, tI x2, tI x3, tI x4, tI x5] = some o := go_ (b := fun c => ze c x0 x1 x2 x3 x4 x5) (fun c => by kernel_rfl) h
def zAe (call : Oracle) (a0 : List Int) (a1 : Int) : Option (List TV) :=
  (call kO [tAi8 a0, tI a1, tI 0]).bind fun o7 =>
  bif ((gI o7 0) == 0) then
    some [tB false]
  else
    some [tB (gB o7 1)]
theorem zD1 (a0 : List Int) (a1 : Int) (h : zAe R a0 a1 = some o) : R zu [tAi8 a0, tI a1] = some o := go_ (b := fun c => zAe c a0 a1) (fun c => by kernel_rfl) h
def jk (call : Oracle) (x0 x1 x2 : List Int) (x3 x4 : Int) : Option (List TV) :=
  bif decide (x4 < x3) then
    bif (decide (0 ≤ x4) && decide (x4 < 8)) then
      bif (decide (0 ≤ x4) && decide (x4 < 8)) then
        (call jd [tAi8 x0, tA8 x1, tA8 (List.set x2 (Int.toNat x4) (wu8 ((List.getD x0 (Int.toNat x4) 0)))), tI x3, tI x4, tI (wi64 (x3 - 1))]).bind fun o2 =>
        call zAp [tAi8 (gAi8 o2 1), tA8 (gA8 o2 2), tA8 (gA8 o2 3), tI (gI o2 4), tI (wi64 ((gI o2 5) + 1))]
      else none
    else none
  else
    some [tI 0, tA8 x1, tA8 x2]
theorem zBq (x0 x1 x2 : List Int) (x3 x4 : Int) (h : jk R x0 x1 x2 x3 x4 = some o) : R zAp [tAi8 x0, tA8 x1, tA8 x2, tI x3, tI x4] = some o := go_ (b := fun c => jk c x0 x1 x2 x3 x4) (fun c => by kernel_rfl) h
def jj (call : Oracle) (x0 x1 x2 : List Int) (x3 x4 x5 : Int) : Option (List TV) :=
  bif decide (x4 < x5) then
    bif (decide (0 ≤ x5) && decide (x5 < 8)) then
      bif (decide (0 ≤ x4) && decide (x4 < 8)) then
        bif ((List.getD x0 (Int.toNat x5) 0) == (List.getD x0 (Int.toNat x4) 0)) then
          bif (decide (0 ≤ x4) && decide (x4 < 8)) then
            call jd [tAi8 x0, tA8 x1, tA8 (List.set x2 (Int.toNat x4) (wu8 (x5))), tI x3, tI x4, tI (wi64 (x5 - 1))]
          else none
        else
          call jd [tAi8 x0, tA8 x1, tA8 x2, tI x3, tI x4, tI (wi64 (x5 - 1))]
      else none
    else none
  else
    some [tI 0, tAi8 x0, tA8 x1, tA8 x2, tI x3, tI x4]
theorem zBp (x0 x1 x2 : List Int) (x3 x4 x5 : Int) (h : jj R x0 x1 x2 x3 x4 x5 = some o) : R jd [tAi8 x0, tA8 x1, tA8 x2, tI x3, tI x4, tI x5] = some o := go_ (b := fun c => jj c x0 x1 x2 x3 x4 x5) (fun c => by kernel_rfl) h
def zDw (call : Oracle) (a0 : List Int) (a1 : Int) : Option (List TV) :=
  (call zAp [tAi8 a0, tA8 (List.replicate 8 0), tA8 (List.replicate 8 0), tI a1, tI 0]).bind fun o3 =>
  some [tA8 (gA8 o3 2)]
theorem zIo (a0 : List Int) (a1 : Int) (h : zDw R a0 a1 = some o) : R je [tAi8 a0, tI a1] = some o := go_ (b := fun c => zDw c a0 a1) (fun c => by kernel_rfl) h
def zAw (call : Oracle) (x0 x1 : Int) (x2 x3 x4 : List Int) (x5 x6 : Int) : Option (List TV) :=
  bif decide (0 < x6) then
    (call zJ [zD (x2, (x0, x1)), tI x5]).bind fun o6 =>
    (call zJ [zD (zG o6 1), tI x5]).bind fun o7 =>
    (call zAq [tI (((zG o7 1).2).1), tU64 (((zG o7 1).2).2), tLU8 ((zG o7 1).1), tA8 x3, tAi8 x4, tAi8 x4, tI x5, tI x6, tI (gI o6 0), tI (gI o7 0), tI 0]).bind fun o8 =>
    (call zu [tAi8 (gAi8 o8 6), tI (gI o8 7)]).bind fun o9 =>
    bif (!(gB o9 0)) then
      call zAr [tI (gI o8 1), tU64 (gU64 o8 2), tLU8 (gLU8 o8 3), tA8 (gA8 o8 4), tAi8 (gAi8 o8 6), tI (gI o8 7), tI (wi64 ((gI o8 8) - 1))]
    else
      call zAr [tI (gI o8 1), tU64 (gU64 o8 2), tLU8 (gLU8 o8 3), tA8 (gA8 o8 4), tAi8 (gAi8 o8 5), tI (gI o8 7), tI (wi64 ((gI o8 8) - 1))]
  else
    some [tI 0, tI x0, tU64 x1, tLU8 x2, tA8 x3, tAi8 x4, tI x5]
theorem zDS (x0 x1 : Int) (x2 x3 x4 : List Int) (x5 x6 : Int) (h : zAw R x0 x1 x2 x3 x4 x5 x6 = some o) : R zAr [tI x0, tU64 x1, tLU8 x2, tA8 x3, tAi8 x4, tI x5, tI x6] = some o := go_ (b := fun c => zAw c x0 x1 x2 x3 x4 x5 x6) (fun c => by kernel_rfl) h
def zCA (call : Oracle) (x0 x1 : Int) (x2 x3 : List Int) (x4 x5 : List Int) (x6 x7 : Int) (x8 x9 x10 : Int) : Option (List TV) :=
  bif decide (x10 < x6) then
    bif (decide (0 ≤ x10) && decide (x10 < 8)) then
      bif (decide (0 ≤ x8) && decide (x8 < 8)) then
        bif (decide (0 ≤ x9) && decide (x9 < 8)) then
          bif ((List.getD x5 (Int.toNat x10) 0) == (mx (List.getD x4 (Int.toNat x8) 0) (List.getD x4 (Int.toNat x9) 0))) then
            bif (decide (0 ≤ x8) && decide (x8 < 8)) then
              bif (decide (0 ≤ x9) && decide (x9 < 8)) then
                bif (decide (0 ≤ x10) && decide (x10 < 8)) then
                  call zAq [tI x0, tU64 x1, tLU8 x2, tA8 x3, tAi8 x4, tAi8 (List.set x5 (Int.toNat x10) (mn (List.getD x4 (Int.toNat x8) 0) (List.getD x4 (Int.toNat x9) 0))), tI x6, tI x7, tI x8, tI x9, tI (wi64 (x10 + 1))]
                else none
              else none
            else none
          else
            call zAq [tI x0, tU64 x1, tLU8 x2, tA8 x3, tAi8 x4, tAi8 x5, tI x6, tI x7, tI x8, tI x9, tI (wi64 (x10 + 1))]
        else none
      else none
    else none
  else
    some [tI 0, tI x0, tU64 x1, tLU8 x2, tA8 x3, tAi8 x4, tAi8 x5, tI x6, tI x7]
theorem zGR (x0 x1 : Int) (x2 x3 : List Int) (x4 x5 : List Int) (x6 x7 : Int) (x8 x9 x10 : Int) (h : zCA R x0 x1 x2 x3 x4 x5 x6 x7 x8 x9 x10 = some o) : R zAq [tI x0, tU64 x1, tLU8 x2, tA8 x3, tAi8 x4, tAi8 x5, tI x6, tI x7, tI x8, tI x9, tI x10] = some o := go_ (b := fun c => zCA c x0 x1 x2 x3 x4 x5 x6 x7 x8 x9 x10) (fun c => by kernel_rfl) h
def zGE (call : Oracle) (a0 : List Int × Int × Int) (a1 : Int) : Option (List TV) :=
  (call zJ [zD a0, tI 8]).bind fun o1 =>
  (call zAr [tI (((zG o1 1).2).1), tU64 (((zG o1 1).2).2), tLU8 ((zG o1 1).1), tA8 (List.replicate 8 0), tAi8 [0, 1, 2, 3, 4, 5, 6, 7], tI a1, tI (gI o1 0)]).bind fun o10 =>
  (call je [tAi8 (gAi8 o10 5), tI (gI o10 6)]).bind fun o11 =>
  some [tA8 (gA8 o11 0), zD ((gLU8 o10 3), ((gI o10 1), (gU64 o10 2)))]
theorem zNb (a0 : List Int × Int × Int) (a1 : Int) (h : zGE R a0 a1 = some o) : R zAL [zD a0, tI a1] = some o := go_ (b := fun c => zGE c a0 a1) (fun c => by kernel_rfl) h
def zAR (call : Oracle) (a0 : List Int × Int × Int) : Option (List TV) :=
  (call zl [zD a0, tLI [4, 6, 8]]).bind fun o1 =>
  (call zJ [zD (zG o1 1), tI (gI o1 0)]).bind fun o2 =>
  (call zAL [zD (zG o2 1), tI (wi64 (1 + (gI o2 0)))]).bind fun o3 =>
  (call zJ [zD (zG o3 1), tI 20]).bind fun o4 =>
  bif ((gI o4 0) == 0) then
    (call zJ [zD (zG o4 1), tI 8]).bind fun o5 =>
    (call zl [zD (zG o5 1), tLI [0, 1, 2, 8, 255]]).bind fun o6 =>
    bif (decide (0 ≤ (gI o5 0)) && decide ((gI o5 0) < 8)) then
      some [tA8 (List.set (gA8 o3 0) (Int.toNat (gI o5 0)) (wu8 ((gI o6 0)))), tI (wi64 (1 + (gI o2 0))), zD (zG o6 1)]
    else none
  else
    bif ((gI o4 0) == 1) then
      (call zl [zD (zG o4 1), tLI [0, 9, (wi64 ((wi64 (1 + (gI o2 0))) - 1)), (-1)]]).bind fun o7 =>
      some [tA8 (gA8 o3 0), tI (gI o7 0), zD (zG o7 1)]
    else
      bif ((gI o4 0) == 2) then
        some [tA8 [2, 3, 0, 1, 0, 0, 0, 0], tI 4, zD (zG o4 1)]
      else
        some [tA8 (gA8 o3 0), tI (wi64 (1 + (gI o2 0))), zD (zG o4 1)]
theorem zCi (a0 : List Int × Int × Int) (h : zAR R a0 = some o) : R zCp [zD a0] = some o := go_ (b := fun c => zAR c a0) (fun c => by kernel_rfl) h
def zGC (call : Oracle) (a0 : List Int) : Option (List TV) :=
  (call jh [tLU8 a0]).bind fun o1 =>
  (call zCp [zD (zG o1 0)]).bind fun o2 =>
  (call zAL [zD (zG o2 2), tI (mn (mx (gI o2 1) 1) 8)]).bind fun o3 =>
  some [tA8 (gA8 o2 0), tA8 (gA8 o3 0), tI (gI o2 1)]
theorem zNZ (a0 : List Int) (h : zGC R a0 = some o) : R zF0 [tLU8 a0] = some o := go_ (b := fun c => zGC c a0) (fun c => by kernel_rfl) h
def zAE (call : Oracle) (a0 : List Int) : Option (List TV) :=
  (call zF0 [tLU8 a0]).bind fun o1 =>
  some [tA8 (gA8 o1 0), tA8 (gA8 o1 1), tI (gI o1 2)]
theorem zEv (a0 : List Int) (h : zAE R a0 = some o) : R jq [tLU8 a0] = some o := go_ (b := fun c => zAE c a0) (fun c => by kernel_rfl) h
def zIL (call : Oracle) (a0 a1 a2 : Int) : Option (List TV) :=
  bif decide (a1 ≤ a0) then
    some [tB (decide (a0 ≤ a2))]
  else
    some [tB false]
theorem zOa (a0 a1 a2 : Int) (h : zIL R a0 a1 a2 = some o) : R jv [tI a0, tI a1, tI a2] = some o := go_ (b := fun c => zIL c a0 a1 a2) (fun c => by kernel_rfl) h
def zDy (call : Oracle) (a0 : Int) : Option (List TV) :=
  (call jv [tI a0, tI 1, tI 8]).bind fun o1 =>
  some [tB (gB o1 0)]
theorem zIq (a0 : Int) (h : zDy R a0 = some o) : R zBU [tI a0] = some o := go_ (b := fun c => zDy c a0) (fun c => by kernel_rfl) h
def kW (call : Oracle) (x0 : List Int) (x1 x2 : Int) : Option (List TV) :=
  bif decide (x2 < x1) then
    bif (apOk x0 [x2]) then
      call jI [tLI (x0 ++ [x2]), tI x1, tI (wi64 (x2 + 1))]
    else none
  else
    some [tI 0, tLI x0]
theorem zAW (x0 : List Int) (x1 x2 : Int) (h : kW R x0 x1 x2 = some o) : R jI [tLI x0, tI x1, tI x2] = some o := go_ (b := fun c => kW c x0 x1 x2) (fun c => by kernel_rfl) h
def zCF (call : Oracle) (a0 : Int) : Option (List TV) :=
  (call jI [tLI [], tI a0, tI 0]).bind fun o1 =>
  some [tLI (gLI o1 1)]
theorem zGX (a0 : Int) (h : zCF R a0 = some o) : R zAs [tI a0] = some o := go_ (b := fun c => zCF c a0) (fun c => by kernel_rfl) h
def zDF (call : Oracle) (a0 : Int) : Option (List TV) :=
  (call zAs [tI a0]).bind fun o1 =>
  some [tLI (gLI o1 0)]
theorem zJQ (a0 : Int) (h : zDF R a0 = some o) : R kt [tI a0] = some o := go_ (b := fun c => zDF c a0) (fun c => by kernel_rfl) h
def b_i_groups__merge_2 (call : Oracle) (x0 : List Int) (x1 x2 : Int) (x3 x4 : Int) : Option (List TV) :=
  bif decide (x4 < x3) then
    bif (decide (0 ≤ x4) && decide (x4 < ((List.length x0 : Nat) : Int))) then
      bif ((List.getD x0 (Int.toNat x4) 0) == x2) then
        bif (decide (0 ≤ x4) && decide (x4 < ((List.length x0 : Nat) : Int))) then
          call i_i_groups__merge_2 [tLI (List.set x0 (Int.toNat x4) x1), tI x1, tI x2, tI x3, tI (wi64 (x4 + 1))]
        else none
      else
        call i_i_groups__merge_2 [tLI x0, tI x1, tI x2, tI x3, tI (wi64 (x4 + 1))]
    else none
  else
    some [tI 0, tLI x0]
theorem zBY (x0 : List Int) (x1 x2 : Int) (x3 x4 : Int) (h : b_i_groups__merge_2 R x0 x1 x2 x3 x4 = some o) : R i_i_groups__merge_2 [tLI x0, tI x1, tI x2, tI x3, tI x4] = some o := go_ (b := fun c => b_i_groups__merge_2 c x0 x1 x2 x3 x4) (fun c => by kernel_rfl) h
def b_i_groups__merge (call : Oracle) (a0 : List Int) (a1 a2 : Int) : Option (List TV) :=
  bif (decide (0 ≤ a1) && decide (a1 < ((List.length a0 : Nat) : Int))) then
    bif (decide (0 ≤ a2) && decide (a2 < ((List.length a0 : Nat) : Int))) then
      bif (decide (0 ≤ a1) && decide (a1 < ((List.length a0 : Nat) : Int))) then
        bif (decide (0 ≤ a2) && decide (a2 < ((List.length a0 : Nat) : Int))) then
          (call i_i_groups__merge_2 [tLI a0, tI (mn (List.getD a0 (Int.toNat a1) 0) (List.getD a0 (Int.toNat a2) 0)), tI (mx (List.getD a0 (Int.toNat a1) 0) (List.getD a0 (Int.toNat a2) 0)), tI ((List.length a0 : Nat) : Int), tI 0]).bind fun o1 =>
          some [tLI (gLI o1 1)]
        else none
      else none
    else none
  else none
theorem zFn (a0 : List Int) (a1 a2 : Int) (h : b_i_groups__merge R a0 a1 a2 = some o) : R i_i_groups__merge [tLI a0, tI a1, tI a2] = some o := go_ (b := fun c => b_i_groups__merge c a0 a1 a2) (fun c => by kernel_rfl) h
def b_i_groups__part_3 (call : Oracle) (x0 x1 x2 : List Int) (x3 x4 : Int) : Option (List TV) :=
  bif decide (x4 < x3) then
    bif (decide (0 ≤ x4) && decide (x4 < ((List.length x0 : Nat) : Int))) then
      bif (decide (0 ≤ x4) && decide (x4 < 8)) then
        (call i_i_groups__part_7 [tLI x0, tA8 x1, tA8 (List.set x2 (Int.toNat x4) (wu8 ((List.getD x0 (Int.toNat x4) 0)))), tI x4, tI (List.getD x0 (Int.toNat x4) 0), tI (wi64 (x4 + 1)), tI x3, tI x4]).bind fun o2 =>
        call i_i_groups__part_3 [tLI (gLI o2 1), tA8 (gA8 o2 2), tA8 (gA8 o2 3), tI (gI o2 4), tI (wi64 ((gI o2 5) + 1))]
      else none
    else none
  else
    some [tI 0, tA8 x1, tA8 x2]
theorem zBt (x0 x1 x2 : List Int) (x3 x4 : Int) (h : b_i_groups__part_3 R x0 x1 x2 x3 x4 = some o) : R i_i_groups__part_3 [tLI x0, tA8 x1, tA8 x2, tI x3, tI x4] = some o := go_ (b := fun c => b_i_groups__part_3 c x0 x1 x2 x3 x4) (fun c => by kernel_rfl) h
def b_i_groups__part_7 (call : Oracle) (x0 x1 x2 : List Int) (x3 x4 : Int) (x5 x6 x7 : Int) : Option (List TV) :=
  bif decide (x5 < ((List.length x0 : Nat) : Int)) then
    bif (decide (0 ≤ x5) && decide (x5 < ((List.length x0 : Nat) : Int))) then
      bif ((List.getD x0 (Int.toNat x5) 0) == x4) then
        bif (decide (0 ≤ x3) && decide (x3 < 8)) then
          some [tI 0, tLI x0, tA8 x1, tA8 (List.set x2 (Int.toNat x3) (wu8 (x5))), tI x6, tI x7]
        else none
      else
        call i_i_groups__part_7 [tLI x0, tA8 x1, tA8 x2, tI x3, tI x4, tI (wi64 (x5 + 1)), tI x6, tI x7]
    else none
  else
    some [tI 0, tLI x0, tA8 x1, tA8 x2, tI x6, tI x7]
theorem zBs (x0 x1 x2 : List Int) (x3 x4 : Int) (x5 x6 x7 : Int) (h : b_i_groups__part_7 R x0 x1 x2 x3 x4 x5 x6 x7 = some o) : R i_i_groups__part_7 [tLI x0, tA8 x1, tA8 x2, tI x3, tI x4, tI x5, tI x6, tI x7] = some o := go_ (b := fun c => b_i_groups__part_7 c x0 x1 x2 x3 x4 x5 x6 x7) (fun c => by kernel_rfl) h
def b_i_groups__part (call : Oracle) (a0 : List Int) : Option (List TV) :=
  (call i_i_groups__part_3 [tLI a0, tA8 (List.replicate 8 0), tA8 (List.replicate 8 0), tI ((List.length a0 : Nat) : Int), tI 0]).bind fun o3 =>
  some [tA8 (gA8 o3 2)]
theorem zGw (a0 : List Int) (h : b_i_groups__part R a0 = some o) : R i_i_groups__part [tLI a0] = some o := go_ (b := fun c => b_i_groups__part c a0) (fun c => by kernel_rfl) h
def kJ (call : Oracle) (x0 x1 : List Int) (x2 x3 x4 : Int) : Option (List TV) :=
  bif decide (x4 < x3) then
    bif (decide (0 ≤ x4) && decide (x4 < 8)) then
      bif decide (x2 ≤ (wi64 ((List.getD x0 (Int.toNat x4) 0)))) then
        some [tI 1, tLI [], tB false]
      else
        (call i_i_groups__merge [tLI x1, tI x4, tI (wi64 ((List.getD x0 (Int.toNat x4) 0)))]).bind fun o3 =>
        call zq [tA8 x0, tLI (gLI o3 0), tI x2, tI x3, tI (wi64 (x4 + 1))]
    else none
  else
    some [tI 0, tA8 x0, tLI x1]
theorem jl (x0 x1 : List Int) (x2 x3 x4 : Int) (h : kJ R x0 x1 x2 x3 x4 = some o) : R zq [tA8 x0, tLI x1, tI x2, tI x3, tI x4] = some o := go_ (b := fun c => kJ c x0 x1 x2 x3 x4) (fun c => by kernel_rfl) h
def zBm (call : Oracle) (a0 : List Int) (a1 : Int) : Option (List TV) :=
  (call kt [tI a1]).bind fun o1 =>
  (call zq [tA8 a0, tLI (gLI o1 0), tI a1, tI a1, tI 0]).bind fun o4 =>
  bif ((gI o4 0) == 0) then
    (call i_i_groups__part [tLI (gLI o4 2)]).bind fun o5 =>
    some [tLI (gLI o4 2), tB ((gA8 o5 0) == (gA8 o4 1))]
  else
    some [tLI (gLI o4 1), tB (gB o4 2)]
theorem zEN (a0 : List Int) (a1 : Int) (h : zBm R a0 a1 = some o) : R kg [tA8 a0, tI a1] = some o := go_ (b := fun c => zBm c a0 a1) (fun c => by kernel_rfl) h
def b_i_groups__crossing_3 (call : Oracle) (x0 : List Int) (x1 x2 x3 : Int) : Option (List TV) :=
  bif decide (x3 < x2) then
    (call i_i_groups__crossing_6 [tLI x0, tI x1, tI x3, tI (wi64 (x3 + 1)), tI x2, tI x3]).bind fun o6 =>
    bif ((gI o6 0) == 0) then
      call i_i_groups__crossing_3 [tLI (gLI o6 1), tI (gI o6 2), tI (gI o6 3), tI (wi64 ((gI o6 4) + 1))]
    else
      some [tI 1, tI (gI o6 1), tI (gI o6 2), tB (gB o6 3)]
  else
    some [tI 0]
theorem zN (x0 : List Int) (x1 x2 x3 : Int) (h : b_i_groups__crossing_3 R x0 x1 x2 x3 = some o) : R i_i_groups__crossing_3 [tLI x0, tI x1, tI x2, tI x3] = some o := go_ (b := fun c => b_i_groups__crossing_3 c x0 x1 x2 x3) (fun c => by kernel_rfl) h
def b_i_groups__crossing_6 (call : Oracle) (x0 : List Int) (x1 x2 : Int) (x3 x4 x5 : Int) : Option (List TV) :=
  bif decide (x3 < x1) then
    (call i_i_groups__crossing_9 [tLI x0, tI x1, tI x2, tI x3, tI (wi64 (x3 + 1)), tI x4, tI x5]).bind fun o4 =>
    bif ((gI o4 0) == 0) then
      call i_i_groups__crossing_6 [tLI (gLI o4 1), tI (gI o4 2), tI (gI o4 3), tI (wi64 ((gI o4 4) + 1)), tI (gI o4 5), tI (gI o4 6)]
    else
      some [tI 1, tI (gI o4 1), tI (gI o4 2), tB (gB o4 3)]
  else
    some [tI 0, tLI x0, tI x1, tI x4, tI x5]
theorem zM (x0 : List Int) (x1 x2 : Int) (x3 x4 x5 : Int) (h : b_i_groups__crossing_6 R x0 x1 x2 x3 x4 x5 = some o) : R i_i_groups__crossing_6 [tLI x0, tI x1, tI x2, tI x3, tI x4, tI x5] = some o := go_ (b := fun c => b_i_groups__crossing_6 c x0 x1 x2 x3 x4 x5) (fun c => by kernel_rfl) h
def b_i_groups__crossing_9 (call : Oracle) (x0 : List Int) (x1 x2 : Int) (x3 x4 : Int) (x5 x6 : Int) : Option (List TV) :=
  bif decide (x4 < x1) then
    (call i_i_groups__crossing_12 [tLI x0, tI x1, tI x2, tI x3, tI x4, tI (wi64 (x4 + 1)), tI x5, tI x6]).bind fun o2 =>
    bif ((gI o2 0) == 0) then
      call i_i_groups__crossing_9 [tLI (gLI o2 1), tI (gI o2 2), tI (gI o2 3), tI (gI o2 4), tI (wi64 ((gI o2 5) + 1)), tI (gI o2 6), tI (gI o2 7)]
    else
      some [tI 1, tI (gI o2 1), tI (gI o2 2), tB (gB o2 3)]
  else
    some [tI 0, tLI x0, tI x1, tI x2, tI x3, tI x5, tI x6]
theorem zAJ (x0 : List Int) (x1 x2 : Int) (x3 x4 : Int) (x5 x6 : Int) (h : b_i_groups__crossing_9 R x0 x1 x2 x3 x4 x5 x6 = some o) : R i_i_groups__crossing_9 [tLI x0, tI x1, tI x2, tI x3, tI x4, tI x5, tI x6] = some o := go_ (b := fun c => b_i_groups__crossing_9 c x0 x1 x2 x3 x4 x5 x6) (fun c => by kernel_rfl) h
def b_i_groups__crossing_12 (call : Oracle) (x0 : List Int) (x1 x2 : Int) (x3 x4 : Int) (x5 x6 x7 : Int) : Option (List TV) :=
  bif decide (x5 < x1) then
    bif (decide (0 ≤ x2) && decide (x2 < ((List.length x0 : Nat) : Int))) then
      bif (decide (0 ≤ x4) && decide (x4 < ((List.length x0 : Nat) : Int))) then
        bif ((List.getD x0 (Int.toNat x2) 0) == (List.getD x0 (Int.toNat x4) 0)) then
          bif (decide (0 ≤ x3) && decide (x3 < ((List.length x0 : Nat) : Int))) then
            bif (decide (0 ≤ x5) && decide (x5 < ((List.length x0 : Nat) : Int))) then
              bif ((List.getD x0 (Int.toNat x3) 0) == (List.getD x0 (Int.toNat x5) 0)) then
                bif (decide (0 ≤ x2) && decide (x2 < ((List.length x0 : Nat) : Int))) then
                  bif (decide (0 ≤ x3) && decide (x3 < ((List.length x0 : Nat) : Int))) then
                    bif ((List.getD x0 (Int.toNat x2) 0) != (List.getD x0 (Int.toNat x3) 0)) then
                      some [tI 1, tI x2, tI x3, tB true]
                    else
                      call i_i_groups__crossing_12 [tLI x0, tI x1, tI x2, tI x3, tI x4, tI (wi64 (x5 + 1)), tI x6, tI x7]
                  else none
                else none
              else
                call i_i_groups__crossing_12 [tLI x0, tI x1, tI x2, tI x3, tI x4, tI (wi64 (x5 + 1)), tI x6, tI x7]
            else none
          else none
        else
          call i_i_groups__crossing_12 [tLI x0, tI x1, tI x2, tI x3, tI x4, tI (wi64 (x5 + 1)), tI x6, tI x7]
      else none
    else none
  else
    some [tI 0, tLI x0, tI x1, tI x2, tI x3, tI x4, tI x6, tI x7]
theorem jn (x0 : List Int) (x1 x2 : Int) (x3 x4 : Int) (x5 x6 x7 : Int) (h : b_i_groups__crossing_12 R x0 x1 x2 x3 x4 x5 x6 x7 = some o) : R i_i_groups__crossing_12 [tLI x0, tI x1, tI x2, tI x3, tI x4, tI x5, tI x6, tI x7] = some o := go_ (b := fun c => b_i_groups__crossing_12 c x0 x1 x2 x3 x4 x5 x6 x7) (fun c => by kernel_rfl) h
def b_i_groups__crossing (call : Oracle) (a0 : List Int) : Option (List TV) :=
  (call i_i_groups__crossing_3 [tLI a0, tI ((List.length a0 : Nat) : Int), tI ((List.length a0 : Nat) : Int), tI 0]).bind fun o7 =>
  bif ((gI o7 0) == 0) then
    some [tI 0, tI 0, tB false]
  else
    some [tI (gI o7 1), tI (gI o7 2), tB (gB o7 3)]
theorem zv (a0 : List Int) (h : b_i_groups__crossing R a0 = some o) : R i_i_groups__crossing [tLI a0] = some o := go_ (b := fun c => b_i_groups__crossing c a0) (fun c => by kernel_rfl) h
def zIP (call : Oracle) (a0 : List Int) (a1 : Int) : Option (List TV) :=
  (call zBU [tI a1]).bind fun o1 =>
  bif (!(gB o1 0)) then
    some [tB false]
  else
    (call kg [tA8 a0, tI a1]).bind fun o2 =>
    bif (!(gB o2 1)) then
      some [tB false]
    else
      (call i_i_groups__crossing [tLI (gLI o2 0)]).bind fun o3 =>
      some [tB (!(gB o3 2))]
theorem zOe (a0 : List Int) (a1 : Int) (h : zIP R a0 a1 = some o) : R zj [tA8 a0, tI a1] = some o := go_ (b := fun c => zIP c a0 a1) (fun c => by kernel_rfl) h
def zAk (call : Oracle) (x0 x1 : List Int) (x2 x3 : List Int) (x4 x5 : Int) : Option (List TV) :=
  bif decide (x5 < x4) then
    (call kS [tA8 x0, tLI x1, tLI x2, tLI x3, tI x5, tI x4, tI x5, tI x5, tI 0]).bind fun o7 =>
    call zAc [tA8 (gA8 o7 1), tLI (gLI o7 2), tLI (gLI o7 3), tLI (gLI o7 4), tI (gI o7 5), tI (wi64 ((gI o7 6) + 1))]
  else
    some [tI 0, tA8 x0, tLI x3]
theorem zD7 (x0 x1 : List Int) (x2 x3 : List Int) (x4 x5 : Int) (h : zAk R x0 x1 x2 x3 x4 x5 = some o) : R zAc [tA8 x0, tLI x1, tLI x2, tLI x3, tI x4, tI x5] = some o := go_ (b := fun c => zAk c x0 x1 x2 x3 x4 x5) (fun c => by kernel_rfl) h
def zAj (call : Oracle) (x0 x1 : List Int) (x2 x3 : List Int) (x4 x5 : Int) (x6 x7 x8 : Int) : Option (List TV) :=
  bif decide (x8 < x7) then
    bif (decide (0 ≤ x8) && decide (x8 < ((List.length x1 : Nat) : Int))) then
      bif (decide (0 ≤ x4) && decide (x4 < ((List.length x1 : Nat) : Int))) then
        bif ((List.getD x1 (Int.toNat x8) 0) == (List.getD x1 (Int.toNat x4) 0)) then
          bif (decide (0 ≤ x8) && decide (x8 < ((List.length x2 : Nat) : Int))) then
            bif (decide (0 ≤ x4) && decide (x4 < ((List.length x2 : Nat) : Int))) then
              bif ((List.getD x2 (Int.toNat x8) 0) == (List.getD x2 (Int.toNat x4) 0)) then
                (call i_i_groups__merge [tLI x3, tI x8, tI x4]).bind fun o5 =>
                call kS [tA8 x0, tLI x1, tLI x2, tLI (gLI o5 0), tI x4, tI x5, tI x6, tI x7, tI (wi64 (x8 + 1))]
              else
                call kS [tA8 x0, tLI x1, tLI x2, tLI x3, tI x4, tI x5, tI x6, tI x7, tI (wi64 (x8 + 1))]
            else none
          else none
        else
          call kS [tA8 x0, tLI x1, tLI x2, tLI x3, tI x4, tI x5, tI x6, tI x7, tI (wi64 (x8 + 1))]
      else none
    else none
  else
    some [tI 0, tA8 x0, tLI x1, tLI x2, tLI x3, tI x5, tI x6]
theorem zD6 (x0 x1 : List Int) (x2 x3 : List Int) (x4 x5 : Int) (x6 x7 x8 : Int) (h : zAj R x0 x1 x2 x3 x4 x5 x6 x7 x8 = some o) : R kS [tA8 x0, tLI x1, tLI x2, tLI x3, tI x4, tI x5, tI x6, tI x7, tI x8] = some o := go_ (b := fun c => zAj c x0 x1 x2 x3 x4 x5 x6 x7 x8) (fun c => by kernel_rfl) h
def zDj (call : Oracle) (a0 a1 : List Int) (a2 : Int) : Option (List TV) :=
  (call kg [tA8 a0, tI a2]).bind fun o1 =>
  (call kg [tA8 a1, tI a2]).bind fun o2 =>
  (call kt [tI a2]).bind fun o3 =>
  (call zAc [tA8 (List.replicate 8 0), tLI (gLI o1 0), tLI (gLI o2 0), tLI (gLI o3 0), tI a2, tI 0]).bind fun o8 =>
  (call i_i_groups__part [tLI (gLI o8 2)]).bind fun o9 =>
  some [tA8 (gA8 o9 0)]
theorem zKS (a0 a1 : List Int) (a2 : Int) (h : zDj R a0 a1 a2 = some o) : R zB5 [tA8 a0, tA8 a1, tI a2] = some o := go_ (b := fun c => zDj c a0 a1 a2) (fun c => by kernel_rfl) h
def jO (call : Oracle) (a0 a1 : List Int) (a2 : Int) : Option (List TV) :=
  (call zj [tA8 a0, tI a2]).bind fun o1 =>
  bif (!(gB o1 0)) then
    some [tA8 (List.replicate 8 0), tI 1]
  else
    (call zj [tA8 a1, tI a2]).bind fun o2 =>
    bif (!(gB o2 0)) then
      some [tA8 (List.replicate 8 0), tI 1]
    else
      (call zB5 [tA8 a0, tA8 a1, tI a2]).bind fun o3 =>
      some [tA8 (gA8 o3 0), tI 0]
theorem zCJ (a0 a1 : List Int) (a2 : Int) (h : jO R a0 a1 a2 = some o) : R kT [tA8 a0, tA8 a1, tI a2] = some o := go_ (b := fun c => jO c a0 a1 a2) (fun c => by kernel_rfl) h
def zKC (call : Oracle) (a0 a1 a2 : Int) : Option (List TV) :=
  bif decide (a1 ≤ a0) then
    some [tB (decide (a0 ≤ a2))]
  else
    some [tB false]
theorem zQM (a0 a1 a2 : Int) (h : zKC R a0 a1 a2 = some o) : R zBB [tI a0, tI a1, tI a2] = some o := go_ (b := fun c => zKC c a0 a1 a2) (fun c => by kernel_rfl) h
def zBI (call : Oracle) (x0 x1 x2 : List Int) (x3 : List Bool) (x4 x5 : Int) : Option (List TV) :=
  bif decide (x5 < 8) then
    bif decide (x4 ≤ x5) then
      bif (decide (0 ≤ x5) && decide (x5 < 8)) then
        bif ((List.getD x0 (Int.toNat x5) 0) != 0) then
          some [tI 1, tAi8 x2, tB false]
        else
          bif decide (x5 < x4) then
            bif (decide (0 ≤ x5) && decide (x5 < 8)) then
              bif decide (x4 ≤ (wi64 ((List.getD x0 (Int.toNat x5) 0)))) then
                some [tI 1, tAi8 x2, tB false]
              else
                bif (decide (0 ≤ x5) && decide (x5 < 8)) then
                  bif (decide (0 ≤ (List.getD x0 (Int.toNat x5) 0)) && decide ((List.getD x0 (Int.toNat x5) 0) < 8)) then
                    bif (List.getD x3 (Int.toNat (List.getD x0 (Int.toNat x5) 0)) false) then
                      some [tI 1, tAi8 x2, tB false]
                    else
                      bif decide (x5 < x4) then
                        bif (decide (0 ≤ x5) && decide (x5 < 8)) then
                          bif (decide (0 ≤ (List.getD x0 (Int.toNat x5) 0)) && decide ((List.getD x0 (Int.toNat x5) 0) < 8)) then
                            call zR [tA8 x0, tAi8 x1, tAi8 x2, tAB8 (List.set x3 (Int.toNat (List.getD x0 (Int.toNat x5) 0)) true), tI x4, tI (wi64 (x5 + 1))]
                          else none
                        else none
                      else
                        call zR [tA8 x0, tAi8 x1, tAi8 x2, tAB8 x3, tI x4, tI (wi64 (x5 + 1))]
                  else none
                else none
            else none
          else
            bif decide (x5 < x4) then
              bif (decide (0 ≤ x5) && decide (x5 < 8)) then
                bif (decide (0 ≤ (List.getD x0 (Int.toNat x5) 0)) && decide ((List.getD x0 (Int.toNat x5) 0) < 8)) then
                  call zR [tA8 x0, tAi8 x1, tAi8 x2, tAB8 (List.set x3 (Int.toNat (List.getD x0 (Int.toNat x5) 0)) true), tI x4, tI (wi64 (x5 + 1))]
                else none
              else none
            else
              call zR [tA8 x0, tAi8 x1, tAi8 x2, tAB8 x3, tI x4, tI (wi64 (x5 + 1))]
      else none
    else
      bif decide (x5 < x4) then
        bif (decide (0 ≤ x5) && decide (x5 < 8)) then
          bif decide (x4 ≤ (wi64 ((List.getD x0 (Int.toNat x5) 0)))) then
            some [tI 1, tAi8 x2, tB false]
          else
            bif (decide (0 ≤ x5) && decide (x5 < 8)) then
              bif (decide (0 ≤ (List.getD x0 (Int.toNat x5) 0)) && decide ((List.getD x0 (Int.toNat x5) 0) < 8)) then
                bif (List.getD x3 (Int.toNat (List.getD x0 (Int.toNat x5) 0)) false) then
                  some [tI 1, tAi8 x2, tB false]
                else
                  bif decide (x5 < x4) then
                    bif (decide (0 ≤ x5) && decide (x5 < 8)) then
                      bif (decide (0 ≤ (List.getD x0 (Int.toNat x5) 0)) && decide ((List.getD x0 (Int.toNat x5) 0) < 8)) then
                        call zR [tA8 x0, tAi8 x1, tAi8 x2, tAB8 (List.set x3 (Int.toNat (List.getD x0 (Int.toNat x5) 0)) true), tI x4, tI (wi64 (x5 + 1))]
                      else none
                    else none
                  else
                    call zR [tA8 x0, tAi8 x1, tAi8 x2, tAB8 x3, tI x4, tI (wi64 (x5 + 1))]
              else none
            else none
        else none
      else
        bif decide (x5 < x4) then
          bif (decide (0 ≤ x5) && decide (x5 < 8)) then
            bif (decide (0 ≤ (List.getD x0 (Int.toNat x5) 0)) && decide ((List.getD x0 (Int.toNat x5) 0) < 8)) then
              call zR [tA8 x0, tAi8 x1, tAi8 x2, tAB8 (List.set x3 (Int.toNat (List.getD x0 (Int.toNat x5) 0)) true), tI x4, tI (wi64 (x5 + 1))]
            else none
          else none
        else
          call zR [tA8 x0, tAi8 x1, tAi8 x2, tAB8 x3, tI x4, tI (wi64 (x5 + 1))]
  else
    some [tI 0, tA8 x0, tAi8 x1, tAi8 x2, tI x4]
theorem zEt (x0 x1 x2 : List Int) (x3 : List Bool) (x4 x5 : Int) (h : zBI R x0 x1 x2 x3 x4 x5 = some o) : R zR [tA8 x0, tAi8 x1, tAi8 x2, tAB8 x3, tI x4, tI x5] = some o := go_ (b := fun c => zBI c x0 x1 x2 x3 x4 x5) (fun c => by kernel_rfl) h
def kU (call : Oracle) (x0 x1 x2 : List Int) (x3 : List Bool) (x4 x5 : Int) : Option (List TV) :=
  bif decide (x5 < x4) then
    (call zW [tA8 x0, tAi8 x1, tAi8 x2, tAB8 x3, tI x4, tI x5, tI x5]).bind fun o3 =>
    call kR [tA8 (gA8 o3 1), tAi8 (gAi8 o3 2), tAi8 (gAi8 o3 3), tAB8 (gAB8 o3 4), tI (gI o3 5), tI (wi64 ((gI o3 6) + 1))]
  else
    some [tI 0, tAi8 x1, tAi8 x2]
theorem zAU (x0 x1 x2 : List Int) (x3 : List Bool) (x4 x5 : Int) (h : kU R x0 x1 x2 x3 x4 x5 = some o) : R kR [tA8 x0, tAi8 x1, tAi8 x2, tAB8 x3, tI x4, tI x5] = some o := go_ (b := fun c => kU c x0 x1 x2 x3 x4 x5) (fun c => by kernel_rfl) h
def zAd (call : Oracle) (x0 x1 x2 : List Int) (x3 : List Bool) (x4 x5 x6 : Int) : Option (List TV) :=
  bif (decide (0 ≤ x6) && decide (x6 < 8)) then
    bif (!(List.getD x3 (Int.toNat x6) false)) then
      bif (decide (0 ≤ x6) && decide (x6 < 8)) then
        bif (decide (0 ≤ x6) && decide (x6 < 8)) then
          bif (decide (0 ≤ x6) && decide (x6 < 8)) then
            call zW [tA8 x0, tAi8 x1, tAi8 (List.set x2 (Int.toNat x6) x5), tAB8 (List.set x3 (Int.toNat x6) true), tI x4, tI x5, tI (wi64 ((List.getD x0 (Int.toNat x6) 0)))]
          else none
        else none
      else none
    else
      some [tI 0, tA8 x0, tAi8 x1, tAi8 x2, tAB8 x3, tI x4, tI x5]
  else none
theorem zD0 (x0 x1 x2 : List Int) (x3 : List Bool) (x4 x5 x6 : Int) (h : zAd R x0 x1 x2 x3 x4 x5 x6 = some o) : R zW [tA8 x0, tAi8 x1, tAi8 x2, tAB8 x3, tI x4, tI x5, tI x6] = some o := go_ (b := fun c => zAd c x0 x1 x2 x3 x4 x5 x6) (fun c => by kernel_rfl) h
def zBj (call : Oracle) (a0 : List Int) (a1 : Int) : Option (List TV) :=
  (call zR [tA8 a0, tAi8 (List.replicate 8 0), tAi8 (List.replicate 8 0), tAB8 (List.replicate 8 false), tI a1, tI 0]).bind fun o1 =>
  bif ((gI o1 0) == 0) then
    (call kR [tA8 (gA8 o1 1), tAi8 (gAi8 o1 2), tAi8 (gAi8 o1 3), tAB8 (List.replicate 8 false), tI (gI o1 4), tI 0]).bind fun o4 =>
    some [tAi8 (gAi8 o4 2), tB true]
  else
    some [tAi8 (gAi8 o1 1), tB (gB o1 2)]
theorem zEL (a0 : List Int) (a1 : Int) (h : zBj R a0 a1 = some o) : R kf [tA8 a0, tI a1] = some o := go_ (b := fun c => zBj c a0 a1) (fun c => by kernel_rfl) h
def zKB (call : Oracle) (a0 : List Int) (a1 : Int) : Option (List TV) :=
  (call zBB [tI a1, tI 1, tI 8]).bind fun o1 =>
  bif (!(gB o1 0)) then
    some [tB false]
  else
    (call kf [tA8 a0, tI a1]).bind fun o2 =>
    bif (gB o2 1) then
      (call je [tAi8 (gAi8 o2 0), tI a1]).bind fun o3 =>
      bif ((gA8 o3 0) == a0) then
        (call zu [tAi8 (gAi8 o2 0), tI a1]).bind fun o4 =>
        some [tB (!(gB o4 0))]
      else
        some [tB false]
    else
      some [tB false]
theorem zQL (a0 : List Int) (a1 : Int) (h : zKB R a0 a1 = some o) : R zBA [tA8 a0, tI a1] = some o := go_ (b := fun c => zKB c a0 a1) (fun c => by kernel_rfl) h
def zDf (call : Oracle) (a0 a1 : List Int) (a2 : Int) : Option (List TV) :=
  (call zBA [tA8 a0, tI a2]).bind fun o1 =>
  bif (!(gB o1 0)) then
    some [tI 1]
  else
    (call zBA [tA8 a1, tI a2]).bind fun o2 =>
    bif (!(gB o2 0)) then
      some [tI 1]
    else
      some [tI 0]
theorem zHF (a0 a1 : List Int) (a2 : Int) (h : zDf R a0 a1 a2 = some o) : R zCV [tA8 a0, tA8 a1, tI a2] = some o := go_ (b := fun c => zDf c a0 a1 a2) (fun c => by kernel_rfl) h
def zB9 (call : Oracle) (x0 x1 : List Int) (x2 x3 : List Int) (x4 x5 : Int) : Option (List TV) :=
  bif decide (0 ≤ x5) then
    (call ke [tA8 x0, tAi8 x1, tAi8 x2, tAi8 x3, tI x4, tI x5, tI 7]).bind fun o4 =>
    call zB0 [tA8 (gA8 o4 1), tAi8 (gAi8 o4 2), tAi8 (gAi8 o4 3), tAi8 (gAi8 o4 4), tI (gI o4 5), tI (wi64 ((gI o4 6) - 1))]
  else
    some [tI 0, tA8 x0, tAi8 x3, tI x4]
theorem zGQ (x0 x1 : List Int) (x2 x3 : List Int) (x4 x5 : Int) (h : zB9 R x0 x1 x2 x3 x4 x5 = some o) : R zB0 [tA8 x0, tAi8 x1, tAi8 x2, tAi8 x3, tI x4, tI x5] = some o := go_ (b := fun c => zB9 c x0 x1 x2 x3 x4 x5) (fun c => by kernel_rfl) h
def zAv (call : Oracle) (x0 x1 : List Int) (x2 x3 : List Int) (x4 x5 x6 : Int) : Option (List TV) :=
  bif decide (0 ≤ x6) then
    bif decide (x6 < x4) then
      bif (decide (0 ≤ x6) && decide (x6 < 8)) then
        bif (decide (0 ≤ x5) && decide (x5 < 8)) then
          bif ((List.getD x1 (Int.toNat x6) 0) == (List.getD x1 (Int.toNat x5) 0)) then
            bif (decide (0 ≤ x6) && decide (x6 < 8)) then
              bif (decide (0 ≤ x5) && decide (x5 < 8)) then
                bif ((List.getD x2 (Int.toNat x6) 0) == (List.getD x2 (Int.toNat x5) 0)) then
                  bif (decide (0 ≤ x5) && decide (x5 < 8)) then
                    call ke [tA8 x0, tAi8 x1, tAi8 x2, tAi8 (List.set x3 (Int.toNat x5) x6), tI x4, tI x5, tI (wi64 (x6 - 1))]
                  else none
                else
                  call ke [tA8 x0, tAi8 x1, tAi8 x2, tAi8 x3, tI x4, tI x5, tI (wi64 (x6 - 1))]
              else none
            else none
          else
            call ke [tA8 x0, tAi8 x1, tAi8 x2, tAi8 x3, tI x4, tI x5, tI (wi64 (x6 - 1))]
        else none
      else none
    else
      call ke [tA8 x0, tAi8 x1, tAi8 x2, tAi8 x3, tI x4, tI x5, tI (wi64 (x6 - 1))]
  else
    some [tI 0, tA8 x0, tAi8 x1, tAi8 x2, tAi8 x3, tI x4, tI x5]
theorem zGP (x0 x1 : List Int) (x2 x3 : List Int) (x4 x5 x6 : Int) (h : zAv R x0 x1 x2 x3 x4 x5 x6 = some o) : R ke [tA8 x0, tAi8 x1, tAi8 x2, tAi8 x3, tI x4, tI x5, tI x6] = some o := go_ (b := fun c => zAv c x0 x1 x2 x3 x4 x5 x6) (fun c => by kernel_rfl) h
def zGD (call : Oracle) (a0 a1 : List Int) (a2 : Int) : Option (List TV) :=
  (call kf [tA8 a0, tI a2]).bind fun o1 =>
  (call kf [tA8 a1, tI a2]).bind fun o2 =>
  (call zB0 [tA8 (List.replicate 8 0), tAi8 (gAi8 o1 0), tAi8 (gAi8 o2 0), tAi8 (List.replicate 8 0), tI a2, tI (wi64 (a2 - 1))]).bind fun o5 =>
  (call je [tAi8 (gAi8 o5 2), tI (gI o5 3)]).bind fun o6 =>
  some [tA8 (gA8 o6 0)]
theorem zNa (a0 a1 : List Int) (a2 : Int) (h : zGD R a0 a1 a2 = some o) : R zBT [tA8 a0, tA8 a1, tI a2] = some o := go_ (b := fun c => zGD c a0 a1 a2) (fun c => by kernel_rfl) h
def jN (call : Oracle) (a0 a1 : List Int) (a2 : Int) : Option (List TV) :=
  (call zCV [tA8 a0, tA8 a1, tI a2]).bind fun o1 =>
  bif ((gI o1 0) != 0) then
    some [tA8 (List.replicate 8 0), tI (gI o1 0)]
  else
    (call zBT [tA8 a0, tA8 a1, tI a2]).bind fun o2 =>
    some [tA8 (gA8 o2 0), tI 0]
theorem zCI (a0 a1 : List Int) (a2 : Int) (h : jN R a0 a1 a2 = some o) : R zAa [tA8 a0, tA8 a1, tI a2] = some o := go_ (b := fun c => jN c a0 a1 a2) (fun c => by kernel_rfl) h
def jW (call : Oracle) (x0 x1 x2 : List Int) (x3 x4 : Int) : Option (List TV) :=
  bif decide (x4 < x3) then
    bif (decide (0 ≤ x4) && decide (x4 < 8)) then
      (call i_i_groups__merge [tLI x2, tI x4, tI (wi64 ((List.getD x0 (Int.toNat x4) 0)))]).bind fun o5 =>
      call kP [tA8 x0, tA8 x1, tLI (gLI o5 0), tI x3, tI (wi64 (x4 + 1))]
    else none
  else
    some [tI 0, tA8 x1, tLI x2]
theorem zDN (x0 x1 x2 : List Int) (x3 x4 : Int) (h : jW R x0 x1 x2 x3 x4 = some o) : R kP [tA8 x0, tA8 x1, tLI x2, tI x3, tI x4] = some o := go_ (b := fun c => jW c x0 x1 x2 x3 x4) (fun c => by kernel_rfl) h
def jV (call : Oracle) (x0 x1 : List Int) : Option (List TV) :=
  (call i_i_groups__crossing [tLI x1]).bind fun o10 =>
  bif (!(gB o10 2)) then
    (call i_i_groups__part [tLI x1]).bind fun o11 =>
    some [tI 0, tA8 (gA8 o11 0), tI 0]
  else
    (call i_i_groups__merge [tLI x1, tI (gI o10 0), tI (gI o10 1)]).bind fun o12 =>
    call zS [tA8 x0, tLI (gLI o12 0)]
theorem zDM (x0 x1 : List Int) (h : jV R x0 x1 = some o) : R zS [tA8 x0, tLI x1] = some o := go_ (b := fun c => jV c x0 x1) (fun c => by kernel_rfl) h
def jP (call : Oracle) (a0 a1 : List Int) (a2 : Int) : Option (List TV) :=
  (call zj [tA8 a0, tI a2]).bind fun o1 =>
  bif (!(gB o1 0)) then
    some [tA8 (List.replicate 8 0), tI 1]
  else
    (call zj [tA8 a1, tI a2]).bind fun o2 =>
    bif (!(gB o2 0)) then
      some [tA8 (List.replicate 8 0), tI 1]
    else
      (call kg [tA8 a0, tI a2]).bind fun o3 =>
      (call kP [tA8 a1, tA8 (List.replicate 8 0), tLI (gLI o3 0), tI a2, tI 0]).bind fun o6 =>
      (call zS [tA8 (gA8 o6 1), tLI (gLI o6 2)]).bind fun o13 =>
      some [tA8 (gA8 o13 1), tI (gI o13 2)]
theorem zCK (a0 a1 : List Int) (a2 : Int) (h : jP R a0 a1 a2 = some o) : R jJ [tA8 a0, tA8 a1, tI a2] = some o := go_ (b := fun c => jP c a0 a1 a2) (fun c => by kernel_rfl) h
end
end Go.Ev.YtknhngnhjdpedaaGreat
