/- Bodies, part 1. -/
import Derived.KernelRfl
import Derived.Test.YtknhngnhjdpedaaGreatEnv
set_option linter.unusedVariables false
namespace Go.Ev.YtknhngnhjdpedaaGreat
open Go.Ev
noncomputable section
variable {o : List TV}
def zCD (call : Oracle) (x0 x1 x2 : List Int) (x3 x4 : Int) : Option (List TV) :=
  bif decide (x4 < x3) then
    bif (decide (0 ≤ x4) && decide (x4 < 8)) then
      bif (decide (0 ≤ (List.getD x0 (Int.toNat x4) 0)) && decide ((List.getD x0 (Int.toNat x4) 0) < 8)) then
        call zB3 [tA8 x0, tA8 x1, tA8 (List.set x2 (Int.toNat (List.getD x0 (Int.toNat x4) 0)) (wu8 (x4))), tI x3, tI (wi64 (x4 + 1))]
      else none
    else none
  else
    some [tI 0, tA8 x1, tA8 x2]
theorem zGU (x0 x1 x2 : List Int) (x3 x4 : Int) (h : zCD R x0 x1 x2 x3 x4 = some o) : R zB3 [tA8 x0, tA8 x1, tA8 x2, tI x3, tI x4] = some o := go_ (b := fun c => zCD c x0 x1 x2 x3 x4) (fun c => by kernel_rfl) h
def zGG (call : Oracle) (a0 : List Int) (a1 : Int) : Option (List TV) :=
  (call zB3 [tA8 a0, tA8 (List.replicate 8 0), tA8 (List.replicate 8 0), tI a1, tI 0]).bind fun o1 =>
  some [tA8 (gA8 o1 2)]
theorem zNd (a0 : List Int) (a1 : Int) (h : zGG R a0 a1 = some o) : R zCX [tA8 a0, tI a1] = some o := go_ (b := fun c => zGG c a0 a1) (fun c => by kernel_rfl) h
def zBH (call : Oracle) (x0 x1 : List Int) (x2 x3 : Int) : Option (List TV) :=
  bif decide (x3 < x2) then
    bif (x2 != 0) then
      bif (decide (0 ≤ x3) && decide (x3 < 8)) then
        call zA9 [tA8 x0, tA8 (List.set x1 (Int.toNat x3) (wu8 ((Int.tmod (wi64 (x3 + 1)) x2)))), tI x2, tI (wi64 (x3 + 1))]
      else none
    else none
  else
    some [tI 0, tA8 x0, tA8 x1]
theorem zEs (x0 x1 : List Int) (x2 x3 : Int) (h : zBH R x0 x1 x2 x3 = some o) : R zA9 [tA8 x0, tA8 x1, tI x2, tI x3] = some o := go_ (b := fun c => zBH c x0 x1 x2 x3) (fun c => by kernel_rfl) h
def zEh (call : Oracle) (a0 : Int) : Option (List TV) :=
  (call zA9 [tA8 (List.replicate 8 0), tA8 (List.replicate 8 0), tI a0, tI 0]).bind fun o1 =>
  some [tA8 (gA8 o1 2)]
theorem zLT (a0 : Int) (h : zEh R a0 = some o) : R zCo [tI a0] = some o := go_ (b := fun c => zEh c a0) (fun c => by kernel_rfl) h
def zB8 (call : Oracle) (x0 x1 : List Int) (x2 x3 : List Int) (x4 x5 : Int) : Option (List TV) :=
  bif decide (x5 < x4) then
    bif (decide (0 ≤ x5) && decide (x5 < 8)) then
      bif (decide (0 ≤ (List.getD x0 (Int.toNat x5) 0)) && decide ((List.getD x0 (Int.toNat x5) 0) < 8)) then
        bif (decide (0 ≤ x5) && decide (x5 < 8)) then
          call zBz [tA8 x0, tA8 x1, tA8 x2, tA8 (List.set x3 (Int.toNat x5) (List.getD x1 (Int.toNat (List.getD x0 (Int.toNat x5) 0)) 0)), tI x4, tI (wi64 (x5 + 1))]
        else none
      else none
    else none
  else
    some [tI 0, tA8 x2, tA8 x3]
theorem zGO (x0 x1 : List Int) (x2 x3 : List Int) (x4 x5 : Int) (h : zB8 R x0 x1 x2 x3 x4 x5 = some o) : R zBz [tA8 x0, tA8 x1, tA8 x2, tA8 x3, tI x4, tI x5] = some o := go_ (b := fun c => zB8 c x0 x1 x2 x3 x4 x5) (fun c => by kernel_rfl) h
def zGB (call : Oracle) (a0 a1 : List Int) (a2 : Int) : Option (List TV) :=
  (call zBz [tA8 a0, tA8 a1, tA8 (List.replicate 8 0), tA8 (List.replicate 8 0), tI a2, tI 0]).bind fun o1 =>
  some [tA8 (gA8 o1 2)]
theorem zNY (a0 a1 : List Int) (a2 : Int) (h : zGB R a0 a1 a2 = some o) : R zCW [tA8 a0, tA8 a1, tI a2] = some o := go_ (b := fun c => zGB c a0 a1 a2) (fun c => by kernel_rfl) h
def zA0 (call : Oracle) (a0 : List Int) (a1 : Int) : Option (List TV) :=
  (call zCX [tA8 a0, tI a1]).bind fun o1 =>
  (call zCo [tI a1]).bind fun o2 =>
  (call zCW [tA8 (gA8 o1 0), tA8 (gA8 o2 0), tI a1]).bind fun o3 =>
  some [tA8 (gA8 o3 0)]
theorem zGu (a0 : List Int) (a1 : Int) (h : zA0 R a0 a1 = some o) : R za [tA8 a0, tI a1] = some o := go_ (b := fun c => zA0 c a0 a1) (fun c => by kernel_rfl) h
def kV (call : Oracle) (a0 a1 : List Int) (a2 : Int) : Option (List TV) :=
  (call zCV [tA8 a0, tA8 a1, tI a2]).bind fun o1 =>
  bif ((gI o1 0) != 0) then
    some [tA8 (List.replicate 8 0), tI (gI o1 0)]
  else
    (call za [tA8 a0, tI a2]).bind fun o2 =>
    (call za [tA8 a1, tI a2]).bind fun o3 =>
    (call zBT [tA8 (gA8 o2 0), tA8 (gA8 o3 0), tI a2]).bind fun o4 =>
    (call zCo [tI a2]).bind fun o5 =>
    (call zCX [tA8 (gA8 o4 0), tI a2]).bind fun o6 =>
    (call zCW [tA8 (gA8 o5 0), tA8 (gA8 o6 0), tI a2]).bind fun o7 =>
    some [tA8 (gA8 o7 0), tI 0]
theorem zAV (a0 a1 : List Int) (a2 : Int) (h : kV R a0 a1 a2 = some o) : R jH [tA8 a0, tA8 a1, tI a2] = some o := go_ (b := fun c => kV c a0 a1 a2) (fun c => by kernel_rfl) h
def zIF (call : Oracle) (a0 : List Int) (a1 : Int) : Option (List TV) :=
  (call zBA [tA8 a0, tI a1]).bind fun o1 =>
  some [tB (gB o1 0)]
theorem zOY (a0 : List Int) (a1 : Int) (h : zIF R a0 a1 = some o) : R zHn [tA8 a0, tI a1] = some o := go_ (b := fun c => zIF c a0 a1) (fun c => by kernel_rfl) h
def zDH (call : Oracle) (x0 x1 x2 : List Int) (x3 x4 : Int) : Option (List TV) :=
  bif decide (x4 < x3) then
    bif (decide (0 ≤ x4) && decide (x4 < 8)) then
      bif (decide (0 ≤ (List.getD x0 (Int.toNat x4) 0)) && decide ((List.getD x0 (Int.toNat x4) 0) < 8)) then
        call zCy [tA8 x0, tA8 x1, tA8 (List.set x2 (Int.toNat (List.getD x0 (Int.toNat x4) 0)) (wu8 (x4))), tI x3, tI (wi64 (x4 + 1))]
      else none
    else none
  else
    some [tI 0, tA8 x1, tA8 x2]
theorem zHM (x0 x1 x2 : List Int) (x3 x4 : Int) (h : zDH R x0 x1 x2 x3 x4 = some o) : R zCy [tA8 x0, tA8 x1, tA8 x2, tI x3, tI x4] = some o := go_ (b := fun c => zDH c x0 x1 x2 x3 x4) (fun c => by kernel_rfl) h
def zIO (call : Oracle) (a0 : List Int) (a1 : Int) : Option (List TV) :=
  (call zCy [tA8 a0, tA8 (List.replicate 8 0), tA8 (List.replicate 8 0), tI a1, tI 0]).bind fun o1 =>
  some [tA8 (gA8 o1 2)]
theorem zOd (a0 : List Int) (a1 : Int) (h : zIO R a0 a1 = some o) : R zHr [tA8 a0, tI a1] = some o := go_ (b := fun c => zIO c a0 a1) (fun c => by kernel_rfl) h
def zEo (call : Oracle) (a0 : List Int) (a1 : Int) : Option (List TV) :=
  (call zHr [tA8 a0, tI a1]).bind fun o1 =>
  some [tA8 (gA8 o1 0)]
theorem zLa (a0 : List Int) (a1 : Int) (h : zEo R a0 a1 = some o) : R zEb [tA8 a0, tI a1] = some o := go_ (b := fun c => zEo c a0 a1) (fun c => by kernel_rfl) h
def zAi (call : Oracle) (x0 x1 : List Int) (x2 x3 x4 : Int) : Option (List TV) :=
  bif decide (x4 < x3) then
    bif (x2 != 0) then
      bif (decide (0 ≤ x4) && decide (x4 < 8)) then
        call zAb [tA8 x0, tA8 (List.set x1 (Int.toNat x4) (wu8 ((Int.tmod (wi64 (x4 + 1)) x2)))), tI x2, tI x3, tI (wi64 (x4 + 1))]
      else none
    else none
  else
    some [tI 0, tA8 x0, tA8 x1]
theorem zD5 (x0 x1 : List Int) (x2 x3 x4 : Int) (h : zAi R x0 x1 x2 x3 x4 = some o) : R zAb [tA8 x0, tA8 x1, tI x2, tI x3, tI x4] = some o := go_ (b := fun c => zAi c x0 x1 x2 x3 x4) (fun c => by kernel_rfl) h
def zDi (call : Oracle) (a0 : Int) : Option (List TV) :=
  (call zAb [tA8 (List.replicate 8 0), tA8 (List.replicate 8 0), tI a0, tI a0, tI 0]).bind fun o1 =>
  some [tA8 (gA8 o1 2)]
theorem zKQ (a0 : Int) (h : zDi R a0 = some o) : R zDd [tI a0] = some o := go_ (b := fun c => zDi c a0) (fun c => by kernel_rfl) h
def zFd (call : Oracle) (x0 x1 : List Int) (x2 x3 : List Int) (x4 x5 : Int) : Option (List TV) :=
  bif decide (x5 < x4) then
    bif (decide (0 ≤ x5) && decide (x5 < 8)) then
      bif (decide (0 ≤ (List.getD x0 (Int.toNat x5) 0)) && decide ((List.getD x0 (Int.toNat x5) 0) < 8)) then
        bif (decide (0 ≤ x5) && decide (x5 < 8)) then
          call zFM [tA8 x0, tA8 x1, tA8 x2, tA8 (List.set x3 (Int.toNat x5) (List.getD x1 (Int.toNat (List.getD x0 (Int.toNat x5) 0)) 0)), tI x4, tI (wi64 (x5 + 1))]
        else none
      else none
    else none
  else
    some [tI 0, tA8 x2, tA8 x3]
theorem zKR (x0 x1 : List Int) (x2 x3 : List Int) (x4 x5 : Int) (h : zFd R x0 x1 x2 x3 x4 x5 = some o) : R zFM [tA8 x0, tA8 x1, tA8 x2, tA8 x3, tI x4, tI x5] = some o := go_ (b := fun c => zFd c x0 x1 x2 x3 x4 x5) (fun c => by kernel_rfl) h
def zMe (call : Oracle) (a0 a1 : List Int) (a2 : Int) : Option (List TV) :=
  (call zFM [tA8 a0, tA8 a1, tA8 (List.replicate 8 0), tA8 (List.replicate 8 0), tI a2, tI 0]).bind fun o1 =>
  some [tA8 (gA8 o1 2)]
theorem zRi (a0 a1 : List Int) (a2 : Int) (h : zMe R a0 a1 a2 = some o) : R zLz [tA8 a0, tA8 a1, tI a2] = some o := go_ (b := fun c => zMe c a0 a1 a2) (fun c => by kernel_rfl) h
def zEk (call : Oracle) (a0 a1 : List Int) (a2 : Int) : Option (List TV) :=
  (call zLz [tA8 a0, tA8 a1, tI a2]).bind fun o1 =>
  some [tA8 (gA8 o1 0)]
theorem zLW (a0 a1 : List Int) (a2 : Int) (h : zEk R a0 a1 a2 = some o) : R zEY [tA8 a0, tA8 a1, tI a2] = some o := go_ (b := fun c => zEk c a0 a1 a2) (fun c => by kernel_rfl) h
def zAS (call : Oracle) (a0 : List Int) (a1 : Int) : Option (List TV) :=
  (call zEb [tA8 a0, tI a1]).bind fun o1 =>
  (call zDd [tI a1]).bind fun o2 =>
  (call zEY [tA8 (gA8 o1 0), tA8 (gA8 o2 0), tI a1]).bind fun o3 =>
  some [tA8 (gA8 o3 0)]
theorem zFm (a0 : List Int) (a1 : Int) (h : zAS R a0 a1 = some o) : R zAM [tA8 a0, tI a1] = some o := go_ (b := fun c => zAS c a0 a1) (fun c => by kernel_rfl) h
def kK (call : Oracle) (a0 : List Int) (a1 : Int) : Option (List TV) :=
  (call zj [tA8 a0, tI a1]).bind fun o1 =>
  bif (!(gB o1 0)) then
    some [tA8 (List.replicate 8 0), tI 1]
  else
    (call zAM [tA8 a0, tI a1]).bind fun o2 =>
    some [tA8 (gA8 o2 0), tI 0]
theorem zBX (a0 : List Int) (a1 : Int) (h : kK R a0 a1 = some o) : R zk [tA8 a0, tI a1] = some o := go_ (b := fun c => kK c a0 a1) (fun c => by kernel_rfl) h
def zBN (call : Oracle) (x0 : List Int) (x1 : List (List Int)) (x2 x3 x4 : Int) : Option (List TV) :=
  bif decide (x4 < x3) then
    bif (decide (0 ≤ x4) && decide (x4 < ((List.length x0 : Nat) : Int))) then
      bif ((List.getD x0 (Int.toNat x4) 0) != x4) then
        call jx [tLI x0, tLLI x1, tI x2, tI x3, tI (wi64 (x4 + 1))]
      else
        (call jw [tLI x0, tLLI x1, tLI [], tI x2, tI x4, tI x4, tI x3, tI x4]).bind fun o3 =>
        bif (apOk (gLLI o3 2) [(gLI o3 3)]) then
          call jx [tLI (gLI o3 1), tLLI ((gLLI o3 2) ++ [(gLI o3 3)]), tI (gI o3 4), tI (gI o3 5), tI (wi64 ((gI o3 6) + 1))]
        else none
    else none
  else
    some [tI 0, tLLI x1]
theorem zEz (x0 : List Int) (x1 : List (List Int)) (x2 x3 x4 : Int) (h : zBN R x0 x1 x2 x3 x4 = some o) : R jx [tLI x0, tLLI x1, tI x2, tI x3, tI x4] = some o := go_ (b := fun c => zBN c x0 x1 x2 x3 x4) (fun c => by kernel_rfl) h
def zBM (call : Oracle) (x0 : List Int) (x1 : List (List Int)) (x2 : List Int) (x3 x4 : Int) (x5 x6 x7 : Int) : Option (List TV) :=
  bif decide (x5 < x3) then
    bif (decide (0 ≤ x5) && decide (x5 < ((List.length x0 : Nat) : Int))) then
      bif ((List.getD x0 (Int.toNat x5) 0) == x4) then
        bif (apOk x2 [x5]) then
          call jw [tLI x0, tLLI x1, tLI (x2 ++ [x5]), tI x3, tI x4, tI (wi64 (x5 + 1)), tI x6, tI x7]
        else none
      else
        call jw [tLI x0, tLLI x1, tLI x2, tI x3, tI x4, tI (wi64 (x5 + 1)), tI x6, tI x7]
    else none
  else
    some [tI 0, tLI x0, tLLI x1, tLI x2, tI x3, tI x6, tI x7]
theorem zEy (x0 : List Int) (x1 : List (List Int)) (x2 : List Int) (x3 x4 : Int) (x5 x6 x7 : Int) (h : zBM R x0 x1 x2 x3 x4 x5 x6 x7 = some o) : R jw [tLI x0, tLLI x1, tLI x2, tI x3, tI x4, tI x5, tI x6, tI x7] = some o := go_ (b := fun c => zBM c x0 x1 x2 x3 x4 x5 x6 x7) (fun c => by kernel_rfl) h
def zEn (call : Oracle) (a0 : List Int) (a1 : Int) : Option (List TV) :=
  (call kg [tA8 a0, tI a1]).bind fun o1 =>
  (call jx [tLI (gLI o1 0), tLLI [], tI a1, tI a1, tI 0]).bind fun o4 =>
  some [tLLI (gLLI o4 1)]
theorem zLZ (a0 : List Int) (a1 : Int) (h : zEn R a0 a1 = some o) : R zAN [tA8 a0, tI a1] = some o := go_ (b := fun c => zEn c a0 a1) (fun c => by kernel_rfl) h
def zDk (call : Oracle) (a0 : List Int) (a1 : Int) : Option (List TV) :=
  (call zj [tA8 a0, tI a1]).bind fun o1 =>
  bif (!(gB o1 0)) then
    some [tI 0, tI 1]
  else
    (call zAN [tA8 a0, tI a1]).bind fun o2 =>
    some [tI (wi64 (a1 - ((List.length (gLLI o2 0) : Nat) : Int))), tI 0]
theorem zHN (a0 : List Int) (a1 : Int) (h : zDk R a0 a1 = some o) : R zBg [tA8 a0, tI a1] = some o := go_ (b := fun c => zDk c a0 a1) (fun c => by kernel_rfl) h
def zBK (call : Oracle) (x0 x1 x2 : List Int) (x3 x4 : Int) (x5 x6 : Int) : Option (List TV) :=
  bif decide (x6 < x5) then
    bif (x3 != 0) then
      bif (decide (0 ≤ x6) && decide (x6 < 8)) then
        bif (x3 != 0) then
          bif (decide (0 ≤ (Int.tmod (wi64 (x6 + x4)) x3)) && decide ((Int.tmod (wi64 (x6 + x4)) x3) < 8)) then
            call zBD [tA8 x0, tA8 x1, tA8 (List.set x2 (Int.toNat (Int.tmod (wi64 (x6 + x4)) x3)) (wu8 ((Int.tmod (wi64 ((wi64 ((List.getD x0 (Int.toNat x6) 0))) + x4)) x3)))), tI x3, tI x4, tI x5, tI (wi64 (x6 + 1))]
          else none
        else none
      else none
    else none
  else
    some [tI 0, tA8 x1, tA8 x2]
theorem zEw (x0 x1 x2 : List Int) (x3 x4 : Int) (x5 x6 : Int) (h : zBK R x0 x1 x2 x3 x4 x5 x6 = some o) : R zBD [tA8 x0, tA8 x1, tA8 x2, tI x3, tI x4, tI x5, tI x6] = some o := go_ (b := fun c => zBK c x0 x1 x2 x3 x4 x5 x6) (fun c => by kernel_rfl) h
def zEj (call : Oracle) (a0 : List Int) (a1 a2 : Int) : Option (List TV) :=
  bif (a1 != 0) then
    bif (a1 != 0) then
      (call zBD [tA8 a0, tA8 (List.replicate 8 0), tA8 (List.replicate 8 0), tI a1, tI (Int.tmod (wi64 ((Int.tmod a2 a1) + a1)) a1), tI a1, tI 0]).bind fun o1 =>
      some [tA8 (gA8 o1 2)]
    else none
  else none
theorem zLV (a0 : List Int) (a1 a2 : Int) (h : zEj R a0 a1 a2 = some o) : R zEX [tA8 a0, tI a1, tI a2] = some o := go_ (b := fun c => zEj c a0 a1 a2) (fun c => by kernel_rfl) h
def zBO (call : Oracle) (a0 : List Int) (a1 : Int) : Option (List TV) :=
  (call zj [tA8 a0, tI a1]).bind fun o1 =>
  bif (!(gB o1 0)) then
    some [tA8 (List.replicate 8 0), tI 1]
  else
    (call zEX [tA8 a0, tI a1, tI 1]).bind fun o2 =>
    some [tA8 (gA8 o2 0), tI 0]
theorem zE0 (a0 : List Int) (a1 : Int) (h : zBO R a0 a1 = some o) : R kw [tA8 a0, tI a1] = some o := go_ (b := fun c => zBO c a0 a1) (fun c => by kernel_rfl) h
def zBn (call : Oracle) (a0 : List Int) (a1 : Int) : Option (List TV) :=
  (call zj [tA8 a0, tI a1]).bind fun o1 =>
  bif (!(gB o1 0)) then
    some [tLLI [], tI 1]
  else
    (call zAN [tA8 a0, tI a1]).bind fun o2 =>
    some [tLLI (gLLI o2 0), tI 0]
theorem zHP (a0 : List Int) (a1 : Int) (h : zBn R a0 a1 = some o) : R zBh [tA8 a0, tI a1] = some o := go_ (b := fun c => zBn c a0 a1) (fun c => by kernel_rfl) h
def kA (call : Oracle) (x0 x1 : List Int) (x2 : List Bool) (x3 : List (List Int)) (x4 x5 x6 : Int) : Option (List TV) :=
  bif decide (x6 < x5) then
    bif (decide (0 ≤ x6) && decide (x6 < ((List.length x3 : Nat) : Int))) then
      bif (((List.length (List.getD x3 (Int.toNat x6) []) : Nat) : Int) == 0) then
        some [tI 1, tA8 (List.replicate 8 0), tI 2]
      else
        (call zr [tA8 x0, tLI x1, tLB x2, tLI (List.getD x3 (Int.toNat x6) []), tLLI x3, tI x4, tI x5, tI x6, tI ((List.length (List.getD x3 (Int.toNat x6) []) : Nat) : Int), tI 0]).bind fun o10 =>
        bif ((gI o10 0) == 0) then
          call kx [tA8 (gA8 o10 1), tLI (gLI o10 2), tLB (gLB o10 3), tLLI (gLLI o10 4), tI (gI o10 5), tI (gI o10 6), tI (wi64 ((gI o10 7) + 1))]
        else
          some [tI 1, tA8 (gA8 o10 1), tI (gI o10 2)]
    else none
  else
    some [tI 0, tA8 x0, tLI x1]
theorem zCS (x0 x1 : List Int) (x2 : List Bool) (x3 : List (List Int)) (x4 x5 x6 : Int) (h : kA R x0 x1 x2 x3 x4 x5 x6 = some o) : R kx [tA8 x0, tLI x1, tLB x2, tLLI x3, tI x4, tI x5, tI x6] = some o := go_ (b := fun c => kA c x0 x1 x2 x3 x4 x5 x6) (fun c => by kernel_rfl) h
def kY (call : Oracle) (x0 x1 : List Int) (x2 : List Bool) (x3 : List Int) (x4 : List (List Int)) (x5 x6 : Int) (x7 x8 x9 : Int) : Option (List TV) :=
  bif decide (x9 < x8) then
    bif (decide (0 ≤ x9) && decide (x9 < ((List.length x3 : Nat) : Int))) then
      (call jv [tI (List.getD x3 (Int.toNat x9) 0), tI 0, tI (wi64 (x5 - 1))]).bind fun o6 =>
      bif (!(gB o6 0)) then
        some [tI 1, tA8 (List.replicate 8 0), tI 2]
      else
        bif (decide (0 ≤ (List.getD x3 (Int.toNat x9) 0)) && decide ((List.getD x3 (Int.toNat x9) 0) < ((List.length x2 : Nat) : Int))) then
          bif (List.getD x2 (Int.toNat (List.getD x3 (Int.toNat x9) 0)) false) then
            some [tI 1, tA8 (List.replicate 8 0), tI 2]
          else
            bif decide (0 < x9) then
              bif (decide (0 ≤ (wi64 (x9 - 1))) && decide ((wi64 (x9 - 1)) < ((List.length x3 : Nat) : Int))) then
                bif decide ((List.getD x3 (Int.toNat x9) 0) ≤ (List.getD x3 (Int.toNat (wi64 (x9 - 1))) 0)) then
                  some [tI 1, tA8 (List.replicate 8 0), tI 2]
                else
                  bif (decide (0 ≤ (List.getD x3 (Int.toNat x9) 0)) && decide ((List.getD x3 (Int.toNat x9) 0) < ((List.length x2 : Nat) : Int))) then
                    bif decide (0 < ((List.length x3 : Nat) : Int)) then
                      (call i_i_groups__merge [tLI x1, tI (List.getD x3 0 0), tI (List.getD x3 (Int.toNat x9) 0)]).bind fun o7 =>
                      call zr [tA8 x0, tLI (gLI o7 0), tLB (List.set x2 (Int.toNat (List.getD x3 (Int.toNat x9) 0)) true), tLI x3, tLLI x4, tI x5, tI x6, tI x7, tI x8, tI (wi64 (x9 + 1))]
                    else none
                  else none
              else none
            else
              bif (decide (0 ≤ (List.getD x3 (Int.toNat x9) 0)) && decide ((List.getD x3 (Int.toNat x9) 0) < ((List.length x2 : Nat) : Int))) then
                bif decide (0 < ((List.length x3 : Nat) : Int)) then
                  (call i_i_groups__merge [tLI x1, tI (List.getD x3 0 0), tI (List.getD x3 (Int.toNat x9) 0)]).bind fun o8 =>
                  call zr [tA8 x0, tLI (gLI o8 0), tLB (List.set x2 (Int.toNat (List.getD x3 (Int.toNat x9) 0)) true), tLI x3, tLLI x4, tI x5, tI x6, tI x7, tI x8, tI (wi64 (x9 + 1))]
                else none
              else none
        else none
    else none
  else
    some [tI 0, tA8 x0, tLI x1, tLB x2, tLLI x4, tI x5, tI x6, tI x7]
theorem zBr (x0 x1 : List Int) (x2 : List Bool) (x3 : List Int) (x4 : List (List Int)) (x5 x6 : Int) (x7 x8 x9 : Int) (h : kY R x0 x1 x2 x3 x4 x5 x6 x7 x8 x9 = some o) : R zr [tA8 x0, tLI x1, tLB x2, tLI x3, tLLI x4, tI x5, tI x6, tI x7, tI x8, tI x9] = some o := go_ (b := fun c => kY c x0 x1 x2 x3 x4 x5 x6 x7 x8 x9) (fun c => by kernel_rfl) h
def zAH (call : Oracle) (a0 : List (List Int)) (a1 : Int) : Option (List TV) :=
  (call zBU [tI a1]).bind fun o1 =>
  bif (!(gB o1 0)) then
    some [tA8 (List.replicate 8 0), tI 2]
  else
    (call kt [tI a1]).bind fun o2 =>
    bif (mkOk a1) then
      (call kx [tA8 (List.replicate 8 0), tLI (gLI o2 0), tLB (List.replicate (Int.toNat a1) false), tLLI a0, tI a1, tI ((List.length a0 : Nat) : Int), tI 0]).bind fun o11 =>
      bif ((gI o11 0) == 0) then
        (call i_i_groups__crossing [tLI (gLI o11 2)]).bind fun o12 =>
        bif (gB o12 2) then
          some [tA8 (List.replicate 8 0), tI 1]
        else
          (call i_i_groups__part [tLI (gLI o11 2)]).bind fun o13 =>
          some [tA8 (gA8 o13 0), tI 0]
      else
        some [tA8 (gA8 o11 1), tI (gI o11 2)]
    else none
theorem zHO (a0 : List (List Int)) (a1 : Int) (h : zAH R a0 a1 = some o) : R jy [tLLI a0, tI a1] = some o := go_ (b := fun c => zAH c a0 a1) (fun c => by kernel_rfl) h
def zFf (call : Oracle) (x0 : List Int) (x1 x2 x3 : Int) : Option (List TV) :=
  bif decide (x2 < x3) then
    bif (apOk x0 [x3]) then
      call zFO [tLI (x0 ++ [x3]), tI x1, tI x2, tI (wi64 (x3 - 1))]
    else none
  else
    some [tI 0, tLI x0, tI x1, tI x2]
theorem zKU (x0 : List Int) (x1 x2 x3 : Int) (h : zFf R x0 x1 x2 x3 = some o) : R zFO [tLI x0, tI x1, tI x2, tI x3] = some o := go_ (b := fun c => zFf c x0 x1 x2 x3) (fun c => by kernel_rfl) h
def zFe (call : Oracle) (x0 : List Int) (x1 x2 : Int) : Option (List TV) :=
  bif decide (x2 ≤ x1) then
    bif (apOk x0 [(wi64 (0 - x2))]) then
      call zFN [tLI (x0 ++ [(wi64 (0 - x2))]), tI x1, tI (wi64 (x2 + 1))]
    else none
  else
    some [tI 0, tLI x0]
theorem zKT (x0 : List Int) (x1 x2 : Int) (h : zFe R x0 x1 x2 = some o) : R zFN [tLI x0, tI x1, tI x2] = some o := go_ (b := fun c => zFe c x0 x1 x2) (fun c => by kernel_rfl) h
def zMg (call : Oracle) (a0 a1 : Int) : Option (List TV) :=
  (call zFO [tLI [], tI a0, tI a1, tI a0]).bind fun o1 =>
  (call zFN [tLI (gLI o1 1), tI (gI o1 2), tI (wi64 ((gI o1 3) + 2))]).bind fun o2 =>
  some [tLI (gLI o2 1)]
theorem zRk (a0 a1 : Int) (h : zMg R a0 a1 = some o) : R zJu [tI a0, tI a1] = some o := go_ (b := fun c => zMg c a0 a1) (fun c => by kernel_rfl) h
def zAG (call : Oracle) (x0 : List Int) (x1 : List (List Int)) (x2 x3 : Int) : Option (List TV) :=
  bif decide (x3 < x2) then
    bif (decide (0 ≤ x3) && decide (x3 < ((List.length x1 : Nat) : Int))) then
      (call jt [tLI x0, tLI (List.getD x1 (Int.toNat x3) []), tLLI x1, tI (wi64 (((List.length (List.getD x1 (Int.toNat x3) []) : Nat) : Int) - 1)), tI x2, tI x3]).bind fun o5 =>
      call ju [tLI (gLI o5 1), tLLI (gLLI o5 2), tI (gI o5 3), tI (wi64 ((gI o5 4) + 1))]
    else none
  else
    some [tI 0, tLI x0]
theorem zDU (x0 : List Int) (x1 : List (List Int)) (x2 x3 : Int) (h : zAG R x0 x1 x2 x3 = some o) : R ju [tLI x0, tLLI x1, tI x2, tI x3] = some o := go_ (b := fun c => zAG c x0 x1 x2 x3) (fun c => by kernel_rfl) h
def zAF (call : Oracle) (x0 x1 : List Int) (x2 : List (List Int)) (x3 x4 x5 : Int) : Option (List TV) :=
  bif decide (0 < x3) then
    bif (decide (0 ≤ x3) && decide (x3 < ((List.length x1 : Nat) : Int))) then
      bif (decide (0 ≤ (wi64 (x3 - 1))) && decide ((wi64 (x3 - 1)) < ((List.length x1 : Nat) : Int))) then
        (call zJu [tI (List.getD x1 (Int.toNat x3) 0), tI (List.getD x1 (Int.toNat (wi64 (x3 - 1))) 0)]).bind fun o3 =>
        bif (apOk x0 (gLI o3 0)) then
          call jt [tLI (x0 ++ (gLI o3 0)), tLI x1, tLLI x2, tI (wi64 (x3 - 1)), tI x4, tI x5]
        else none
      else none
    else none
  else
    some [tI 0, tLI x0, tLLI x2, tI x4, tI x5]
theorem zDT (x0 x1 : List Int) (x2 : List (List Int)) (x3 x4 x5 : Int) (h : zAF R x0 x1 x2 x3 x4 x5 = some o) : R jt [tLI x0, tLI x1, tLLI x2, tI x3, tI x4, tI x5] = some o := go_ (b := fun c => zAF c x0 x1 x2 x3 x4 x5) (fun c => by kernel_rfl) h
def zDD (call : Oracle) (a0 : List Int) (a1 : Int) : Option (List TV) :=
  (call zAN [tA8 a0, tI a1]).bind fun o1 =>
  (call ju [tLI [], tLLI (gLLI o1 0), tI ((List.length (gLLI o1 0) : Nat) : Int), tI 0]).bind fun o6 =>
  some [tLI (gLI o6 1)]
theorem zJP (a0 : List Int) (a1 : Int) (h : zDD R a0 a1 = some o) : R zCv [tA8 a0, tI a1] = some o := go_ (b := fun c => zDD c a0 a1) (fun c => by kernel_rfl) h
def zDI (call : Oracle) (a0 : List Int) (a1 : Int) : Option (List TV) :=
  (call zj [tA8 a0, tI a1]).bind fun o1 =>
  bif (!(gB o1 0)) then
    some [jE (0, []), tI 1]
  else
    (call zCv [tA8 a0, tI a1]).bind fun o2 =>
    some [jE (a1, (gLI o2 0)), tI 0]
theorem zJR (a0 : List Int) (a1 : Int) (h : zDI R a0 a1 = some o) : R zCz [tA8 a0, tI a1] = some o := go_ (b := fun c => zDI c a0 a1) (fun c => by kernel_rfl) h
def zEl (call : Oracle) (a0 a1 : Int) : Option (List TV) :=
  bif (a0 != 0) then
    (call jv [tI a0, tI (wi64 (1 - a1)), tI (wi64 (a1 - 1))]).bind fun o1 =>
    some [tB (gB o1 0)]
  else
    some [tB false]
theorem zLX (a0 a1 : Int) (h : zEl R a0 a1 = some o) : R zEZ [tI a0, tI a1] = some o := go_ (b := fun c => zEl c a0 a1) (fun c => by kernel_rfl) h
def zCG (call : Oracle) (x0 : Int) (x1 : List Int) (x2 x3 : Int) : Option (List TV) :=
  bif decide (x3 < x2) then
    bif (decide (0 ≤ x3) && decide (x3 < ((List.length x1 : Nat) : Int))) then
      (call zEZ [tI (List.getD x1 (Int.toNat x3) 0), tI x0]).bind fun o3 =>
      bif (!(gB o3 0)) then
        some [tI 1, tB false]
      else
        call zB6 [tI x0, tLI x1, tI x2, tI (wi64 (x3 + 1))]
    else none
  else
    some [tI 0]
theorem zGY (x0 : Int) (x1 : List Int) (x2 x3 : Int) (h : zCG R x0 x1 x2 x3 = some o) : R zB6 [tI x0, tLI x1, tI x2, tI x3] = some o := go_ (b := fun c => zCG c x0 x1 x2 x3) (fun c => by kernel_rfl) h
def zGK (call : Oracle) (a0 : Int × List Int) : Option (List TV) :=
  (call zBU [tI a0.1]).bind fun o1 =>
  bif (!(gB o1 0)) then
    some [tB false]
  else
    bif decide (200 < ((List.length a0.2 : Nat) : Int)) then
      some [tB false]
    else
      (call zB6 [tI a0.1, tLI a0.2, tI ((List.length a0.2 : Nat) : Int), tI 0]).bind fun o4 =>
      bif ((gI o4 0) == 0) then
        some [tB true]
      else
        some [tB (gB o4 1)]
theorem zNg (a0 : Int × List Int) (h : zGK R a0 = some o) : R zDt [jE a0] = some o := go_ (b := fun c => zGK c a0) (fun c => by kernel_rfl) h
def zMf (call : Oracle) (a0 : Int) : Option (List TV) :=
  some [tI (mx a0 (wi64 (0 - a0)))]
theorem zRj (a0 : Int) (h : zMf R a0 = some o) : R zL0 [tI a0] = some o := go_ (b := fun c => zMf c a0) (fun c => by kernel_rfl) h
def zEm (call : Oracle) (a0 a1 a2 : Int) : Option (List TV) :=
  some []
theorem zLY (a0 a1 a2 : Int) (h : zEm R a0 a1 a2 = some o) : R zEa [tI a0, tI a1, tI a2] = some o := go_ (b := fun c => zEm c a0 a1 a2) (fun c => by kernel_rfl) h
def zDE (call : Oracle) (x0 x1 : List Int) (x2 x3 : Int) : Option (List TV) :=
  bif decide (x3 < x2) then
    bif (decide (0 ≤ x3) && decide (x3 < ((List.length x1 : Nat) : Int))) then
      (call zL0 [tI (List.getD x1 (Int.toNat x3) 0)]).bind fun o4 =>
      bif (decide (0 ≤ (wi64 ((gI o4 0) - 1))) && decide ((wi64 ((gI o4 0) - 1)) < ((List.length x0 : Nat) : Int))) then
        bif (decide (0 ≤ (gI o4 0)) && decide ((gI o4 0) < ((List.length x0 : Nat) : Int))) then
          (call zEa [tI (List.getD x0 (Int.toNat (wi64 ((gI o4 0) - 1))) 0), tI (List.getD x0 (Int.toNat (gI o4 0)) 0), tI (List.getD x1 (Int.toNat x3) 0)]).bind fun o5 =>
          bif (decide (0 ≤ (gI o4 0)) && decide ((gI o4 0) < ((List.length x0 : Nat) : Int))) then
            bif (decide (0 ≤ (wi64 ((gI o4 0) - 1))) && decide ((wi64 ((gI o4 0) - 1)) < ((List.length x0 : Nat) : Int))) then
              bif (decide (0 ≤ (wi64 ((gI o4 0) - 1))) && decide ((wi64 ((gI o4 0) - 1)) < ((List.length x0 : Nat) : Int))) then
                bif (decide (0 ≤ (gI o4 0)) && decide ((gI o4 0) < ((List.length (List.set x0 (Int.toNat (wi64 ((gI o4 0) - 1))) (List.getD x0 (Int.toNat (gI o4 0)) 0)) : Nat) : Int))) then
                  call zCw [tLI (List.set (List.set x0 (Int.toNat (wi64 ((gI o4 0) - 1))) (List.getD x0 (Int.toNat (gI o4 0)) 0)) (Int.toNat (gI o4 0)) (List.getD x0 (Int.toNat (wi64 ((gI o4 0) - 1))) 0)), tLI x1, tI x2, tI (wi64 (x3 + 1))]
                else none
              else none
            else none
          else none
        else none
      else none
    else none
  else
    some [tI 0, tLI x0]
theorem zHK (x0 x1 : List Int) (x2 x3 : Int) (h : zDE R x0 x1 x2 x3 = some o) : R zCw [tLI x0, tLI x1, tI x2, tI x3] = some o := go_ (b := fun c => zDE c x0 x1 x2 x3) (fun c => by kernel_rfl) h
def zIM (call : Oracle) (a0 : Int × List Int) : Option (List TV) :=
  (call zAs [tI a0.1]).bind fun o1 =>
  (call zCw [tLI (gLI o1 0), tLI a0.2, tI ((List.length a0.2 : Nat) : Int), tI 0]).bind fun o6 =>
  some [tLI (gLI o6 1)]
theorem zOb (a0 : Int × List Int) (h : zIM R a0 = some o) : R zHp [jE a0] = some o := go_ (b := fun c => zIM c a0) (fun c => by kernel_rfl) h
def zDG (call : Oracle) (x0 x1 : List Int) (x2 x3 : Int) : Option (List TV) :=
  bif decide (x3 < x2) then
    bif (decide (0 ≤ x3) && decide (x3 < ((List.length x1 : Nat) : Int))) then
      bif (decide (0 ≤ (List.getD x1 (Int.toNat x3) 0)) && decide ((List.getD x1 (Int.toNat x3) 0) < ((List.length x0 : Nat) : Int))) then
        call zCx [tLI (List.set x0 (Int.toNat (List.getD x1 (Int.toNat x3) 0)) x3), tLI x1, tI x2, tI (wi64 (x3 + 1))]
      else none
    else none
  else
    some [tI 0, tLI x0]
theorem zHL (x0 x1 : List Int) (x2 x3 : Int) (h : zDG R x0 x1 x2 x3 = some o) : R zCx [tLI x0, tLI x1, tI x2, tI x3] = some o := go_ (b := fun c => zDG c x0 x1 x2 x3) (fun c => by kernel_rfl) h
def zIN (call : Oracle) (a0 : Int × List Int) : Option (List TV) :=
  bif (mkOk a0.1) then
    (call zHp [jE a0]).bind fun o1 =>
    (call zCx [tLI (List.replicate (Int.toNat a0.1) 0), tLI (gLI o1 0), tI ((List.length (gLI o1 0) : Nat) : Int), tI 0]).bind fun o2 =>
    some [tLI (gLI o2 1)]
  else none
theorem zOc (a0 : Int × List Int) (h : zIN R a0 = some o) : R zHq [jE a0] = some o := go_ (b := fun c => zIN c a0) (fun c => by kernel_rfl) h
def zIQ (call : Oracle) (a0 : Int × List Int) : Option (List TV) :=
  (call zDt [jE a0]).bind fun o1 =>
  bif (!(gB o1 0)) then
    some [tLI [], tI 1]
  else
    (call zHq [jE a0]).bind fun o2 =>
    some [tLI (gLI o2 0), tI 0]
theorem zOf (a0 : Int × List Int) (h : zIQ R a0 = some o) : R zHs [jE a0] = some o := go_ (b := fun c => zIQ c a0) (fun c => by kernel_rfl) h
def zAg (call : Oracle) (x0 : List Int) (x1 : List (List Int)) (x2 x3 : Int) : Option (List TV) :=
  bif decide (x3 < x2) then
    bif (decide (0 ≤ x3) && decide (x3 < 8)) then
      bif ((List.getD x0 (Int.toNat x3) 0) != x3) then
        call jG [tAi8 x0, tLLI x1, tI x2, tI (wi64 (x3 + 1))]
      else
        (call jF [tAi8 x0, tLLI x1, tLI [], tI x2, tI x3, tI x3]).bind fun o3 =>
        bif (apOk (gLLI o3 2) [(gLI o3 3)]) then
          call jG [tAi8 (gAi8 o3 1), tLLI ((gLLI o3 2) ++ [(gLI o3 3)]), tI (gI o3 4), tI (wi64 ((gI o3 5) + 1))]
        else none
    else none
  else
    some [tI 0, tLLI x1]
theorem zD3 (x0 : List Int) (x1 : List (List Int)) (x2 x3 : Int) (h : zAg R x0 x1 x2 x3 = some o) : R jG [tAi8 x0, tLLI x1, tI x2, tI x3] = some o := go_ (b := fun c => zAg c x0 x1 x2 x3) (fun c => by kernel_rfl) h
def zAf (call : Oracle) (x0 : List Int) (x1 : List (List Int)) (x2 : List Int) (x3 x4 x5 : Int) : Option (List TV) :=
  bif decide (x5 < x3) then
    bif (decide (0 ≤ x5) && decide (x5 < 8)) then
      bif ((List.getD x0 (Int.toNat x5) 0) == x4) then
        bif (apOk x2 [x5]) then
          call jF [tAi8 x0, tLLI x1, tLI (x2 ++ [x5]), tI x3, tI x4, tI (wi64 (x5 + 1))]
        else none
      else
        call jF [tAi8 x0, tLLI x1, tLI x2, tI x3, tI x4, tI (wi64 (x5 + 1))]
    else none
  else
    some [tI 0, tAi8 x0, tLLI x1, tLI x2, tI x3, tI x4]
theorem zD2 (x0 : List Int) (x1 : List (List Int)) (x2 : List Int) (x3 x4 x5 : Int) (h : zAf R x0 x1 x2 x3 x4 x5 = some o) : R jF [tAi8 x0, tLLI x1, tLI x2, tI x3, tI x4, tI x5] = some o := go_ (b := fun c => zAf c x0 x1 x2 x3 x4 x5) (fun c => by kernel_rfl) h
def zDg (call : Oracle) (a0 : List Int) (a1 : Int) : Option (List TV) :=
  (call kf [tA8 a0, tI a1]).bind fun o1 =>
  (call jG [tAi8 (gAi8 o1 0), tLLI [], tI a1, tI 0]).bind fun o4 =>
  some [tLLI (gLLI o4 1)]
theorem zKM (a0 : List Int) (a1 : Int) (h : zDg R a0 a1 = some o) : R jf [tA8 a0, tI a1] = some o := go_ (b := fun c => zDg c a0 a1) (fun c => by kernel_rfl) h
def zBk (call : Oracle) (x0 : List Int) : Option (List TV) :=
  dpbE call 54 55 57 56 58 x0
theorem zEM (x0 : List Int) (h : zBk R x0 = some o) : R jX [tLU8 x0] = some o := go_ (b := fun c => zBk c x0) (fun c => by kernel_rfl) h
def zy (call : Oracle) (x0 : List (List Int)) (x1 x2 : List Int) (x3 : List Bool) (x4 x5 : Int) : Option (List TV) :=
  bif decide (x5 < ((List.length x0 : Nat) : Int)) then
    (call zw [tLLI x0, tA8 x1, tAi8 x2, tAB8 x3, tI x4, tI x5, tI 0]).bind fun o5 =>
    bif ((gI o5 0) == 0) then
      bif (decide (0 ≤ (gI o5 6)) && decide ((gI o5 6) < ((List.length (gLLI o5 1) : Nat) : Int))) then
        bif (((List.length (List.getD (gLLI o5 1) (Int.toNat (gI o5 6)) []) : Nat) : Int) == 0) then
          some [tI 1, tA8 (List.replicate 8 0), tI 2]
        else
          call kq [tLLI (gLLI o5 1), tA8 (gA8 o5 2), tAi8 (gAi8 o5 3), tAB8 (gAB8 o5 4), tI (gI o5 5), tI (wi64 ((gI o5 6) + 1))]
      else none
    else
      some [tI 1, tA8 (gA8 o5 1), tI (gI o5 2)]
  else
    some [tI 0, tA8 x1, tAi8 x2, tI x4]
theorem zCR (x0 : List (List Int)) (x1 x2 : List Int) (x3 : List Bool) (x4 x5 : Int) (h : zy R x0 x1 x2 x3 x4 x5 = some o) : R kq [tLLI x0, tA8 x1, tAi8 x2, tAB8 x3, tI x4, tI x5] = some o := go_ (b := fun c => zy c x0 x1 x2 x3 x4 x5) (fun c => by kernel_rfl) h
def jA (call : Oracle) (x0 : List (List Int)) (x1 x2 : List Int) (x3 : List Bool) (x4 x5 x6 : Int) : Option (List TV) :=
  bif (decide (0 ≤ x5) && decide (x5 < ((List.length x0 : Nat) : Int))) then
    bif decide (x6 < ((List.length (List.getD x0 (Int.toNat x5) []) : Nat) : Int)) then
      bif (decide (0 ≤ x5) && decide (x5 < ((List.length x0 : Nat) : Int))) then
        bif (decide (0 ≤ x6) && decide (x6 < ((List.length (List.getD x0 (Int.toNat x5) []) : Nat) : Int))) then
          (call zBB [tI (List.getD (List.getD x0 (Int.toNat x5) []) (Int.toNat x6) 0), tI 0, tI (wi64 (x4 - 1))]).bind fun o3 =>
          bif (!(gB o3 0)) then
            some [tI 1, tA8 (List.replicate 8 0), tI 2]
          else
            bif (decide (0 ≤ (List.getD (List.getD x0 (Int.toNat x5) []) (Int.toNat x6) 0)) && decide ((List.getD (List.getD x0 (Int.toNat x5) []) (Int.toNat x6) 0) < 8)) then
              bif (List.getD x3 (Int.toNat (List.getD (List.getD x0 (Int.toNat x5) []) (Int.toNat x6) 0)) false) then
                some [tI 1, tA8 (List.replicate 8 0), tI 2]
              else
                bif decide (0 < x6) then
                  bif (decide (0 ≤ x5) && decide (x5 < ((List.length x0 : Nat) : Int))) then
                    bif (decide (0 ≤ (wi64 (x6 - 1))) && decide ((wi64 (x6 - 1)) < ((List.length (List.getD x0 (Int.toNat x5) []) : Nat) : Int))) then
                      bif decide ((List.getD (List.getD x0 (Int.toNat x5) []) (Int.toNat x6) 0) ≤ (List.getD (List.getD x0 (Int.toNat x5) []) (Int.toNat (wi64 (x6 - 1))) 0)) then
                        some [tI 1, tA8 (List.replicate 8 0), tI 2]
                      else
                        bif (decide (0 ≤ (List.getD (List.getD x0 (Int.toNat x5) []) (Int.toNat x6) 0)) && decide ((List.getD (List.getD x0 (Int.toNat x5) []) (Int.toNat x6) 0) < 8)) then
                          bif (decide (0 ≤ x5) && decide (x5 < ((List.length x0 : Nat) : Int))) then
                            bif decide (0 < ((List.length (List.getD x0 (Int.toNat x5) []) : Nat) : Int)) then
                              bif (decide (0 ≤ (List.getD (List.getD x0 (Int.toNat x5) []) (Int.toNat x6) 0)) && decide ((List.getD (List.getD x0 (Int.toNat x5) []) (Int.toNat x6) 0) < 8)) then
                                call zw [tLLI x0, tA8 x1, tAi8 (List.set x2 (Int.toNat (List.getD (List.getD x0 (Int.toNat x5) []) (Int.toNat x6) 0)) (List.getD (List.getD x0 (Int.toNat x5) []) 0 0)), tAB8 (List.set x3 (Int.toNat (List.getD (List.getD x0 (Int.toNat x5) []) (Int.toNat x6) 0)) true), tI x4, tI x5, tI (wi64 (x6 + 1))]
                              else none
                            else none
                          else none
                        else none
                    else none
                  else none
                else
                  bif (decide (0 ≤ (List.getD (List.getD x0 (Int.toNat x5) []) (Int.toNat x6) 0)) && decide ((List.getD (List.getD x0 (Int.toNat x5) []) (Int.toNat x6) 0) < 8)) then
                    bif (decide (0 ≤ x5) && decide (x5 < ((List.length x0 : Nat) : Int))) then
                      bif decide (0 < ((List.length (List.getD x0 (Int.toNat x5) []) : Nat) : Int)) then
                        bif (decide (0 ≤ (List.getD (List.getD x0 (Int.toNat x5) []) (Int.toNat x6) 0)) && decide ((List.getD (List.getD x0 (Int.toNat x5) []) (Int.toNat x6) 0) < 8)) then
                          call zw [tLLI x0, tA8 x1, tAi8 (List.set x2 (Int.toNat (List.getD (List.getD x0 (Int.toNat x5) []) (Int.toNat x6) 0)) (List.getD (List.getD x0 (Int.toNat x5) []) 0 0)), tAB8 (List.set x3 (Int.toNat (List.getD (List.getD x0 (Int.toNat x5) []) (Int.toNat x6) 0)) true), tI x4, tI x5, tI (wi64 (x6 + 1))]
                        else none
                      else none
                    else none
                  else none
            else none
        else none
      else none
    else
      some [tI 0, tLLI x0, tA8 x1, tAi8 x2, tAB8 x3, tI x4, tI x5]
  else none
theorem zCQ (x0 : List (List Int)) (x1 x2 : List Int) (x3 : List Bool) (x4 x5 x6 : Int) (h : jA R x0 x1 x2 x3 x4 x5 x6 = some o) : R zw [tLLI x0, tA8 x1, tAi8 x2, tAB8 x3, tI x4, tI x5, tI x6] = some o := go_ (b := fun c => jA c x0 x1 x2 x3 x4 x5 x6) (fun c => by kernel_rfl) h
def zAD (call : Oracle) (a0 : List (List Int)) (a1 : Int) : Option (List TV) :=
  (call zBB [tI a1, tI 1, tI 8]).bind fun o1 =>
  bif (!(gB o1 0)) then
    some [tA8 (List.replicate 8 0), tI 2]
  else
    (call kq [tLLI a0, tA8 (List.replicate 8 0), tAi8 [0, 1, 2, 3, 4, 5, 6, 7], tAB8 (List.replicate 8 false), tI a1, tI 0]).bind fun o6 =>
    bif ((gI o6 0) == 0) then
      (call zu [tAi8 (gAi8 o6 2), tI (gI o6 3)]).bind fun o7 =>
      bif (gB o7 0) then
        some [tA8 (List.replicate 8 0), tI 1]
      else
        (call je [tAi8 (gAi8 o6 2), tI (gI o6 3)]).bind fun o8 =>
        some [tA8 (gA8 o8 0), tI 0]
    else
      some [tA8 (gA8 o6 1), tI (gI o6 2)]
theorem zHH (a0 : List (List Int)) (a1 : Int) (h : zAD R a0 a1 = some o) : R zBe [tLLI a0, tI a1] = some o := go_ (b := fun c => zAD c a0 a1) (fun c => by kernel_rfl) h
def zDx (call : Oracle) (a0 : List Int × Int × Int) (a1 : Int) : Option (List TV) :=
  (call zJ [zD a0, tI 14]).bind fun o1 =>
  bif ((gI o1 0) == 0) then
    (call zl [zD (zG o1 1), tLI [(-1), (wi64 (a1 + 1)), 1099511627776, (-4611686018427387904)]]).bind fun o2 =>
    some [tI (gI o2 0), zD (zG o2 1)]
  else
    (call zJ [zD (zG o1 1), tI (wi64 (a1 + 1))]).bind fun o3 =>
    some [tI (gI o3 0), zD (zG o3 1)]
theorem zIp (a0 : List Int × Int × Int) (a1 : Int) (h : zDx R a0 a1 = some o) : R zDr [zD a0, tI a1] = some o := go_ (b := fun c => zDx c a0 a1) (fun c => by kernel_rfl) h
def zBl (call : Oracle) (a0 : List Int) : Option (List TV) :=
  (call jh [tLU8 a0]).bind fun o1 =>
  (call zDr [zD (zG o1 0), tI 6]).bind fun o2 =>
  some [tI (wi64 (1 + (gI o2 0)))]
theorem zHI (a0 : List Int) (h : zBl R a0 = some o) : R zBf [tLU8 a0] = some o := go_ (b := fun c => zBl c a0) (fun c => by kernel_rfl) h
def zDK (call : Oracle) (a0 : List Int) (a1 : List (List Int)) : Option (List TV) :=
  (call i_i_groups__crossing [tLI a0]).bind fun o1 =>
  bif (!(gB o1 2)) then
    (call i_i_groups__part [tLI a0]).bind fun o2 =>
    bif (apOk a1 [(gA8 o2 0)]) then
      some [tLA8 (a1 ++ [(gA8 o2 0)])]
    else none
  else
    some [tLA8 a1]
theorem zJT (a0 : List Int) (a1 : List (List Int)) (h : zDK R a0 a1 = some o) : R zC1 [tLI a0, tLA8 a1] = some o := go_ (b := fun c => zDK c a0 a1) (fun c => by kernel_rfl) h
def zz (call : Oracle) (x0 : List Int) (x1 : List (List Int)) (x2 x3 x4 : Int) : Option (List TV) :=
  bif decide (x4 < x3) then
    bif decide (x4 < x2) then
      bif (decide (0 ≤ x4) && decide (x4 < ((List.length x0 : Nat) : Int))) then
        bif ((List.getD x0 (Int.toNat x4) 0) != x4) then
          call zx [tLI x0, tLA8 x1, tI x2, tI x3, tI (wi64 (x4 + 1))]
        else
          bif (decide (0 ≤ x2) && decide (x2 < ((List.length x0 : Nat) : Int))) then
            (call ku [tLI (List.set x0 (Int.toNat x2) x4), tI (wi64 (x2 + 1)), tLA8 x1]).bind fun o4 =>
            call zx [tLI (gLI o4 0), tLA8 (gLA8 o4 1), tI x2, tI x3, tI (wi64 (x4 + 1))]
          else none
      else none
    else
      bif (decide (0 ≤ x2) && decide (x2 < ((List.length x0 : Nat) : Int))) then
        (call ku [tLI (List.set x0 (Int.toNat x2) x4), tI (wi64 (x2 + 1)), tLA8 x1]).bind fun o5 =>
        call zx [tLI (gLI o5 0), tLA8 (gLA8 o5 1), tI x2, tI x3, tI (wi64 (x4 + 1))]
      else none
  else
    some [tI 0, tLI x0, tLA8 x1]
theorem jm (x0 : List Int) (x1 : List (List Int)) (x2 x3 x4 : Int) (h : zz R x0 x1 x2 x3 x4 = some o) : R zx [tLI x0, tLA8 x1, tI x2, tI x3, tI x4] = some o := go_ (b := fun c => zz c x0 x1 x2 x3 x4) (fun c => by kernel_rfl) h
def zBL (call : Oracle) (a0 : List Int) (a1 : Int) (a2 : List (List Int)) : Option (List TV) :=
  bif (a1 == ((List.length a0 : Nat) : Int)) then
    (call zC1 [tLI a0, tLA8 a2]).bind fun o1 =>
    some [tLI a0, tLA8 (gLA8 o1 0)]
  else
    (call zx [tLI a0, tLA8 a2, tI a1, tI (wi64 (a1 + 1)), tI 0]).bind fun o6 =>
    some [tLI (gLI o6 1), tLA8 (gLA8 o6 2)]
theorem zEx (a0 : List Int) (a1 : Int) (a2 : List (List Int)) (h : zBL R a0 a1 a2 = some o) : R ku [tLI a0, tI a1, tLA8 a2] = some o := go_ (b := fun c => zBL c a0 a1 a2) (fun c => by kernel_rfl) h
def bcmp_isNaN_byte_ (call : Oracle) (a0 : Int) : Option (List TV) :=
  some [tB (a0 != a0)]
theorem zGv (a0 : Int) (h : bcmp_isNaN_byte_ R a0 = some o) : R icmp_isNaN_byte_ [tU8 a0] = some o := go_ (b := fun c => bcmp_isNaN_byte_ c a0) (fun c => by kernel_rfl) h
def bcmp_Compare_byte_ (call : Oracle) (a0 a1 : Int) : Option (List TV) :=
  (call icmp_isNaN_byte_ [tU8 a0]).bind fun o1 =>
  (call icmp_isNaN_byte_ [tU8 a1]).bind fun o2 =>
  bif (gB o1 0) then
    bif (gB o2 0) then
      some [tI 0]
    else
      some [tI (-1)]
  else
    bif (gB o2 0) then
      some [tI 1]
    else
      bif decide (a0 < a1) then
        some [tI (-1)]
      else
        bif decide (a1 < a0) then
          some [tI 1]
        else
          some [tI 0]
theorem zE1 (a0 a1 : Int) (h : bcmp_Compare_byte_ R a0 a1 = some o) : R icmp_Compare_byte_ [tU8 a0, tU8 a1] = some o := go_ (b := fun c => bcmp_Compare_byte_ c a0 a1) (fun c => by kernel_rfl) h
def zY (call : Oracle) (x0 x1 : List Int) (x2 x3 : Int) : Option (List TV) :=
  bif decide (x3 < x2) then
    bif (decide (0 ≤ x3) && decide (x3 < ((List.length x0 : Nat) : Int))) then
      bif decide (((List.length x1 : Nat) : Int) ≤ x3) then
        some [tI 1, tI 1]
      else
        bif (decide (0 ≤ x3) && decide (x3 < ((List.length x1 : Nat) : Int))) then
          (call icmp_Compare_byte_ [tU8 (List.getD x0 (Int.toNat x3) 0), tU8 (List.getD x1 (Int.toNat x3) 0)]).bind fun o2 =>
          bif ((gI o2 0) != 0) then
            some [tI 1, tI (gI o2 0)]
          else
            call zX [tLU8 x0, tLU8 x1, tI x2, tI (wi64 (x3 + 1))]
        else none
    else none
  else
    some [tI 0, tLU8 x0, tLU8 x1]
theorem jD (x0 x1 : List Int) (x2 x3 : Int) (h : zY R x0 x1 x2 x3 = some o) : R zX [tLU8 x0, tLU8 x1, tI x2, tI x3] = some o := go_ (b := fun c => zY c x0 x1 x2 x3) (fun c => by kernel_rfl) h
end
end Go.Ev.YtknhngnhjdpedaaGreat
