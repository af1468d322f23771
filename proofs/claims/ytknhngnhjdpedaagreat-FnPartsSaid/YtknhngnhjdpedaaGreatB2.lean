/- Bodies, part 2. -/
import Derived.KernelRfl
import Derived.Test.YtknhngnhjdpedaaGreatEnv
set_option linter.unusedVariables false
namespace Go.Ev.YtknhngnhjdpedaaGreat
open Go.Ev
noncomputable section
variable {o : List TV}
def kL (call : Oracle) (a0 a1 : List Int) : Option (List TV) :=
  (call zX [tLU8 a0, tLU8 a1, tI ((List.length a0 : Nat) : Int), tI 0]).bind fun o3 =>
  bif ((gI o3 0) == 0) then
    bif decide (((List.length (gLU8 o3 1) : Nat) : Int) < ((List.length (gLU8 o3 2) : Nat) : Int)) then
      some [tI (-1)]
    else
      some [tI 0]
  else
    some [tI (gI o3 1)]
theorem zCj (a0 a1 : List Int) (h : kL R a0 a1 = some o) : R kH [tLU8 a0, tLU8 a1] = some o := go_ (b := fun c => kL c a0 a1) (fun c => by kernel_rfl) h
def zDJ (call : Oracle) (a0 a1 : List Int) : Option (List TV) :=
  (call kH [tLU8 a0, tLU8 a1]).bind fun o1 =>
  some [tI (gI o1 0)]
theorem zJS (a0 a1 : List Int) (h : zDJ R a0 a1 = some o) : R zC0 [tA8 a0, tA8 a1] = some o := go_ (b := fun c => zDJ c a0 a1) (fun c => by kernel_rfl) h
def kZ (call : Oracle) (x0 : List (List Int)) : Option (List TV) :=
  sortE call 66 (.arr .u8 8) x0
theorem zA4 (x0 : List (List Int)) (h : kZ R x0 = some o) : R zc [tLA8 x0] = some o := go_ (b := fun c => kZ c x0) (fun c => by kernel_rfl) h
def zDL (call : Oracle) (a0 : Int) : Option (List TV) :=
  (call jv [tI a0, tI 1, tI 7]).bind fun o1 =>
  bif (!(gB o1 0)) then
    some [tLA8 [], tI 2]
  else
    (call kt [tI a0]).bind fun o2 =>
    (call ku [tLI (gLI o2 0), tI 0, tLA8 []]).bind fun o3 =>
    (call zc [tLA8 (gLA8 o3 1)]).bind fun o4 =>
    some [tLA8 (gLA8 o4 0), tI 0]
theorem zHQ (a0 : Int) (h : zDL R a0 = some o) : R zC2 [tI a0] = some o := go_ (b := fun c => zDL c a0) (fun c => by kernel_rfl) h
def zAh (call : Oracle) (x0 x1 : List Int) (x2 : Int) : Option (List TV) :=
  bif decide (x2 < 8) then
    bif (decide (0 ≤ x2) && decide (x2 < 8)) then
      bif (decide (0 ≤ x2) && decide (x2 < 8)) then
        bif ((List.getD x0 (Int.toNat x2) 0) != (List.getD x1 (Int.toNat x2) 0)) then
          bif (decide (0 ≤ x2) && decide (x2 < 8)) then
            bif (decide (0 ≤ x2) && decide (x2 < 8)) then
              some [tI 1, tB (decide ((List.getD x0 (Int.toNat x2) 0) < (List.getD x1 (Int.toNat x2) 0)))]
            else none
          else none
        else
          call zAZ [tA8 x0, tA8 x1, tI (wi64 (x2 + 1))]
      else none
    else none
  else
    some [tI 0]
theorem zD4 (x0 x1 : List Int) (x2 : Int) (h : zAh R x0 x1 x2 = some o) : R zAZ [tA8 x0, tA8 x1, tI x2] = some o := go_ (b := fun c => zAh c x0 x1 x2) (fun c => by kernel_rfl) h
def zDh (call : Oracle) (a0 a1 : List Int) : Option (List TV) :=
  (call zAZ [tA8 a0, tA8 a1, tI 0]).bind fun o1 =>
  bif ((gI o1 0) == 0) then
    some [tB false]
  else
    some [tB (gB o1 1)]
theorem zKN (a0 a1 : List Int) (h : zDh R a0 a1 = some o) : R zDc [tA8 a0, tA8 a1] = some o := go_ (b := fun c => zDh c a0 a1) (fun c => by kernel_rfl) h
def zC8 (call : Oracle) (x0 : List (List Int)) (x1 : List Int) (x2 : Int) : Option (List TV) :=
  bif decide (x2 < ((List.length x0 : Nat) : Int)) then
    bif (decide (0 ≤ x2) && decide (x2 < ((List.length x0 : Nat) : Int))) then
      (call zDc [tA8 (List.getD x0 (Int.toNat x2) (List.replicate 8 0)), tA8 x1]).bind fun o4 =>
      bif (gB o4 0) then
        call zCq [tLA8 x0, tA8 x1, tI (wi64 (x2 + 1))]
      else
        some [tI 0, tLA8 x0, tA8 x1, tI x2]
    else none
  else
    some [tI 0, tLA8 x0, tA8 x1, tI x2]
theorem zHG (x0 : List (List Int)) (x1 : List Int) (x2 : Int) (h : zC8 R x0 x1 x2 = some o) : R zCq [tLA8 x0, tA8 x1, tI x2] = some o := go_ (b := fun c => zC8 c x0 x1 x2) (fun c => by kernel_rfl) h
def zAx (call : Oracle) (x0 : List (List Int)) (x1 : List Int) (x2 x3 x4 : Int) : Option (List TV) :=
  bif decide (x4 ≤ x2) then
    bif decide (x4 < x2) then
      bif (decide (0 ≤ x4) && decide (x4 < 8)) then
        bif ((List.getD x1 (Int.toNat x4) 0) != x4) then
          call jg [tLA8 x0, tAi8 x1, tI x2, tI x3, tI (wi64 (x4 + 1))]
        else
          bif (decide (0 ≤ x2) && decide (x2 < 8)) then
            (call zCY [tAi8 (List.set x1 (Int.toNat x2) x4), tI (wi64 (x2 + 1)), tI x3, tLA8 x0]).bind fun o8 =>
            call jg [tLA8 (gLA8 o8 0), tAi8 x1, tI x2, tI x3, tI (wi64 (x4 + 1))]
          else none
      else none
    else
      bif (decide (0 ≤ x2) && decide (x2 < 8)) then
        (call zCY [tAi8 (List.set x1 (Int.toNat x2) x4), tI (wi64 (x2 + 1)), tI x3, tLA8 x0]).bind fun o9 =>
        call jg [tLA8 (gLA8 o9 0), tAi8 x1, tI x2, tI x3, tI (wi64 (x4 + 1))]
      else none
  else
    some [tI 0, tLA8 x0]
theorem zGV (x0 : List (List Int)) (x1 : List Int) (x2 x3 x4 : Int) (h : zAx R x0 x1 x2 x3 x4 = some o) : R jg [tLA8 x0, tAi8 x1, tI x2, tI x3, tI x4] = some o := go_ (b := fun c => zAx c x0 x1 x2 x3 x4) (fun c => by kernel_rfl) h
def zFZ (call : Oracle) (a0 : List Int) (a1 a2 : Int) (a3 : List (List Int)) : Option (List TV) :=
  bif (a1 == a2) then
    (call zu [tAi8 a0, tI a2]).bind fun o1 =>
    bif (gB o1 0) then
      some [tLA8 a3]
    else
      (call je [tAi8 a0, tI a2]).bind fun o2 =>
      (call zCq [tLA8 a3, tA8 (gA8 o2 0), tI 0]).bind fun o5 =>
      bif (decide (0 ≤ (gI o5 3)) && decide ((gI o5 3) ≤ ((List.length (gLA8 o5 1) : Nat) : Int))) then
        bif (apOk [(gA8 o5 2)] (List.drop (Int.toNat (gI o5 3)) (gLA8 o5 1))) then
          bif (decide (0 ≤ (gI o5 3)) && decide ((gI o5 3) ≤ ((List.length (gLA8 o5 1) : Nat) : Int))) then
            bif (apOk [] (List.take (Int.toNat (gI o5 3)) (gLA8 o5 1))) then
              bif (apOk (List.take (Int.toNat (gI o5 3)) (gLA8 o5 1)) ([(gA8 o5 2)] ++ (List.drop (Int.toNat (gI o5 3)) (gLA8 o5 1)))) then
                some [tLA8 ((List.take (Int.toNat (gI o5 3)) (gLA8 o5 1)) ++ ([(gA8 o5 2)] ++ (List.drop (Int.toNat (gI o5 3)) (gLA8 o5 1))))]
              else none
            else none
          else none
        else none
      else none
  else
    (call jg [tLA8 a3, tAi8 a0, tI a1, tI a2, tI 0]).bind fun o10 =>
    some [tLA8 (gLA8 o10 1)]
theorem zKO (a0 : List Int) (a1 a2 : Int) (a3 : List (List Int)) (h : zFZ R a0 a1 a2 a3 = some o) : R zCY [tAi8 a0, tI a1, tI a2, tLA8 a3] = some o := go_ (b := fun c => zFZ c a0 a1 a2 a3) (fun c => by kernel_rfl) h
def zDB (call : Oracle) (a0 : Int) : Option (List TV) :=
  (call zBB [tI a0, tI 1, tI 7]).bind fun o1 =>
  bif (!(gB o1 0)) then
    some [tLA8 [], tI 2]
  else
    (call zCY [tAi8 (List.replicate 8 0), tI 0, tI a0, tLA8 []]).bind fun o2 =>
    some [tLA8 (gLA8 o2 0), tI 0]
theorem zHJ (a0 : Int) (h : zDB R a0 = some o) : R zCt [tI a0] = some o := go_ (b := fun c => zDB c a0) (fun c => by kernel_rfl) h
def zDA (call : Oracle) (a0 : List Int) : Option (List TV) :=
  (call jh [tLU8 a0]).bind fun o1 =>
  (call zDr [zD (zG o1 0), tI 6]).bind fun o2 =>
  (call zJ [zD (zG o2 1), tI 20]).bind fun o3 =>
  (call zJ [zD (zG o3 1), tI (wi64 ((mn (mx (wi64 (2 + (gI o2 0))) 1) 8) + (wi64 (Int.tdiv (gI o3 0) 19))))]).bind fun o4 =>
  (call zJ [zD (zG o4 1), tI 12]).bind fun o5 =>
  (call zJ [zD (zG o5 1), tI (wi64 ((gI o4 0) + (wi64 (Int.tdiv (gI o5 0) 11))))]).bind fun o6 =>
  (call zJ [zD (zG o6 1), tI 30]).bind fun o7 =>
  some [tI (wi64 (2 + (gI o2 0))), tI (gI o4 0), tI (wi64 ((gI o6 0) - (wi64 (Int.tdiv (gI o7 0) 29))))]
theorem zJO (a0 : List Int) (h : zDA R a0 = some o) : R zCs [tLU8 a0] = some o := go_ (b := fun c => zDA c a0) (fun c => by kernel_rfl) h
def zIR (call : Oracle) (a0 a1 a2 : Int) : Option (List TV) :=
  (call jv [tI a0, tI 2, tI 8]).bind fun o1 =>
  bif (!(gB o1 0)) then
    some [jE (0, []), tI 2]
  else
    (call jv [tI a1, tI 0, tI (wi64 (a0 - 1))]).bind fun o2 =>
    bif (!(gB o2 0)) then
      some [jE (0, []), tI 2]
    else
      (call jv [tI a2, tI 0, tI (wi64 (a1 - 1))]).bind fun o3 =>
      bif (!(gB o3 0)) then
        some [jE (0, []), tI 2]
      else
        (call zJu [tI a1, tI a2]).bind fun o4 =>
        some [jE (a0, (gLI o4 0)), tI 0]
theorem zOg (a0 a1 a2 : Int) (h : zIR R a0 a1 a2 = some o) : R zHt [tI a0, tI a1, tI a2] = some o := go_ (b := fun c => zIR c a0 a1 a2) (fun c => by kernel_rfl) h
def zCC (call : Oracle) (x0 : List Int) (x1 x2 x3 : Int) : Option (List TV) :=
  bif decide ((wi64 (x2 + 1)) < x3) then
    bif (apOk x0 [x3]) then
      call zB2 [tLI (x0 ++ [x3]), tI x1, tI x2, tI (wi64 (x3 - 1))]
    else none
  else
    some [tI 0, tLI x0, tI x1, tI x2]
theorem zGT (x0 : List Int) (x1 x2 x3 : Int) (h : zCC R x0 x1 x2 x3 = some o) : R zB2 [tLI x0, tI x1, tI x2, tI x3] = some o := go_ (b := fun c => zCC c x0 x1 x2 x3) (fun c => by kernel_rfl) h
def zCB (call : Oracle) (x0 : List Int) (x1 x2 : Int) : Option (List TV) :=
  bif decide (x2 ≤ x1) then
    bif (apOk x0 [(wi64 (0 - x2))]) then
      call zB1 [tLI (x0 ++ [(wi64 (0 - x2))]), tI x1, tI (wi64 (x2 + 1))]
    else none
  else
    some [tI 0, tLI x0]
theorem zGS (x0 : List Int) (x1 x2 : Int) (h : zCB R x0 x1 x2 = some o) : R zB1 [tLI x0, tI x1, tI x2] = some o := go_ (b := fun c => zCB c x0 x1 x2) (fun c => by kernel_rfl) h
def zGF (call : Oracle) (a0 a1 : Int) : Option (List TV) :=
  (call zB2 [tLI [], tI a0, tI a1, tI a0]).bind fun o1 =>
  bif (apOk (gLI o1 1) [(wi64 ((gI o1 3) + 1))]) then
    (call zB1 [tLI ((gLI o1 1) ++ [(wi64 ((gI o1 3) + 1))]), tI (gI o1 2), tI (wi64 ((gI o1 3) + 2))]).bind fun o2 =>
    some [tLI (gLI o2 1)]
  else none
theorem zNc (a0 a1 : Int) (h : zGF R a0 a1 = some o) : R zF1 [tI a0, tI a1] = some o := go_ (b := fun c => zGF c a0 a1) (fun c => by kernel_rfl) h
def zIG (call : Oracle) (a0 a1 a2 : Int) : Option (List TV) :=
  (call zBB [tI a0, tI 2, tI 8]).bind fun o1 =>
  bif (!(gB o1 0)) then
    some [jE (0, []), tI 2]
  else
    (call zBB [tI a1, tI 1, tI (wi64 (a0 - 1))]).bind fun o2 =>
    bif (!(gB o2 0)) then
      some [jE (0, []), tI 2]
    else
      (call zBB [tI a2, tI 0, tI (wi64 (a1 - 1))]).bind fun o3 =>
      bif (!(gB o3 0)) then
        some [jE (0, []), tI 2]
      else
        (call zF1 [tI a1, tI a2]).bind fun o4 =>
        some [jE (a0, (gLI o4 0)), tI 0]
theorem zOZ (a0 a1 a2 : Int) (h : zIG R a0 a1 a2 = some o) : R zHo [tI a0, tI a1, tI a2] = some o := go_ (b := fun c => zIG c a0 a1 a2) (fun c => by kernel_rfl) h
def zC9 (call : Oracle) (a0 : List Int) : Option (List TV) :=
  (call jh [tLU8 a0]).bind fun o1 =>
  (call zCp [zD (zG o1 0)]).bind fun o2 =>
  some [tA8 (gA8 o2 0), tI (gI o2 1)]
theorem zJN (a0 : List Int) (h : zC9 R a0 = some o) : R zCr [tLU8 a0] = some o := go_ (b := fun c => zC9 c a0) (fun c => by kernel_rfl) h
def zFa (call : Oracle) (a0 : List Int) (a1 : Int) : Option (List TV) :=
  (call zBA [tA8 a0, tI a1]).bind fun o1 =>
  bif (!(gB o1 0)) then
    some [tI 0, tI 1]
  else
    (call jf [tA8 a0, tI a1]).bind fun o2 =>
    some [tI (wi64 (a1 - ((List.length (gLLI o2 0) : Nat) : Int))), tI 0]
theorem zKP (a0 : List Int) (a1 : Int) (h : zFa R a0 a1 = some o) : R zHm [tA8 a0, tI a1] = some o := go_ (b := fun c => zFa c a0 a1) (fun c => by kernel_rfl) h
def kI (call : Oracle) (a0 : List Int) (a1 : Int) : Option (List TV) :=
  (call zBA [tA8 a0, tI a1]).bind fun o1 =>
  bif (!(gB o1 0)) then
    some [tA8 (List.replicate 8 0), tI 1]
  else
    (call za [tA8 a0, tI a1]).bind fun o2 =>
    some [tA8 (gA8 o2 0), tI 0]
theorem zBW (a0 : List Int) (a1 : Int) (h : kI R a0 a1 = some o) : R jY [tA8 a0, tI a1] = some o := go_ (b := fun c => kI c a0 a1) (fun c => by kernel_rfl) h
def zB7 (call : Oracle) (x0 x1 x2 : List Int) (x3 x4 x5 : Int) : Option (List TV) :=
  bif decide (x5 < x3) then
    bif (x3 != 0) then
      bif (x3 != 0) then
        bif (decide (0 ≤ x5) && decide (x5 < 8)) then
          bif (x3 != 0) then
            bif (x3 != 0) then
              bif (decide (0 ≤ (Int.tmod (wi64 ((Int.tmod (wi64 (x5 + x4)) x3) + x3)) x3)) && decide ((Int.tmod (wi64 ((Int.tmod (wi64 (x5 + x4)) x3) + x3)) x3) < 8)) then
                call zBy [tA8 x0, tA8 x1, tA8 (List.set x2 (Int.toNat (Int.tmod (wi64 ((Int.tmod (wi64 (x5 + x4)) x3) + x3)) x3)) (wu8 ((Int.tmod (wi64 ((Int.tmod (wi64 ((wi64 ((List.getD x0 (Int.toNat x5) 0))) + x4)) x3) + x3)) x3)))), tI x3, tI x4, tI (wi64 (x5 + 1))]
              else none
            else none
          else none
        else none
      else none
    else none
  else
    some [tI 0, tA8 x1, tA8 x2]
theorem zGN (x0 x1 x2 : List Int) (x3 x4 x5 : Int) (h : zB7 R x0 x1 x2 x3 x4 x5 = some o) : R zBy [tA8 x0, tA8 x1, tA8 x2, tI x3, tI x4, tI x5] = some o := go_ (b := fun c => zB7 c x0 x1 x2 x3 x4 x5) (fun c => by kernel_rfl) h
def zGA (call : Oracle) (a0 : List Int) (a1 a2 : Int) : Option (List TV) :=
  (call zBy [tA8 a0, tA8 (List.replicate 8 0), tA8 (List.replicate 8 0), tI a1, tI a2, tI 0]).bind fun o1 =>
  some [tA8 (gA8 o1 2)]
theorem zNX (a0 : List Int) (a1 a2 : Int) (h : zGA R a0 a1 a2 = some o) : R zFz [tA8 a0, tI a1, tI a2] = some o := go_ (b := fun c => zGA c a0 a1 a2) (fun c => by kernel_rfl) h
def zBJ (call : Oracle) (a0 : List Int) (a1 : Int) : Option (List TV) :=
  (call zBA [tA8 a0, tI a1]).bind fun o1 =>
  bif (!(gB o1 0)) then
    some [tA8 (List.replicate 8 0), tI 1]
  else
    (call zFz [tA8 a0, tI a1, tI 1]).bind fun o2 =>
    some [tA8 (gA8 o2 0), tI 0]
theorem zEu (a0 : List Int) (a1 : Int) (h : zBJ R a0 a1 = some o) : R zBC [tA8 a0, tI a1] = some o := go_ (b := fun c => zBJ c a0 a1) (fun c => by kernel_rfl) h
def zBE (call : Oracle) (x0 x1 : List Int) (x2 : Int) : Option (List TV) :=
  bif decide (x2 < ((List.length x0 : Nat) : Int)) then
    bif (decide (0 ≤ x2) && decide (x2 < ((List.length x0 : Nat) : Int))) then
      bif (decide (0 ≤ x2) && decide (x2 < ((List.length x1 : Nat) : Int))) then
        bif ((List.getD x0 (Int.toNat x2) 0) != (List.getD x1 (Int.toNat x2) 0)) then
          some [tI 1, tB false]
        else
          call zA6 [tLI x0, tLI x1, tI (wi64 (x2 + 1))]
      else none
    else none
  else
    some [tI 0]
theorem zEp (x0 x1 : List Int) (x2 : Int) (h : zBE R x0 x1 x2 = some o) : R zA6 [tLI x0, tLI x1, tI x2] = some o := go_ (b := fun c => zBE c x0 x1 x2) (fun c => by kernel_rfl) h
def zC7 (call : Oracle) (a0 a1 : List Int) : Option (List TV) :=
  bif (((List.length a0 : Nat) : Int) != ((List.length a1 : Nat) : Int)) then
    some [tB false]
  else
    (call zA6 [tLI a0, tLI a1, tI 0]).bind fun o1 =>
    bif ((gI o1 0) == 0) then
      some [tB true]
    else
      some [tB (gB o1 1)]
theorem zLS (a0 a1 : List Int) (h : zC7 R a0 a1 = some o) : R zEV [tLI a0, tLI a1] = some o := go_ (b := fun c => zC7 c a0 a1) (fun c => by kernel_rfl) h
def zIE (call : Oracle) (a0 a1 : Int × List Int) : Option (List TV) :=
  bif (a0.1 == a1.1) then
    (call zEV [tLI a0.2, tLI a1.2]).bind fun o1 =>
    some [tB (gB o1 0)]
  else
    some [tB false]
theorem zOX (a0 a1 : Int × List Int) (h : zIE R a0 a1 = some o) : R zHl [jE a0, jE a1] = some o := go_ (b := fun c => zIE c a0 a1) (fun c => by kernel_rfl) h
def zBG (call : Oracle) (x0 x1 x2 : List Int) (x3 x4 : Int) : Option (List TV) :=
  bif decide (x4 < x3) then
    bif (decide (0 ≤ x4) && decide (x4 < ((List.length x2 : Nat) : Int))) then
      bif (decide (0 ≤ x4) && decide (x4 < 8)) then
        bif ((List.getD x2 (Int.toNat x4) 0) != (wi64 ((List.getD x1 (Int.toNat x4) 0)))) then
          some [tI 1, tB false]
        else
          call zA8 [tLU8 x0, tA8 x1, tLI x2, tI x3, tI (wi64 (x4 + 1))]
      else none
    else none
  else
    some [tI 0, tLU8 x0]
theorem zEr (x0 x1 x2 : List Int) (x3 x4 : Int) (h : zBG R x0 x1 x2 x3 x4 = some o) : R zA8 [tLU8 x0, tA8 x1, tLI x2, tI x3, tI x4] = some o := go_ (b := fun c => zBG c x0 x1 x2 x3 x4) (fun c => by kernel_rfl) h
def zBF (call : Oracle) (x0 : List Int) (x1 x2 : List (List Int)) (x3 : Int) : Option (List TV) :=
  bif decide (x3 < ((List.length x1 : Nat) : Int)) then
    bif (decide (0 ≤ x3) && decide (x3 < ((List.length x1 : Nat) : Int))) then
      bif (decide (0 ≤ x3) && decide (x3 < ((List.length x2 : Nat) : Int))) then
        bif ((List.getD x1 (Int.toNat x3) (List.replicate 8 0)) != (List.getD x2 (Int.toNat x3) (List.replicate 8 0))) then
          some [tI 1, tB false]
        else
          call zA7 [tLU8 x0, tLA8 x1, tLA8 x2, tI (wi64 (x3 + 1))]
      else none
    else none
  else
    some [tI 0, tLU8 x0]
theorem zEq (x0 : List Int) (x1 x2 : List (List Int)) (x3 : Int) (h : zBF R x0 x1 x2 x3 = some o) : R zA7 [tLU8 x0, tLA8 x1, tLA8 x2, tI x3] = some o := go_ (b := fun c => zBF c x0 x1 x2 x3) (fun c => by kernel_rfl) h
def zCO (call : Oracle) (x0 : List Int) : Option (List TV) :=
  (call jX [tLU8 x0]).bind fun o42 =>
  (call jy [tLLI (gLLI o42 0), tI (gI o42 1)]).bind fun o43 =>
  (call zBe [tLLI (gLLI o42 0), tI (gI o42 1)]).bind fun o44 =>
  (call zBf [tLU8 x0]).bind fun o45 =>
  (call zC2 [tI (gI o45 0)]).bind fun o46 =>
  (call zCt [tI (gI o45 0)]).bind fun o47 =>
  bif ((gI o43 1) != (gI o44 1)) then
    some [tI 0, tB false]
  else
    bif ((gA8 o43 0) != (gA8 o44 0)) then
      some [tI 0, tB false]
    else
      bif ((gI o46 1) != (gI o47 1)) then
        some [tI 0, tB false]
      else
        bif (((List.length (gLA8 o46 0) : Nat) : Int) != ((List.length (gLA8 o47 0) : Nat) : Int)) then
          some [tI 0, tB false]
        else
          (call zA7 [tLU8 x0, tLA8 (gLA8 o46 0), tLA8 (gLA8 o47 0), tI 0]).bind fun o48 =>
          bif ((gI o48 0) == 0) then
            (call zCs [tLU8 (gLU8 o48 1)]).bind fun o49 =>
            (call zHt [tI (gI o49 0), tI (gI o49 1), tI (gI o49 2)]).bind fun o50 =>
            (call zHo [tI (gI o49 0), tI (gI o49 1), tI (gI o49 2)]).bind fun o51 =>
            (call zCr [tLU8 (gLU8 o48 1)]).bind fun o52 =>
            (call zBg [tA8 (gA8 o52 0), tI (gI o52 1)]).bind fun o53 =>
            (call zHm [tA8 (gA8 o52 0), tI (gI o52 1)]).bind fun o54 =>
            (call zk [tA8 (gA8 o52 0), tI (gI o52 1)]).bind fun o55 =>
            (call jY [tA8 (gA8 o52 0), tI (gI o52 1)]).bind fun o56 =>
            (call kw [tA8 (gA8 o52 0), tI (gI o52 1)]).bind fun o57 =>
            (call zBC [tA8 (gA8 o52 0), tI (gI o52 1)]).bind fun o58 =>
            bif ((gI o50 1) == (gI o51 1)) then
              (call zHl [jE (zSH o50 0), jE (zSH o51 0)]).bind fun o59 =>
              bif (gB o59 0) then
                bif ((gI o53 1) == (gI o54 1)) then
                  bif ((gI o53 0) == (gI o54 0)) then
                    bif ((gI o55 1) == (gI o56 1)) then
                      bif ((gA8 o55 0) == (gA8 o56 0)) then
                        bif ((gI o57 1) == (gI o58 1)) then
                          some [tI 0, tB ((gA8 o57 0) == (gA8 o58 0))]
                        else
                          some [tI 0, tB false]
                      else
                        some [tI 0, tB false]
                    else
                      some [tI 0, tB false]
                  else
                    some [tI 0, tB false]
                else
                  some [tI 0, tB false]
              else
                some [tI 0, tB false]
            else
              some [tI 0, tB false]
          else
            some [tI 0, tB (gB o48 1)]
theorem zIa (x0 : List Int) (h : zCO R x0 = some o) : R zAY [tLU8 x0] = some o := go_ (b := fun c => zCO c x0) (fun c => by kernel_rfl) h
def zCe (call : Oracle) (a0 : List Int) : Option (List TV) :=
  (call zPN [tLU8 a0]).bind fun o1 =>
  bif (gB o1 0) then
    some [tB true]
  else
    (call jq [tLU8 a0]).bind fun o2 =>
    (call kT [tA8 (gA8 o2 0), tA8 (gA8 o2 1), tI (gI o2 2)]).bind fun o3 =>
    (call zAa [tA8 (gA8 o2 0), tA8 (gA8 o2 1), tI (gI o2 2)]).bind fun o4 =>
    (call jJ [tA8 (gA8 o2 0), tA8 (gA8 o2 1), tI (gI o2 2)]).bind fun o5 =>
    (call jH [tA8 (gA8 o2 0), tA8 (gA8 o2 1), tI (gI o2 2)]).bind fun o6 =>
    bif ((gI o3 1) != (gI o4 1)) then
      some [tB false]
    else
      bif ((gA8 o3 0) != (gA8 o4 0)) then
        some [tB false]
      else
        bif ((gI o5 1) != (gI o6 1)) then
          some [tB false]
        else
          bif ((gA8 o5 0) != (gA8 o6 0)) then
            some [tB false]
          else
            (call zj [tA8 (gA8 o2 0), tI (gI o2 2)]).bind fun o7 =>
            (call zHn [tA8 (gA8 o2 0), tI (gI o2 2)]).bind fun o8 =>
            bif ((gB o7 0) != (gB o8 0)) then
              some [tB false]
            else
              bif ((gI o3 1) == 0) then
                (call kT [tA8 (gA8 o3 0), tA8 (gA8 o2 0), tI (gI o2 2)]).bind fun o9 =>
                (call jJ [tA8 (gA8 o5 0), tA8 (gA8 o2 1), tI (gI o2 2)]).bind fun o10 =>
                (call kT [tA8 (gA8 o5 0), tA8 (gA8 o2 0), tI (gI o2 2)]).bind fun o11 =>
                bif ((gI o9 1) != 0) then
                  some [tB false]
                else
                  bif ((gI o10 1) != 0) then
                    some [tB false]
                  else
                    bif ((gI o11 1) != 0) then
                      some [tB false]
                    else
                      bif ((gA8 o9 0) != (gA8 o3 0)) then
                        some [tB false]
                      else
                        bif ((gA8 o10 0) != (gA8 o5 0)) then
                          some [tB false]
                        else
                          bif ((gA8 o11 0) != (gA8 o2 0)) then
                            some [tB false]
                          else
                            (call zj [tA8 (gA8 o3 0), tI (gI o2 2)]).bind fun o12 =>
                            bif (!(gB o12 0)) then
                              some [tB false]
                            else
                              (call zj [tA8 (gA8 o5 0), tI (gI o2 2)]).bind fun o13 =>
                              bif (!(gB o13 0)) then
                                some [tB false]
                              else
                                (call zk [tA8 (gA8 o2 0), tI (gI o2 2)]).bind fun o14 =>
                                (call zBg [tA8 (gA8 o2 0), tI (gI o2 2)]).bind fun o15 =>
                                (call zBg [tA8 (gA8 o14 0), tI (gI o2 2)]).bind fun o16 =>
                                (call kw [tA8 (gA8 o2 0), tI (gI o2 2)]).bind fun o17 =>
                                (call zBg [tA8 (gA8 o17 0), tI (gI o2 2)]).bind fun o18 =>
                                (call zBh [tA8 (gA8 o2 0), tI (gI o2 2)]).bind fun o19 =>
                                (call jy [tLLI (gLLI o19 0), tI (gI o2 2)]).bind fun o20 =>
                                (call zCz [tA8 (gA8 o2 0), tI (gI o2 2)]).bind fun o21 =>
                                (call zHs [jE (zSH o21 0)]).bind fun o22 =>
                                bif ((gI o14 1) != 0) then
                                  some [tB false]
                                else
                                  bif ((gI o15 1) != 0) then
                                    some [tB false]
                                  else
                                    bif ((gI o16 1) != 0) then
                                      some [tB false]
                                    else
                                      bif ((gI o17 1) != 0) then
                                        some [tB false]
                                      else
                                        bif ((gI o18 1) != 0) then
                                          some [tB false]
                                        else
                                          bif ((gI o19 1) != 0) then
                                            some [tB false]
                                          else
                                            bif ((gI o20 1) != 0) then
                                              some [tB false]
                                            else
                                              bif ((gI o21 1) != 0) then
                                                some [tB false]
                                              else
                                                bif ((gI o22 1) != 0) then
                                                  some [tB false]
                                                else
                                                  bif ((wi64 ((gI o15 0) + (gI o16 0))) != (wi64 ((gI o2 2) - 1))) then
                                                    some [tB false]
                                                  else
                                                    bif ((gI o18 0) != (gI o15 0)) then
                                                      some [tB false]
                                                    else
                                                      bif ((gA8 o20 0) != (gA8 o2 0)) then
                                                        some [tB false]
                                                      else
                                                        (call zA8 [tLU8 a0, tA8 (gA8 o2 0), tLI (gLI o22 0), tI (gI o2 2), tI 0]).bind fun o23 =>
                                                        bif ((gI o23 0) == 0) then
                                                          (call zAY [tLU8 (gLU8 o23 1)]).bind fun o60 =>
                                                          some [tB (gB o60 1)]
                                                        else
                                                          some [tB (gB o23 1)]
              else
                (call zAY [tLU8 a0]).bind fun o61 =>
                some [tB (gB o61 1)]
theorem zNW (a0 : List Int) (h : zCe R a0 = some o) : R iw_FnParts [tLU8 a0] = some o := go_ (b := fun c => zCe c a0) (fun c => by kernel_rfl) h
end
end Go.Ev.YtknhngnhjdpedaaGreat
