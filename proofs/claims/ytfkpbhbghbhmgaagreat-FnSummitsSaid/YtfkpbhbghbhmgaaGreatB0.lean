/- Bodies, part 0. -/
import Derived.KernelRfl
import Derived.Test.YtfkpbhbghbhmgaaGreatEnv
set_option linter.unusedVariables false
namespace Go.Ev.YtfkpbhbghbhmgaaGreat
open Go.Ev
noncomputable section
variable {o : List TV}
def bw_big (call : Oracle) (a0 : List Int) : Option (List TV) :=
  some [tB (decide (4096 < ((List.length a0 : Nat) : Int)))]
theorem vw_big (a0 : List Int) (h : bw_big R a0 = some o) : R iw_big [tLU8 a0] = some o := go_ (b := fun c => bw_big c a0) (fun c => by kernel_rfl) h
def bs_l01From_3 (call : Oracle) (x0 : List Int) (x1 x2 x3 : Int) : Option (List TV) :=
  bif decide (x3 < ((List.length x0 : Nat) : Int)) then
    bif decide (x3 < 4096) then
      bif (decide (0 ≤ x3) && decide (x3 < ((List.length x0 : Nat) : Int))) then
        call is_l01From_3 [tLU8 x0, tI x1, tU64 (wu64 ((wu64 ((wu64 (x2 * 1099511628211)) + (wu64 ((List.getD x0 (Int.toNat x3) 0))))) + 29)), tI (wi64 (x3 + 1))]
      else none
    else
      some [tI 0, tI x1, tU64 x2, tLU8 x0]
  else
    some [tI 0, tI x1, tU64 x2, tLU8 x0]
theorem vs_l01From_3 (x0 : List Int) (x1 x2 x3 : Int) (h : bs_l01From_3 R x0 x1 x2 x3 = some o) : R is_l01From_3 [tLU8 x0, tI x1, tU64 x2, tI x3] = some o := go_ (b := fun c => bs_l01From_3 c x0 x1 x2 x3) (fun c => by kernel_rfl) h
def bs_l01From (call : Oracle) (a0 : List Int) : Option (List TV) :=
  (call is_l01From_3 [tLU8 a0, tI 0, tU64 (wu64 (9049 + (wu64 (((List.length a0 : Nat) : Int))))), tI 0]).bind fun o1 =>
  some [tPLU8PIU64 ((gLU8 o1 3), ((gI o1 1), (gU64 o1 2)))]
theorem vs_l01From (a0 : List Int) (h : bs_l01From R a0 = some o) : R is_l01From [tLU8 a0] = some o := go_ (b := fun c => bs_l01From c a0) (fun c => by kernel_rfl) h
def bs_l01Next (call : Oracle) (a0 : List Int × Int × Int) (a1 : Int) : Option (List TV) :=
  bif decide (a1 < 1) then
    some [tI 0, tPLU8PIU64 a0]
  else
    bif decide (a0.2.1 < ((List.length a0.1 : Nat) : Int)) then
      bif (decide (0 ≤ a0.2.1) && decide (a0.2.1 < ((List.length a0.1 : Nat) : Int))) then
        bif (a1 != 0) then
          some [tI (Int.tmod (wi64 ((wi64 ((bitsAnd .u64 (shr .u64 (wu64 ((wu64 (a0.2.2 * 6364136223846793005)) + 1442695040888963407)) 33) 16777215))) + (wi64 ((List.getD a0.1 (Int.toNat a0.2.1) 0))))) a1), tPLU8PIU64 (a0.1, ((wi64 (a0.2.1 + 1)), (wu64 ((wu64 (a0.2.2 * 6364136223846793005)) + 1442695040888963407))))]
        else none
      else none
    else
      bif (a1 != 0) then
        some [tI (Int.tmod (wi64 ((bitsAnd .u64 (shr .u64 (wu64 ((wu64 (a0.2.2 * 6364136223846793005)) + 1442695040888963407)) 33) 16777215))) a1), tPLU8PIU64 (a0.1, (a0.2.1, (wu64 ((wu64 (a0.2.2 * 6364136223846793005)) + 1442695040888963407))))]
      else none
theorem vs_l01Next (a0 : List Int × Int × Int) (a1 : Int) (h : bs_l01Next R a0 a1 = some o) : R is_l01Next [tPLU8PIU64 a0, tI a1] = some o := go_ (b := fun c => bs_l01Next c a0 a1) (fun c => by kernel_rfl) h
def bs_l01Pick (call : Oracle) (a0 : List Int × Int × Int) (a1 : List Int) : Option (List TV) :=
  (call is_l01Next [tPLU8PIU64 a0, tI ((List.length a1 : Nat) : Int)]).bind fun o1 =>
  bif (decide (0 ≤ (gI o1 0)) && decide ((gI o1 0) < ((List.length a1 : Nat) : Int))) then
    some [tI (List.getD a1 (Int.toNat (gI o1 0)) 0), tPLU8PIU64 (gPLU8PIU64 o1 1)]
  else none
theorem vs_l01Pick (a0 : List Int × Int × Int) (a1 : List Int) (h : bs_l01Pick R a0 a1 = some o) : R is_l01Pick [tPLU8PIU64 a0, tLI a1] = some o := go_ (b := fun c => bs_l01Pick c a0 a1) (fun c => by kernel_rfl) h
def bs_l01Draw_6 (call : Oracle) (x0 x1 : Int) (x2 x3 : List Int) (x4 x5 x6 : Int) : Option (List TV) :=
  bif decide (0 < x6) then
    (call is_l01Next [tPLU8PIU64 (x2, (x0, x1)), tI (wi64 (x4 - 1))]).bind fun o9 =>
    bif (x5 == 1) then
      bif (apOk x3 [(wi64 (0 - (wi64 (1 + (gI o9 0)))))]) then
        (call is_l01Next [tPLU8PIU64 (gPLU8PIU64 o9 1), tI 12]).bind fun o10 =>
        bif ((gI o10 0) == 0) then
          bif decide (1 < x6) then
            bif (apOk (x3 ++ [(wi64 (0 - (wi64 (1 + (gI o9 0)))))]) [(wi64 (0 - (wi64 (0 - (wi64 (1 + (gI o9 0)))))))]) then
              call is_l01Draw_6 [tI (((gPLU8PIU64 o10 1).2).1), tU64 (((gPLU8PIU64 o10 1).2).2), tLU8 ((gPLU8PIU64 o10 1).1), tLI ((x3 ++ [(wi64 (0 - (wi64 (1 + (gI o9 0)))))]) ++ [(wi64 (0 - (wi64 (0 - (wi64 (1 + (gI o9 0)))))))]), tI x4, tI x5, tI (wi64 ((wi64 (x6 - 1)) - 1))]
            else none
          else
            call is_l01Draw_6 [tI (((gPLU8PIU64 o10 1).2).1), tU64 (((gPLU8PIU64 o10 1).2).2), tLU8 ((gPLU8PIU64 o10 1).1), tLI (x3 ++ [(wi64 (0 - (wi64 (1 + (gI o9 0)))))]), tI x4, tI x5, tI (wi64 (x6 - 1))]
        else
          call is_l01Draw_6 [tI (((gPLU8PIU64 o10 1).2).1), tU64 (((gPLU8PIU64 o10 1).2).2), tLU8 ((gPLU8PIU64 o10 1).1), tLI (x3 ++ [(wi64 (0 - (wi64 (1 + (gI o9 0)))))]), tI x4, tI x5, tI (wi64 (x6 - 1))]
      else none
    else
      bif decide (1 < x5) then
        (call is_l01Next [tPLU8PIU64 (gPLU8PIU64 o9 1), tI 2]).bind fun o11 =>
        bif ((gI o11 0) == 0) then
          bif (apOk x3 [(wi64 (0 - (wi64 (1 + (gI o9 0)))))]) then
            (call is_l01Next [tPLU8PIU64 (gPLU8PIU64 o11 1), tI 12]).bind fun o12 =>
            bif ((gI o12 0) == 0) then
              bif decide (1 < x6) then
                bif (apOk (x3 ++ [(wi64 (0 - (wi64 (1 + (gI o9 0)))))]) [(wi64 (0 - (wi64 (0 - (wi64 (1 + (gI o9 0)))))))]) then
                  call is_l01Draw_6 [tI (((gPLU8PIU64 o12 1).2).1), tU64 (((gPLU8PIU64 o12 1).2).2), tLU8 ((gPLU8PIU64 o12 1).1), tLI ((x3 ++ [(wi64 (0 - (wi64 (1 + (gI o9 0)))))]) ++ [(wi64 (0 - (wi64 (0 - (wi64 (1 + (gI o9 0)))))))]), tI x4, tI x5, tI (wi64 ((wi64 (x6 - 1)) - 1))]
                else none
              else
                call is_l01Draw_6 [tI (((gPLU8PIU64 o12 1).2).1), tU64 (((gPLU8PIU64 o12 1).2).2), tLU8 ((gPLU8PIU64 o12 1).1), tLI (x3 ++ [(wi64 (0 - (wi64 (1 + (gI o9 0)))))]), tI x4, tI x5, tI (wi64 (x6 - 1))]
            else
              call is_l01Draw_6 [tI (((gPLU8PIU64 o12 1).2).1), tU64 (((gPLU8PIU64 o12 1).2).2), tLU8 ((gPLU8PIU64 o12 1).1), tLI (x3 ++ [(wi64 (0 - (wi64 (1 + (gI o9 0)))))]), tI x4, tI x5, tI (wi64 (x6 - 1))]
          else none
        else
          bif (apOk x3 [(wi64 (1 + (gI o9 0)))]) then
            (call is_l01Next [tPLU8PIU64 (gPLU8PIU64 o11 1), tI 12]).bind fun o13 =>
            bif ((gI o13 0) == 0) then
              bif decide (1 < x6) then
                bif (apOk (x3 ++ [(wi64 (1 + (gI o9 0)))]) [(wi64 (0 - (wi64 (1 + (gI o9 0)))))]) then
                  call is_l01Draw_6 [tI (((gPLU8PIU64 o13 1).2).1), tU64 (((gPLU8PIU64 o13 1).2).2), tLU8 ((gPLU8PIU64 o13 1).1), tLI ((x3 ++ [(wi64 (1 + (gI o9 0)))]) ++ [(wi64 (0 - (wi64 (1 + (gI o9 0)))))]), tI x4, tI x5, tI (wi64 ((wi64 (x6 - 1)) - 1))]
                else none
              else
                call is_l01Draw_6 [tI (((gPLU8PIU64 o13 1).2).1), tU64 (((gPLU8PIU64 o13 1).2).2), tLU8 ((gPLU8PIU64 o13 1).1), tLI (x3 ++ [(wi64 (1 + (gI o9 0)))]), tI x4, tI x5, tI (wi64 (x6 - 1))]
            else
              call is_l01Draw_6 [tI (((gPLU8PIU64 o13 1).2).1), tU64 (((gPLU8PIU64 o13 1).2).2), tLU8 ((gPLU8PIU64 o13 1).1), tLI (x3 ++ [(wi64 (1 + (gI o9 0)))]), tI x4, tI x5, tI (wi64 (x6 - 1))]
          else none
      else
        bif (apOk x3 [(wi64 (1 + (gI o9 0)))]) then
          (call is_l01Next [tPLU8PIU64 (gPLU8PIU64 o9 1), tI 12]).bind fun o14 =>
          bif ((gI o14 0) == 0) then
            bif decide (1 < x6) then
              bif (apOk (x3 ++ [(wi64 (1 + (gI o9 0)))]) [(wi64 (0 - (wi64 (1 + (gI o9 0)))))]) then
                call is_l01Draw_6 [tI (((gPLU8PIU64 o14 1).2).1), tU64 (((gPLU8PIU64 o14 1).2).2), tLU8 ((gPLU8PIU64 o14 1).1), tLI ((x3 ++ [(wi64 (1 + (gI o9 0)))]) ++ [(wi64 (0 - (wi64 (1 + (gI o9 0)))))]), tI x4, tI x5, tI (wi64 ((wi64 (x6 - 1)) - 1))]
              else none
            else
              call is_l01Draw_6 [tI (((gPLU8PIU64 o14 1).2).1), tU64 (((gPLU8PIU64 o14 1).2).2), tLU8 ((gPLU8PIU64 o14 1).1), tLI (x3 ++ [(wi64 (1 + (gI o9 0)))]), tI x4, tI x5, tI (wi64 (x6 - 1))]
          else
            call is_l01Draw_6 [tI (((gPLU8PIU64 o14 1).2).1), tU64 (((gPLU8PIU64 o14 1).2).2), tLU8 ((gPLU8PIU64 o14 1).1), tLI (x3 ++ [(wi64 (1 + (gI o9 0)))]), tI x4, tI x5, tI (wi64 (x6 - 1))]
        else none
  else
    some [tI 0, tI x0, tU64 x1, tLU8 x2, tLI x3]
theorem vs_l01Draw_6 (x0 x1 : Int) (x2 x3 : List Int) (x4 x5 x6 : Int) (h : bs_l01Draw_6 R x0 x1 x2 x3 x4 x5 x6 = some o) : R is_l01Draw_6 [tI x0, tU64 x1, tLU8 x2, tLI x3, tI x4, tI x5, tI x6] = some o := go_ (b := fun c => bs_l01Draw_6 c x0 x1 x2 x3 x4 x5 x6) (fun c => by kernel_rfl) h
def bs_l01Draw (call : Oracle) (a0 : List Int × Int × Int) (a1 a2 : Int) : Option (List TV) :=
  bif decide (a1 < 2) then
    some [tLI [], tPLU8PIU64 a0]
  else
    (call is_l01Next [tPLU8PIU64 a0, tI 4]).bind fun o1 =>
    (call is_l01Next [tPLU8PIU64 (gPLU8PIU64 o1 1), tI (wi64 (a2 + 1))]).bind fun o2 =>
    (call is_l01Draw_6 [tI (((gPLU8PIU64 o2 1).2).1), tU64 (((gPLU8PIU64 o2 1).2).2), tLU8 ((gPLU8PIU64 o2 1).1), tLI [], tI a1, tI (gI o1 0), tI (gI o2 0)]).bind fun o15 =>
    some [tLI (gLI o15 4), tPLU8PIU64 ((gLU8 o15 3), ((gI o15 1), (gU64 o15 2)))]
theorem vs_l01Draw (a0 : List Int × Int × Int) (a1 a2 : Int) (h : bs_l01Draw R a0 a1 a2 = some o) : R is_l01Draw [tPLU8PIU64 a0, tI a1, tI a2] = some o := go_ (b := fun c => bs_l01Draw c a0 a1 a2) (fun c => by kernel_rfl) h
def bs_l02Same_3 (call : Oracle) (x0 x1 : List Int) (x2 x3 : Int) : Option (List TV) :=
  bif decide (x3 < x2) then
    bif (decide (0 ≤ x3) && decide (x3 < 8)) then
      call is_l02Same_3 [tA8 x0, tA8 (List.set x1 (Int.toNat x3) (wu8 (x3))), tI x2, tI (wi64 (x3 + 1))]
    else none
  else
    some [tI 0, tA8 x0, tA8 x1]
theorem vs_l02Same_3 (x0 x1 : List Int) (x2 x3 : Int) (h : bs_l02Same_3 R x0 x1 x2 x3 = some o) : R is_l02Same_3 [tA8 x0, tA8 x1, tI x2, tI x3] = some o := go_ (b := fun c => bs_l02Same_3 c x0 x1 x2 x3) (fun c => by kernel_rfl) h
def bs_l02Same (call : Oracle) (a0 : Int) : Option (List TV) :=
  (call is_l02Same_3 [tA8 (List.replicate 8 0), tA8 (List.replicate 8 0), tI a0, tI 0]).bind fun o1 =>
  some [tA8 (gA8 o1 2)]
theorem vs_l02Same (a0 : Int) (h : bs_l02Same R a0 = some o) : R is_l02Same [tI a0] = some o := go_ (b := fun c => bs_l02Same c a0) (fun c => by kernel_rfl) h
def bs_l02Exchange (call : Oracle) (a0 a1 : Int) : Option (List TV) :=
  (call is_l02Same [tI a0]).bind fun o1 =>
  bif (decide (0 ≤ (wi64 (a1 - 1))) && decide ((wi64 (a1 - 1)) < 8)) then
    bif (decide (0 ≤ a1) && decide (a1 < 8)) then
      some [tA8 (List.set (List.set (gA8 o1 0) (Int.toNat (wi64 (a1 - 1))) (wu8 (a1))) (Int.toNat a1) (wu8 ((wi64 (a1 - 1)))))]
    else none
  else none
theorem vs_l02Exchange (a0 a1 : Int) (h : bs_l02Exchange R a0 a1 = some o) : R is_l02Exchange [tI a0, tI a1] = some o := go_ (b := fun c => bs_l02Exchange c a0 a1) (fun c => by kernel_rfl) h
def bs_l02Half_3 (call : Oracle) (x0 x1 : List Int) (x2 x3 : Int) : Option (List TV) :=
  bif decide (x3 < x2) then
    bif (decide (0 ≤ x3) && decide (x3 < 8)) then
      call is_l02Half_3 [tA8 x0, tA8 (List.set x1 (Int.toNat x3) (wu8 ((wi64 ((wi64 (x2 - 1)) - x3))))), tI x2, tI (wi64 (x3 + 1))]
    else none
  else
    some [tI 0, tA8 x0, tA8 x1]
theorem vs_l02Half_3 (x0 x1 : List Int) (x2 x3 : Int) (h : bs_l02Half_3 R x0 x1 x2 x3 = some o) : R is_l02Half_3 [tA8 x0, tA8 x1, tI x2, tI x3] = some o := go_ (b := fun c => bs_l02Half_3 c x0 x1 x2 x3) (fun c => by kernel_rfl) h
def bs_l02Half (call : Oracle) (a0 : Int) : Option (List TV) :=
  (call is_l02Half_3 [tA8 (List.replicate 8 0), tA8 (List.replicate 8 0), tI a0, tI 0]).bind fun o1 =>
  some [tA8 (gA8 o1 2)]
theorem vs_l02Half (a0 : Int) (h : bs_l02Half R a0 = some o) : R is_l02Half [tI a0] = some o := go_ (b := fun c => bs_l02Half c a0) (fun c => by kernel_rfl) h
def bs_l02Then_3 (call : Oracle) (x0 x1 : List Int) (x2 x3 : List Int) (x4 x5 : Int) : Option (List TV) :=
  bif decide (x5 < x4) then
    bif (decide (0 ≤ x5) && decide (x5 < 8)) then
      bif (decide (0 ≤ (List.getD x0 (Int.toNat x5) 0)) && decide ((List.getD x0 (Int.toNat x5) 0) < 8)) then
        bif (decide (0 ≤ x5) && decide (x5 < 8)) then
          call is_l02Then_3 [tA8 x0, tA8 x1, tA8 x2, tA8 (List.set x3 (Int.toNat x5) (List.getD x1 (Int.toNat (List.getD x0 (Int.toNat x5) 0)) 0)), tI x4, tI (wi64 (x5 + 1))]
        else none
      else none
    else none
  else
    some [tI 0, tA8 x2, tA8 x3]
theorem vs_l02Then_3 (x0 x1 : List Int) (x2 x3 : List Int) (x4 x5 : Int) (h : bs_l02Then_3 R x0 x1 x2 x3 x4 x5 = some o) : R is_l02Then_3 [tA8 x0, tA8 x1, tA8 x2, tA8 x3, tI x4, tI x5] = some o := go_ (b := fun c => bs_l02Then_3 c x0 x1 x2 x3 x4 x5) (fun c => by kernel_rfl) h
def bs_l02Then (call : Oracle) (a0 a1 : List Int) (a2 : Int) : Option (List TV) :=
  (call is_l02Then_3 [tA8 a0, tA8 a1, tA8 (List.replicate 8 0), tA8 (List.replicate 8 0), tI a2, tI 0]).bind fun o1 =>
  some [tA8 (gA8 o1 2)]
theorem vs_l02Then (a0 a1 : List Int) (a2 : Int) (h : bs_l02Then R a0 a1 a2 = some o) : R is_l02Then [tA8 a0, tA8 a1, tI a2] = some o := go_ (b := fun c => bs_l02Then c a0 a1 a2) (fun c => by kernel_rfl) h
def bs_l02Turn (call : Oracle) (a0 : List Int) (a1 : Int) : Option (List TV) :=
  (call is_l02Half [tI a1]).bind fun o1 =>
  (call is_l02Then [tA8 (gA8 o1 0), tA8 a0, tI a1]).bind fun o2 =>
  (call is_l02Then [tA8 (gA8 o2 0), tA8 (gA8 o1 0), tI a1]).bind fun o3 =>
  some [tA8 (gA8 o3 0)]
theorem vs_l02Turn (a0 : List Int) (a1 : Int) (h : bs_l02Turn R a0 a1 = some o) : R is_l02Turn [tA8 a0, tI a1] = some o := go_ (b := fun c => bs_l02Turn c a0 a1) (fun c => by kernel_rfl) h
def bs_l03Turned_3 (call : Oracle) (x0 x1 : List (List Int)) (x2 x3 x4 : Int) : Option (List TV) :=
  bif decide (x4 < ((List.length x0 : Nat) : Int)) then
    bif ((Int.tmod x3 2) != 0) then
      bif (decide (0 ≤ x4) && decide (x4 < ((List.length x0 : Nat) : Int))) then
        (call is_l02Turn [tA8 (List.getD x0 (Int.toNat x4) (List.replicate 8 0)), tI x2]).bind fun o2 =>
        bif (apOk x1 [(gA8 o2 0)]) then
          call is_l03Turned_3 [tLA8 x0, tLA8 (x1 ++ [(gA8 o2 0)]), tI x2, tI x3, tI (wi64 (x4 + 1))]
        else none
      else none
    else
      bif (decide (0 ≤ x4) && decide (x4 < ((List.length x0 : Nat) : Int))) then
        bif (apOk x1 [(List.getD x0 (Int.toNat x4) (List.replicate 8 0))]) then
          call is_l03Turned_3 [tLA8 x0, tLA8 (x1 ++ [(List.getD x0 (Int.toNat x4) (List.replicate 8 0))]), tI x2, tI x3, tI (wi64 (x4 + 1))]
        else none
      else none
  else
    some [tI 0, tLA8 x1]
theorem vs_l03Turned_3 (x0 x1 : List (List Int)) (x2 x3 x4 : Int) (h : bs_l03Turned_3 R x0 x1 x2 x3 x4 = some o) : R is_l03Turned_3 [tLA8 x0, tLA8 x1, tI x2, tI x3, tI x4] = some o := go_ (b := fun c => bs_l03Turned_3 c x0 x1 x2 x3 x4) (fun c => by kernel_rfl) h
def bs_l03Turned (call : Oracle) (a0 : List (List Int)) (a1 a2 : Int) : Option (List TV) :=
  (call is_l03Turned_3 [tLA8 a0, tLA8 [], tI a1, tI a2, tI 0]).bind fun o3 =>
  some [tLA8 (gLA8 o3 1)]
theorem vs_l03Turned (a0 : List (List Int)) (a1 a2 : Int) (h : bs_l03Turned R a0 a1 a2 = some o) : R is_l03Turned [tLA8 a0, tI a1, tI a2] = some o := go_ (b := fun c => bs_l03Turned c a0 a1 a2) (fun c => by kernel_rfl) h
def bs_l02Back_3 (call : Oracle) (x0 x1 x2 : List Int) (x3 x4 : Int) : Option (List TV) :=
  bif decide (x4 < x3) then
    bif (decide (0 ≤ x4) && decide (x4 < 8)) then
      bif (decide (0 ≤ (List.getD x0 (Int.toNat x4) 0)) && decide ((List.getD x0 (Int.toNat x4) 0) < 8)) then
        call is_l02Back_3 [tA8 x0, tA8 x1, tA8 (List.set x2 (Int.toNat (List.getD x0 (Int.toNat x4) 0)) (wu8 (x4))), tI x3, tI (wi64 (x4 + 1))]
      else none
    else none
  else
    some [tI 0, tA8 x1, tA8 x2]
theorem vs_l02Back_3 (x0 x1 x2 : List Int) (x3 x4 : Int) (h : bs_l02Back_3 R x0 x1 x2 x3 x4 = some o) : R is_l02Back_3 [tA8 x0, tA8 x1, tA8 x2, tI x3, tI x4] = some o := go_ (b := fun c => bs_l02Back_3 c x0 x1 x2 x3 x4) (fun c => by kernel_rfl) h
def bs_l02Back (call : Oracle) (a0 : List Int) (a1 : Int) : Option (List TV) :=
  (call is_l02Back_3 [tA8 a0, tA8 (List.replicate 8 0), tA8 (List.replicate 8 0), tI a1, tI 0]).bind fun o1 =>
  some [tA8 (gA8 o1 2)]
theorem vs_l02Back (a0 : List Int) (a1 : Int) (h : bs_l02Back R a0 a1 = some o) : R is_l02Back [tA8 a0, tI a1] = some o := go_ (b := fun c => bs_l02Back c a0 a1) (fun c => by kernel_rfl) h
def bs_l02Left (call : Oracle) (a0 : List Int) (a1 : Int) : Option (List TV) :=
  (call is_l02Half [tI a1]).bind fun o1 =>
  (call is_l02Back [tA8 a0, tI a1]).bind fun o2 =>
  (call is_l02Then [tA8 (gA8 o1 0), tA8 (gA8 o2 0), tI a1]).bind fun o3 =>
  some [tA8 (gA8 o3 0)]
theorem vs_l02Left (a0 : List Int) (a1 : Int) (h : bs_l02Left R a0 a1 = some o) : R is_l02Left [tA8 a0, tI a1] = some o := go_ (b := fun c => bs_l02Left c a0 a1) (fun c => by kernel_rfl) h
def bs_l02Complement (call : Oracle) (a0 : List Int) (a1 : Int) : Option (List TV) :=
  (call is_l02Back [tA8 a0, tI a1]).bind fun o1 =>
  (call is_l02Half [tI a1]).bind fun o2 =>
  (call is_l02Then [tA8 (gA8 o1 0), tA8 (gA8 o2 0), tI a1]).bind fun o3 =>
  some [tA8 (gA8 o3 0)]
theorem vs_l02Complement (a0 : List Int) (a1 : Int) (h : bs_l02Complement R a0 a1 = some o) : R is_l02Complement [tA8 a0, tI a1] = some o := go_ (b := fun c => bs_l02Complement c a0 a1) (fun c => by kernel_rfl) h
def bs_l02Meet_3 (call : Oracle) (x0 x1 : List Int) (x2 x3 : List Int) (x4 x5 : Int) : Option (List TV) :=
  bif decide (x5 < x4) then
    bif (decide (0 ≤ (wi64 (x5 - 1))) && decide ((wi64 (x5 - 1)) < 8)) then
      bif (decide (0 ≤ x5) && decide (x5 < 8)) then
        bif decide ((List.getD x0 (Int.toNat x5) 0) < (List.getD x0 (Int.toNat (wi64 (x5 - 1))) 0)) then
          bif (decide (0 ≤ (wi64 (x5 - 1))) && decide ((wi64 (x5 - 1)) < 8)) then
            bif (decide (0 ≤ x5) && decide (x5 < 8)) then
              bif decide ((List.getD x1 (Int.toNat x5) 0) < (List.getD x1 (Int.toNat (wi64 (x5 - 1))) 0)) then
                (call is_l02Exchange [tI x4, tI x5]).bind fun o6 =>
                (call is_l02Then [tA8 x3, tA8 (gA8 o6 0), tI x4]).bind fun o7 =>
                (call is_l02Then [tA8 (gA8 o6 0), tA8 x0, tI x4]).bind fun o8 =>
                (call is_l02Then [tA8 (gA8 o6 0), tA8 x1, tI x4]).bind fun o9 =>
                call is_l02Meet_3 [tA8 (gA8 o8 0), tA8 (gA8 o9 0), tA8 x2, tA8 (gA8 o7 0), tI x4, tI 1]
              else
                call is_l02Meet_3 [tA8 x0, tA8 x1, tA8 x2, tA8 x3, tI x4, tI (wi64 (x5 + 1))]
            else none
          else none
        else
          call is_l02Meet_3 [tA8 x0, tA8 x1, tA8 x2, tA8 x3, tI x4, tI (wi64 (x5 + 1))]
      else none
    else none
  else
    some [tI 0, tA8 x2, tA8 x3]
theorem vs_l02Meet_3 (x0 x1 : List Int) (x2 x3 : List Int) (x4 x5 : Int) (h : bs_l02Meet_3 R x0 x1 x2 x3 x4 x5 = some o) : R is_l02Meet_3 [tA8 x0, tA8 x1, tA8 x2, tA8 x3, tI x4, tI x5] = some o := go_ (b := fun c => bs_l02Meet_3 c x0 x1 x2 x3 x4 x5) (fun c => by kernel_rfl) h
def bs_l02Meet (call : Oracle) (a0 a1 : List Int) (a2 : Int) : Option (List TV) :=
  (call is_l02Same [tI a2]).bind fun o1 =>
  (call is_l02Meet_3 [tA8 a0, tA8 a1, tA8 (List.replicate 8 0), tA8 (gA8 o1 0), tI a2, tI 1]).bind fun o10 =>
  some [tA8 (gA8 o10 2)]
theorem vs_l02Meet (a0 a1 : List Int) (a2 : Int) (h : bs_l02Meet R a0 a1 a2 = some o) : R is_l02Meet [tA8 a0, tA8 a1, tI a2] = some o := go_ (b := fun c => bs_l02Meet c a0 a1 a2) (fun c => by kernel_rfl) h
def bs_l03Weigh_3 (call : Oracle) (x0 : List (List Int)) (x1 : Int) (x2 : Bool) : Option (List TV) :=
  bif x2 then
    (call is_l03Weigh_6 [tLA8 x0, tI x1, tB false, tI (wi64 (((List.length x0 : Nat) : Int) - 2))]).bind fun o14 =>
    call is_l03Weigh_3 [tLA8 (gLA8 o14 1), tI (gI o14 2), tB (gB o14 3)]
  else
    some [tI 0, tLA8 x0]
theorem vs_l03Weigh_3 (x0 : List (List Int)) (x1 : Int) (x2 : Bool) (h : bs_l03Weigh_3 R x0 x1 x2 = some o) : R is_l03Weigh_3 [tLA8 x0, tI x1, tB x2] = some o := go_ (b := fun c => bs_l03Weigh_3 c x0 x1 x2) (fun c => by kernel_rfl) h
def bs_l03Weigh_6 (call : Oracle) (x0 : List (List Int)) (x1 : Int) (x2 : Bool) (x3 : Int) : Option (List TV) :=
  bif decide (0 ≤ x3) then
    bif (decide (0 ≤ x3) && decide (x3 < ((List.length x0 : Nat) : Int))) then
      (call is_l02Complement [tA8 (List.getD x0 (Int.toNat x3) (List.replicate 8 0)), tI x1]).bind fun o7 =>
      bif (decide (0 ≤ (wi64 (x3 + 1))) && decide ((wi64 (x3 + 1)) < ((List.length x0 : Nat) : Int))) then
        (call is_l02Meet [tA8 (gA8 o7 0), tA8 (List.getD x0 (Int.toNat (wi64 (x3 + 1))) (List.replicate 8 0)), tI x1]).bind fun o8 =>
        (call is_l02Same [tI x1]).bind fun o9 =>
        bif ((gA8 o8 0) == (gA8 o9 0)) then
          call is_l03Weigh_6 [tLA8 x0, tI x1, tB x2, tI (wi64 (x3 - 1))]
        else
          bif (decide (0 ≤ x3) && decide (x3 < ((List.length x0 : Nat) : Int))) then
            (call is_l02Then [tA8 (List.getD x0 (Int.toNat x3) (List.replicate 8 0)), tA8 (gA8 o8 0), tI x1]).bind fun o10 =>
            bif (decide (0 ≤ x3) && decide (x3 < ((List.length x0 : Nat) : Int))) then
              (call is_l02Back [tA8 (gA8 o8 0), tI x1]).bind fun o11 =>
              bif (decide (0 ≤ (wi64 (x3 + 1))) && decide ((wi64 (x3 + 1)) < ((List.length (List.set x0 (Int.toNat x3) (gA8 o10 0)) : Nat) : Int))) then
                (call is_l02Then [tA8 (gA8 o11 0), tA8 (List.getD (List.set x0 (Int.toNat x3) (gA8 o10 0)) (Int.toNat (wi64 (x3 + 1))) (List.replicate 8 0)), tI x1]).bind fun o12 =>
                bif (decide (0 ≤ (wi64 (x3 + 1))) && decide ((wi64 (x3 + 1)) < ((List.length (List.set x0 (Int.toNat x3) (gA8 o10 0)) : Nat) : Int))) then
                  call is_l03Weigh_6 [tLA8 (List.set (List.set x0 (Int.toNat x3) (gA8 o10 0)) (Int.toNat (wi64 (x3 + 1))) (gA8 o12 0)), tI x1, tB true, tI (wi64 (x3 - 1))]
                else none
              else none
            else none
          else none
      else none
    else none
  else
    some [tI 0, tLA8 x0, tI x1, tB x2]
theorem vs_l03Weigh_6 (x0 : List (List Int)) (x1 : Int) (x2 : Bool) (x3 : Int) (h : bs_l03Weigh_6 R x0 x1 x2 x3 = some o) : R is_l03Weigh_6 [tLA8 x0, tI x1, tB x2, tI x3] = some o := go_ (b := fun c => bs_l03Weigh_6 c x0 x1 x2 x3) (fun c => by kernel_rfl) h
def bs_l03Weigh (call : Oracle) (a0 : List (List Int)) (a1 : Int) : Option (List TV) :=
  bif (apOk [] a0) then
    (call is_l03Weigh_3 [tLA8 a0, tI a1, tB true]).bind fun o15 =>
    some [tLA8 (gLA8 o15 1)]
  else none
theorem vs_l03Weigh (a0 : List (List Int)) (a1 : Int) (h : bs_l03Weigh R a0 a1 = some o) : R is_l03Weigh [tLA8 a0, tI a1] = some o := go_ (b := fun c => bs_l03Weigh c a0 a1) (fun c => by kernel_rfl) h
def bs_l03Make_4 (call : Oracle) (x0 : List (List Int)) (x1 x2 : Int) (x3 : List (List Int)) (x4 x5 : Int) (x6 x7 : Int) : Option (List TV) :=
  bif decide (x6 < x7) then
    bif (decide (0 ≤ x6) && decide (x6 < ((List.length x0 : Nat) : Int))) then
      (call is_l02Half [tI x4]).bind fun o3 =>
      bif ((List.getD x0 (Int.toNat x6) (List.replicate 8 0)) == (gA8 o3 0)) then
        call is_l03Make_4 [tLA8 x0, tI x1, tI x2, tLA8 x3, tI x4, tI (wi64 (x5 + 1)), tI (wi64 (x6 + 1)), tI x7]
      else
        some [tI 0, tLA8 x0, tI x1, tI x2, tLA8 x3, tI x4, tI x5, tI x6, tI x7]
    else none
  else
    some [tI 0, tLA8 x0, tI x1, tI x2, tLA8 x3, tI x4, tI x5, tI x6, tI x7]
theorem vs_l03Make_4 (x0 : List (List Int)) (x1 x2 : Int) (x3 : List (List Int)) (x4 x5 : Int) (x6 x7 : Int) (h : bs_l03Make_4 R x0 x1 x2 x3 x4 x5 x6 x7 = some o) : R is_l03Make_4 [tLA8 x0, tI x1, tI x2, tLA8 x3, tI x4, tI x5, tI x6, tI x7] = some o := go_ (b := fun c => bs_l03Make_4 c x0 x1 x2 x3 x4 x5 x6 x7) (fun c => by kernel_rfl) h
def bs_l03Make_7 (call : Oracle) (x0 : List (List Int)) (x1 x2 : Int) (x3 : List (List Int)) (x4 x5 : Int) (x6 x7 : Int) : Option (List TV) :=
  bif decide (x6 < x7) then
    bif (decide (0 ≤ (wi64 (x7 - 1))) && decide ((wi64 (x7 - 1)) < ((List.length x0 : Nat) : Int))) then
      (call is_l02Same [tI x4]).bind fun o6 =>
      bif ((List.getD x0 (Int.toNat (wi64 (x7 - 1))) (List.replicate 8 0)) == (gA8 o6 0)) then
        call is_l03Make_7 [tLA8 x0, tI x1, tI x2, tLA8 x3, tI x4, tI x5, tI x6, tI (wi64 (x7 - 1))]
      else
        some [tI 0, tLA8 x0, tI x1, tI x2, tLA8 x3, tI x4, tI x5, tI x6, tI x7]
    else none
  else
    some [tI 0, tLA8 x0, tI x1, tI x2, tLA8 x3, tI x4, tI x5, tI x6, tI x7]
theorem vs_l03Make_7 (x0 : List (List Int)) (x1 x2 : Int) (x3 : List (List Int)) (x4 x5 : Int) (x6 x7 : Int) (h : bs_l03Make_7 R x0 x1 x2 x3 x4 x5 x6 x7 = some o) : R is_l03Make_7 [tLA8 x0, tI x1, tI x2, tLA8 x3, tI x4, tI x5, tI x6, tI x7] = some o := go_ (b := fun c => bs_l03Make_7 c x0 x1 x2 x3 x4 x5 x6 x7) (fun c => by kernel_rfl) h
def bs_l03Make (call : Oracle) (a0 a1 : Int) (a2 : List (List Int)) : Option (List TV) :=
  (call is_l03Weigh [tLA8 a2, tI a0]).bind fun o1 =>
  bif decide (1 < a0) then
    (call is_l03Make_4 [tLA8 (gLA8 o1 0), tI 0, tI 0, tLA8 [], tI a0, tI a1, tI 0, tI ((List.length (gLA8 o1 0) : Nat) : Int)]).bind fun o4 =>
    (call is_l03Make_7 [tLA8 (gLA8 o4 1), tI (gI o4 2), tI (gI o4 3), tLA8 (gLA8 o4 4), tI (gI o4 5), tI (gI o4 6), tI (gI o4 7), tI (gI o4 8)]).bind fun o7 =>
    bif ((decide (0 ≤ (gI o7 7)) && decide ((gI o7 7) ≤ (gI o7 8))) && decide ((gI o7 8) ≤ ((List.length (gLA8 o7 1) : Nat) : Int))) then
      bif (apOk [] (List.drop (Int.toNat (gI o7 7)) (List.take (Int.toNat (gI o7 8)) (gLA8 o7 1)))) then
        some [tPIPILA8 ((gI o7 5), ((gI o7 6), (List.drop (Int.toNat (gI o7 7)) (List.take (Int.toNat (gI o7 8)) (gLA8 o7 1)))))]
      else none
    else none
  else
    (call is_l03Make_7 [tLA8 (gLA8 o1 0), tI 0, tI 0, tLA8 [], tI a0, tI a1, tI 0, tI ((List.length (gLA8 o1 0) : Nat) : Int)]).bind fun o8 =>
    bif ((decide (0 ≤ (gI o8 7)) && decide ((gI o8 7) ≤ (gI o8 8))) && decide ((gI o8 8) ≤ ((List.length (gLA8 o8 1) : Nat) : Int))) then
      bif (apOk [] (List.drop (Int.toNat (gI o8 7)) (List.take (Int.toNat (gI o8 8)) (gLA8 o8 1)))) then
        some [tPIPILA8 ((gI o8 5), ((gI o8 6), (List.drop (Int.toNat (gI o8 7)) (List.take (Int.toNat (gI o8 8)) (gLA8 o8 1)))))]
      else none
    else none
theorem vs_l03Make (a0 a1 : Int) (a2 : List (List Int)) (h : bs_l03Make R a0 a1 a2 = some o) : R is_l03Make [tI a0, tI a1, tLA8 a2] = some o := go_ (b := fun c => bs_l03Make c a0 a1 a2) (fun c => by kernel_rfl) h
def bs_l03Times (call : Oracle) (a0 : Int × Int × List (List Int)) (a1 : List Int) (a2 : Bool) : Option (List TV) :=
  bif a2 then
    (call is_l03Turned [tLA8 a0.2.2, tI a0.1, tI 1]).bind fun o1 =>
    (call is_l02Left [tA8 a1, tI a0.1]).bind fun o2 =>
    bif (apOk (gLA8 o1 0) [(gA8 o2 0)]) then
      (call is_l03Make [tI a0.1, tI (wi64 (a0.2.1 - 1)), tLA8 ((gLA8 o1 0) ++ [(gA8 o2 0)])]).bind fun o3 =>
      some [tPIPILA8 (gPIPILA8 o3 0)]
    else none
  else
    bif (apOk [] a0.2.2) then
      bif (apOk a0.2.2 [a1]) then
        (call is_l03Make [tI a0.1, tI a0.2.1, tLA8 (a0.2.2 ++ [a1])]).bind fun o4 =>
        some [tPIPILA8 (gPIPILA8 o4 0)]
      else none
    else none
theorem vs_l03Times (a0 : Int × Int × List (List Int)) (a1 : List Int) (a2 : Bool) (h : bs_l03Times R a0 a1 a2 = some o) : R is_l03Times [tPIPILA8 a0, tA8 a1, tB a2] = some o := go_ (b := fun c => bs_l03Times c a0 a1 a2) (fun c => by kernel_rfl) h
def bs_l03Of_3 (call : Oracle) (x0 : List Int) (x1 x2 : Int) (x3 : List (List Int)) (x4 x5 : Int) (x6 : List (List Int)) (x7 x8 : Int) : Option (List TV) :=
  bif decide (x8 < ((List.length x0 : Nat) : Int)) then
    bif (decide (0 ≤ x8) && decide (x8 < ((List.length x0 : Nat) : Int))) then
      bif decide (0 < (List.getD x0 (Int.toNat x8) 0)) then
        bif (decide (0 ≤ x8) && decide (x8 < ((List.length x0 : Nat) : Int))) then
          (call is_l02Exchange [tI x7, tI (List.getD x0 (Int.toNat x8) 0)]).bind fun o5 =>
          (call is_l03Times [tPIPILA8 (x4, (x5, x6)), tA8 (gA8 o5 0), tB false]).bind fun o6 =>
          call is_l03Of_3 [tLI x0, tI x1, tI x2, tLA8 x3, tI ((gPIPILA8 o6 0).1), tI (((gPIPILA8 o6 0).2).1), tLA8 (((gPIPILA8 o6 0).2).2), tI x7, tI (wi64 (x8 + 1))]
        else none
      else
        bif (decide (0 ≤ x8) && decide (x8 < ((List.length x0 : Nat) : Int))) then
          (call is_l02Exchange [tI x7, tI (wi64 (0 - (List.getD x0 (Int.toNat x8) 0)))]).bind fun o7 =>
          (call is_l03Times [tPIPILA8 (x4, (x5, x6)), tA8 (gA8 o7 0), tB true]).bind fun o8 =>
          call is_l03Of_3 [tLI x0, tI x1, tI x2, tLA8 x3, tI ((gPIPILA8 o8 0).1), tI (((gPIPILA8 o8 0).2).1), tLA8 (((gPIPILA8 o8 0).2).2), tI x7, tI (wi64 (x8 + 1))]
        else none
    else none
  else
    some [tI 0, tI x1, tI x2, tLA8 x3, tI x4, tI x5, tLA8 x6]
theorem vs_l03Of_3 (x0 : List Int) (x1 x2 : Int) (x3 : List (List Int)) (x4 x5 : Int) (x6 : List (List Int)) (x7 x8 : Int) (h : bs_l03Of_3 R x0 x1 x2 x3 x4 x5 x6 x7 x8 = some o) : R is_l03Of_3 [tLI x0, tI x1, tI x2, tLA8 x3, tI x4, tI x5, tLA8 x6, tI x7, tI x8] = some o := go_ (b := fun c => bs_l03Of_3 c x0 x1 x2 x3 x4 x5 x6 x7 x8) (fun c => by kernel_rfl) h
def bs_l03Of (call : Oracle) (a0 : Int) (a1 : List Int) : Option (List TV) :=
  (call is_l03Of_3 [tLI a1, tI 0, tI 0, tLA8 [], tI a0, tI 0, tLA8 [], tI a0, tI 0]).bind fun o9 =>
  some [tPIPILA8 ((gI o9 4), ((gI o9 5), (gLA8 o9 6)))]
theorem vs_l03Of (a0 : Int) (a1 : List Int) (h : bs_l03Of R a0 a1 = some o) : R is_l03Of [tI a0, tLI a1] = some o := go_ (b := fun c => bs_l03Of c a0 a1) (fun c => by kernel_rfl) h
def bs_l03Inverse_3 (call : Oracle) (x0 x1 : Int) (x2 : List (List Int)) (x3 x4 : Int) (x5 : List (List Int)) (x6 x7 : Int) (x8 : List (List Int)) (x9 : Int) : Option (List TV) :=
  bif decide (0 ≤ x9) then
    bif (decide (0 ≤ x9) && decide (x9 < ((List.length x2 : Nat) : Int))) then
      (call is_l03Times [tPIPILA8 (x6, (x7, x8)), tA8 (List.getD x2 (Int.toNat x9) (List.replicate 8 0)), tB true]).bind fun o2 =>
      call is_l03Inverse_3 [tI x0, tI x1, tLA8 x2, tI x3, tI x4, tLA8 x5, tI ((gPIPILA8 o2 0).1), tI (((gPIPILA8 o2 0).2).1), tLA8 (((gPIPILA8 o2 0).2).2), tI (wi64 (x9 - 1))]
    else none
  else
    some [tI 0, tI x0, tI x1, tLA8 x2, tI x3, tI x4, tLA8 x5, tI x6, tI x7, tLA8 x8]
theorem vs_l03Inverse_3 (x0 x1 : Int) (x2 : List (List Int)) (x3 x4 : Int) (x5 : List (List Int)) (x6 x7 : Int) (x8 : List (List Int)) (x9 : Int) (h : bs_l03Inverse_3 R x0 x1 x2 x3 x4 x5 x6 x7 x8 x9 = some o) : R is_l03Inverse_3 [tI x0, tI x1, tLA8 x2, tI x3, tI x4, tLA8 x5, tI x6, tI x7, tLA8 x8, tI x9] = some o := go_ (b := fun c => bs_l03Inverse_3 c x0 x1 x2 x3 x4 x5 x6 x7 x8 x9) (fun c => by kernel_rfl) h
def bs_l03Inverse (call : Oracle) (a0 : Int × Int × List (List Int)) : Option (List TV) :=
  (call is_l03Inverse_3 [tI a0.1, tI a0.2.1, tLA8 a0.2.2, tI 0, tI 0, tLA8 [], tI a0.1, tI 0, tLA8 [], tI (wi64 (((List.length a0.2.2 : Nat) : Int) - 1))]).bind fun o3 =>
  (call is_l03Turned [tLA8 (gLA8 o3 9), tI (gI o3 1), tI (gI o3 2)]).bind fun o4 =>
  some [tPIPILA8 ((gI o3 1), ((wi64 ((gI o3 8) - (gI o3 2))), (gLA8 o4 0)))]
theorem vs_l03Inverse (a0 : Int × Int × List (List Int)) (h : bs_l03Inverse R a0 = some o) : R is_l03Inverse [tPIPILA8 a0] = some o := go_ (b := fun c => bs_l03Inverse c a0) (fun c => by kernel_rfl) h
def bs_l03Product (call : Oracle) (a0 a1 : Int × Int × List (List Int)) : Option (List TV) :=
  (call is_l03Turned [tLA8 a0.2.2, tI a0.1, tI a1.2.1]).bind fun o1 =>
  bif (apOk (gLA8 o1 0) a1.2.2) then
    (call is_l03Make [tI a0.1, tI (wi64 (a0.2.1 + a1.2.1)), tLA8 ((gLA8 o1 0) ++ a1.2.2)]).bind fun o2 =>
    some [tPIPILA8 (gPIPILA8 o2 0)]
  else none
theorem vs_l03Product (a0 a1 : Int × Int × List (List Int)) (h : bs_l03Product R a0 a1 = some o) : R is_l03Product [tPIPILA8 a0, tPIPILA8 a1] = some o := go_ (b := fun c => bs_l03Product c a0 a1) (fun c => by kernel_rfl) h
def bs_l03Draw (call : Oracle) (a0 : List Int × Int × Int) (a1 : Int) : Option (List TV) :=
  (call is_l01Draw [tPLU8PIU64 a0, tI a1, tI 14]).bind fun o1 =>
  (call is_l03Of [tI a1, tLI (gLI o1 0)]).bind fun o2 =>
  some [tPIPILA8 (gPIPILA8 o2 0), tPLU8PIU64 (gPLU8PIU64 o1 1)]
theorem vs_l03Draw (a0 : List Int × Int × Int) (a1 : Int) (h : bs_l03Draw R a0 a1 = some o) : R is_l03Draw [tPLU8PIU64 a0, tI a1] = some o := go_ (b := fun c => bs_l03Draw c a0 a1) (fun c => by kernel_rfl) h
def bs_l03Some (call : Oracle) (a0 : List Int × Int × Int) : Option (List TV) :=
  (call is_l01Pick [tPLU8PIU64 a0, tLI [1, 2, 3, 3, 4, 4, 5, 6]]).bind fun o1 =>
  (call is_l03Draw [tPLU8PIU64 (gPLU8PIU64 o1 1), tI (gI o1 0)]).bind fun o2 =>
  (call is_l01Next [tPLU8PIU64 (gPLU8PIU64 o2 1), tI 40]).bind fun o3 =>
  bif ((gI o3 0) == 0) then
    (call is_l01Pick [tPLU8PIU64 (gPLU8PIU64 o3 1), tLI [201, (-201), 200]]).bind fun o4 =>
    some [tPIPILA8 ((gPIPILA8 o2 0).1, ((gI o4 0), ((gPIPILA8 o2 0).2).2)), tPLU8PIU64 (gPLU8PIU64 o4 1)]
  else
    bif ((gI o3 0) == 1) then
      (call is_l02Same [tI (gI o1 0)]).bind fun o5 =>
      bif (apOk (((gPIPILA8 o2 0).2).2) [(gA8 o5 0)]) then
        some [tPIPILA8 ((gPIPILA8 o2 0).1, (((gPIPILA8 o2 0).2).1, (((gPIPILA8 o2 0).2).2 ++ [(gA8 o5 0)]))), tPLU8PIU64 (gPLU8PIU64 o3 1)]
      else none
    else
      bif ((gI o3 0) == 2) then
        (call is_l02Half [tI (gI o1 0)]).bind fun o6 =>
        bif (apOk [(gA8 o6 0)] (((gPIPILA8 o2 0).2).2)) then
          some [tPIPILA8 ((gPIPILA8 o2 0).1, (((gPIPILA8 o2 0).2).1, ([(gA8 o6 0)] ++ ((gPIPILA8 o2 0).2).2))), tPLU8PIU64 (gPLU8PIU64 o3 1)]
        else none
      else
        bif ((gI o3 0) == 3) then
          bif decide (1 < ((List.length (((gPIPILA8 o2 0).2).2) : Nat) : Int)) then
            bif decide (1 < ((List.length (((gPIPILA8 o2 0).2).2) : Nat) : Int)) then
              bif (apOk [(List.getD (((gPIPILA8 o2 0).2).2) 1 (List.replicate 8 0))] (((gPIPILA8 o2 0).2).2)) then
                some [tPIPILA8 ((gPIPILA8 o2 0).1, (((gPIPILA8 o2 0).2).1, ([(List.getD (((gPIPILA8 o2 0).2).2) 1 (List.replicate 8 0))] ++ ((gPIPILA8 o2 0).2).2))), tPLU8PIU64 (gPLU8PIU64 o3 1)]
              else none
            else none
          else
            some [tPIPILA8 (gPIPILA8 o2 0), tPLU8PIU64 (gPLU8PIU64 o3 1)]
        else
          some [tPIPILA8 (gPIPILA8 o2 0), tPLU8PIU64 (gPLU8PIU64 o3 1)]
theorem vs_l03Some (a0 : List Int × Int × Int) (h : bs_l03Some R a0 = some o) : R is_l03Some [tPLU8PIU64 a0] = some o := go_ (b := fun c => bs_l03Some c a0) (fun c => by kernel_rfl) h
def bs_l04Draw_6 (call : Oracle) (x0 x1 : Int) (x2 : List Int) (x3 x4 : Int) (x5 : List (List Int)) (x6 : List Int) (x7 x8 : Int) : Option (List TV) :=
  bif decide (0 < x8) then
    (call is_l04Draw_9 [tI x0, tU64 x1, tLU8 x2, tI x3, tI x4, tLA8 x5, tLI x6, tI x7, tI x8, tI 1]).bind fun o7 =>
    call is_l04Draw_6 [tI (gI o7 1), tU64 (gU64 o7 2), tLU8 (gLU8 o7 3), tI (gI o7 4), tI (gI o7 5), tLA8 (gLA8 o7 6), tLI (gLI o7 7), tI (gI o7 8), tI (wi64 ((gI o7 9) - 1))]
  else
    some [tI 0, tI x0, tU64 x1, tLU8 x2, tI x3, tI x4, tLA8 x5, tLI x6, tI x7]
theorem vs_l04Draw_6 (x0 x1 : Int) (x2 : List Int) (x3 x4 : Int) (x5 : List (List Int)) (x6 : List Int) (x7 x8 : Int) (h : bs_l04Draw_6 R x0 x1 x2 x3 x4 x5 x6 x7 x8 = some o) : R is_l04Draw_6 [tI x0, tU64 x1, tLU8 x2, tI x3, tI x4, tLA8 x5, tLI x6, tI x7, tI x8] = some o := go_ (b := fun c => bs_l04Draw_6 c x0 x1 x2 x3 x4 x5 x6 x7 x8) (fun c => by kernel_rfl) h
def bs_l04Draw_9 (call : Oracle) (x0 x1 : Int) (x2 : List Int) (x3 x4 : Int) (x5 : List (List Int)) (x6 : List Int) (x7 x8 x9 : Int) : Option (List TV) :=
  bif decide (x9 < x7) then
    bif (apOk x6 [x9]) then
      call is_l04Draw_9 [tI x0, tU64 x1, tLU8 x2, tI x3, tI x4, tLA8 x5, tLI (x6 ++ [x9]), tI x7, tI x8, tI (wi64 (x9 + 1))]
    else none
  else
    some [tI 0, tI x0, tU64 x1, tLU8 x2, tI x3, tI x4, tLA8 x5, tLI x6, tI x7, tI x8]
theorem vs_l04Draw_9 (x0 x1 : Int) (x2 : List Int) (x3 x4 : Int) (x5 : List (List Int)) (x6 : List Int) (x7 x8 x9 : Int) (h : bs_l04Draw_9 R x0 x1 x2 x3 x4 x5 x6 x7 x8 x9 = some o) : R is_l04Draw_9 [tI x0, tU64 x1, tLU8 x2, tI x3, tI x4, tLA8 x5, tLI x6, tI x7, tI x8, tI x9] = some o := go_ (b := fun c => bs_l04Draw_9 c x0 x1 x2 x3 x4 x5 x6 x7 x8 x9) (fun c => by kernel_rfl) h
def bs_l04Draw (call : Oracle) (a0 : List Int × Int × Int) : Option (List TV) :=
  (call is_l01Pick [tPLU8PIU64 a0, tLI [2, 3, 3, 3, 4, 4, 5]]).bind fun o1 =>
  (call is_l01Pick [tPLU8PIU64 (gPLU8PIU64 o1 1), tLI [3, 6, 9]]).bind fun o2 =>
  (call is_l01Draw [tPLU8PIU64 (gPLU8PIU64 o2 1), tI (gI o1 0), tI (gI o2 0)]).bind fun o3 =>
  (call is_l01Next [tPLU8PIU64 (gPLU8PIU64 o3 1), tI 4]).bind fun o4 =>
  bif ((gI o4 0) == 0) then
    (call is_l01Next [tPLU8PIU64 (gPLU8PIU64 o4 1), tI 3]).bind fun o5 =>
    (call is_l04Draw_6 [tI (((gPLU8PIU64 o5 1).2).1), tU64 (((gPLU8PIU64 o5 1).2).2), tLU8 ((gPLU8PIU64 o5 1).1), tI 0, tI 0, tLA8 [], tLI [], tI (gI o1 0), tI (wi64 (1 + (gI o5 0)))]).bind fun o8 =>
    (call is_l03Of [tI (gI o8 8), tLI (gLI o8 7)]).bind fun o9 =>
    (call is_l01Next [tPLU8PIU64 ((gLU8 o8 3), ((gI o8 1), (gU64 o8 2))), tI 2]).bind fun o10 =>
    bif ((gI o10 0) == 0) then
      (call is_l01Draw [tPLU8PIU64 (gPLU8PIU64 o10 1), tI (gI o8 8), tI 4]).bind fun o11 =>
      (call is_l03Of [tI (gI o8 8), tLI (gLI o11 0)]).bind fun o12 =>
      (call is_l03Inverse [tPIPILA8 (gPIPILA8 o12 0)]).bind fun o13 =>
      (call is_l03Product [tPIPILA8 (gPIPILA8 o13 0), tPIPILA8 (gPIPILA8 o9 0)]).bind fun o14 =>
      (call is_l03Product [tPIPILA8 (gPIPILA8 o14 0), tPIPILA8 (gPIPILA8 o12 0)]).bind fun o15 =>
      (call is_l01Next [tPLU8PIU64 (gPLU8PIU64 o11 1), tI 40]).bind fun o16 =>
      bif ((gI o16 0) == 0) then
        (call is_l03Some [tPLU8PIU64 (gPLU8PIU64 o16 1)]).bind fun o17 =>
        some [tPIPILA8 (gPIPILA8 o17 0), tPLU8PIU64 (gPLU8PIU64 o17 1)]
      else
        bif ((gI o16 0) == 1) then
          (call is_l02Half [tI (gI o8 8)]).bind fun o18 =>
          bif (apOk (((gPIPILA8 o15 0).2).2) [(gA8 o18 0)]) then
            some [tPIPILA8 ((gPIPILA8 o15 0).1, (((gPIPILA8 o15 0).2).1, (((gPIPILA8 o15 0).2).2 ++ [(gA8 o18 0)]))), tPLU8PIU64 (gPLU8PIU64 o16 1)]
          else none
        else
          bif ((gI o16 0) == 2) then
            (call is_l01Draw [tPLU8PIU64 (gPLU8PIU64 o16 1), tI 6, tI 5]).bind fun o19 =>
            (call is_l03Of [tI 6, tLI (gLI o19 0)]).bind fun o20 =>
            some [tPIPILA8 (gPIPILA8 o20 0), tPLU8PIU64 (gPLU8PIU64 o19 1)]
          else
            some [tPIPILA8 (gPIPILA8 o15 0), tPLU8PIU64 (gPLU8PIU64 o16 1)]
    else
      (call is_l01Next [tPLU8PIU64 (gPLU8PIU64 o10 1), tI 40]).bind fun o21 =>
      bif ((gI o21 0) == 0) then
        (call is_l03Some [tPLU8PIU64 (gPLU8PIU64 o21 1)]).bind fun o22 =>
        some [tPIPILA8 (gPIPILA8 o22 0), tPLU8PIU64 (gPLU8PIU64 o22 1)]
      else
        bif ((gI o21 0) == 1) then
          (call is_l02Half [tI (gI o8 8)]).bind fun o23 =>
          bif (apOk (((gPIPILA8 o9 0).2).2) [(gA8 o23 0)]) then
            some [tPIPILA8 ((gPIPILA8 o9 0).1, (((gPIPILA8 o9 0).2).1, (((gPIPILA8 o9 0).2).2 ++ [(gA8 o23 0)]))), tPLU8PIU64 (gPLU8PIU64 o21 1)]
          else none
        else
          bif ((gI o21 0) == 2) then
            (call is_l01Draw [tPLU8PIU64 (gPLU8PIU64 o21 1), tI 6, tI 5]).bind fun o24 =>
            (call is_l03Of [tI 6, tLI (gLI o24 0)]).bind fun o25 =>
            some [tPIPILA8 (gPIPILA8 o25 0), tPLU8PIU64 (gPLU8PIU64 o24 1)]
          else
            some [tPIPILA8 (gPIPILA8 o9 0), tPLU8PIU64 (gPLU8PIU64 o21 1)]
  else
    (call is_l03Of [tI (gI o1 0), tLI (gLI o3 0)]).bind fun o26 =>
    (call is_l01Next [tPLU8PIU64 (gPLU8PIU64 o4 1), tI 2]).bind fun o27 =>
    bif ((gI o27 0) == 0) then
      (call is_l01Draw [tPLU8PIU64 (gPLU8PIU64 o27 1), tI (gI o1 0), tI 4]).bind fun o28 =>
      (call is_l03Of [tI (gI o1 0), tLI (gLI o28 0)]).bind fun o29 =>
      (call is_l03Inverse [tPIPILA8 (gPIPILA8 o29 0)]).bind fun o30 =>
      (call is_l03Product [tPIPILA8 (gPIPILA8 o30 0), tPIPILA8 (gPIPILA8 o26 0)]).bind fun o31 =>
      (call is_l03Product [tPIPILA8 (gPIPILA8 o31 0), tPIPILA8 (gPIPILA8 o29 0)]).bind fun o32 =>
      (call is_l01Next [tPLU8PIU64 (gPLU8PIU64 o28 1), tI 40]).bind fun o33 =>
      bif ((gI o33 0) == 0) then
        (call is_l03Some [tPLU8PIU64 (gPLU8PIU64 o33 1)]).bind fun o34 =>
        some [tPIPILA8 (gPIPILA8 o34 0), tPLU8PIU64 (gPLU8PIU64 o34 1)]
      else
        bif ((gI o33 0) == 1) then
          (call is_l02Half [tI (gI o1 0)]).bind fun o35 =>
          bif (apOk (((gPIPILA8 o32 0).2).2) [(gA8 o35 0)]) then
            some [tPIPILA8 ((gPIPILA8 o32 0).1, (((gPIPILA8 o32 0).2).1, (((gPIPILA8 o32 0).2).2 ++ [(gA8 o35 0)]))), tPLU8PIU64 (gPLU8PIU64 o33 1)]
          else none
        else
          bif ((gI o33 0) == 2) then
            (call is_l01Draw [tPLU8PIU64 (gPLU8PIU64 o33 1), tI 6, tI 5]).bind fun o36 =>
            (call is_l03Of [tI 6, tLI (gLI o36 0)]).bind fun o37 =>
            some [tPIPILA8 (gPIPILA8 o37 0), tPLU8PIU64 (gPLU8PIU64 o36 1)]
          else
            some [tPIPILA8 (gPIPILA8 o32 0), tPLU8PIU64 (gPLU8PIU64 o33 1)]
    else
      (call is_l01Next [tPLU8PIU64 (gPLU8PIU64 o27 1), tI 40]).bind fun o38 =>
      bif ((gI o38 0) == 0) then
        (call is_l03Some [tPLU8PIU64 (gPLU8PIU64 o38 1)]).bind fun o39 =>
        some [tPIPILA8 (gPIPILA8 o39 0), tPLU8PIU64 (gPLU8PIU64 o39 1)]
      else
        bif ((gI o38 0) == 1) then
          (call is_l02Half [tI (gI o1 0)]).bind fun o40 =>
          bif (apOk (((gPIPILA8 o26 0).2).2) [(gA8 o40 0)]) then
            some [tPIPILA8 ((gPIPILA8 o26 0).1, (((gPIPILA8 o26 0).2).1, (((gPIPILA8 o26 0).2).2 ++ [(gA8 o40 0)]))), tPLU8PIU64 (gPLU8PIU64 o38 1)]
          else none
        else
          bif ((gI o38 0) == 2) then
            (call is_l01Draw [tPLU8PIU64 (gPLU8PIU64 o38 1), tI 6, tI 5]).bind fun o41 =>
            (call is_l03Of [tI 6, tLI (gLI o41 0)]).bind fun o42 =>
            some [tPIPILA8 (gPIPILA8 o42 0), tPLU8PIU64 (gPLU8PIU64 o41 1)]
          else
            some [tPIPILA8 (gPIPILA8 o26 0), tPLU8PIU64 (gPLU8PIU64 o38 1)]
theorem vs_l04Draw (a0 : List Int × Int × Int) (h : bs_l04Draw R a0 = some o) : R is_l04Draw [tPLU8PIU64 a0] = some o := go_ (b := fun c => bs_l04Draw c a0) (fun c => by kernel_rfl) h
def bs_DrawSummitOf (call : Oracle) (a0 : List Int) : Option (List TV) :=
  (call is_l01From [tLU8 a0]).bind fun o1 =>
  (call is_l04Draw [tPLU8PIU64 (gPLU8PIU64 o1 0)]).bind fun o2 =>
  some [tPIPILA8 (gPIPILA8 o2 0)]
theorem vs_DrawSummitOf (a0 : List Int) (h : bs_DrawSummitOf R a0 = some o) : R is_DrawSummitOf [tLU8 a0] = some o := go_ (b := fun c => bs_DrawSummitOf c a0) (fun c => by kernel_rfl) h
def bi_within (call : Oracle) (a0 a1 a2 : Int) : Option (List TV) :=
  bif decide (a1 ≤ a0) then
    some [tB (decide (a0 ≤ a2))]
  else
    some [tB false]
theorem vi_within (a0 a1 a2 : Int) (h : bi_within R a0 a1 a2 = some o) : R ii_within [tI a0, tI a1, tI a2] = some o := go_ (b := fun c => bi_within c a0 a1 a2) (fun c => by kernel_rfl) h
def bi_isCount (call : Oracle) (a0 : Int) : Option (List TV) :=
  (call ii_within [tI a0, tI 1, tI 8]).bind fun o1 =>
  some [tB (gB o1 0)]
theorem vi_isCount (a0 : Int) (h : bi_isCount R a0 = some o) : R ii_isCount [tI a0] = some o := go_ (b := fun c => bi_isCount c a0) (fun c => by kernel_rfl) h
def bi_IsSimple_5 (call : Oracle) (x0 : List Bool) (x1 : Int) (x2 : List Int) (x3 : Int) : Option (List TV) :=
  bif decide (x3 < 8) then
    bif (decide (0 ≤ x3) && decide (x3 < 8)) then
      bif decide (x1 ≤ x3) then
        bif ((List.getD x2 (Int.toNat x3) 0) != 0) then
          some [tI 1, tB false]
        else
          call ii_IsSimple_5 [tAB8 x0, tI x1, tA8 x2, tI (wi64 (x3 + 1))]
      else
        bif decide (x1 ≤ (wi64 ((List.getD x2 (Int.toNat x3) 0)))) then
          some [tI 1, tB false]
        else
          bif (decide (0 ≤ (List.getD x2 (Int.toNat x3) 0)) && decide ((List.getD x2 (Int.toNat x3) 0) < 8)) then
            bif (List.getD x0 (Int.toNat (List.getD x2 (Int.toNat x3) 0)) false) then
              some [tI 1, tB false]
            else
              bif (decide (0 ≤ (List.getD x2 (Int.toNat x3) 0)) && decide ((List.getD x2 (Int.toNat x3) 0) < 8)) then
                call ii_IsSimple_5 [tAB8 (List.set x0 (Int.toNat (List.getD x2 (Int.toNat x3) 0)) true), tI x1, tA8 x2, tI (wi64 (x3 + 1))]
              else none
          else none
    else none
  else
    some [tI 0]
theorem vi_IsSimple_5 (x0 : List Bool) (x1 : Int) (x2 : List Int) (x3 : Int) (h : bi_IsSimple_5 R x0 x1 x2 x3 = some o) : R ii_IsSimple_5 [tAB8 x0, tI x1, tA8 x2, tI x3] = some o := go_ (b := fun c => bi_IsSimple_5 c x0 x1 x2 x3) (fun c => by kernel_rfl) h
def bi_IsSimple (call : Oracle) (a0 : List Int) (a1 : Int) : Option (List TV) :=
  (call ii_isCount [tI a1]).bind fun o1 =>
  bif (!(gB o1 0)) then
    some [tB false]
  else
    (call ii_IsSimple_5 [tAB8 (List.replicate 8 false), tI a1, tA8 a0, tI 0]).bind fun o2 =>
    bif ((gI o2 0) == 0) then
      some [tB true]
    else
      some [tB (gB o2 1)]
theorem vi_IsSimple (a0 : List Int) (a1 : Int) (h : bi_IsSimple R a0 a1 = some o) : R ii_IsSimple [tA8 a0, tI a1] = some o := go_ (b := fun c => bi_IsSimple c a0 a1) (fun c => by kernel_rfl) h
end
end Go.Ev.YtfkpbhbghbhmgaaGreat
