/- Bodies, part 1. -/
import Derived.KernelRfl
import Derived.Test.YtfkpbhbghbhmgaaGreatEnv
set_option linter.unusedVariables false
namespace Go.Ev.YtfkpbhbghbhmgaaGreat
open Go.Ev
noncomputable section
variable {o : List TV}
def bi_nothing_3 (call : Oracle) (x0 x1 : List Int) (x2 x3 : Int) : Option (List TV) :=
  bif decide (x3 < x2) then
    bif (decide (0 ≤ x3) && decide (x3 < 8)) then
      call ii_nothing_3 [tA8 x0, tA8 (List.set x1 (Int.toNat x3) (wu8 (x3))), tI x2, tI (wi64 (x3 + 1))]
    else none
  else
    some [tI 0, tA8 x0, tA8 x1]
theorem vi_nothing_3 (x0 x1 : List Int) (x2 x3 : Int) (h : bi_nothing_3 R x0 x1 x2 x3 = some o) : R ii_nothing_3 [tA8 x0, tA8 x1, tI x2, tI x3] = some o := go_ (b := fun c => bi_nothing_3 c x0 x1 x2 x3) (fun c => by kernel_rfl) h
def bi_nothing (call : Oracle) (a0 : Int) : Option (List TV) :=
  (call ii_nothing_3 [tA8 (List.replicate 8 0), tA8 (List.replicate 8 0), tI a0, tI 0]).bind fun o1 =>
  some [tA8 (gA8 o1 2)]
theorem vi_nothing (a0 : Int) (h : bi_nothing R a0 = some o) : R ii_nothing [tI a0] = some o := go_ (b := fun c => bi_nothing c a0) (fun c => by kernel_rfl) h
def bi_halfTurn_3 (call : Oracle) (x0 x1 : List Int) (x2 x3 x4 : Int) : Option (List TV) :=
  bif decide (x4 < x3) then
    bif (decide (0 ≤ x4) && decide (x4 < 8)) then
      call ii_halfTurn_3 [tA8 x0, tA8 (List.set x1 (Int.toNat x4) (wu8 ((wi64 ((wi64 (x2 - 1)) - x4))))), tI x2, tI x3, tI (wi64 (x4 + 1))]
    else none
  else
    some [tI 0, tA8 x0, tA8 x1]
theorem vi_halfTurn_3 (x0 x1 : List Int) (x2 x3 x4 : Int) (h : bi_halfTurn_3 R x0 x1 x2 x3 x4 = some o) : R ii_halfTurn_3 [tA8 x0, tA8 x1, tI x2, tI x3, tI x4] = some o := go_ (b := fun c => bi_halfTurn_3 c x0 x1 x2 x3 x4) (fun c => by kernel_rfl) h
def bi_halfTurn (call : Oracle) (a0 : Int) : Option (List TV) :=
  (call ii_halfTurn_3 [tA8 (List.replicate 8 0), tA8 (List.replicate 8 0), tI a0, tI a0, tI 0]).bind fun o1 =>
  some [tA8 (gA8 o1 2)]
theorem vi_halfTurn (a0 : Int) (h : bi_halfTurn R a0 = some o) : R ii_halfTurn [tI a0] = some o := go_ (b := fun c => bi_halfTurn c a0) (fun c => by kernel_rfl) h
def bi_backOf_3 (call : Oracle) (x0 x1 x2 : List Int) (x3 x4 : Int) : Option (List TV) :=
  bif decide (x4 < x3) then
    bif (decide (0 ≤ x4) && decide (x4 < 8)) then
      bif (decide (0 ≤ (List.getD x0 (Int.toNat x4) 0)) && decide ((List.getD x0 (Int.toNat x4) 0) < 8)) then
        call ii_backOf_3 [tA8 x0, tA8 x1, tA8 (List.set x2 (Int.toNat (List.getD x0 (Int.toNat x4) 0)) (wu8 (x4))), tI x3, tI (wi64 (x4 + 1))]
      else none
    else none
  else
    some [tI 0, tA8 x1, tA8 x2]
theorem vi_backOf_3 (x0 x1 x2 : List Int) (x3 x4 : Int) (h : bi_backOf_3 R x0 x1 x2 x3 x4 = some o) : R ii_backOf_3 [tA8 x0, tA8 x1, tA8 x2, tI x3, tI x4] = some o := go_ (b := fun c => bi_backOf_3 c x0 x1 x2 x3 x4) (fun c => by kernel_rfl) h
def bi_backOf (call : Oracle) (a0 : List Int) (a1 : Int) : Option (List TV) :=
  (call ii_backOf_3 [tA8 a0, tA8 (List.replicate 8 0), tA8 (List.replicate 8 0), tI a1, tI 0]).bind fun o1 =>
  some [tA8 (gA8 o1 2)]
theorem vi_backOf (a0 : List Int) (a1 : Int) (h : bi_backOf R a0 a1 = some o) : R ii_backOf [tA8 a0, tI a1] = some o := go_ (b := fun c => bi_backOf c a0 a1) (fun c => by kernel_rfl) h
def bi_begins (call : Oracle) (a0 : List Int) (a1 : Int) : Option (List TV) :=
  bif (decide (0 ≤ (wi64 (a1 - 1))) && decide ((wi64 (a1 - 1)) < 8)) then
    bif (decide (0 ≤ a1) && decide (a1 < 8)) then
      some [tB (decide ((List.getD a0 (Int.toNat a1) 0) < (List.getD a0 (Int.toNat (wi64 (a1 - 1))) 0)))]
    else none
  else none
theorem vi_begins (a0 : List Int) (a1 : Int) (h : bi_begins R a0 a1 = some o) : R ii_begins [tA8 a0, tI a1] = some o := go_ (b := fun c => bi_begins c a0 a1) (fun c => by kernel_rfl) h
def bi_beginning_3 (call : Oracle) (x0 x1 : List Int) (x2 x3 : Int) : Option (List TV) :=
  bif decide (x3 < x2) then
    (call ii_begins [tA8 x0, tI x3]).bind fun o2 =>
    bif (gB o2 0) then
      bif (apOk x1 [x3]) then
        call ii_beginning_3 [tA8 x0, tLI (x1 ++ [x3]), tI x2, tI (wi64 (x3 + 1))]
      else none
    else
      call ii_beginning_3 [tA8 x0, tLI x1, tI x2, tI (wi64 (x3 + 1))]
  else
    some [tI 0, tLI x1]
theorem vi_beginning_3 (x0 x1 : List Int) (x2 x3 : Int) (h : bi_beginning_3 R x0 x1 x2 x3 = some o) : R ii_beginning_3 [tA8 x0, tLI x1, tI x2, tI x3] = some o := go_ (b := fun c => bi_beginning_3 c x0 x1 x2 x3) (fun c => by kernel_rfl) h
def bi_beginning (call : Oracle) (a0 : List Int) (a1 : Int) : Option (List TV) :=
  (call ii_beginning_3 [tA8 a0, tLI [], tI a1, tI 1]).bind fun o3 =>
  some [tLI (gLI o3 1)]
theorem vi_beginning (a0 : List Int) (a1 : Int) (h : bi_beginning R a0 a1 = some o) : R ii_beginning [tA8 a0, tI a1] = some o := go_ (b := fun c => bi_beginning c a0 a1) (fun c => by kernel_rfl) h
def bi_endsAll_3 (call : Oracle) (x0 x1 : List Int) (x2 x3 : Int) : Option (List TV) :=
  bif decide (x3 < x2) then
    bif (decide (0 ≤ x3) && decide (x3 < ((List.length x1 : Nat) : Int))) then
      (call ii_begins [tA8 x0, tI (List.getD x1 (Int.toNat x3) 0)]).bind fun o4 =>
      bif (!(gB o4 0)) then
        some [tI 1, tB false]
      else
        call ii_endsAll_3 [tA8 x0, tLI x1, tI x2, tI (wi64 (x3 + 1))]
    else none
  else
    some [tI 0]
theorem vi_endsAll_3 (x0 x1 : List Int) (x2 x3 : Int) (h : bi_endsAll_3 R x0 x1 x2 x3 = some o) : R ii_endsAll_3 [tA8 x0, tLI x1, tI x2, tI x3] = some o := go_ (b := fun c => bi_endsAll_3 c x0 x1 x2 x3) (fun c => by kernel_rfl) h
def bi_endsAll (call : Oracle) (a0 a1 : List Int) (a2 : Int) : Option (List TV) :=
  (call ii_backOf [tA8 a0, tI a2]).bind fun o1 =>
  (call ii_beginning [tA8 a1, tI a2]).bind fun o2 =>
  (call ii_endsAll_3 [tA8 (gA8 o1 0), tLI (gLI o2 0), tI ((List.length (gLI o2 0) : Nat) : Int), tI 0]).bind fun o5 =>
  bif ((gI o5 0) == 0) then
    some [tB true]
  else
    some [tB (gB o5 1)]
theorem vi_endsAll (a0 a1 : List Int) (a2 : Int) (h : bi_endsAll R a0 a1 a2 = some o) : R ii_endsAll [tA8 a0, tA8 a1, tI a2] = some o := go_ (b := fun c => bi_endsAll c a0 a1 a2) (fun c => by kernel_rfl) h
def bi_IsNormal_5 (call : Oracle) (x0 x1 : Int) (x2 : List (List Int)) (x3 x4 x5 : Int) : Option (List TV) :=
  bif decide (x5 < x4) then
    bif (decide (0 ≤ x5) && decide (x5 < ((List.length x2 : Nat) : Int))) then
      (call ii_IsSimple [tA8 (List.getD x2 (Int.toNat x5) (List.replicate 8 0)), tI x3]).bind fun o7 =>
      bif (!(gB o7 0)) then
        some [tI 1, tB false]
      else
        (call ii_nothing [tI x3]).bind fun o8 =>
        bif ((List.getD x2 (Int.toNat x5) (List.replicate 8 0)) == (gA8 o8 0)) then
          some [tI 1, tB false]
        else
          (call ii_halfTurn [tI x3]).bind fun o9 =>
          bif ((List.getD x2 (Int.toNat x5) (List.replicate 8 0)) == (gA8 o9 0)) then
            some [tI 1, tB false]
          else
            bif decide (0 < x5) then
              bif (decide (0 ≤ (wi64 (x5 - 1))) && decide ((wi64 (x5 - 1)) < ((List.length x2 : Nat) : Int))) then
                (call ii_endsAll [tA8 (List.getD x2 (Int.toNat (wi64 (x5 - 1))) (List.replicate 8 0)), tA8 (List.getD x2 (Int.toNat x5) (List.replicate 8 0)), tI x3]).bind fun o10 =>
                bif (!(gB o10 0)) then
                  some [tI 1, tB false]
                else
                  call ii_IsNormal_5 [tI x0, tI x1, tLA8 x2, tI x3, tI x4, tI (wi64 (x5 + 1))]
              else none
            else
              call ii_IsNormal_5 [tI x0, tI x1, tLA8 x2, tI x3, tI x4, tI (wi64 (x5 + 1))]
    else none
  else
    some [tI 0]
theorem vi_IsNormal_5 (x0 x1 : Int) (x2 : List (List Int)) (x3 x4 x5 : Int) (h : bi_IsNormal_5 R x0 x1 x2 x3 x4 x5 = some o) : R ii_IsNormal_5 [tI x0, tI x1, tLA8 x2, tI x3, tI x4, tI x5] = some o := go_ (b := fun c => bi_IsNormal_5 c x0 x1 x2 x3 x4 x5) (fun c => by kernel_rfl) h
def bi_IsNormal (call : Oracle) (a0 : Int × Int × List (List Int)) : Option (List TV) :=
  (call ii_isCount [tI a0.1]).bind fun o1 =>
  bif (!(gB o1 0)) then
    some [tB false]
  else
    (call ii_within [tI a0.2.1, tI (-200), tI 200]).bind fun o2 =>
    bif (!(gB o2 0)) then
      some [tB false]
    else
      bif decide (200 < ((List.length a0.2.2 : Nat) : Int)) then
        some [tB false]
      else
        bif decide (a0.1 < 2) then
          bif (a0.2.1 != 0) then
            some [tB false]
          else
            (call ii_IsNormal_5 [tI a0.1, tI a0.2.1, tLA8 a0.2.2, tI a0.1, tI ((List.length a0.2.2 : Nat) : Int), tI 0]).bind fun o11 =>
            bif ((gI o11 0) == 0) then
              some [tB true]
            else
              some [tB (gB o11 1)]
        else
          (call ii_IsNormal_5 [tI a0.1, tI a0.2.1, tLA8 a0.2.2, tI a0.1, tI ((List.length a0.2.2 : Nat) : Int), tI 0]).bind fun o12 =>
          bif ((gI o12 0) == 0) then
            some [tB true]
          else
            some [tB (gB o12 1)]
theorem vi_IsNormal (a0 : Int × Int × List (List Int)) (h : bi_IsNormal R a0 = some o) : R ii_IsNormal [tPIPILA8 a0] = some o := go_ (b := fun c => bi_IsNormal c a0) (fun c => by kernel_rfl) h
def bi_copyNormal (call : Oracle) (a0 : Int × Int × List (List Int)) : Option (List TV) :=
  bif (apOk [] a0.2.2) then
    some [tPIPILA8 a0]
  else none
theorem vi_copyNormal (a0 : Int × Int × List (List Int)) (h : bi_copyNormal R a0 = some o) : R ii_copyNormal [tPIPILA8 a0] = some o := go_ (b := fun c => bi_copyNormal c a0) (fun c => by kernel_rfl) h
def bi_then_3 (call : Oracle) (x0 x1 : List Int) (x2 x3 : List Int) (x4 x5 : Int) : Option (List TV) :=
  bif decide (x5 < x4) then
    bif (decide (0 ≤ x5) && decide (x5 < 8)) then
      bif (decide (0 ≤ (List.getD x0 (Int.toNat x5) 0)) && decide ((List.getD x0 (Int.toNat x5) 0) < 8)) then
        bif (decide (0 ≤ x5) && decide (x5 < 8)) then
          call ii_then_3 [tA8 x0, tA8 x1, tA8 x2, tA8 (List.set x3 (Int.toNat x5) (List.getD x1 (Int.toNat (List.getD x0 (Int.toNat x5) 0)) 0)), tI x4, tI (wi64 (x5 + 1))]
        else none
      else none
    else none
  else
    some [tI 0, tA8 x2, tA8 x3]
theorem vi_then_3 (x0 x1 : List Int) (x2 x3 : List Int) (x4 x5 : Int) (h : bi_then_3 R x0 x1 x2 x3 x4 x5 = some o) : R ii_then_3 [tA8 x0, tA8 x1, tA8 x2, tA8 x3, tI x4, tI x5] = some o := go_ (b := fun c => bi_then_3 c x0 x1 x2 x3 x4 x5) (fun c => by kernel_rfl) h
def bi_then (call : Oracle) (a0 a1 : List Int) (a2 : Int) : Option (List TV) :=
  (call ii_then_3 [tA8 a0, tA8 a1, tA8 (List.replicate 8 0), tA8 (List.replicate 8 0), tI a2, tI 0]).bind fun o1 =>
  some [tA8 (gA8 o1 2)]
theorem vi_then (a0 a1 : List Int) (a2 : Int) (h : bi_then R a0 a1 a2 = some o) : R ii_then [tA8 a0, tA8 a1, tI a2] = some o := go_ (b := fun c => bi_then c a0 a1 a2) (fun c => by kernel_rfl) h
def bi_turn (call : Oracle) (a0 : List Int) (a1 : Int) : Option (List TV) :=
  (call ii_halfTurn [tI a1]).bind fun o1 =>
  (call ii_then [tA8 (gA8 o1 0), tA8 a0, tI a1]).bind fun o2 =>
  (call ii_halfTurn [tI a1]).bind fun o3 =>
  (call ii_then [tA8 (gA8 o2 0), tA8 (gA8 o3 0), tI a1]).bind fun o4 =>
  some [tA8 (gA8 o4 0)]
theorem vi_turn (a0 : List Int) (a1 : Int) (h : bi_turn R a0 a1 = some o) : R ii_turn [tA8 a0, tI a1] = some o := go_ (b := fun c => bi_turn c a0 a1) (fun c => by kernel_rfl) h
def bi_turned (call : Oracle) (a0 : List Int) (a1 : Int × Int × List (List Int)) : Option (List TV) :=
  bif ((Int.tmod a1.2.1 2) != 0) then
    (call ii_turn [tA8 a0, tI a1.1]).bind fun o1 =>
    some [tA8 (gA8 o1 0)]
  else
    some [tA8 a0]
theorem vi_turned (a0 : List Int) (a1 : Int × Int × List (List Int)) (h : bi_turned R a0 a1 = some o) : R ii_turned [tA8 a0, tPIPILA8 a1] = some o := go_ (b := fun c => bi_turned c a0 a1) (fun c => by kernel_rfl) h
def bi_complement (call : Oracle) (a0 : List Int) (a1 : Int) : Option (List TV) :=
  (call ii_backOf [tA8 a0, tI a1]).bind fun o1 =>
  (call ii_halfTurn [tI a1]).bind fun o2 =>
  (call ii_then [tA8 (gA8 o1 0), tA8 (gA8 o2 0), tI a1]).bind fun o3 =>
  some [tA8 (gA8 o3 0)]
theorem vi_complement (a0 : List Int) (a1 : Int) (h : bi_complement R a0 a1 = some o) : R ii_complement [tA8 a0, tI a1] = some o := go_ (b := fun c => bi_complement c a0 a1) (fun c => by kernel_rfl) h
def bi_descents_3 (call : Oracle) (x0 : List Int) (x1 x2 x3 : Int) : Option (List TV) :=
  bif decide (x3 < x2) then
    (call ii_descents_6 [tA8 x0, tU64 x1, tI x3, tI x2, tI x3, tI x3, tI 0]).bind fun o2 =>
    call ii_descents_3 [tA8 (gA8 o2 1), tU64 (gU64 o2 2), tI (gI o2 3), tI (wi64 ((gI o2 4) + 1))]
  else
    some [tI 0, tU64 x1]
theorem vi_descents_3 (x0 : List Int) (x1 x2 x3 : Int) (h : bi_descents_3 R x0 x1 x2 x3 = some o) : R ii_descents_3 [tA8 x0, tU64 x1, tI x2, tI x3] = some o := go_ (b := fun c => bi_descents_3 c x0 x1 x2 x3) (fun c => by kernel_rfl) h
def bi_descents_6 (call : Oracle) (x0 : List Int) (x1 x2 : Int) (x3 x4 : Int) (x5 x6 : Int) : Option (List TV) :=
  bif decide (x6 < x5) then
    bif (decide (0 ≤ x6) && decide (x6 < 8)) then
      bif (decide (0 ≤ x2) && decide (x2 < 8)) then
        bif decide ((List.getD x0 (Int.toNat x2) 0) < (List.getD x0 (Int.toNat x6) 0)) then
          bif decide (0 ≤ (wi64 ((wi64 (8 * x6)) + x2))) then
            call ii_descents_6 [tA8 x0, tU64 (bitsOr .u64 x1 (shl .u64 1 (wi64 ((wi64 (8 * x6)) + x2)))), tI x2, tI x3, tI x4, tI x5, tI (wi64 (x6 + 1))]
          else none
        else
          call ii_descents_6 [tA8 x0, tU64 x1, tI x2, tI x3, tI x4, tI x5, tI (wi64 (x6 + 1))]
      else none
    else none
  else
    some [tI 0, tA8 x0, tU64 x1, tI x3, tI x4]
theorem vi_descents_6 (x0 : List Int) (x1 x2 : Int) (x3 x4 : Int) (x5 x6 : Int) (h : bi_descents_6 R x0 x1 x2 x3 x4 x5 x6 = some o) : R ii_descents_6 [tA8 x0, tU64 x1, tI x2, tI x3, tI x4, tI x5, tI x6] = some o := go_ (b := fun c => bi_descents_6 c x0 x1 x2 x3 x4 x5 x6) (fun c => by kernel_rfl) h
def bi_descents (call : Oracle) (a0 : List Int) (a1 : Int) : Option (List TV) :=
  (call ii_descents_3 [tA8 a0, tU64 0, tI a1, tI 0]).bind fun o3 =>
  some [tU64 (gU64 o3 1)]
theorem vi_descents (a0 : List Int) (a1 : Int) (h : bi_descents R a0 a1 = some o) : R ii_descents [tA8 a0, tI a1] = some o := go_ (b := fun c => bi_descents c a0 a1) (fun c => by kernel_rfl) h
def bi_meet_4 (call : Oracle) (x0 x1 : List Int) (x2 x3 : Int) (x4 : Bool) : Option (List TV) :=
  bif x4 then
    (call ii_meet_7 [tA8 x0, tA8 x1, tI x2, tU64 x3, tB false, tI 1]).bind fun o5 =>
    call ii_meet_4 [tA8 (gA8 o5 1), tA8 (gA8 o5 2), tI (gI o5 3), tU64 (gU64 o5 4), tB (gB o5 5)]
  else
    some [tI 0, tA8 x0, tA8 x1, tI x2]
theorem vi_meet_4 (x0 x1 : List Int) (x2 x3 : Int) (x4 : Bool) (h : bi_meet_4 R x0 x1 x2 x3 x4 = some o) : R ii_meet_4 [tA8 x0, tA8 x1, tI x2, tU64 x3, tB x4] = some o := go_ (b := fun c => bi_meet_4 c x0 x1 x2 x3 x4) (fun c => by kernel_rfl) h
def bi_meet_7 (call : Oracle) (x0 x1 : List Int) (x2 x3 : Int) (x4 : Bool) (x5 : Int) : Option (List TV) :=
  bif decide (x5 < x2) then
    bif (decide (0 ≤ (wi64 (x5 - 1))) && decide ((wi64 (x5 - 1)) < 8)) then
      bif (decide (0 ≤ x5) && decide (x5 < 8)) then
        bif decide ((List.getD x1 (Int.toNat (wi64 (x5 - 1))) 0) < (List.getD x1 (Int.toNat x5) 0)) then
          bif decide (0 ≤ (wu8 ((wu8 (8 * (List.getD x1 (Int.toNat (wi64 (x5 - 1))) 0))) + (List.getD x1 (Int.toNat x5) 0)))) then
            bif ((bitsAnd .u64 (shr .u64 x3 (wu8 ((wu8 (8 * (List.getD x1 (Int.toNat (wi64 (x5 - 1))) 0))) + (List.getD x1 (Int.toNat x5) 0)))) 1) == 1) then
              bif (decide (0 ≤ (wi64 (x5 - 1))) && decide ((wi64 (x5 - 1)) < 8)) then
                bif (decide (0 ≤ x5) && decide (x5 < 8)) then
                  call ii_meet_7 [tA8 x0, tA8 (List.set (List.set x1 (Int.toNat (wi64 (x5 - 1))) (List.getD x1 (Int.toNat x5) 0)) (Int.toNat x5) (List.getD x1 (Int.toNat (wi64 (x5 - 1))) 0)), tI x2, tU64 x3, tB true, tI (wi64 (x5 + 1))]
                else none
              else none
            else
              call ii_meet_7 [tA8 x0, tA8 x1, tI x2, tU64 x3, tB x4, tI (wi64 (x5 + 1))]
          else none
        else
          call ii_meet_7 [tA8 x0, tA8 x1, tI x2, tU64 x3, tB x4, tI (wi64 (x5 + 1))]
      else none
    else none
  else
    some [tI 0, tA8 x0, tA8 x1, tI x2, tU64 x3, tB x4]
theorem vi_meet_7 (x0 x1 : List Int) (x2 x3 : Int) (x4 : Bool) (x5 : Int) (h : bi_meet_7 R x0 x1 x2 x3 x4 x5 = some o) : R ii_meet_7 [tA8 x0, tA8 x1, tI x2, tU64 x3, tB x4, tI x5] = some o := go_ (b := fun c => bi_meet_7 c x0 x1 x2 x3 x4 x5) (fun c => by kernel_rfl) h
def bi_meet (call : Oracle) (a0 a1 : List Int) (a2 : Int) : Option (List TV) :=
  (call ii_descents [tA8 a0, tI a2]).bind fun o1 =>
  (call ii_descents [tA8 a1, tI a2]).bind fun o2 =>
  (call ii_nothing [tI a2]).bind fun o3 =>
  (call ii_meet_4 [tA8 (List.replicate 8 0), tA8 (gA8 o3 0), tI a2, tU64 (bitsAnd .u64 (gU64 o1 0) (gU64 o2 0)), tB true]).bind fun o6 =>
  (call ii_backOf [tA8 (gA8 o6 2), tI (gI o6 3)]).bind fun o7 =>
  some [tA8 (gA8 o7 0)]
theorem vi_meet (a0 a1 : List Int) (a2 : Int) (h : bi_meet R a0 a1 a2 = some o) : R ii_meet [tA8 a0, tA8 a1, tI a2] = some o := go_ (b := fun c => bi_meet c a0 a1 a2) (fun c => by kernel_rfl) h
def b__i_Normal__put_5 (call : Oracle) (x0 x1 : Int) (x2 : List (List Int)) (x3 x4 : Int) : Option (List TV) :=
  bif decide (0 < x4) then
    bif (decide (0 ≤ (wi64 (x4 - 1))) && decide ((wi64 (x4 - 1)) < ((List.length x2 : Nat) : Int))) then
      (call ii_complement [tA8 (List.getD x2 (Int.toNat (wi64 (x4 - 1))) (List.replicate 8 0)), tI x3]).bind fun o8 =>
      bif (decide (0 ≤ x4) && decide (x4 < ((List.length x2 : Nat) : Int))) then
        (call ii_meet [tA8 (gA8 o8 0), tA8 (List.getD x2 (Int.toNat x4) (List.replicate 8 0)), tI x3]).bind fun o9 =>
        (call ii_nothing [tI x3]).bind fun o10 =>
        bif ((gA8 o9 0) == (gA8 o10 0)) then
          some [tI 0, tI x0, tI x1, tLA8 x2, tI x3]
        else
          bif (decide (0 ≤ (wi64 (x4 - 1))) && decide ((wi64 (x4 - 1)) < ((List.length x2 : Nat) : Int))) then
            (call ii_then [tA8 (List.getD x2 (Int.toNat (wi64 (x4 - 1))) (List.replicate 8 0)), tA8 (gA8 o9 0), tI x3]).bind fun o11 =>
            bif (decide (0 ≤ (wi64 (x4 - 1))) && decide ((wi64 (x4 - 1)) < ((List.length x2 : Nat) : Int))) then
              (call ii_backOf [tA8 (gA8 o9 0), tI x3]).bind fun o12 =>
              bif (decide (0 ≤ x4) && decide (x4 < ((List.length (List.set x2 (Int.toNat (wi64 (x4 - 1))) (gA8 o11 0)) : Nat) : Int))) then
                (call ii_then [tA8 (gA8 o12 0), tA8 (List.getD (List.set x2 (Int.toNat (wi64 (x4 - 1))) (gA8 o11 0)) (Int.toNat x4) (List.replicate 8 0)), tI x3]).bind fun o13 =>
                bif (decide (0 ≤ x4) && decide (x4 < ((List.length (List.set x2 (Int.toNat (wi64 (x4 - 1))) (gA8 o11 0)) : Nat) : Int))) then
                  call i__i_Normal__put_5 [tI x0, tI x1, tLA8 (List.set (List.set x2 (Int.toNat (wi64 (x4 - 1))) (gA8 o11 0)) (Int.toNat x4) (gA8 o13 0)), tI x3, tI (wi64 (x4 - 1))]
                else none
              else none
            else none
          else none
      else none
    else none
  else
    some [tI 0, tI x0, tI x1, tLA8 x2, tI x3]
theorem v__i_Normal__put_5 (x0 x1 : Int) (x2 : List (List Int)) (x3 x4 : Int) (h : b__i_Normal__put_5 R x0 x1 x2 x3 x4 = some o) : R i__i_Normal__put_5 [tI x0, tI x1, tLA8 x2, tI x3, tI x4] = some o := go_ (b := fun c => b__i_Normal__put_5 c x0 x1 x2 x3 x4) (fun c => by kernel_rfl) h
def b__i_Normal__put_11 (call : Oracle) (x0 x1 : Int) (x2 : List (List Int)) (x3 : Int) : Option (List TV) :=
  bif decide (0 < ((List.length x2 : Nat) : Int)) then
    bif decide (0 < ((List.length x2 : Nat) : Int)) then
      (call ii_halfTurn [tI x3]).bind fun o16 =>
      bif ((List.getD x2 0 (List.replicate 8 0)) == (gA8 o16 0)) then
        bif decide (1 ≤ ((List.length x2 : Nat) : Int)) then
          call i__i_Normal__put_11 [tI x0, tI (wi64 (x1 + 1)), tLA8 (List.drop 1 x2), tI x3]
        else none
      else
        some [tI 0, tI x0, tI x1, tLA8 x2, tI x3]
    else none
  else
    some [tI 0, tI x0, tI x1, tLA8 x2, tI x3]
theorem v__i_Normal__put_11 (x0 x1 : Int) (x2 : List (List Int)) (x3 : Int) (h : b__i_Normal__put_11 R x0 x1 x2 x3 = some o) : R i__i_Normal__put_11 [tI x0, tI x1, tLA8 x2, tI x3] = some o := go_ (b := fun c => b__i_Normal__put_11 c x0 x1 x2 x3) (fun c => by kernel_rfl) h
def b__i_Normal__put_14 (call : Oracle) (x0 x1 : Int) (x2 : List (List Int)) (x3 : Int) : Option (List TV) :=
  bif decide (0 < ((List.length x2 : Nat) : Int)) then
    bif (decide (0 ≤ (wi64 (((List.length x2 : Nat) : Int) - 1))) && decide ((wi64 (((List.length x2 : Nat) : Int) - 1)) < ((List.length x2 : Nat) : Int))) then
      (call ii_nothing [tI x3]).bind fun o19 =>
      bif ((List.getD x2 (Int.toNat (wi64 (((List.length x2 : Nat) : Int) - 1))) (List.replicate 8 0)) == (gA8 o19 0)) then
        bif (decide (0 ≤ (wi64 (((List.length x2 : Nat) : Int) - 1))) && decide ((wi64 (((List.length x2 : Nat) : Int) - 1)) ≤ ((List.length x2 : Nat) : Int))) then
          call i__i_Normal__put_14 [tI x0, tI x1, tLA8 (List.take (Int.toNat (wi64 (((List.length x2 : Nat) : Int) - 1))) x2), tI x3]
        else none
      else
        some [tI 0, tI x0, tI x1, tLA8 x2]
    else none
  else
    some [tI 0, tI x0, tI x1, tLA8 x2]
theorem v__i_Normal__put_14 (x0 x1 : Int) (x2 : List (List Int)) (x3 : Int) (h : b__i_Normal__put_14 R x0 x1 x2 x3 = some o) : R i__i_Normal__put_14 [tI x0, tI x1, tLA8 x2, tI x3] = some o := go_ (b := fun c => b__i_Normal__put_14 c x0 x1 x2 x3) (fun c => by kernel_rfl) h
def b__i_Normal__put (call : Oracle) (a0 : Int × Int × List (List Int)) (a1 : List Int) : Option (List TV) :=
  (call ii_nothing [tI a0.1]).bind fun o1 =>
  bif (a1 == (gA8 o1 0)) then
    some [tPIPILA8 a0]
  else
    bif (apOk a0.2.2 [a1]) then
      (call i__i_Normal__put_5 [tI a0.1, tI a0.2.1, tLA8 (a0.2.2 ++ [a1]), tI a0.1, tI (wi64 (((List.length (a0.2.2 ++ [a1]) : Nat) : Int) - 1))]).bind fun o14 =>
      (call i__i_Normal__put_11 [tI (gI o14 1), tI (gI o14 2), tLA8 (gLA8 o14 3), tI (gI o14 4)]).bind fun o17 =>
      (call i__i_Normal__put_14 [tI (gI o17 1), tI (gI o17 2), tLA8 (gLA8 o17 3), tI (gI o17 4)]).bind fun o20 =>
      some [tPIPILA8 ((gI o20 1), ((gI o20 2), (gLA8 o20 3)))]
    else none
theorem v__i_Normal__put (a0 : Int × Int × List (List Int)) (a1 : List Int) (h : b__i_Normal__put R a0 a1 = some o) : R i__i_Normal__put [tPIPILA8 a0, tA8 a1] = some o := go_ (b := fun c => b__i_Normal__put c a0 a1) (fun c => by kernel_rfl) h
def bi_cycled (call : Oracle) (a0 : Int × Int × List (List Int)) : Option (List TV) :=
  bif (((List.length a0.2.2 : Nat) : Int) == 0) then
    (call ii_copyNormal [tPIPILA8 a0]).bind fun o1 =>
    some [tPIPILA8 (gPIPILA8 o1 0)]
  else
    bif decide (1 ≤ ((List.length a0.2.2 : Nat) : Int)) then
      (call ii_copyNormal [tPIPILA8 (a0.1, (a0.2.1, (List.drop 1 a0.2.2)))]).bind fun o2 =>
      bif decide (0 < ((List.length a0.2.2 : Nat) : Int)) then
        (call ii_turned [tA8 (List.getD a0.2.2 0 (List.replicate 8 0)), tPIPILA8 a0]).bind fun o3 =>
        (call i__i_Normal__put [tPIPILA8 (gPIPILA8 o2 0), tA8 (gA8 o3 0)]).bind fun o4 =>
        some [tPIPILA8 (gPIPILA8 o4 0)]
      else none
    else none
theorem vi_cycled (a0 : Int × Int × List (List Int)) (h : bi_cycled R a0 = some o) : R ii_cycled [tPIPILA8 a0] = some o := go_ (b := fun c => bi_cycled c a0) (fun c => by kernel_rfl) h
def bi_summitK1 (call : Oracle) (a0 a1 : Int × Int × List (List Int)) : Option (List TV) :=
  some [tB (decide (a1.2.1 < a0.2.1))]
theorem vi_summitK1 (a0 a1 : Int × Int × List (List Int)) (h : bi_summitK1 R a0 a1 = some o) : R ii_summitK1 [tPIPILA8 a0, tPIPILA8 a1] = some o := go_ (b := fun c => bi_summitK1 c a0 a1) (fun c => by kernel_rfl) h
def bi_better_3 (call : Oracle) (x0 x1 : Int) (x2 : List (List Int)) (x3 x4 : Int) (x5 : List (List Int)) (x6 x7 : Int) (x8 : List (List Int)) (x9 x10 : Int) : Option (List TV) :=
  bif decide (x10 < x9) then
    (call ii_cycled [tPIPILA8 (x6, (x7, x8))]).bind fun o3 =>
    (call ii_summitK1 [tPIPILA8 (gPIPILA8 o3 0), tPIPILA8 (x0, (x1, x2))]).bind fun o4 =>
    bif (gB o4 0) then
      some [tI 1, tI ((gPIPILA8 o3 0).1), tI (((gPIPILA8 o3 0).2).1), tLA8 (((gPIPILA8 o3 0).2).2), tB true]
    else
      call ii_better_3 [tI x0, tI x1, tLA8 x2, tI x3, tI x4, tLA8 x5, tI ((gPIPILA8 o3 0).1), tI (((gPIPILA8 o3 0).2).1), tLA8 (((gPIPILA8 o3 0).2).2), tI x9, tI (wi64 (x10 + 1))]
  else
    some [tI 0, tI x0, tI x1, tLA8 x2, tI x3, tI x4, tLA8 x5]
theorem vi_better_3 (x0 x1 : Int) (x2 : List (List Int)) (x3 x4 : Int) (x5 : List (List Int)) (x6 x7 : Int) (x8 : List (List Int)) (x9 x10 : Int) (h : bi_better_3 R x0 x1 x2 x3 x4 x5 x6 x7 x8 x9 x10 = some o) : R ii_better_3 [tI x0, tI x1, tLA8 x2, tI x3, tI x4, tLA8 x5, tI x6, tI x7, tLA8 x8, tI x9, tI x10] = some o := go_ (b := fun c => bi_better_3 c x0 x1 x2 x3 x4 x5 x6 x7 x8 x9 x10) (fun c => by kernel_rfl) h
def bi_better (call : Oracle) (a0 : Int × Int × List (List Int)) : Option (List TV) :=
  (call ii_better_3 [tI a0.1, tI a0.2.1, tLA8 a0.2.2, tI 0, tI 0, tLA8 [], tI a0.1, tI a0.2.1, tLA8 a0.2.2, tI (wi64 (Int.tdiv (wi64 (a0.1 * (wi64 (a0.1 - 1)))) 2)), tI 0]).bind fun o5 =>
  bif ((gI o5 0) == 0) then
    some [tPIPILA8 ((gI o5 1), ((gI o5 2), (gLA8 o5 3))), tB false]
  else
    some [tPIPILA8 ((gI o5 1), ((gI o5 2), (gLA8 o5 3))), tB (gB o5 4)]
theorem vi_better (a0 : Int × Int × List (List Int)) (h : bi_better R a0 = some o) : R ii_better [tPIPILA8 a0] = some o := go_ (b := fun c => bi_better c a0) (fun c => by kernel_rfl) h
def bi_decycled_7 (call : Oracle) (x0 x1 : Int) (x2 : List (List Int)) (x3 x4 : Int) (x5 x6 : List (List Int)) (x7 x8 : Int) : Option (List TV) :=
  bif decide (x8 < x7) then
    bif (decide (0 ≤ x8) && decide (x8 < ((List.length x6 : Nat) : Int))) then
      (call i__i_Normal__put [tPIPILA8 (x3, (x4, x5)), tA8 (List.getD x6 (Int.toNat x8) (List.replicate 8 0))]).bind fun o5 =>
      call ii_decycled_7 [tI x0, tI x1, tLA8 x2, tI ((gPIPILA8 o5 0).1), tI (((gPIPILA8 o5 0).2).1), tLA8 (((gPIPILA8 o5 0).2).2), tLA8 x6, tI x7, tI (wi64 (x8 + 1))]
    else none
  else
    some [tI 0, tI x0, tI x1, tLA8 x2, tI x3, tI x4, tLA8 x5]
theorem vi_decycled_7 (x0 x1 : Int) (x2 : List (List Int)) (x3 x4 : Int) (x5 x6 : List (List Int)) (x7 x8 : Int) (h : bi_decycled_7 R x0 x1 x2 x3 x4 x5 x6 x7 x8 = some o) : R ii_decycled_7 [tI x0, tI x1, tLA8 x2, tI x3, tI x4, tLA8 x5, tLA8 x6, tI x7, tI x8] = some o := go_ (b := fun c => bi_decycled_7 c x0 x1 x2 x3 x4 x5 x6 x7 x8) (fun c => by kernel_rfl) h
def bi_decycled (call : Oracle) (a0 : Int × Int × List (List Int)) : Option (List TV) :=
  bif decide ((wi64 (((List.length a0.2.2 : Nat) : Int) - 1)) < 0) then
    (call ii_copyNormal [tPIPILA8 a0]).bind fun o1 =>
    some [tPIPILA8 (gPIPILA8 o1 0)]
  else
    bif (decide (0 ≤ (wi64 (((List.length a0.2.2 : Nat) : Int) - 1))) && decide ((wi64 (((List.length a0.2.2 : Nat) : Int) - 1)) < ((List.length a0.2.2 : Nat) : Int))) then
      (call ii_turned [tA8 (List.getD a0.2.2 (Int.toNat (wi64 (((List.length a0.2.2 : Nat) : Int) - 1))) (List.replicate 8 0)), tPIPILA8 a0]).bind fun o2 =>
      (call i__i_Normal__put [tPIPILA8 (a0.1, (a0.2.1, [])), tA8 (gA8 o2 0)]).bind fun o3 =>
      bif (decide (0 ≤ (wi64 (((List.length a0.2.2 : Nat) : Int) - 1))) && decide ((wi64 (((List.length a0.2.2 : Nat) : Int) - 1)) ≤ ((List.length a0.2.2 : Nat) : Int))) then
        (call ii_decycled_7 [tI 0, tI 0, tLA8 [], tI ((gPIPILA8 o3 0).1), tI (((gPIPILA8 o3 0).2).1), tLA8 (((gPIPILA8 o3 0).2).2), tLA8 (List.take (Int.toNat (wi64 (((List.length a0.2.2 : Nat) : Int) - 1))) a0.2.2), tI ((List.length (List.take (Int.toNat (wi64 (((List.length a0.2.2 : Nat) : Int) - 1))) a0.2.2) : Nat) : Int), tI 0]).bind fun o6 =>
        some [tPIPILA8 ((gI o6 4), ((gI o6 5), (gLA8 o6 6)))]
      else none
    else none
theorem vi_decycled (a0 : Int × Int × List (List Int)) (h : bi_decycled R a0 = some o) : R ii_decycled [tPIPILA8 a0] = some o := go_ (b := fun c => bi_decycled c a0) (fun c => by kernel_rfl) h
def bi_greatest (call : Oracle) (a0 : Int × Int × List (List Int)) : Option (List TV) :=
  some [tI (wi64 (a0.2.1 + ((List.length a0.2.2 : Nat) : Int)))]
theorem vi_greatest (a0 : Int × Int × List (List Int)) (h : bi_greatest R a0 = some o) : R ii_greatest [tPIPILA8 a0] = some o := go_ (b := fun c => bi_greatest c a0) (fun c => by kernel_rfl) h
def bi_summitK2 (call : Oracle) (a0 a1 : Int × Int × List (List Int)) : Option (List TV) :=
  (call ii_greatest [tPIPILA8 a0]).bind fun o1 =>
  (call ii_greatest [tPIPILA8 a1]).bind fun o2 =>
  some [tB (decide ((gI o1 0) < (gI o2 0)))]
theorem vi_summitK2 (a0 a1 : Int × Int × List (List Int)) (h : bi_summitK2 R a0 a1 = some o) : R ii_summitK2 [tPIPILA8 a0, tPIPILA8 a1] = some o := go_ (b := fun c => bi_summitK2 c a0 a1) (fun c => by kernel_rfl) h
def bi_better_v2_3 (call : Oracle) (x0 x1 : Int) (x2 : List (List Int)) (x3 x4 : Int) (x5 : List (List Int)) (x6 x7 : Int) (x8 : List (List Int)) (x9 x10 : Int) : Option (List TV) :=
  bif decide (x10 < x9) then
    (call ii_decycled [tPIPILA8 (x6, (x7, x8))]).bind fun o3 =>
    (call ii_summitK2 [tPIPILA8 (gPIPILA8 o3 0), tPIPILA8 (x0, (x1, x2))]).bind fun o4 =>
    bif (gB o4 0) then
      some [tI 1, tI ((gPIPILA8 o3 0).1), tI (((gPIPILA8 o3 0).2).1), tLA8 (((gPIPILA8 o3 0).2).2), tB true]
    else
      call ii_better_v2_3 [tI x0, tI x1, tLA8 x2, tI x3, tI x4, tLA8 x5, tI ((gPIPILA8 o3 0).1), tI (((gPIPILA8 o3 0).2).1), tLA8 (((gPIPILA8 o3 0).2).2), tI x9, tI (wi64 (x10 + 1))]
  else
    some [tI 0, tI x0, tI x1, tLA8 x2, tI x3, tI x4, tLA8 x5]
theorem vi_better_v2_3 (x0 x1 : Int) (x2 : List (List Int)) (x3 x4 : Int) (x5 : List (List Int)) (x6 x7 : Int) (x8 : List (List Int)) (x9 x10 : Int) (h : bi_better_v2_3 R x0 x1 x2 x3 x4 x5 x6 x7 x8 x9 x10 = some o) : R ii_better_v2_3 [tI x0, tI x1, tLA8 x2, tI x3, tI x4, tLA8 x5, tI x6, tI x7, tLA8 x8, tI x9, tI x10] = some o := go_ (b := fun c => bi_better_v2_3 c x0 x1 x2 x3 x4 x5 x6 x7 x8 x9 x10) (fun c => by kernel_rfl) h
def bi_better_v2 (call : Oracle) (a0 : Int × Int × List (List Int)) : Option (List TV) :=
  (call ii_better_v2_3 [tI a0.1, tI a0.2.1, tLA8 a0.2.2, tI 0, tI 0, tLA8 [], tI a0.1, tI a0.2.1, tLA8 a0.2.2, tI (wi64 (Int.tdiv (wi64 (a0.1 * (wi64 (a0.1 - 1)))) 2)), tI 0]).bind fun o5 =>
  bif ((gI o5 0) == 0) then
    some [tPIPILA8 ((gI o5 1), ((gI o5 2), (gLA8 o5 3))), tB false]
  else
    some [tPIPILA8 ((gI o5 1), ((gI o5 2), (gLA8 o5 3))), tB (gB o5 4)]
theorem vi_better_v2 (a0 : Int × Int × List (List Int)) (h : bi_better_v2 R a0 = some o) : R ii_better_v2 [tPIPILA8 a0] = some o := go_ (b := fun c => bi_better_v2 c a0) (fun c => by kernel_rfl) h
def bi_summit_1 (call : Oracle) (x0 x1 : Int) (x2 : List (List Int)) (x3 x4 : Int) (x5 : List (List Int)) : Option (List TV) :=
  (call ii_better [tPIPILA8 (x0, (x1, x2))]).bind fun o5 =>
  bif (!(gB o5 1)) then
    (call ii_better_v2 [tPIPILA8 (x0, (x1, x2))]).bind fun o6 =>
    bif (!(gB o6 1)) then
      (call ii_copyNormal [tPIPILA8 (x0, (x1, x2))]).bind fun o7 =>
      some [tI 0, tI ((gPIPILA8 o7 0).1), tI (((gPIPILA8 o7 0).2).1), tLA8 (((gPIPILA8 o7 0).2).2)]
    else
      call ii_summit_1 [tI ((gPIPILA8 o6 0).1), tI (((gPIPILA8 o6 0).2).1), tLA8 (((gPIPILA8 o6 0).2).2), tI x3, tI x4, tLA8 x5]
  else
    bif (!(gB o5 1)) then
      (call ii_copyNormal [tPIPILA8 (x0, (x1, x2))]).bind fun o8 =>
      some [tI 0, tI ((gPIPILA8 o8 0).1), tI (((gPIPILA8 o8 0).2).1), tLA8 (((gPIPILA8 o8 0).2).2)]
    else
      call ii_summit_1 [tI ((gPIPILA8 o5 0).1), tI (((gPIPILA8 o5 0).2).1), tLA8 (((gPIPILA8 o5 0).2).2), tI x3, tI x4, tLA8 x5]
theorem vi_summit_1 (x0 x1 : Int) (x2 : List (List Int)) (x3 x4 : Int) (x5 : List (List Int)) (h : bi_summit_1 R x0 x1 x2 x3 x4 x5 = some o) : R ii_summit_1 [tI x0, tI x1, tLA8 x2, tI x3, tI x4, tLA8 x5] = some o := go_ (b := fun c => bi_summit_1 c x0 x1 x2 x3 x4 x5) (fun c => by kernel_rfl) h
def bi_summit (call : Oracle) (a0 : Int × Int × List (List Int)) : Option (List TV) :=
  (call ii_summit_1 [tI a0.1, tI a0.2.1, tLA8 a0.2.2, tI 0, tI 0, tLA8 []]).bind fun o9 =>
  some [tPIPILA8 ((gI o9 1), ((gI o9 2), (gLA8 o9 3)))]
theorem vi_summit (a0 : Int × Int × List (List Int)) (h : bi_summit R a0 = some o) : R ii_summit [tPIPILA8 a0] = some o := go_ (b := fun c => bi_summit c a0) (fun c => by kernel_rfl) h
def bi_limited (call : Oracle) (a0 : Int × Int × List (List Int)) : Option (List TV) :=
  (call ii_within [tI a0.2.1, tI (-200), tI 200]).bind fun o1 =>
  bif (!(gB o1 0)) then
    some [tPIPILA8 (0, (0, [])), tI 3]
  else
    bif decide (200 < ((List.length a0.2.2 : Nat) : Int)) then
      some [tPIPILA8 (0, (0, [])), tI 3]
    else
      some [tPIPILA8 a0, tI 0]
theorem vi_limited (a0 : Int × Int × List (List Int)) (h : bi_limited R a0 = some o) : R ii_limited [tPIPILA8 a0] = some o := go_ (b := fun c => bi_limited c a0) (fun c => by kernel_rfl) h
def bi_changed (call : Oracle) (a0 : Int × Int × List (List Int)) : Option (List TV) :=
  (call ii_IsNormal [tPIPILA8 a0]).bind fun o1 =>
  bif (!(gB o1 0)) then
    some [tPIPILA8 (0, (0, [])), tI 1]
  else
    (call ii_summit [tPIPILA8 a0]).bind fun o2 =>
    (call ii_limited [tPIPILA8 (gPIPILA8 o2 0)]).bind fun o3 =>
    some [tPIPILA8 (gPIPILA8 o3 0), tI (gI o3 1)]
theorem vi_changed (a0 : Int × Int × List (List Int)) (h : bi_changed R a0 = some o) : R ii_changed [tPIPILA8 a0] = some o := go_ (b := fun c => bi_changed c a0) (fun c => by kernel_rfl) h
def bi_SummitOf (call : Oracle) (a0 : Int × Int × List (List Int)) : Option (List TV) :=
  (call ii_changed [tPIPILA8 a0]).bind fun o1 =>
  some [tPIPILA8 (gPIPILA8 o1 0), tI (gI o1 1)]
theorem vi_SummitOf (a0 : Int × Int × List (List Int)) (h : bi_SummitOf R a0 = some o) : R ii_SummitOf [tPIPILA8 a0] = some o := go_ (b := fun c => bi_SummitOf c a0) (fun c => by kernel_rfl) h
def bs_l01In (call : Oracle) (a0 a1 a2 : Int) : Option (List TV) :=
  bif decide (a1 ≤ a0) then
    some [tB (decide (a0 ≤ a2))]
  else
    some [tB false]
theorem vs_l01In (a0 a1 a2 : Int) (h : bs_l01In R a0 a1 a2 = some o) : R is_l01In [tI a0, tI a1, tI a2] = some o := go_ (b := fun c => bs_l01In c a0 a1 a2) (fun c => by kernel_rfl) h
def bs_l02Is_5 (call : Oracle) (x0 : List Int) (x1 : List Bool) (x2 x3 : Int) : Option (List TV) :=
  bif decide (x3 < 8) then
    bif decide (x2 ≤ x3) then
      bif (decide (0 ≤ x3) && decide (x3 < 8)) then
        bif ((List.getD x0 (Int.toNat x3) 0) != 0) then
          some [tI 1, tB false]
        else
          call is_l02Is_5 [tA8 x0, tAB8 x1, tI x2, tI (wi64 (x3 + 1))]
      else none
    else
      bif (decide (0 ≤ x3) && decide (x3 < 8)) then
        bif decide (x2 ≤ (wi64 ((List.getD x0 (Int.toNat x3) 0)))) then
          some [tI 1, tB false]
        else
          bif (decide (0 ≤ x3) && decide (x3 < 8)) then
            bif (decide (0 ≤ (List.getD x0 (Int.toNat x3) 0)) && decide ((List.getD x0 (Int.toNat x3) 0) < 8)) then
              bif (List.getD x1 (Int.toNat (List.getD x0 (Int.toNat x3) 0)) false) then
                some [tI 1, tB false]
              else
                bif (decide (0 ≤ x3) && decide (x3 < 8)) then
                  bif (decide (0 ≤ (List.getD x0 (Int.toNat x3) 0)) && decide ((List.getD x0 (Int.toNat x3) 0) < 8)) then
                    call is_l02Is_5 [tA8 x0, tAB8 (List.set x1 (Int.toNat (List.getD x0 (Int.toNat x3) 0)) true), tI x2, tI (wi64 (x3 + 1))]
                  else none
                else none
            else none
          else none
      else none
  else
    some [tI 0]
theorem vs_l02Is_5 (x0 : List Int) (x1 : List Bool) (x2 x3 : Int) (h : bs_l02Is_5 R x0 x1 x2 x3 = some o) : R is_l02Is_5 [tA8 x0, tAB8 x1, tI x2, tI x3] = some o := go_ (b := fun c => bs_l02Is_5 c x0 x1 x2 x3) (fun c => by kernel_rfl) h
def bs_l02Is (call : Oracle) (a0 : List Int) (a1 : Int) : Option (List TV) :=
  (call is_l01In [tI a1, tI 1, tI 8]).bind fun o1 =>
  bif (!(gB o1 0)) then
    some [tB false]
  else
    (call is_l02Is_5 [tA8 a0, tAB8 (List.replicate 8 false), tI a1, tI 0]).bind fun o2 =>
    bif ((gI o2 0) == 0) then
      some [tB true]
    else
      some [tB (gB o2 1)]
theorem vs_l02Is (a0 : List Int) (a1 : Int) (h : bs_l02Is R a0 a1 = some o) : R is_l02Is [tA8 a0, tI a1] = some o := go_ (b := fun c => bs_l02Is c a0 a1) (fun c => by kernel_rfl) h
def bs_l03Weighted_3 (call : Oracle) (x0 x1 : List Int) (x2 x3 : Int) : Option (List TV) :=
  bif decide (x3 < x2) then
    bif (decide (0 ≤ (wi64 (x3 - 1))) && decide ((wi64 (x3 - 1)) < 8)) then
      bif (decide (0 ≤ x3) && decide (x3 < 8)) then
        bif decide ((List.getD x0 (Int.toNat x3) 0) < (List.getD x0 (Int.toNat (wi64 (x3 - 1))) 0)) then
          bif (decide (0 ≤ (wi64 (x3 - 1))) && decide ((wi64 (x3 - 1)) < 8)) then
            bif (decide (0 ≤ x3) && decide (x3 < 8)) then
              bif decide ((List.getD x1 (Int.toNat (wi64 (x3 - 1))) 0) < (List.getD x1 (Int.toNat x3) 0)) then
                some [tI 1, tB false]
              else
                call is_l03Weighted_3 [tA8 x0, tA8 x1, tI x2, tI (wi64 (x3 + 1))]
            else none
          else none
        else
          call is_l03Weighted_3 [tA8 x0, tA8 x1, tI x2, tI (wi64 (x3 + 1))]
      else none
    else none
  else
    some [tI 0]
theorem vs_l03Weighted_3 (x0 x1 : List Int) (x2 x3 : Int) (h : bs_l03Weighted_3 R x0 x1 x2 x3 = some o) : R is_l03Weighted_3 [tA8 x0, tA8 x1, tI x2, tI x3] = some o := go_ (b := fun c => bs_l03Weighted_3 c x0 x1 x2 x3) (fun c => by kernel_rfl) h
def bs_l03Weighted (call : Oracle) (a0 a1 : List Int) (a2 : Int) : Option (List TV) :=
  (call is_l02Back [tA8 a0, tI a2]).bind fun o1 =>
  (call is_l03Weighted_3 [tA8 a1, tA8 (gA8 o1 0), tI a2, tI 1]).bind fun o2 =>
  bif ((gI o2 0) == 0) then
    some [tB true]
  else
    some [tB (gB o2 1)]
theorem vs_l03Weighted (a0 a1 : List Int) (a2 : Int) (h : bs_l03Weighted R a0 a1 a2 = some o) : R is_l03Weighted [tA8 a0, tA8 a1, tI a2] = some o := go_ (b := fun c => bs_l03Weighted c a0 a1 a2) (fun c => by kernel_rfl) h
def bs_l03Is_5 (call : Oracle) (x0 x1 : Int) (x2 : List (List Int)) (x3 x4 : Int) : Option (List TV) :=
  bif decide (x4 < ((List.length x2 : Nat) : Int)) then
    bif (decide (0 ≤ x4) && decide (x4 < ((List.length x2 : Nat) : Int))) then
      (call is_l02Is [tA8 (List.getD x2 (Int.toNat x4) (List.replicate 8 0)), tI x3]).bind fun o7 =>
      bif (!(gB o7 0)) then
        some [tI 1, tB false]
      else
        (call is_l02Same [tI x3]).bind fun o8 =>
        bif ((List.getD x2 (Int.toNat x4) (List.replicate 8 0)) == (gA8 o8 0)) then
          some [tI 1, tB false]
        else
          (call is_l02Half [tI x3]).bind fun o9 =>
          bif ((List.getD x2 (Int.toNat x4) (List.replicate 8 0)) == (gA8 o9 0)) then
            some [tI 1, tB false]
          else
            bif decide (0 < x4) then
              bif (decide (0 ≤ (wi64 (x4 - 1))) && decide ((wi64 (x4 - 1)) < ((List.length x2 : Nat) : Int))) then
                (call is_l03Weighted [tA8 (List.getD x2 (Int.toNat (wi64 (x4 - 1))) (List.replicate 8 0)), tA8 (List.getD x2 (Int.toNat x4) (List.replicate 8 0)), tI x3]).bind fun o10 =>
                bif (!(gB o10 0)) then
                  some [tI 1, tB false]
                else
                  call is_l03Is_5 [tI x0, tI x1, tLA8 x2, tI x3, tI (wi64 (x4 + 1))]
              else none
            else
              call is_l03Is_5 [tI x0, tI x1, tLA8 x2, tI x3, tI (wi64 (x4 + 1))]
    else none
  else
    some [tI 0]
theorem vs_l03Is_5 (x0 x1 : Int) (x2 : List (List Int)) (x3 x4 : Int) (h : bs_l03Is_5 R x0 x1 x2 x3 x4 = some o) : R is_l03Is_5 [tI x0, tI x1, tLA8 x2, tI x3, tI x4] = some o := go_ (b := fun c => bs_l03Is_5 c x0 x1 x2 x3 x4) (fun c => by kernel_rfl) h
def bs_l03Is (call : Oracle) (a0 : Int × Int × List (List Int)) : Option (List TV) :=
  (call is_l01In [tI a0.1, tI 1, tI 8]).bind fun o1 =>
  bif (!(gB o1 0)) then
    some [tB false]
  else
    (call is_l01In [tI a0.2.1, tI (-200), tI 200]).bind fun o2 =>
    bif (!(gB o2 0)) then
      some [tB false]
    else
      bif decide (200 < ((List.length a0.2.2 : Nat) : Int)) then
        some [tB false]
      else
        bif decide (a0.1 < 2) then
          bif (a0.2.1 != 0) then
            some [tB false]
          else
            (call is_l03Is_5 [tI a0.1, tI a0.2.1, tLA8 a0.2.2, tI a0.1, tI 0]).bind fun o11 =>
            bif ((gI o11 0) == 0) then
              some [tB true]
            else
              some [tB (gB o11 1)]
        else
          (call is_l03Is_5 [tI a0.1, tI a0.2.1, tLA8 a0.2.2, tI a0.1, tI 0]).bind fun o12 =>
          bif ((gI o12 0) == 0) then
            some [tB true]
          else
            some [tB (gB o12 1)]
theorem vs_l03Is (a0 : Int × Int × List (List Int)) (h : bs_l03Is R a0 = some o) : R is_l03Is [tPIPILA8 a0] = some o := go_ (b := fun c => bs_l03Is c a0) (fun c => by kernel_rfl) h
def bs_l04First (call : Oracle) (a0 : Int × Int × List (List Int)) : Option (List TV) :=
  bif ((Int.tmod a0.2.1 2) != 0) then
    bif decide (0 < ((List.length a0.2.2 : Nat) : Int)) then
      (call is_l02Turn [tA8 (List.getD a0.2.2 0 (List.replicate 8 0)), tI a0.1]).bind fun o1 =>
      some [tA8 (gA8 o1 0)]
    else none
  else
    bif decide (0 < ((List.length a0.2.2 : Nat) : Int)) then
      some [tA8 (List.getD a0.2.2 0 (List.replicate 8 0))]
    else none
theorem vs_l04First (a0 : Int × Int × List (List Int)) (h : bs_l04First R a0 = some o) : R is_l04First [tPIPILA8 a0] = some o := go_ (b := fun c => bs_l04First c a0) (fun c => by kernel_rfl) h
def bs_l04Cycle (call : Oracle) (a0 : Int × Int × List (List Int)) : Option (List TV) :=
  bif (((List.length a0.2.2 : Nat) : Int) == 0) then
    some [tPIPILA8 a0]
  else
    bif decide (1 ≤ ((List.length a0.2.2 : Nat) : Int)) then
      bif (apOk [] (List.drop 1 a0.2.2)) then
        (call is_l04First [tPIPILA8 a0]).bind fun o1 =>
        bif (apOk (List.drop 1 a0.2.2) [(gA8 o1 0)]) then
          (call is_l03Make [tI a0.1, tI a0.2.1, tLA8 ((List.drop 1 a0.2.2) ++ [(gA8 o1 0)])]).bind fun o2 =>
          some [tPIPILA8 (gPIPILA8 o2 0)]
        else none
      else none
    else none
theorem vs_l04Cycle (a0 : Int × Int × List (List Int)) (h : bs_l04Cycle R a0 = some o) : R is_l04Cycle [tPIPILA8 a0] = some o := go_ (b := fun c => bs_l04Cycle c a0) (fun c => by kernel_rfl) h
def bs_l04Decycle (call : Oracle) (a0 : Int × Int × List (List Int)) : Option (List TV) :=
  bif (((List.length a0.2.2 : Nat) : Int) == 0) then
    some [tPIPILA8 a0]
  else
    bif (decide (0 ≤ (wi64 (((List.length a0.2.2 : Nat) : Int) - 1))) && decide ((wi64 (((List.length a0.2.2 : Nat) : Int) - 1)) < ((List.length a0.2.2 : Nat) : Int))) then
      bif ((Int.tmod a0.2.1 2) != 0) then
        (call is_l02Turn [tA8 (List.getD a0.2.2 (Int.toNat (wi64 (((List.length a0.2.2 : Nat) : Int) - 1))) (List.replicate 8 0)), tI a0.1]).bind fun o1 =>
        bif (decide (0 ≤ (wi64 (((List.length a0.2.2 : Nat) : Int) - 1))) && decide ((wi64 (((List.length a0.2.2 : Nat) : Int) - 1)) ≤ ((List.length a0.2.2 : Nat) : Int))) then
          bif (apOk [(gA8 o1 0)] (List.take (Int.toNat (wi64 (((List.length a0.2.2 : Nat) : Int) - 1))) a0.2.2)) then
            (call is_l03Make [tI a0.1, tI a0.2.1, tLA8 ([(gA8 o1 0)] ++ (List.take (Int.toNat (wi64 (((List.length a0.2.2 : Nat) : Int) - 1))) a0.2.2))]).bind fun o2 =>
            some [tPIPILA8 (gPIPILA8 o2 0)]
          else none
        else none
      else
        bif (decide (0 ≤ (wi64 (((List.length a0.2.2 : Nat) : Int) - 1))) && decide ((wi64 (((List.length a0.2.2 : Nat) : Int) - 1)) ≤ ((List.length a0.2.2 : Nat) : Int))) then
          bif (apOk [(List.getD a0.2.2 (Int.toNat (wi64 (((List.length a0.2.2 : Nat) : Int) - 1))) (List.replicate 8 0))] (List.take (Int.toNat (wi64 (((List.length a0.2.2 : Nat) : Int) - 1))) a0.2.2)) then
            (call is_l03Make [tI a0.1, tI a0.2.1, tLA8 ([(List.getD a0.2.2 (Int.toNat (wi64 (((List.length a0.2.2 : Nat) : Int) - 1))) (List.replicate 8 0))] ++ (List.take (Int.toNat (wi64 (((List.length a0.2.2 : Nat) : Int) - 1))) a0.2.2))]).bind fun o3 =>
            some [tPIPILA8 (gPIPILA8 o3 0)]
          else none
        else none
    else none
theorem vs_l04Decycle (a0 : Int × Int × List (List Int)) (h : bs_l04Decycle R a0 = some o) : R is_l04Decycle [tPIPILA8 a0] = some o := go_ (b := fun c => bs_l04Decycle c a0) (fun c => by kernel_rfl) h
def bs_l04Summit_2 (call : Oracle) (x0 x1 : Int) (x2 : List (List Int)) (x3 x4 : Int) (x5 : List (List Int)) (x6 : Int) : Option (List TV) :=
  (call is_l04Summit_4 [tI x0, tI x1, tLA8 x2, tI x3, tI x4, tLA8 x5, tI x0, tI x1, tLA8 x2, tI x6, tB false, tI (wi64 (Int.tdiv (wi64 (x6 * (wi64 (x6 - 1)))) 2))]).bind fun o8 =>
  bif (!(gB o8 11)) then
    (call is_l04Summit_11 [tI (gI o8 1), tI (gI o8 2), tLA8 (gLA8 o8 3), tI (gI o8 4), tI (gI o8 5), tLA8 (gLA8 o8 6), tI (gI o8 1), tI (gI o8 2), tLA8 (gLA8 o8 3), tI (gI o8 10), tB (gB o8 11), tI (wi64 (Int.tdiv (wi64 ((gI o8 10) * (wi64 ((gI o8 10) - 1)))) 2))]).bind fun o9 =>
    bif (!(gB o9 11)) then
      some [tI 0, tI (gI o9 1), tI (gI o9 2), tLA8 (gLA8 o9 3)]
    else
      call is_l04Summit_2 [tI (gI o9 7), tI (gI o9 8), tLA8 (gLA8 o9 9), tI (gI o9 4), tI (gI o9 5), tLA8 (gLA8 o9 6), tI (gI o9 10)]
  else
    (call is_l04Summit_11 [tI (gI o8 1), tI (gI o8 2), tLA8 (gLA8 o8 3), tI (gI o8 4), tI (gI o8 5), tLA8 (gLA8 o8 6), tI (gI o8 7), tI (gI o8 8), tLA8 (gLA8 o8 9), tI (gI o8 10), tB (gB o8 11), tI (wi64 (Int.tdiv (wi64 ((gI o8 10) * (wi64 ((gI o8 10) - 1)))) 2))]).bind fun o10 =>
    bif (!(gB o10 11)) then
      some [tI 0, tI (gI o10 1), tI (gI o10 2), tLA8 (gLA8 o10 3)]
    else
      call is_l04Summit_2 [tI (gI o10 7), tI (gI o10 8), tLA8 (gLA8 o10 9), tI (gI o10 4), tI (gI o10 5), tLA8 (gLA8 o10 6), tI (gI o10 10)]
theorem vs_l04Summit_2 (x0 x1 : Int) (x2 : List (List Int)) (x3 x4 : Int) (x5 : List (List Int)) (x6 : Int) (h : bs_l04Summit_2 R x0 x1 x2 x3 x4 x5 x6 = some o) : R is_l04Summit_2 [tI x0, tI x1, tLA8 x2, tI x3, tI x4, tLA8 x5, tI x6] = some o := go_ (b := fun c => bs_l04Summit_2 c x0 x1 x2 x3 x4 x5 x6) (fun c => by kernel_rfl) h
def bs_l04Summit_4 (call : Oracle) (x0 x1 : Int) (x2 : List (List Int)) (x3 x4 : Int) (x5 : List (List Int)) (x6 x7 : Int) (x8 : List (List Int)) (x9 : Int) (x10 : Bool) (x11 : Int) : Option (List TV) :=
  bif decide (0 < x11) then
    bif (!x10) then
      (call is_l04Cycle [tPIPILA8 (x6, (x7, x8))]).bind fun o2 =>
      call is_l04Summit_4 [tI x0, tI x1, tLA8 x2, tI x3, tI x4, tLA8 x5, tI ((gPIPILA8 o2 0).1), tI (((gPIPILA8 o2 0).2).1), tLA8 (((gPIPILA8 o2 0).2).2), tI x9, tB (decide (x1 < ((gPIPILA8 o2 0).2).1)), tI (wi64 (x11 - 1))]
    else
      some [tI 0, tI x0, tI x1, tLA8 x2, tI x3, tI x4, tLA8 x5, tI x6, tI x7, tLA8 x8, tI x9, tB x10]
  else
    some [tI 0, tI x0, tI x1, tLA8 x2, tI x3, tI x4, tLA8 x5, tI x6, tI x7, tLA8 x8, tI x9, tB x10]
theorem vs_l04Summit_4 (x0 x1 : Int) (x2 : List (List Int)) (x3 x4 : Int) (x5 : List (List Int)) (x6 x7 : Int) (x8 : List (List Int)) (x9 : Int) (x10 : Bool) (x11 : Int) (h : bs_l04Summit_4 R x0 x1 x2 x3 x4 x5 x6 x7 x8 x9 x10 x11 = some o) : R is_l04Summit_4 [tI x0, tI x1, tLA8 x2, tI x3, tI x4, tLA8 x5, tI x6, tI x7, tLA8 x8, tI x9, tB x10, tI x11] = some o := go_ (b := fun c => bs_l04Summit_4 c x0 x1 x2 x3 x4 x5 x6 x7 x8 x9 x10 x11) (fun c => by kernel_rfl) h
end
end Go.Ev.YtfkpbhbghbhmgaaGreat
