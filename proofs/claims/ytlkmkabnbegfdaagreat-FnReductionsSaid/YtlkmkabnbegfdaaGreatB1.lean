/- Bodies, part 1. -/
import Derived.KernelRfl
import Derived.Test.YtlkmkabnbegfdaaGreatEnv
set_option linter.unusedVariables false
namespace Go.Ev.YtlkmkabnbegfdaaGreat
open Go.Ev
noncomputable section
variable {o:List TV}
def zBt (call:Oracle) (x0 x1:List Int) (x2 x3:Int):Option (List TV):=
  bif decide (x3<x2) then
    bif (decide (0≤x3)&&decide (x3<8)) then
      call zBc [tA8 x0,tA8 (List.set x1 (Int.toNat x3) (wu8 (x3))),tI x2,tI (wi64 (x3+1))]
    else none
  else
    some [tI 0,tA8 x0,tA8 x1]
theorem zGQ (x0 x1:List Int) (x2 x3:Int) (h:zBt R x0 x1 x2 x3=some o):R zBc [tA8 x0,tA8 x1,tI x2,tI x3]=some o:=go_ (b:=fun c=>zBt c x0 x1 x2 x3) (fun c=>by kernel_rfl) h
def zGB (call:Oracle) (a0:Int):Option (List TV):=
  (call zBc [tA8 (List.replicate 8 0),tA8 (List.replicate 8 0),tI a0,tI 0]).bind fun o1=>
  some [tA8 (gA8 o1 2)]
theorem zN6 (a0:Int) (h:zGB R a0=some o):R jm [tI a0]=some o:=go_ (b:=fun c=>zGB c a0) (fun c=>by kernel_rfl) h
def zEi (call:Oracle) (a0 a1:Int):Option (List TV):=
  (call jm [tI a1]).bind fun o1=>
  bif (decide (0≤a0)&&decide (a0<8)) then
    bif (decide (0≤(wi64 (a0-1)))&&decide ((wi64 (a0-1))<8)) then
      bif (decide (0≤(wi64 (a0-1)))&&decide ((wi64 (a0-1))<8)) then
        bif (decide (0≤a0)&&decide (a0<8)) then
          some [tA8 (List.set (List.set (gA8 o1 0) (Int.toNat (wi64 (a0-1))) (List.getD (gA8 o1 0) (Int.toNat a0) 0)) (Int.toNat a0) (List.getD (gA8 o1 0) (Int.toNat (wi64 (a0-1))) 0))]
        else none
      else none
    else none
  else none
theorem zLX (a0 a1:Int) (h:zEi R a0 a1=some o):R zCe [tI a0,tI a1]=some o:=go_ (b:=fun c=>zEi c a0 a1) (fun c=>by kernel_rfl) h
def zCu (call:Oracle) (x0 x1 x2:List Int) (x3 x4:Int):Option (List TV):=
  bif decide (x4<x3) then
    bif (decide (0≤x4)&&decide (x4<8)) then
      bif (decide (0≤(List.getD x0 (Int.toNat x4) 0))&&decide ((List.getD x0 (Int.toNat x4) 0)<8)) then
        call zCi [tA8 x0,tA8 x1,tA8 (List.set x2 (Int.toNat (List.getD x0 (Int.toNat x4) 0)) (wu8 (x4))),tI x3,tI (wi64 (x4+1))]
      else none
    else none
  else
    some [tI 0,tA8 x1,tA8 x2]
theorem zHE (x0 x1 x2:List Int) (x3 x4:Int) (h:zCu R x0 x1 x2 x3 x4=some o):R zCi [tA8 x0,tA8 x1,tA8 x2,tI x3,tI x4]=some o:=go_ (b:=fun c=>zCu c x0 x1 x2 x3 x4) (fun c=>by kernel_rfl) h
def zH9 (call:Oracle) (a0:List Int) (a1:Int):Option (List TV):=
  (call zCi [tA8 a0,tA8 (List.replicate 8 0),tA8 (List.replicate 8 0),tI a1,tI 0]).bind fun o1=>
  some [tA8 (gA8 o1 2)]
theorem zO7 (a0:List Int) (a1:Int) (h:zH9 R a0 a1=some o):R zCG [tA8 a0,tI a1]=some o:=go_ (b:=fun c=>zH9 c a0 a1) (fun c=>by kernel_rfl) h
def zAn (call:Oracle) (x0 x1:List Int) (x2 x3 x4:Int):Option (List TV):=
  bif decide (x4<x3) then
    bif (decide (0≤x4)&&decide (x4<8)) then
      call zAf [tA8 x0,tA8 (List.set x1 (Int.toNat x4) (wu8 ((wi64 ((wi64 (x2-1))-x4))))),tI x2,tI x3,tI (wi64 (x4+1))]
    else none
  else
    some [tI 0,tA8 x0,tA8 x1]
theorem zEr (x0 x1:List Int) (x2 x3 x4:Int) (h:zAn R x0 x1 x2 x3 x4=some o):R zAf [tA8 x0,tA8 x1,tI x2,tI x3,tI x4]=some o:=go_ (b:=fun c=>zAn c x0 x1 x2 x3 x4) (fun c=>by kernel_rfl) h
def zEh (call:Oracle) (a0:Int):Option (List TV):=
  (call zAf [tA8 (List.replicate 8 0),tA8 (List.replicate 8 0),tI a0,tI a0,tI 0]).bind fun o1=>
  some [tA8 (gA8 o1 2)]
theorem zLW (a0:Int) (h:zEh R a0=some o):R jK [tI a0]=some o:=go_ (b:=fun c=>zEh c a0) (fun c=>by kernel_rfl) h
def zFV (call:Oracle) (x0 x1:List Int) (x2 x3:List Int) (x4 x5:Int):Option (List TV):=
  bif decide (x5<x4) then
    bif (decide (0≤x5)&&decide (x5<8)) then
      bif (decide (0≤(List.getD x0 (Int.toNat x5) 0))&&decide ((List.getD x0 (Int.toNat x5) 0)<8)) then
        bif (decide (0≤x5)&&decide (x5<8)) then
          call zFI [tA8 x0,tA8 x1,tA8 x2,tA8 (List.set x3 (Int.toNat x5) (List.getD x1 (Int.toNat (List.getD x0 (Int.toNat x5) 0)) 0)),tI x4,tI (wi64 (x5+1))]
        else none
      else none
    else none
  else
    some [tI 0,tA8 x2,tA8 x3]
theorem zJy (x0 x1:List Int) (x2 x3:List Int) (x4 x5:Int) (h:zFV R x0 x1 x2 x3 x4 x5=some o):R zFI [tA8 x0,tA8 x1,tA8 x2,tA8 x3,tI x4,tI x5]=some o:=go_ (b:=fun c=>zFV c x0 x1 x2 x3 x4 x5) (fun c=>by kernel_rfl) h
def zMh (call:Oracle) (a0 a1:List Int) (a2:Int):Option (List TV):=
  (call zFI [tA8 a0,tA8 a1,tA8 (List.replicate 8 0),tA8 (List.replicate 8 0),tI a2,tI 0]).bind fun o1=>
  some [tA8 (gA8 o1 2)]
theorem zTO (a0 a1:List Int) (a2:Int) (h:zMh R a0 a1 a2=some o):R zDH [tA8 a0,tA8 a1,tI a2]=some o:=go_ (b:=fun c=>zMh c a0 a1 a2) (fun c=>by kernel_rfl) h
def zCt (call:Oracle) (a0:List Int) (a1:Int):Option (List TV):=
  (call zCG [tA8 a0,tI a1]).bind fun o1=>
  (call jK [tI a1]).bind fun o2=>
  (call zDH [tA8 (gA8 o1 0),tA8 (gA8 o2 0),tI a1]).bind fun o3=>
  some [tA8 (gA8 o3 0)]
theorem zI8 (a0:List Int) (a1:Int) (h:zCt R a0 a1=some o):R zCg [tA8 a0,tI a1]=some o:=go_ (b:=fun c=>zCt c a0 a1) (fun c=>by kernel_rfl) h
def zAo (call:Oracle) (x0:List Int) (x1 x2 x3:Int):Option (List TV):=
  bif decide (x3<x2) then
    (call jZ [tA8 x0,tU64 x1,tI x3,tI x2,tI x3,tI x3,tI 0]).bind fun o2=>
    call zAg [tA8 (gA8 o2 1),tU64 (gU64 o2 2),tI (gI o2 3),tI (wi64 ((gI o2 4)+1))]
  else
    some [tI 0,tU64 x1]
theorem zEs (x0:List Int) (x1 x2 x3:Int) (h:zAo R x0 x1 x2 x3=some o):R zAg [tA8 x0,tU64 x1,tI x2,tI x3]=some o:=go_ (b:=fun c=>zAo c x0 x1 x2 x3) (fun c=>by kernel_rfl) h
def jg (call:Oracle) (x0:List Int) (x1 x2:Int) (x3 x4:Int) (x5 x6:Int):Option (List TV):=
  bif decide (x6<x5) then
    bif (decide (0≤x6)&&decide (x6<8)) then
      bif (decide (0≤x2)&&decide (x2<8)) then
        bif decide ((List.getD x0 (Int.toNat x2) 0)<(List.getD x0 (Int.toNat x6) 0)) then
          bif decide (0≤(wi64 ((wi64 (8*x6))+x2))) then
            call jZ [tA8 x0,tU64 (bitsOr .u64 x1 (shl .u64 1 (wi64 ((wi64 (8*x6))+x2)))),tI x2,tI x3,tI x4,tI x5,tI (wi64 (x6+1))]
          else none
        else
          call jZ [tA8 x0,tU64 x1,tI x2,tI x3,tI x4,tI x5,tI (wi64 (x6+1))]
      else none
    else none
  else
    some [tI 0,tA8 x0,tU64 x1,tI x3,tI x4]
theorem zCU (x0:List Int) (x1 x2:Int) (x3 x4:Int) (x5 x6:Int) (h:jg R x0 x1 x2 x3 x4 x5 x6=some o):R jZ [tA8 x0,tU64 x1,tI x2,tI x3,tI x4,tI x5,tI x6]=some o:=go_ (b:=fun c=>jg c x0 x1 x2 x3 x4 x5 x6) (fun c=>by kernel_rfl) h
def zEj (call:Oracle) (a0:List Int) (a1:Int):Option (List TV):=
  (call zAg [tA8 a0,tU64 0,tI a1,tI 0]).bind fun o3=>
  some [tU64 (gU64 o3 1)]
theorem zLY (a0:List Int) (a1:Int) (h:zEj R a0 a1=some o):R zCf [tA8 a0,tI a1]=some o:=go_ (b:=fun c=>zEj c a0 a1) (fun c=>by kernel_rfl) h
def zFW (call:Oracle) (x0 x1:List Int) (x2 x3:Int) (x4:Bool):Option (List TV):=
  bif x4 then
    (call zCF [tA8 x0,tA8 x1,tI x2,tU64 x3,tB false,tI 1]).bind fun o5=>
    call zFJ [tA8 (gA8 o5 1),tA8 (gA8 o5 2),tI (gI o5 3),tU64 (gU64 o5 4),tB (gB o5 5)]
  else
    some [tI 0,tA8 x0,tA8 x1,tI x2]
theorem zJ0 (x0 x1:List Int) (x2 x3:Int) (x4:Bool) (h:zFW R x0 x1 x2 x3 x4=some o):R zFJ [tA8 x0,tA8 x1,tI x2,tU64 x3,tB x4]=some o:=go_ (b:=fun c=>zFW c x0 x1 x2 x3 x4) (fun c=>by kernel_rfl) h
def zBJ (call:Oracle) (x0 x1:List Int) (x2 x3:Int) (x4:Bool) (x5:Int):Option (List TV):=
  bif decide (x5<x2) then
    bif (decide (0≤(wi64 (x5-1)))&&decide ((wi64 (x5-1))<8)) then
      bif (decide (0≤x5)&&decide (x5<8)) then
        bif decide ((List.getD x1 (Int.toNat (wi64 (x5-1))) 0)<(List.getD x1 (Int.toNat x5) 0)) then
          bif decide (0≤(wu8 ((wu8 (8*(List.getD x1 (Int.toNat (wi64 (x5-1))) 0)))+(List.getD x1 (Int.toNat x5) 0)))) then
            bif ((bitsAnd .u64 (shr .u64 x3 (wu8 ((wu8 (8*(List.getD x1 (Int.toNat (wi64 (x5-1))) 0)))+(List.getD x1 (Int.toNat x5) 0)))) 1)==1) then
              bif (decide (0≤(wi64 (x5-1)))&&decide ((wi64 (x5-1))<8)) then
                bif (decide (0≤x5)&&decide (x5<8)) then
                  call zCF [tA8 x0,tA8 (List.set (List.set x1 (Int.toNat (wi64 (x5-1))) (List.getD x1 (Int.toNat x5) 0)) (Int.toNat x5) (List.getD x1 (Int.toNat (wi64 (x5-1))) 0)),tI x2,tU64 x3,tB true,tI (wi64 (x5+1))]
                else none
              else none
            else
              call zCF [tA8 x0,tA8 x1,tI x2,tU64 x3,tB x4,tI (wi64 (x5+1))]
          else none
        else
          call zCF [tA8 x0,tA8 x1,tI x2,tU64 x3,tB x4,tI (wi64 (x5+1))]
      else none
    else none
  else
    some [tI 0,tA8 x0,tA8 x1,tI x2,tU64 x3,tB x4]
theorem zC1 (x0 x1:List Int) (x2 x3:Int) (x4:Bool) (x5:Int) (h:zBJ R x0 x1 x2 x3 x4 x5=some o):R zCF [tA8 x0,tA8 x1,tI x2,tU64 x3,tB x4,tI x5]=some o:=go_ (b:=fun c=>zBJ c x0 x1 x2 x3 x4 x5) (fun c=>by kernel_rfl) h
def zMj (call:Oracle) (a0 a1:List Int) (a2:Int):Option (List TV):=
  (call zCf [tA8 a0,tI a2]).bind fun o1=>
  (call zCf [tA8 a1,tI a2]).bind fun o2=>
  (call jm [tI a2]).bind fun o3=>
  (call zFJ [tA8 (List.replicate 8 0),tA8 (gA8 o3 0),tI a2,tU64 (bitsAnd .u64 (gU64 o1 0) (gU64 o2 0)),tB true]).bind fun o6=>
  (call zCG [tA8 (gA8 o6 2),tI (gI o6 3)]).bind fun o7=>
  some [tA8 (gA8 o7 0)]
theorem zTQ (a0 a1:List Int) (a2:Int) (h:zMj R a0 a1 a2=some o):R zL3 [tA8 a0,tA8 a1,tI a2]=some o:=go_ (b:=fun c=>zMj c a0 a1 a2) (fun c=>by kernel_rfl) h
def b__i_Normal__put_5 (call:Oracle) (x0 x1:Int) (x2:List (List Int)) (x3 x4:Int):Option (List TV):=
  bif decide (0<x4) then
    bif (decide (0≤(wi64 (x4-1)))&&decide ((wi64 (x4-1))<((List.length x2:Nat):Int))) then
      (call zCg [tA8 (List.getD x2 (Int.toNat (wi64 (x4-1))) (List.replicate 8 0)),tI x3]).bind fun o8=>
      bif (decide (0≤x4)&&decide (x4<((List.length x2:Nat):Int))) then
        (call zL3 [tA8 (gA8 o8 0),tA8 (List.getD x2 (Int.toNat x4) (List.replicate 8 0)),tI x3]).bind fun o9=>
        (call jm [tI x3]).bind fun o10=>
        bif ((gA8 o9 0)==(gA8 o10 0)) then
          some [tI 0,tI x0,tI x1,tLA8 x2,tI x3]
        else
          bif (decide (0≤(wi64 (x4-1)))&&decide ((wi64 (x4-1))<((List.length x2:Nat):Int))) then
            (call zDH [tA8 (List.getD x2 (Int.toNat (wi64 (x4-1))) (List.replicate 8 0)),tA8 (gA8 o9 0),tI x3]).bind fun o11=>
            bif (decide (0≤(wi64 (x4-1)))&&decide ((wi64 (x4-1))<((List.length x2:Nat):Int))) then
              (call zCG [tA8 (gA8 o9 0),tI x3]).bind fun o12=>
              bif (decide (0≤x4)&&decide (x4<((List.length (List.set x2 (Int.toNat (wi64 (x4-1))) (gA8 o11 0)):Nat):Int))) then
                (call zDH [tA8 (gA8 o12 0),tA8 (List.getD (List.set x2 (Int.toNat (wi64 (x4-1))) (gA8 o11 0)) (Int.toNat x4) (List.replicate 8 0)),tI x3]).bind fun o13=>
                bif (decide (0≤x4)&&decide (x4<((List.length (List.set x2 (Int.toNat (wi64 (x4-1))) (gA8 o11 0)):Nat):Int))) then
                  call i__i_Normal__put_5 [tI x0,tI x1,tLA8 (List.set (List.set x2 (Int.toNat (wi64 (x4-1))) (gA8 o11 0)) (Int.toNat x4) (gA8 o13 0)),tI x3,tI (wi64 (x4-1))]
                else none
              else none
            else none
          else none
      else none
    else none
  else
    some [tI 0,tI x0,tI x1,tLA8 x2,tI x3]
theorem jV (x0 x1:Int) (x2:List (List Int)) (x3 x4:Int) (h:b__i_Normal__put_5 R x0 x1 x2 x3 x4=some o):R i__i_Normal__put_5 [tI x0,tI x1,tLA8 x2,tI x3,tI x4]=some o:=go_ (b:=fun c=>b__i_Normal__put_5 c x0 x1 x2 x3 x4) (fun c=>by kernel_rfl) h
def b__i_Normal__put_11 (call:Oracle) (x0 x1:Int) (x2:List (List Int)) (x3:Int):Option (List TV):=
  bif decide (0<((List.length x2:Nat):Int)) then
    bif decide (0<((List.length x2:Nat):Int)) then
      (call jK [tI x3]).bind fun o16=>
      bif ((List.getD x2 0 (List.replicate 8 0))==(gA8 o16 0)) then
        bif decide (1≤((List.length x2:Nat):Int)) then
          call i__i_Normal__put_11 [tI x0,tI (wi64 (x1+1)),tLA8 (List.drop 1 x2),tI x3]
        else none
      else
        some [tI 0,tI x0,tI x1,tLA8 x2,tI x3]
    else none
  else
    some [tI 0,tI x0,tI x1,tLA8 x2,tI x3]
theorem zAy (x0 x1:Int) (x2:List (List Int)) (x3:Int) (h:b__i_Normal__put_11 R x0 x1 x2 x3=some o):R i__i_Normal__put_11 [tI x0,tI x1,tLA8 x2,tI x3]=some o:=go_ (b:=fun c=>b__i_Normal__put_11 c x0 x1 x2 x3) (fun c=>by kernel_rfl) h
def b__i_Normal__put_14 (call:Oracle) (x0 x1:Int) (x2:List (List Int)) (x3:Int):Option (List TV):=
  bif decide (0<((List.length x2:Nat):Int)) then
    bif (decide (0≤(wi64 (((List.length x2:Nat):Int)-1)))&&decide ((wi64 (((List.length x2:Nat):Int)-1))<((List.length x2:Nat):Int))) then
      (call jm [tI x3]).bind fun o19=>
      bif ((List.getD x2 (Int.toNat (wi64 (((List.length x2:Nat):Int)-1))) (List.replicate 8 0))==(gA8 o19 0)) then
        bif (decide (0≤(wi64 (((List.length x2:Nat):Int)-1)))&&decide ((wi64 (((List.length x2:Nat):Int)-1))≤((List.length x2:Nat):Int))) then
          call i__i_Normal__put_14 [tI x0,tI x1,tLA8 (List.take (Int.toNat (wi64 (((List.length x2:Nat):Int)-1))) x2),tI x3]
        else none
      else
        some [tI 0,tI x0,tI x1,tLA8 x2]
    else none
  else
    some [tI 0,tI x0,tI x1,tLA8 x2]
theorem zAx (x0 x1:Int) (x2:List (List Int)) (x3:Int) (h:b__i_Normal__put_14 R x0 x1 x2 x3=some o):R i__i_Normal__put_14 [tI x0,tI x1,tLA8 x2,tI x3]=some o:=go_ (b:=fun c=>b__i_Normal__put_14 c x0 x1 x2 x3) (fun c=>by kernel_rfl) h
def b__i_Normal__put (call:Oracle) (a0:Int×Int×List (List Int)) (a1:List Int):Option (List TV):=
  (call jm [tI a0.1]).bind fun o1=>
  bif (a1==(gA8 o1 0)) then
    some [zK a0]
  else
    bif (apOk a0.2.2 [a1]) then
      (call i__i_Normal__put_5 [tI a0.1,tI a0.2.1,tLA8 (a0.2.2++[a1]),tI a0.1,tI (wi64 (((List.length (a0.2.2++[a1]):Nat):Int)-1))]).bind fun o14=>
      (call i__i_Normal__put_11 [tI (gI o14 1),tI (gI o14 2),tLA8 (gLA8 o14 3),tI (gI o14 4)]).bind fun o17=>
      (call i__i_Normal__put_14 [tI (gI o17 1),tI (gI o17 2),tLA8 (gLA8 o17 3),tI (gI o17 4)]).bind fun o20=>
      some [zK ((gI o20 1),((gI o20 2),(gLA8 o20 3)))]
    else none
theorem zGk (a0:Int×Int×List (List Int)) (a1:List Int) (h:b__i_Normal__put R a0 a1=some o):R i__i_Normal__put [zK a0,tA8 a1]=some o:=go_ (b:=fun c=>b__i_Normal__put c a0 a1) (fun c=>by kernel_rfl) h
def zMg (call:Oracle) (a0:List Int) (a1:Int):Option (List TV):=
  (call jK [tI a1]).bind fun o1=>
  (call zDH [tA8 (gA8 o1 0),tA8 a0,tI a1]).bind fun o2=>
  (call jK [tI a1]).bind fun o3=>
  (call zDH [tA8 (gA8 o2 0),tA8 (gA8 o3 0),tI a1]).bind fun o4=>
  some [tA8 (gA8 o4 0)]
theorem zTN (a0:List Int) (a1:Int) (h:zMg R a0 a1=some o):R zL2 [tA8 a0,tI a1]=some o:=go_ (b:=fun c=>zMg c a0 a1) (fun c=>by kernel_rfl) h
def b__i_Normal__turnBy_4 (call:Oracle) (x0 x1:Int) (x2:List (List Int)) (x3 x4:Int):Option (List TV):=
  bif decide (x4<x3) then
    bif (decide (0≤x4)&&decide (x4<((List.length x2:Nat):Int))) then
      (call zL2 [tA8 (List.getD x2 (Int.toNat x4) (List.replicate 8 0)),tI x0]).bind fun o2=>
      bif (decide (0≤x4)&&decide (x4<((List.length x2:Nat):Int))) then
        call i__i_Normal__turnBy_4 [tI x0,tI x1,tLA8 (List.set x2 (Int.toNat x4) (gA8 o2 0)),tI x3,tI (wi64 (x4+1))]
      else none
    else none
  else
    some [tI 0,tI x0,tI x1,tLA8 x2]
theorem jy (x0 x1:Int) (x2:List (List Int)) (x3 x4:Int) (h:b__i_Normal__turnBy_4 R x0 x1 x2 x3 x4=some o):R i__i_Normal__turnBy_4 [tI x0,tI x1,tLA8 x2,tI x3,tI x4]=some o:=go_ (b:=fun c=>b__i_Normal__turnBy_4 c x0 x1 x2 x3 x4) (fun c=>by kernel_rfl) h
def b__i_Normal__turnBy (call:Oracle) (a0:Int×Int×List (List Int)) (a1:Int):Option (List TV):=
  bif decide (a0.1<2) then
    some [zK a0]
  else
    bif ((Int.tmod a1 2) != 0) then
      (call i__i_Normal__turnBy_4 [tI a0.1,tI (wi64 (a0.2.1+a1)),tLA8 a0.2.2,tI ((List.length a0.2.2:Nat):Int),tI 0]).bind fun o3=>
      some [zK ((gI o3 1),((gI o3 2),(gLA8 o3 3)))]
    else
      some [zK (a0.1,((wi64 (a0.2.1+a1)),a0.2.2))]
theorem zD9 (a0:Int×Int×List (List Int)) (a1:Int) (h:b__i_Normal__turnBy R a0 a1=some o):R i__i_Normal__turnBy [zK a0,tI a1]=some o:=go_ (b:=fun c=>b__i_Normal__turnBy c a0 a1) (fun c=>by kernel_rfl) h
def jo (call:Oracle) (a0:List Int) (a1:Int):Option (List TV):=
  (call jK [tI a1]).bind fun o1=>
  (call zCG [tA8 a0,tI a1]).bind fun o2=>
  (call zDH [tA8 (gA8 o1 0),tA8 (gA8 o2 0),tI a1]).bind fun o3=>
  some [tA8 (gA8 o3 0)]
theorem zFb (a0:List Int) (a1:Int) (h:jo R a0 a1=some o):R jn [tA8 a0,tI a1]=some o:=go_ (b:=fun c=>jo c a0 a1) (fun c=>by kernel_rfl) h
def b__i_Normal__putInverse (call:Oracle) (a0:Int×Int×List (List Int)) (a1:List Int):Option (List TV):=
  (call i__i_Normal__turnBy [zK a0,tI (-1)]).bind fun o1=>
  (call jn [tA8 a1,tI ((zo o1 0).1)]).bind fun o2=>
  (call i__i_Normal__put [zK (zo o1 0),tA8 (gA8 o2 0)]).bind fun o3=>
  some [zK (zo o3 0)]
theorem zCW (a0:Int×Int×List (List Int)) (a1:List Int) (h:b__i_Normal__putInverse R a0 a1=some o):R i__i_Normal__putInverse [zK a0,tA8 a1]=some o:=go_ (b:=fun c=>b__i_Normal__putInverse c a0 a1) (fun c=>by kernel_rfl) h
def jf (call:Oracle) (x0:Int) (x1:List Int) (x2 x3:Int) (x4:List (List Int)) (x5 x6:Int) (x7:List (List Int)) (x8 x9:Int):Option (List TV):=
  bif decide (x9<x8) then
    bif (decide (0≤x9)&&decide (x9<((List.length x1:Nat):Int))) then
      bif decide (0<(List.getD x1 (Int.toNat x9) 0)) then
        (call zCe [tI (List.getD x1 (Int.toNat x9) 0),tI x0]).bind fun o5=>
        (call i__i_Normal__put [zK (x5,(x6,x7)),tA8 (gA8 o5 0)]).bind fun o6=>
        call kw [tI x0,tLI x1,tI x2,tI x3,tLA8 x4,tI ((zo o6 0).1),tI (((zo o6 0).2).1),tLA8 (((zo o6 0).2).2),tI x8,tI (wi64 (x9+1))]
      else
        (call zCe [tI (wi64 (0-(List.getD x1 (Int.toNat x9) 0))),tI x0]).bind fun o7=>
        (call i__i_Normal__putInverse [zK (x5,(x6,x7)),tA8 (gA8 o7 0)]).bind fun o8=>
        call kw [tI x0,tLI x1,tI x2,tI x3,tLA8 x4,tI ((zo o8 0).1),tI (((zo o8 0).2).1),tLA8 (((zo o8 0).2).2),tI x8,tI (wi64 (x9+1))]
    else none
  else
    some [tI 0,tI x2,tI x3,tLA8 x4,tI x5,tI x6,tLA8 x7]
theorem zCT (x0:Int) (x1:List Int) (x2 x3:Int) (x4:List (List Int)) (x5 x6:Int) (x7:List (List Int)) (x8 x9:Int) (h:jf R x0 x1 x2 x3 x4 x5 x6 x7 x8 x9=some o):R kw [tI x0,tLI x1,tI x2,tI x3,tLA8 x4,tI x5,tI x6,tLA8 x7,tI x8,tI x9]=some o:=go_ (b:=fun c=>jf c x0 x1 x2 x3 x4 x5 x6 x7 x8 x9) (fun c=>by kernel_rfl) h
def zCq (call:Oracle) (a0:Int×List Int):Option (List TV):=
  (call kw [tI a0.1,tLI a0.2,tI 0,tI 0,tLA8 [],tI a0.1,tI 0,tLA8 [],tI ((List.length a0.2:Nat):Int),tI 0]).bind fun o9=>
  some [zK ((gI o9 4),((gI o9 5),(gLA8 o9 6)))]
theorem zLT (a0:Int×List Int) (h:zCq R a0=some o):R zCc [zH a0]=some o:=go_ (b:=fun c=>zCq c a0) (fun c=>by kernel_rfl) h
def zZ (call:Oracle) (x0 x1:List (List Int)) (x2 x3:Int):Option (List TV):=
  bif decide (x3<x2) then
    bif (decide (0≤x3)&&decide (x3<((List.length x0:Nat):Int))) then
      bif (decide (0≤x3)&&decide (x3<((List.length x1:Nat):Int))) then
        bif ((List.getD x0 (Int.toNat x3) (List.replicate 8 0)) != (List.getD x1 (Int.toNat x3) (List.replicate 8 0))) then
          some [tI 1,tB false]
        else
          call zY [tLA8 x0,tLA8 x1,tI x2,tI (wi64 (x3+1))]
      else none
    else none
  else
    some [tI 0]
theorem kR (x0 x1:List (List Int)) (x2 x3:Int) (h:zZ R x0 x1 x2 x3=some o):R zY [tLA8 x0,tLA8 x1,tI x2,tI x3]=some o:=go_ (b:=fun c=>zZ c x0 x1 x2 x3) (fun c=>by kernel_rfl) h
def ze (call:Oracle) (a0 a1:List (List Int)):Option (List TV):=
  bif (((List.length a0:Nat):Int) != ((List.length a1:Nat):Int)) then
    some [tB false]
  else
    (call zY [tLA8 a0,tLA8 a1,tI ((List.length a0:Nat):Int),tI 0]).bind fun o1=>
    bif ((gI o1 0)==0) then
      some [tB true]
    else
      some [tB (gB o1 1)]
theorem zAK (a0 a1:List (List Int)) (h:ze R a0 a1=some o):R zy [tLA8 a0,tLA8 a1]=some o:=go_ (b:=fun c=>ze c a0 a1) (fun c=>by kernel_rfl) h
def je (call:Oracle) (a0 a1:Int×Int×List (List Int)):Option (List TV):=
  bif (a0.1==a1.1) then
    bif (a0.2.1==a1.2.1) then
      (call zy [tLA8 a0.2.2,tLA8 a1.2.2]).bind fun o1=>
      some [tB (gB o1 0)]
    else
      some [tB false]
  else
    some [tB false]
theorem zI6 (a0 a1:Int×Int×List (List Int)) (h:je R a0 a1=some o):R zCb [zK a0,zK a1]=some o:=go_ (b:=fun c=>je c a0 a1) (fun c=>by kernel_rfl) h
def zDY (call:Oracle) (a0 a1:Int×List Int):Option (List TV):=
  (call kx [zH a0]).bind fun o1=>
  bif (!(gB o1 0)) then
    some [tB false,tI 1]
  else
    (call kx [zH a1]).bind fun o2=>
    bif (!(gB o2 0)) then
      some [tB false,tI 1]
    else
      bif (a0.1 != a1.1) then
        some [tB false,tI 2]
      else
        (call zCc [zH a0]).bind fun o3=>
        (call zCc [zH a1]).bind fun o4=>
        (call zCb [zK (zo o3 0),zK (zo o4 0)]).bind fun o5=>
        some [tB (gB o5 0),tI 0]
theorem zJ2 (a0 a1:Int×List Int) (h:zDY R a0 a1=some o):R zDK [zH a0,zH a1]=some o:=go_ (b:=fun c=>zDY c a0 a1) (fun c=>by kernel_rfl) h
def zBl (call:Oracle) (x0 x1:Int) (x2:List (List Int)) (x3 x4:Int) (x5:List (List Int)) (x6:Int):Option (List TV):=
  bif decide (x6<((List.length x2:Nat):Int)) then
    bif (decide (0≤x6)&&decide (x6<((List.length x2:Nat):Int))) then
      bif (decide (0≤x6)&&decide (x6<((List.length x5:Nat):Int))) then
        bif ((List.getD x2 (Int.toNat x6) (List.replicate 8 0)) != (List.getD x5 (Int.toNat x6) (List.replicate 8 0))) then
          some [tI 1,tB false]
        else
          call zBU [tI x0,tI x1,tLA8 x2,tI x3,tI x4,tLA8 x5,tI (wi64 (x6+1))]
      else none
    else none
  else
    some [tI 0]
theorem zGJ (x0 x1:Int) (x2:List (List Int)) (x3 x4:Int) (x5:List (List Int)) (x6:Int) (h:zBl R x0 x1 x2 x3 x4 x5 x6=some o):R zBU [tI x0,tI x1,tLA8 x2,tI x3,tI x4,tLA8 x5,tI x6]=some o:=go_ (b:=fun c=>zBl c x0 x1 x2 x3 x4 x5 x6) (fun c=>by kernel_rfl) h
def zAv (call:Oracle) (a0 a1:Int×Int×List (List Int)):Option (List TV):=
  bif (a0.1 != a1.1) then
    some [tB false]
  else
    bif (a0.2.1 != a1.2.1) then
      some [tB false]
    else
      bif (((List.length a0.2.2:Nat):Int) != ((List.length a1.2.2:Nat):Int)) then
        some [tB false]
      else
        (call zBU [tI a0.1,tI a0.2.1,tLA8 a0.2.2,tI a1.1,tI a1.2.1,tLA8 a1.2.2,tI 0]).bind fun o1=>
        bif ((gI o1 0)==0) then
          some [tB true]
        else
          some [tB (gB o1 1)]
theorem zNu (a0 a1:Int×Int×List (List Int)) (h:zAv R a0 a1=some o):R zFq [zK a0,zK a1]=some o:=go_ (b:=fun c=>zAv c a0 a1) (fun c=>by kernel_rfl) h
def zEa (call:Oracle) (a0:Int) (a1 a2:List Int):Option (List TV):=
  (call zFF [tI a0,tLI a1]).bind fun o1=>
  (call zFF [tI a0,tLI a2]).bind fun o2=>
  (call zFq [zK (zo o1 0),zK (zo o2 0)]).bind fun o3=>
  some [tB (gB o3 0)]
theorem zLO (a0:Int) (a1 a2:List Int) (h:zEa R a0 a1 a2=some o):R zEN [tI a0,tLI a1,tLI a2]=some o:=go_ (b:=fun c=>zEa c a0 a1 a2) (fun c=>by kernel_rfl) h
def zDW (call:Oracle) (a0 a1:Int×List Int):Option (List TV):=
  (call zAc [zH a0]).bind fun o1=>
  bif (!(gB o1 0)) then
    some [tB false,tI 1]
  else
    (call zAc [zH a1]).bind fun o2=>
    bif (!(gB o2 0)) then
      some [tB false,tI 1]
    else
      bif (a0.1 != a1.1) then
        some [tB false,tI 2]
      else
        (call zEN [tI a0.1,tLI a0.2,tLI a1.2]).bind fun o3=>
        some [tB (gB o3 0),tI 0]
theorem zJx (a0 a1:Int×List Int) (h:zDW R a0 a1=some o):R zDF [zH a0,zH a1]=some o:=go_ (b:=fun c=>zDW c a0 a1) (fun c=>by kernel_rfl) h
def zAl (call:Oracle) (x0:Int) (x1:List Int) (x2:Int) (x3:List Int) (x4:Int) (x5:List Int) (x6:Int):Option (List TV):=
  bif decide (0≤x6) then
    bif (decide (0≤x6)&&decide (x6<((List.length x1:Nat):Int))) then
      bif (apOk x5 [(List.getD x1 (Int.toNat x6) 0)]) then
        call zAd [tI x0,tLI x1,tI x2,tLI x3,tI x4,tLI (x5++[(List.getD x1 (Int.toNat x6) 0)]),tI (wi64 (x6-1))]
      else none
    else none
  else
    some [tI 0,tI x2,tLI x3,tI x4,tLI x5]
theorem zEp (x0:Int) (x1:List Int) (x2:Int) (x3:List Int) (x4:Int) (x5:List Int) (x6:Int) (h:zAl R x0 x1 x2 x3 x4 x5 x6=some o):R zAd [tI x0,tLI x1,tI x2,tLI x3,tI x4,tLI x5,tI x6]=some o:=go_ (b:=fun c=>zAl c x0 x1 x2 x3 x4 x5 x6) (fun c=>by kernel_rfl) h
def zEd (call:Oracle) (a0:Int×List Int):Option (List TV):=
  (call zAd [tI a0.1,tLI a0.2,tI 0,tLI [],tI a0.1,tLI [],tI (wi64 (((List.length a0.2:Nat):Int)-1))]).bind fun o1=>
  some [zH ((gI o1 3),(gLI o1 4))]
theorem zLR (a0:Int×List Int) (h:zEd R a0=some o):R zEO [zH a0]=some o:=go_ (b:=fun c=>zEd c a0) (fun c=>by kernel_rfl) h
def zEe (call:Oracle) (a0:Int):Option (List TV):=
  some [tI (wi64 (0-a0))]
theorem zLS (a0:Int) (h:zEe R a0=some o):R zEP [tI a0]=some o:=go_ (b:=fun c=>zEe c a0) (fun c=>by kernel_rfl) h
def zAm (call:Oracle) (x0:Int) (x1:List Int) (x2:Int) (x3 x4:List Int) (x5 x6:Int):Option (List TV):=
  bif decide (x6<x5) then
    bif (decide (0≤x6)&&decide (x6<((List.length x4:Nat):Int))) then
      (call zEP [tI (List.getD x4 (Int.toNat x6) 0)]).bind fun o2=>
      bif (apOk x3 [(gI o2 0)]) then
        call zAe [tI x0,tLI x1,tI x2,tLI (x3++[(gI o2 0)]),tLI x4,tI x5,tI (wi64 (x6+1))]
      else none
    else none
  else
    some [tI 0,tI x0,tLI x1,tI x2,tLI x3]
theorem zEq (x0:Int) (x1:List Int) (x2:Int) (x3 x4:List Int) (x5 x6:Int) (h:zAm R x0 x1 x2 x3 x4 x5 x6=some o):R zAe [tI x0,tLI x1,tI x2,tLI x3,tLI x4,tI x5,tI x6]=some o:=go_ (b:=fun c=>zAm c x0 x1 x2 x3 x4 x5 x6) (fun c=>by kernel_rfl) h
def zEf (call:Oracle) (a0:Int×List Int):Option (List TV):=
  (call zAe [tI 0,tLI [],tI a0.1,tLI [],tLI a0.2,tI ((List.length a0.2:Nat):Int),tI 0]).bind fun o3=>
  some [zH ((gI o3 3),(gLI o3 4))]
theorem zLU (a0:Int×List Int) (h:zEf R a0=some o):R zEQ [zH a0]=some o:=go_ (b:=fun c=>zEf c a0) (fun c=>by kernel_rfl) h
def zBw (call:Oracle) (a0:Int×List Int):Option (List TV):=
  (call kx [zH a0]).bind fun o1=>
  bif (!(gB o1 0)) then
    some [zH (0,[]),tI 1]
  else
    (call zEO [zH a0]).bind fun o2=>
    (call zEQ [zH (zg o2 0)]).bind fun o3=>
    some [zH (zg o3 0),tI 0]
theorem zJ6 (a0:Int×List Int) (h:zBw R a0=some o):R zBf [zH a0]=some o:=go_ (b:=fun c=>zBw c a0) (fun c=>by kernel_rfl) h
def zH8 (call:Oracle) (a0 a1:Int×List Int):Option (List TV):=
  bif (apOk [] a0.2) then
    bif (apOk a0.2 a1.2) then
      some [zH (a0.1,(a0.2++a1.2))]
    else none
  else none
theorem zO6 (a0 a1:Int×List Int) (h:zH8 R a0 a1=some o):R zHl [zH a0,zH a1]=some o:=go_ (b:=fun c=>zH8 c a0 a1) (fun c=>by kernel_rfl) h
def kr (call:Oracle) (a0 a1:Int×List Int):Option (List TV):=
  (call kx [zH a0]).bind fun o1=>
  bif (!(gB o1 0)) then
    some [zH (0,[]),tI 1]
  else
    (call kx [zH a1]).bind fun o2=>
    bif (!(gB o2 0)) then
      some [zH (0,[]),tI 1]
    else
      bif (a0.1 != a1.1) then
        some [zH (0,[]),tI 2]
      else
        bif decide (200<(wi64 (((List.length a0.2:Nat):Int)+((List.length a1.2:Nat):Int)))) then
          some [zH (0,[]),tI 3]
        else
          (call zHl [zH a0,zH a1]).bind fun o3=>
          some [zH (zg o3 0),tI 0]
theorem zJ3 (a0 a1:Int×List Int) (h:kr R a0 a1=some o):R zAF [zH a0,zH a1]=some o:=go_ (b:=fun c=>kr c a0 a1) (fun c=>by kernel_rfl) h
def zEc (call:Oracle) (a0:Int):Option (List TV):=
  some [tI (mx a0 (wi64 (0-a0)))]
theorem zLQ (a0:Int) (h:zEc R a0=some o):R zAR [tI a0]=some o:=go_ (b:=fun c=>zEc c a0) (fun c=>by kernel_rfl) h
def jR (call:Oracle) (x0:List Int) (x1 x2 x3:Int):Option (List TV):=
  bif decide (0≤x3) then
    bif (decide (0≤x3)&&decide (x3<((List.length x0:Nat):Int))) then
      (call zAR [tI (List.getD x0 (Int.toNat x3) 0)]).bind fun o3=>
      bif ((gI o3 0)==x2) then
        bif (decide (0≤x3)&&decide (x3<((List.length x0:Nat):Int))) then
          bif (decide (0≤x1)&&decide (x1<((List.length x0:Nat):Int))) then
            some [tI 1,tI x3,tB ((List.getD x0 (Int.toNat x3) 0)==(wi64 (0-(List.getD x0 (Int.toNat x1) 0))))]
          else none
        else none
      else
        bif ((gI o3 0)==(wi64 (x2-1))) then
          some [tI 1,tI 0,tB false]
        else
          call zBd [tLI x0,tI x1,tI x2,tI (wi64 (x3-1))]
    else none
  else
    some [tI 0]
theorem zBM (x0:List Int) (x1 x2 x3:Int) (h:jR R x0 x1 x2 x3=some o):R zBd [tLI x0,tI x1,tI x2,tI x3]=some o:=go_ (b:=fun c=>jR c x0 x1 x2 x3) (fun c=>by kernel_rfl) h
def zCO (call:Oracle) (a0:List Int) (a1:Int):Option (List TV):=
  bif (decide (0≤a1)&&decide (a1<((List.length a0:Nat):Int))) then
    (call zAR [tI (List.getD a0 (Int.toNat a1) 0)]).bind fun o1=>
    (call zBd [tLI a0,tI a1,tI (gI o1 0),tI (wi64 (a1-1))]).bind fun o4=>
    bif ((gI o4 0)==0) then
      some [tI 0,tB false]
    else
      some [tI (gI o4 1),tB (gB o4 2)]
  else none
theorem zFc (a0:List Int) (a1:Int) (h:zCO R a0 a1=some o):R zFx [tLI a0,tI a1]=some o:=go_ (b:=fun c=>zCO c a0 a1) (fun c=>by kernel_rfl) h
def jH (call:Oracle) (x0:List Int) (x1 x2:Int):Option (List TV):=
  bif decide (x2<x1) then
    (call zFx [tLI x0,tI x2]).bind fun o2=>
    bif (gB o2 1) then
      some [tI 1,tI (gI o2 0),tI x2,tB true]
    else
      call jG [tLI x0,tI x1,tI (wi64 (x2+1))]
  else
    some [tI 0]
theorem zCw (x0:List Int) (x1 x2:Int) (h:jH R x0 x1 x2=some o):R jG [tLI x0,tI x1,tI x2]=some o:=go_ (b:=fun c=>jH c x0 x1 x2) (fun c=>by kernel_rfl) h
def zB5 (call:Oracle) (a0:List Int):Option (List TV):=
  (call jG [tLI a0,tI ((List.length a0:Nat):Int),tI 0]).bind fun o3=>
  bif ((gI o3 0)==0) then
    some [tI 0,tI 0,tB false]
  else
    some [tI (gI o3 1),tI (gI o3 2),tB (gB o3 3)]
theorem zID (a0:List Int) (h:zB5 R a0=some o):R zB1 [tLI a0]=some o:=go_ (b:=fun c=>zB5 c a0) (fun c=>by kernel_rfl) h
def zMi (call:Oracle) (a0:Int):Option (List TV):=
  bif decide (0<a0) then
    some [tI 1]
  else
    some [tI (-1)]
theorem zTP (a0:Int) (h:zMi R a0=some o):R zJa [tI a0]=some o:=go_ (b:=fun c=>zMi c a0) (fun c=>by kernel_rfl) h
def zBs (call:Oracle) (x0 x1 x2:List Int) (x3 x4:Int) (x5 x6 x7:Int):Option (List TV):=
  bif decide (x7<x6) then
    bif (decide (0≤x7)&&decide (x7<((List.length x2:Nat):Int))) then
      (call zAR [tI (List.getD x2 (Int.toNat x7) 0)]).bind fun o5=>
      bif ((gI o5 0)==(wi64 (x4+1))) then
        (call zJa [tI (List.getD x2 (Int.toNat x7) 0)]).bind fun o6=>
        bif (apOk x1 [x5,(wi64 (x4*(gI o6 0))),(wi64 (0-x5))]) then
          call zAE [tLI x0,tLI (x1++[x5,(wi64 (x4*(gI o6 0))),(wi64 (0-x5))]),tLI x2,tI x3,tI x4,tI x5,tI x6,tI (wi64 (x7+1))]
        else none
      else
        bif (apOk x1 [(List.getD x2 (Int.toNat x7) 0)]) then
          call zAE [tLI x0,tLI (x1++[(List.getD x2 (Int.toNat x7) 0)]),tLI x2,tI x3,tI x4,tI x5,tI x6,tI (wi64 (x7+1))]
        else none
    else none
  else
    some [tI 0,tLI x0,tLI x1,tI x3]
theorem zGP (x0 x1 x2:List Int) (x3 x4:Int) (x5 x6 x7:Int) (h:zBs R x0 x1 x2 x3 x4 x5 x6 x7=some o):R zAE [tLI x0,tLI x1,tLI x2,tI x3,tI x4,tI x5,tI x6,tI x7]=some o:=go_ (b:=fun c=>zBs c x0 x1 x2 x3 x4 x5 x6 x7) (fun c=>by kernel_rfl) h
def zGA (call:Oracle) (a0:List Int) (a1 a2:Int):Option (List TV):=
  bif (decide (0≤a2)&&decide (a2<((List.length a0:Nat):Int))) then
    (call zAR [tI (List.getD a0 (Int.toNat a2) 0)]).bind fun o1=>
    bif (decide (0≤a2)&&decide (a2<((List.length a0:Nat):Int))) then
      (call zJa [tI (List.getD a0 (Int.toNat a2) 0)]).bind fun o2=>
      bif (decide (0≤a1)&&decide (a1≤((List.length a0:Nat):Int))) then
        bif (apOk [] (List.take (Int.toNat a1) a0)) then
          bif ((decide (0≤(wi64 (a1+1)))&&decide ((wi64 (a1+1))≤a2))&&decide (a2≤((List.length a0:Nat):Int))) then
            (call zAE [tLI a0,tLI (List.take (Int.toNat a1) a0),tLI (List.drop (Int.toNat (wi64 (a1+1))) (List.take (Int.toNat a2) a0)),tI a2,tI (gI o1 0),tI (wi64 ((wi64 ((gI o1 0)+1))*(gI o2 0))),tI ((List.length (List.drop (Int.toNat (wi64 (a1+1))) (List.take (Int.toNat a2) a0)):Nat):Int),tI 0]).bind fun o7=>
            bif (decide (0≤(wi64 ((gI o7 3)+1)))&&decide ((wi64 ((gI o7 3)+1))≤((List.length (gLI o7 1):Nat):Int))) then
              bif (apOk (gLI o7 2) (List.drop (Int.toNat (wi64 ((gI o7 3)+1))) (gLI o7 1))) then
                some [tLI ((gLI o7 2)++(List.drop (Int.toNat (wi64 ((gI o7 3)+1))) (gLI o7 1)))]
              else none
            else none
          else none
        else none
      else none
    else none
  else none
theorem zN5 (a0:List Int) (a1 a2:Int) (h:zGA R a0 a1 a2=some o):R zFv [tLI a0,tI a1,tI a2]=some o:=go_ (b:=fun c=>zGA c a0 a1 a2) (fun c=>by kernel_rfl) h
def kk (call:Oracle) (x0:List Int) (x1:Int):Option (List TV):=
  bif decide (2000<((List.length x0:Nat):Int)) then
    some [tI 0,tLI [],tI 3]
  else
    (call zB1 [tLI x0]).bind fun o3=>
    bif (!(gB o3 2)) then
      some [tI 0,tLI x0,tI 0]
    else
      bif (x1==3000) then
        some [tI 0,tLI [],tI 3]
      else
        (call zFv [tLI x0,tI (gI o3 0),tI (gI o3 1)]).bind fun o4=>
        call jr [tLI (gLI o4 0),tI (wi64 (x1+1))]
theorem zDs (x0:List Int) (x1:Int) (h:kk R x0 x1=some o):R jr [tLI x0,tI x1]=some o:=go_ (b:=fun c=>kk c x0 x1) (fun c=>by kernel_rfl) h
def zDX (call:Oracle) (a0:List Int):Option (List TV):=
  (call jr [tLI a0,tI 0]).bind fun o5=>
  some [tLI (gLI o5 1),tI (gI o5 2)]
theorem zJz (a0:List Int) (h:zDX R a0=some o):R zDI [tLI a0]=some o:=go_ (b:=fun c=>zDX c a0) (fun c=>by kernel_rfl) h
def zCr (call:Oracle) (x0:List Int) (x1:Int) (x2:Bool) (x3 x4:Int):Option (List TV):=
  bif decide (x4<x3) then
    bif (decide (0≤x4)&&decide (x4<((List.length x0:Nat):Int))) then
      bif (x1==0) then
        call jJ [tLI x0,tI (List.getD x0 (Int.toNat x4) 0),tB false,tI x3,tI (wi64 (x4+1))]
      else
        (call zAR [tI (List.getD x0 (Int.toNat x4) 0)]).bind fun o3=>
        (call zAR [tI x1]).bind fun o4=>
        bif decide ((gI o3 0)<(gI o4 0)) then
          call jJ [tLI x0,tI (List.getD x0 (Int.toNat x4) 0),tB false,tI x3,tI (wi64 (x4+1))]
        else
          bif ((List.getD x0 (Int.toNat x4) 0)==(wi64 (0-x1))) then
            call jJ [tLI x0,tI x1,tB true,tI x3,tI (wi64 (x4+1))]
          else
            call jJ [tLI x0,tI x1,tB x2,tI x3,tI (wi64 (x4+1))]
    else none
  else
    some [tI 0,tI x1,tB x2]
theorem zHD (x0:List Int) (x1:Int) (x2:Bool) (x3 x4:Int) (h:zCr R x0 x1 x2 x3 x4=some o):R jJ [tLI x0,tI x1,tB x2,tI x3,tI x4]=some o:=go_ (b:=fun c=>zCr c x0 x1 x2 x3 x4) (fun c=>by kernel_rfl) h
def zH7 (call:Oracle) (a0:List Int):Option (List TV):=
  (call jJ [tLI a0,tI 0,tB false,tI ((List.length a0:Nat):Int),tI 0]).bind fun o5=>
  bif (gB o5 2) then
    some [tI 0]
  else
    some [tI (gI o5 1)]
theorem zO5 (a0:List Int) (h:zH7 R a0=some o):R zHk [tLI a0]=some o:=go_ (b:=fun c=>zH7 c a0) (fun c=>by kernel_rfl) h
def zCs (call:Oracle) (a0:List Int):Option (List TV):=
  (call zDI [tLI a0]).bind fun o1=>
  (call zHk [tLI (gLI o1 0)]).bind fun o2=>
  some [tI (gI o2 0),tI (gI o1 1)]
theorem zI7 (a0:List Int) (h:zCs R a0=some o):R zCd [tLI a0]=some o:=go_ (b:=fun c=>zCs c a0) (fun c=>by kernel_rfl) h
def zCv (call:Oracle) (a0:Int×List Int):Option (List TV):=
  (call kx [zH a0]).bind fun o1=>
  bif (!(gB o1 0)) then
    some [tI 0,tI 1]
  else
    (call zCd [tLI a0.2]).bind fun o2=>
    some [tI (gI o2 0),tI (gI o2 1)]
theorem zJA (a0:Int×List Int) (h:zCv R a0=some o):R zCj [zH a0]=some o:=go_ (b:=fun c=>zCv c a0) (fun c=>by kernel_rfl) h
def zDZ (call:Oracle) (a0:Int×List Int):Option (List TV):=
  (call zCj [zH a0]).bind fun o1=>
  bif ((gI o1 0)==0) then
    some [tB ((gI o1 1)==0),tI (gI o1 1)]
  else
    some [tB false,tI (gI o1 1)]
theorem zJ4 (a0:Int×List Int) (h:zDZ R a0=some o):R zDL [zH a0]=some o:=go_ (b:=fun c=>zDZ c a0) (fun c=>by kernel_rfl) h
def zFU (call:Oracle) (x0:List Int) (x1 x2 x3:Int):Option (List TV):=
  bif decide (x3<((List.length x0:Nat):Int)) then
    bif (decide (0≤x3)&&decide (x3<((List.length x0:Nat):Int))) then
      call zFE [tLU8 x0,tI x1,tU64 (wu64 ((wu64 ((wu64 (x2*1099511628211))+(wu64 ((List.getD x0 (Int.toNat x3) 0)))))+5)),tI (wi64 (x3+1))]
    else none
  else
    some [tI 0,tI x1,tU64 x2,tLU8 x0]
theorem zJt (x0:List Int) (x1 x2 x3:Int) (h:zFU R x0 x1 x2 x3=some o):R zFE [tLU8 x0,tI x1,tU64 x2,tI x3]=some o:=go_ (b:=fun c=>zFU c x0 x1 x2 x3) (fun c=>by kernel_rfl) h
def zMd (call:Oracle) (a0:List Int) (a1:Int):Option (List TV):=
  (call zFE [tLU8 a0,tI 0,tU64 (wu64 ((wu64 (a1*7919))+(wu64 (((List.length a0:Nat):Int))))),tI 0]).bind fun o1=>
  some [zE ((gLU8 o1 3),((gI o1 1),(gU64 o1 2)))]
theorem zTM (a0:List Int) (a1:Int) (h:zMd R a0 a1=some o):R zL0 [tLU8 a0,tU64 a1]=some o:=go_ (b:=fun c=>zMd c a0 a1) (fun c=>by kernel_rfl) h
def b__w_dice__below (call:Oracle) (a0:List Int×Int×Int) (a1:Int):Option (List TV):=
  bif decide (a1<1) then
    some [tI 0,zE a0]
  else
    bif decide (a0.2.1<((List.length a0.1:Nat):Int)) then
      bif (decide (0≤a0.2.1)&&decide (a0.2.1<((List.length a0.1:Nat):Int))) then
        bif (a1 != 0) then
          some [tI (Int.tmod (wi64 ((wi64 ((bitsAnd .u64 (shr .u64 (wu64 ((wu64 (a0.2.2*6364136223846793005))+1442695040888963407)) 33) 16777215)))+(wi64 ((List.getD a0.1 (Int.toNat a0.2.1) 0))))) a1),zE (a0.1,((wi64 (a0.2.1+1)),(wu64 ((wu64 (a0.2.2*6364136223846793005))+1442695040888963407))))]
        else none
      else none
    else
      bif (a1 != 0) then
        some [tI (Int.tmod (wi64 ((bitsAnd .u64 (shr .u64 (wu64 ((wu64 (a0.2.2*6364136223846793005))+1442695040888963407)) 33) 16777215))) a1),zE (a0.1,(a0.2.1,(wu64 ((wu64 (a0.2.2*6364136223846793005))+1442695040888963407))))]
      else none
theorem zAN (a0:List Int×Int×Int) (a1:Int) (h:b__w_dice__below R a0 a1=some o):R i__w_dice__below [zE a0,tI a1]=some o:=go_ (b:=fun c=>b__w_dice__below c a0 a1) (fun c=>by kernel_rfl) h
def jb (call:Oracle) (x0 x1:Int) (x2 x3:List Int) (x4 x5:Int):Option (List TV):=
  bif decide (0<x5) then
    bif decide (1<x4) then
      (call i__w_dice__below [zE (x2,(x0,x1)),tI (wi64 (x4-1))]).bind fun o3=>
      (call i__w_dice__below [zE (zC o3 1),tI 2]).bind fun o4=>
      bif (apOk x3 [(wi64 ((wi64 (1+(gI o3 0)))*(wi64 (1-(wi64 (2*(gI o4 0)))))))]) then
        call zAZ [tI (((zC o4 1).2).1),tU64 (((zC o4 1).2).2),tLU8 ((zC o4 1).1),tLI (x3++[(wi64 ((wi64 (1+(gI o3 0)))*(wi64 (1-(wi64 (2*(gI o4 0)))))))]),tI x4,tI (wi64 (x5-1))]
      else none
    else
      some [tI 0,tI x0,tU64 x1,tLU8 x2,tLI x3]
  else
    some [tI 0,tI x0,tU64 x1,tLU8 x2,tLI x3]
theorem zCS (x0 x1:Int) (x2 x3:List Int) (x4 x5:Int) (h:jb R x0 x1 x2 x3 x4 x5=some o):R zAZ [tI x0,tU64 x1,tLU8 x2,tLI x3,tI x4,tI x5]=some o:=go_ (b:=fun c=>jb c x0 x1 x2 x3 x4 x5) (fun c=>by kernel_rfl) h
def zEY (call:Oracle) (a0:List Int×Int×Int) (a1 a2:Int):Option (List TV):=
  (call zAZ [tI a0.2.1,tU64 a0.2.2,tLU8 a0.1,tLI [],tI a1,tI a2]).bind fun o5=>
  some [tLI (gLI o5 4),zE ((gLU8 o5 3),((gI o5 1),(gU64 o5 2)))]
theorem zLM (a0:List Int×Int×Int) (a1 a2:Int) (h:zEY R a0 a1 a2=some o):R zCa [zE a0,tI a1,tI a2]=some o:=go_ (b:=fun c=>zEY c a0 a1 a2) (fun c=>by kernel_rfl) h
end
end Go.Ev.YtlkmkabnbegfdaaGreat
