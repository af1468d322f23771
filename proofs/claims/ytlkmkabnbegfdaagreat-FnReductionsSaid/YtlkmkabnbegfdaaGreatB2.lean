/- Bodies, part 2. -/
import Derived.KernelRfl
import Derived.Test.YtlkmkabnbegfdaaGreatEnv
set_option linter.unusedVariables false
namespace Go.Ev.YtlkmkabnbegfdaaGreat
open Go.Ev
noncomputable section
variable {o:List TV}
def jh (call:Oracle) (a0:Int×List Int):Option (List TV):=
  (call kx [zH a0]).bind fun o1=>
  bif (!(gB o1 0)) then
    some [tI 1]
  else
    bif decide (60<((List.length a0.2:Nat):Int)) then
      some [tI 3]
    else
      some [tI 0]
theorem zI9 (a0:Int×List Int) (h:jh R a0=some o):R zCh [zH a0]=some o:=go_ (b:=fun c=>jh c a0) (fun c=>by kernel_rfl) h
def zGg (call:Oracle) (x0:Int×List Int):Option (List TV):=
  Go.Ev.YtlkmkabnbegfdaaGreatP.alexF [zH x0]
theorem zJ1 (x0:Int×List Int) (h:zGg R x0=some o):R zDJ [zH x0]=some o:=go_ (b:=fun c=>zGg c x0) (fun c=>by kernel_rfl) h
def zAJ (call:Oracle) (a0:Int):Option (List TV):=
  bif decide (a0<0) then
    some [tAw4 (List.set (List.set (List.set [(wu64 (a0)),0,0,0] 1 18446744073709551615) 2 18446744073709551615) 3 18446744073709551615)]
  else
    some [tAw4 [(wu64 (a0)),0,0,0]]
theorem zEo (a0:Int) (h:zAJ R a0=some o):R zBB [tI a0]=some o:=go_ (b:=fun c=>zAJ c a0) (fun c=>by kernel_rfl) h
def b_i_wide__small (call:Oracle) (a0:List Int):Option (List TV):=
  (call zBB [tI (wi64 ((List.getD a0 0 0)))]).bind fun o1=>
  some [tI (wi64 ((List.getD a0 0 0))),tB ((gAw4 o1 0)==a0)]
theorem zHG (a0:List Int) (h:b_i_wide__small R a0=some o):R i_i_wide__small [tAw4 a0]=some o:=go_ (b:=fun c=>b_i_wide__small c a0) (fun c=>by kernel_rfl) h
def zB6 (call:Oracle) (a0:Int):Option (List TV):=
  (call kh [tI a0,tI (-1000000000000),tI 1000000000000]).bind fun o1=>
  some [tB (!(gB o1 0))]
theorem zIE (a0:Int) (h:zB6 R a0=some o):R zB2 [tI a0]=some o:=go_ (b:=fun c=>zB6 c a0) (fun c=>by kernel_rfl) h
def zQ (call:Oracle) (x0:List Int) (x1 x2:Int):Option (List TV):=
  bif decide (x2<x1) then
    bif (decide (0≤x2)&&decide (x2<((List.length x0:Nat):Int))) then
      (call zB2 [tI (List.getD x0 (Int.toNat x2) 0)]).bind fun o2=>
      bif (gB o2 0) then
        some [tI 1,tI x2]
      else
        call zL [tLI x0,tI x1,tI (wi64 (x2+1))]
    else none
  else
    some [tI 0]
theorem zx (x0:List Int) (x1 x2:Int) (h:zQ R x0 x1 x2=some o):R zL [tLI x0,tI x1,tI x2]=some o:=go_ (b:=fun c=>zQ c x0 x1 x2) (fun c=>by kernel_rfl) h
def zn (call:Oracle) (a0:List Int):Option (List TV):=
  (call zL [tLI a0,tI ((List.length a0:Nat):Int),tI 0]).bind fun o3=>
  bif ((gI o3 0)==0) then
    some [tI (-1)]
  else
    some [tI (gI o3 1)]
theorem km (a0:List Int) (h:zn R a0=some o):R kD [tLI a0]=some o:=go_ (b:=fun c=>zn c a0) (fun c=>by kernel_rfl) h
def zw (call:Oracle) (a0:List Int):Option (List TV):=
  (call kD [tLI a0]).bind fun o1=>
  some [tB (decide (0≤(gI o1 0)))]
theorem jx (a0:List Int) (h:zw R a0=some o):R zv [tLI a0]=some o:=go_ (b:=fun c=>zw c a0) (fun c=>by kernel_rfl) h
def zBu (call:Oracle) (a0:Int×List Int):Option (List TV):=
  bif (((List.length a0.2:Nat):Int)==0) then
    some [tB (a0.1==0)]
  else
    bif decide (2001<((List.length a0.2:Nat):Int)) then
      some [tB false]
    else
      (call kh [tI a0.1,tI (-1000),tI 1000]).bind fun o1=>
      bif (!(gB o1 0)) then
        some [tB false]
      else
        bif decide (1000<(wi64 ((wi64 (a0.1+((List.length a0.2:Nat):Int)))-1))) then
          some [tB false]
        else
          bif decide (0<((List.length a0.2:Nat):Int)) then
            bif ((List.getD a0.2 0 0)==0) then
              some [tB false]
            else
              bif (decide (0≤(wi64 (((List.length a0.2:Nat):Int)-1)))&&decide ((wi64 (((List.length a0.2:Nat):Int)-1))<((List.length a0.2:Nat):Int))) then
                bif ((List.getD a0.2 (Int.toNat (wi64 (((List.length a0.2:Nat):Int)-1))) 0)==0) then
                  some [tB false]
                else
                  (call zv [tLI a0.2]).bind fun o2=>
                  some [tB (!(gB o2 0))]
              else none
          else none
theorem zJ5 (a0:Int×List Int) (h:zBu R a0=some o):R zDM [zH a0]=some o:=go_ (b:=fun c=>zBu c a0) (fun c=>by kernel_rfl) h
def b_i_poly__laurent_3 (call:Oracle) (x0:Int) (x1:List Int) (x2:Int) (x3:List Int) (x4:List (List Int)) (x5 x6:Int):Option (List TV):=
  bif decide (x6<x5) then
    bif (decide (0≤x6)&&decide (x6<((List.length x4:Nat):Int))) then
      (call i_i_wide__small [tAw4 (List.getD x4 (Int.toNat x6) (List.replicate 4 0))]).bind fun o3=>
      bif (!(gB o3 1)) then
        some [tI 1,tI 0,tLI [],tI 3]
      else
        (call kh [tI (gI o3 0),tI (-1000000000000),tI 1000000000000]).bind fun o4=>
        bif (!(gB o4 0)) then
          some [tI 1,tI 0,tLI [],tI 3]
        else
          bif (apOk x3 [(gI o3 0)]) then
            call i_i_poly__laurent_3 [tI x0,tLI x1,tI x2,tLI (x3++[(gI o3 0)]),zJ x4,tI x5,tI (wi64 (x6+1))]
          else none
    else none
  else
    some [tI 0,tI x0,tLI x1,tI x2,tLI x3]
theorem kW (x0:Int) (x1:List Int) (x2:Int) (x3:List Int) (x4:List (List Int)) (x5 x6:Int) (h:b_i_poly__laurent_3 R x0 x1 x2 x3 x4 x5 x6=some o):R i_i_poly__laurent_3 [tI x0,tLI x1,tI x2,tLI x3,zJ x4,tI x5,tI x6]=some o:=go_ (b:=fun c=>b_i_poly__laurent_3 c x0 x1 x2 x3 x4 x5 x6) (fun c=>by kernel_rfl) h
def b_i_poly__laurent (call:Oracle) (a0:Int×List (List Int)):Option (List TV):=
  (call i_i_poly__laurent_3 [tI 0,tLI [],tI a0.1,tLI [],zJ a0.2,tI ((List.length a0.2:Nat):Int),tI 0]).bind fun o5=>
  bif ((gI o5 0)==0) then
    (call zDM [zH ((gI o5 3),(gLI o5 4))]).bind fun o6=>
    bif (!(gB o6 0)) then
      some [zH (0,[]),tI 3]
    else
      some [zH ((gI o5 3),(gLI o5 4)),tI 0]
  else
    some [zH ((gI o5 1),(gLI o5 2)),tI (gI o5 3)]
theorem zFd (a0:Int×List (List Int)) (h:b_i_poly__laurent R a0=some o):R i_i_poly__laurent [zI a0]=some o:=go_ (b:=fun c=>b_i_poly__laurent c a0) (fun c=>by kernel_rfl) h
def jv (call:Oracle) (a0:Int×List Int):Option (List TV):=
  (call zCh [zH a0]).bind fun o1=>
  bif ((gI o1 0) != 0) then
    some [zH (0,[]),tI (gI o1 0)]
  else
    (call zDJ [zH a0]).bind fun o2=>
    (call i_i_poly__laurent [zI (zG o2 0)]).bind fun o3=>
    some [zH (zg o3 0),tI (gI o3 1)]
theorem zIF (a0:Int×List Int) (h:jv R a0=some o):R js [zH a0]=some o:=go_ (b:=fun c=>jv c a0) (fun c=>by kernel_rfl) h
def zAi (call:Oracle) (x0 x1:List Int) (x2:Int):Option (List TV):=
  bif decide (x2<((List.length x0:Nat):Int)) then
    bif (decide (0≤x2)&&decide (x2<((List.length x0:Nat):Int))) then
      bif (decide (0≤x2)&&decide (x2<((List.length x1:Nat):Int))) then
        bif ((List.getD x0 (Int.toNat x2) 0) != (List.getD x1 (Int.toNat x2) 0)) then
          some [tI 1,tB false]
        else
          call zAY [tLI x0,tLI x1,tI (wi64 (x2+1))]
      else none
    else none
  else
    some [tI 0]
theorem zEk (x0 x1:List Int) (x2:Int) (h:zAi R x0 x1 x2=some o):R zAY [tLI x0,tLI x1,tI x2]=some o:=go_ (b:=fun c=>zAi c x0 x1 x2) (fun c=>by kernel_rfl) h
def zCm (call:Oracle) (a0 a1:List Int):Option (List TV):=
  bif (((List.length a0:Nat):Int) != ((List.length a1:Nat):Int)) then
    some [tB false]
  else
    (call zAY [tLI a0,tLI a1,tI 0]).bind fun o1=>
    bif ((gI o1 0)==0) then
      some [tB true]
    else
      some [tB (gB o1 1)]
theorem zLL (a0 a1:List Int) (h:zCm R a0 a1=some o):R zEL [tLI a0,tLI a1]=some o:=go_ (b:=fun c=>zCm c a0 a1) (fun c=>by kernel_rfl) h
def kE (call:Oracle) (x0:List Int) (x1:Int) (x2:List Int):Option (List TV):=
  (call zL0 [tLU8 x0,tU64 9912]).bind fun o16=>
  (call zCa [zE (zC o16 0),tI x1,tI 3]).bind fun o17=>
  (call zAF [zH (x1,(gLI o17 0)),zH (x1,x2)]).bind fun o18=>
  (call zBf [zH (x1,(gLI o17 0))]).bind fun o19=>
  bif ((gI o18 1) != 0) then
    some [tI 0,tB ((gI o19 1)==0)]
  else
    bif ((gI o19 1) != 0) then
      some [tI 0,tB ((gI o19 1)==0)]
    else
      (call zAF [zH (zg o18 0),zH (zg o19 0)]).bind fun o20=>
      bif ((gI o20 1) != 0) then
        some [tI 0,tB true]
      else
        (call js [zH (x1,x2)]).bind fun o21=>
        (call js [zH (zg o20 0)]).bind fun o22=>
        bif ((gI o21 1) != 0) then
          some [tI 0,tB true]
        else
          bif ((gI o22 1) != 0) then
            some [tI 0,tB true]
          else
            bif ((zg o21 0).1==(zg o22 0).1) then
              (call zEL [tLI ((zg o21 0).2),tLI ((zg o22 0).2)]).bind fun o23=>
              some [tI 0,tB (gB o23 0)]
            else
              some [tI 0,tB false]
theorem zD8 (x0:List Int) (x1:Int) (x2:List Int) (h:kE R x0 x1 x2=some o):R kC [tLU8 x0,tI x1,tLI x2]=some o:=go_ (b:=fun c=>kE c x0 x1 x2) (fun c=>by kernel_rfl) h
def kF (call:Oracle) (a0:List Int):Option (List TV):=
  (call zP8 [tLU8 a0]).bind fun o1=>
  bif (gB o1 0) then
    some [tB true]
  else
    (call zAQ [tLU8 a0]).bind fun o2=>
    (call zDK [zH (zg o2 0),zH (zg o2 1)]).bind fun o3=>
    (call zDF [zH (zg o2 0),zH (zg o2 1)]).bind fun o4=>
    bif ((gI o3 1) != (gI o4 1)) then
      some [tB false]
    else
      bif ((gB o3 0) != (gB o4 0)) then
        some [tB false]
      else
        bif ((gI o3 1) != 0) then
          some [tB true]
        else
          (call zBf [zH (zg o2 0)]).bind fun o5=>
          (call zAF [zH (zg o5 0),zH (zg o2 1)]).bind fun o6=>
          bif ((gI o5 1) != 0) then
            some [tB false]
          else
            bif ((gI o6 1)==0) then
              (call zDL [zH (zg o6 0)]).bind fun o7=>
              bif ((gI o7 1)==0) then
                bif ((gB o7 0) != (gB o3 0)) then
                  some [tB false]
                else
                  (call kC [tLU8 a0,tI ((zg o2 0).1),tLI ((zg o2 0).2)]).bind fun o24=>
                  some [tB (gB o24 1)]
              else
                (call kC [tLU8 a0,tI ((zg o2 0).1),tLI ((zg o2 0).2)]).bind fun o25=>
                some [tB (gB o25 1)]
            else
              (call kC [tLU8 a0,tI ((zg o2 0).1),tLI ((zg o2 0).2)]).bind fun o26=>
              some [tB (gB o26 1)]
theorem zG8 (a0:List Int) (h:kF R a0=some o):R iw_FnReductions [tLU8 a0]=some o:=go_ (b:=fun c=>kF c a0) (fun c=>by kernel_rfl) h
end
end Go.Ev.YtlkmkabnbegfdaaGreat
