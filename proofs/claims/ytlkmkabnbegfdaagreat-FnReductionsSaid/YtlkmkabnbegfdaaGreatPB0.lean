/- Bodies, part 0. -/
import Derived.KernelRfl
import Derived.Test.YtlkmkabnbegfdaaGreatPEnv
set_option linter.unusedVariables false
namespace Go.Ev.YtlkmkabnbegfdaaGreatP
open Go.Ev
noncomputable section
variable {o:List TV}
def zAJ (call:Oracle) (a0:Int):Option (List TV):=
  bif decide (a0<0) then
    some [tAw4 (List.set (List.set (List.set [(wu64 (a0)),0,0,0] 1 18446744073709551615) 2 18446744073709551615) 3 18446744073709551615)]
  else
    some [tAw4 [(wu64 (a0)),0,0,0]]
theorem zEo (a0:Int) (h:zAJ R a0=some o):R zBB [tI a0]=some o:=go_ (b:=fun c=>zAJ c a0) (fun c=>by kernel_rfl) h
def zCp (call:Oracle) (x0:Int) (x1:List (List Int)) (x2:Int) (x3:List (List Int)) (x4:List Int) (x5 x6:Int):Option (List TV):=
  bif decide (x6<x5) then
    bif (decide (0≤x6)&&decide (x6<((List.length x4:Nat):Int))) then
      (call zBB [tI (List.getD x4 (Int.toNat x6) 0)]).bind fun o2=>
      bif (apOk x3 [(gAw4 o2 0)]) then
        call zBC [tI x0,zJ x1,tI x2,zJ (x3++[(gAw4 o2 0)]),tLI x4,tI x5,tI (wi64 (x6+1))]
      else none
    else none
  else
    some [tI 0,tI x0,zJ x1,tI x2,zJ x3]
theorem zHC (x0:Int) (x1:List (List Int)) (x2:Int) (x3:List (List Int)) (x4:List Int) (x5 x6:Int) (h:zCp R x0 x1 x2 x3 x4 x5 x6=some o):R zBC [tI x0,zJ x1,tI x2,zJ x3,tLI x4,tI x5,tI x6]=some o:=go_ (b:=fun c=>zCp c x0 x1 x2 x3 x4 x5 x6) (fun c=>by kernel_rfl) h
def zH6 (call:Oracle) (a0:Int×List Int):Option (List TV):=
  (call zBC [tI 0,zJ [],tI a0.1,zJ [],tLI a0.2,tI ((List.length a0.2:Nat):Int),tI 0]).bind fun o3=>
  some [zI ((gI o3 3),(zET o3 4))]
theorem zO4 (a0:Int×List Int) (h:zH6 R a0=some o):R zKd [zH a0]=some o:=go_ (b:=fun c=>zH6 c a0) (fun c=>by kernel_rfl) h
def jd (call:Oracle) (a0 a1 a2:Int):Option (List TV):=
  bif decide (a1≤a0) then
    some [tB (decide (a0≤a2))]
  else
    some [tB false]
theorem zEn (a0 a1 a2:Int) (h:jd R a0 a1 a2=some o):R kh [tI a0,tI a1,tI a2]=some o:=go_ (b:=fun c=>jd c a0 a1 a2) (fun c=>by kernel_rfl) h
def b_i_poly__at (call:Oracle) (a0:Int×List (List Int)) (a1:Int):Option (List TV):=
  (call kh [tI a1,tI a0.1,tI (wi64 ((wi64 (a0.1+((List.length a0.2:Nat):Int)))-1))]).bind fun o1=>
  bif (!(gB o1 0)) then
    some [tAw4 (List.replicate 4 0)]
  else
    bif (decide (0≤(wi64 (a1-a0.1)))&&decide ((wi64 (a1-a0.1))<((List.length a0.2:Nat):Int))) then
      some [tAw4 (List.getD a0.2 (Int.toNat (wi64 (a1-a0.1))) (List.replicate 4 0))]
    else none
theorem zGS (a0:Int×List (List Int)) (a1:Int) (h:b_i_poly__at R a0 a1=some o):R i_i_poly__at [zI a0,tI a1]=some o:=go_ (b:=fun c=>b_i_poly__at c a0 a1) (fun c=>by kernel_rfl) h
def b_i_wide__plus_3 (call:Oracle) (x0 x1:List Int) (x2 x3:List Int) (x4 x5:Int):Option (List TV):=
  bif decide (x5<4) then
    bif (decide (0≤x5)&&decide (x5<4)) then
      bif (decide (0≤x5)&&decide (x5<4)) then
        bif carOk (List.getD x0 (Int.toNat x5) 0) (List.getD x1 (Int.toNat x5) 0) x4 then
          bif (decide (0≤x5)&&decide (x5<4)) then
            call i_i_wide__plus_3 [tAw4 x0,tAw4 x1,tAw4 x2,tAw4 (List.set x3 (Int.toNat x5) (addLo (List.getD x0 (Int.toNat x5) 0) (List.getD x1 (Int.toNat x5) 0) x4)),tU64 (addHi (List.getD x0 (Int.toNat x5) 0) (List.getD x1 (Int.toNat x5) 0) x4),tI (wi64 (x5+1))]
          else none
        else none
      else none
    else none
  else
    some [tI 0,tAw4 x2,tAw4 x3]
theorem kg (x0 x1:List Int) (x2 x3:List Int) (x4 x5:Int) (h:b_i_wide__plus_3 R x0 x1 x2 x3 x4 x5=some o):R i_i_wide__plus_3 [tAw4 x0,tAw4 x1,tAw4 x2,tAw4 x3,tU64 x4,tI x5]=some o:=go_ (b:=fun c=>b_i_wide__plus_3 c x0 x1 x2 x3 x4 x5) (fun c=>by kernel_rfl) h
def b_i_wide__plus (call:Oracle) (a0 a1:List Int):Option (List TV):=
  (call i_i_wide__plus_3 [tAw4 a0,tAw4 a1,tAw4 (List.replicate 4 0),tAw4 (List.replicate 4 0),tU64 0,tI 0]).bind fun o1=>
  some [tAw4 (gAw4 o1 2)]
theorem zIG (a0 a1:List Int) (h:b_i_wide__plus R a0 a1=some o):R i_i_wide__plus [tAw4 a0,tAw4 a1]=some o:=go_ (b:=fun c=>b_i_wide__plus c a0 a1) (fun c=>by kernel_rfl) h
def b_i_poly__trim_1 (call:Oracle) (x0:Int) (x1:List (List Int)) (x2:Int) (x3:List (List Int)):Option (List TV):=
  bif decide (0<((List.length x1:Nat):Int)) then
    bif decide (0<((List.length x1:Nat):Int)) then
      bif ((List.getD x1 0 (List.replicate 4 0))==(List.replicate 4 0)) then
        bif decide (1≤((List.length x1:Nat):Int)) then
          call i_i_poly__trim_1 [tI (wi64 (x0+1)),zJ (List.drop 1 x1),tI x2,zJ x3]
        else none
      else
        some [tI 0,tI x0,zJ x1,tI x2,zJ x3]
    else none
  else
    some [tI 0,tI x0,zJ x1,tI x2,zJ x3]
theorem zAM (x0:Int) (x1:List (List Int)) (x2:Int) (x3:List (List Int)) (h:b_i_poly__trim_1 R x0 x1 x2 x3=some o):R i_i_poly__trim_1 [tI x0,zJ x1,tI x2,zJ x3]=some o:=go_ (b:=fun c=>b_i_poly__trim_1 c x0 x1 x2 x3) (fun c=>by kernel_rfl) h
def b_i_poly__trim_5 (call:Oracle) (x0:Int) (x1:List (List Int)) (x2:Int) (x3:List (List Int)) (x4:Int):Option (List TV):=
  bif decide (0<x4) then
    bif (decide (0≤(wi64 (x4-1)))&&decide ((wi64 (x4-1))<((List.length x1:Nat):Int))) then
      bif ((List.getD x1 (Int.toNat (wi64 (x4-1))) (List.replicate 4 0))==(List.replicate 4 0)) then
        bif (decide (0≤(wi64 (x4-1)))&&decide ((wi64 (x4-1))≤((List.length x1:Nat):Int))) then
          call i_i_poly__trim_5 [tI x0,zJ (List.take (Int.toNat (wi64 (x4-1))) x1),tI x2,zJ x3,tI (wi64 (x4-1))]
        else none
      else
        some [tI 0,tI x0,zJ x1,tI x2,zJ x3]
    else none
  else
    some [tI 0,tI x0,zJ x1,tI x2,zJ x3]
theorem zAL (x0:Int) (x1:List (List Int)) (x2:Int) (x3:List (List Int)) (x4:Int) (h:b_i_poly__trim_5 R x0 x1 x2 x3 x4=some o):R i_i_poly__trim_5 [tI x0,zJ x1,tI x2,zJ x3,tI x4]=some o:=go_ (b:=fun c=>b_i_poly__trim_5 c x0 x1 x2 x3 x4) (fun c=>by kernel_rfl) h
def b_i_poly__trim (call:Oracle) (a0:Int×List (List Int)):Option (List TV):=
  (call i_i_poly__trim_1 [tI a0.1,zJ a0.2,tI 0,zJ []]).bind fun o1=>
  (call i_i_poly__trim_5 [tI (gI o1 1),zJ (zET o1 2),tI (gI o1 3),zJ (zET o1 4),tI ((List.length (zET o1 2):Nat):Int)]).bind fun o2=>
  bif (((List.length (zET o2 2):Nat):Int)==0) then
    some [zI (0,(zET o2 2))]
  else
    some [zI ((gI o2 1),(zET o2 2))]
theorem zDt (a0:Int×List (List Int)) (h:b_i_poly__trim R a0=some o):R i_i_poly__trim [zI a0]=some o:=go_ (b:=fun c=>b_i_poly__trim c a0) (fun c=>by kernel_rfl) h
def b_i_poly__add_9 (call:Oracle) (x0:Int) (x1:List (List Int)) (x2:Int) (x3:List (List Int)) (x4:Int) (x5:List (List Int)) (x6:Int) (x7:List (List Int)) (x8 x9:Int):Option (List TV):=
  bif decide (x9<x8) then
    (call i_i_poly__at [zI (x0,x1),tI x9]).bind fun o4=>
    (call i_i_poly__at [zI (x2,x3),tI x9]).bind fun o5=>
    (call i_i_wide__plus [tAw4 (gAw4 o4 0),tAw4 (gAw4 o5 0)]).bind fun o6=>
    bif (apOk x7 [(gAw4 o6 0)]) then
      call i_i_poly__add_9 [tI x0,zJ x1,tI x2,zJ x3,tI x4,zJ x5,tI x6,zJ (x7++[(gAw4 o6 0)]),tI x8,tI (wi64 (x9+1))]
    else none
  else
    some [tI 0,tI x4,zJ x5,tI x6,zJ x7]
theorem zC3 (x0:Int) (x1:List (List Int)) (x2:Int) (x3:List (List Int)) (x4:Int) (x5:List (List Int)) (x6:Int) (x7:List (List Int)) (x8 x9:Int) (h:b_i_poly__add_9 R x0 x1 x2 x3 x4 x5 x6 x7 x8 x9=some o):R i_i_poly__add_9 [tI x0,zJ x1,tI x2,zJ x3,tI x4,zJ x5,tI x6,zJ x7,tI x8,tI x9]=some o:=go_ (b:=fun c=>b_i_poly__add_9 c x0 x1 x2 x3 x4 x5 x6 x7 x8 x9) (fun c=>by kernel_rfl) h
def b_i_poly__add (call:Oracle) (a0 a1:Int×List (List Int)):Option (List TV):=
  bif (((List.length a0.2:Nat):Int)==0) then
    some [zI a1]
  else
    bif (((List.length a1.2:Nat):Int)==0) then
      some [zI a0]
    else
      (call i_i_poly__add_9 [tI a0.1,zJ a0.2,tI a1.1,zJ a1.2,tI 0,zJ [],tI (mn a0.1 a1.1),zJ [],tI (mx (wi64 (a0.1+((List.length a0.2:Nat):Int))) (wi64 (a1.1+((List.length a1.2:Nat):Int)))),tI (mn a0.1 a1.1)]).bind fun o7=>
      (call i_i_poly__trim [zI ((gI o7 3),(zET o7 4))]).bind fun o8=>
      some [zI (zG o8 0)]
theorem zCV (a0 a1:Int×List (List Int)) (h:b_i_poly__add R a0 a1=some o):R i_i_poly__add [zI a0,zI a1]=some o:=go_ (b:=fun c=>b_i_poly__add c a0 a1) (fun c=>by kernel_rfl) h
def b_i_wide__minus_3 (call:Oracle) (x0 x1:List Int) (x2 x3:List Int) (x4 x5:Int):Option (List TV):=
  bif decide (x5<4) then
    bif (decide (0≤x5)&&decide (x5<4)) then
      bif (decide (0≤x5)&&decide (x5<4)) then
        bif carOk (List.getD x0 (Int.toNat x5) 0) (List.getD x1 (Int.toNat x5) 0) x4 then
          bif (decide (0≤x5)&&decide (x5<4)) then
            call i_i_wide__minus_3 [tAw4 x0,tAw4 x1,tAw4 x2,tAw4 (List.set x3 (Int.toNat x5) (subLo (List.getD x0 (Int.toNat x5) 0) (List.getD x1 (Int.toNat x5) 0) x4)),tU64 (subHi (List.getD x0 (Int.toNat x5) 0) (List.getD x1 (Int.toNat x5) 0) x4),tI (wi64 (x5+1))]
          else none
        else none
      else none
    else none
  else
    some [tI 0,tAw4 x2,tAw4 x3]
theorem kS (x0 x1:List Int) (x2 x3:List Int) (x4 x5:Int) (h:b_i_wide__minus_3 R x0 x1 x2 x3 x4 x5=some o):R i_i_wide__minus_3 [tAw4 x0,tAw4 x1,tAw4 x2,tAw4 x3,tU64 x4,tI x5]=some o:=go_ (b:=fun c=>b_i_wide__minus_3 c x0 x1 x2 x3 x4 x5) (fun c=>by kernel_rfl) h
def b_i_wide__minus (call:Oracle) (a0 a1:List Int):Option (List TV):=
  (call i_i_wide__minus_3 [tAw4 a0,tAw4 a1,tAw4 (List.replicate 4 0),tAw4 (List.replicate 4 0),tU64 0,tI 0]).bind fun o1=>
  some [tAw4 (gAw4 o1 2)]
theorem zHH (a0 a1:List Int) (h:b_i_wide__minus R a0 a1=some o):R i_i_wide__minus [tAw4 a0,tAw4 a1]=some o:=go_ (b:=fun c=>b_i_wide__minus c a0 a1) (fun c=>by kernel_rfl) h
def b_i_poly__negative_3 (call:Oracle) (x0:Int) (x1:List (List Int)) (x2:Int) (x3 x4:List (List Int)) (x5 x6:Int):Option (List TV):=
  bif decide (x6<x5) then
    bif (decide (0≤x6)&&decide (x6<((List.length x4:Nat):Int))) then
      (call i_i_wide__minus [tAw4 (List.replicate 4 0),tAw4 (List.getD x4 (Int.toNat x6) (List.replicate 4 0))]).bind fun o2=>
      bif (apOk x3 [(gAw4 o2 0)]) then
        call i_i_poly__negative_3 [tI x0,zJ x1,tI x2,zJ (x3++[(gAw4 o2 0)]),zJ x4,tI x5,tI (wi64 (x6+1))]
      else none
    else none
  else
    some [tI 0,tI x0,zJ x1,tI x2,zJ x3]
theorem zAT (x0:Int) (x1:List (List Int)) (x2:Int) (x3 x4:List (List Int)) (x5 x6:Int) (h:b_i_poly__negative_3 R x0 x1 x2 x3 x4 x5 x6=some o):R i_i_poly__negative_3 [tI x0,zJ x1,tI x2,zJ x3,zJ x4,tI x5,tI x6]=some o:=go_ (b:=fun c=>b_i_poly__negative_3 c x0 x1 x2 x3 x4 x5 x6) (fun c=>by kernel_rfl) h
def b_i_poly__negative (call:Oracle) (a0:Int×List (List Int)):Option (List TV):=
  (call i_i_poly__negative_3 [tI 0,zJ [],tI a0.1,zJ [],zJ a0.2,tI ((List.length a0.2:Nat):Int),tI 0]).bind fun o3=>
  some [zI ((gI o3 3),(zET o3 4))]
theorem zEt (a0:Int×List (List Int)) (h:b_i_poly__negative R a0=some o):R i_i_poly__negative [zI a0]=some o:=go_ (b:=fun c=>b_i_poly__negative c a0) (fun c=>by kernel_rfl) h
def bmath_bits_Mul64 (call:Oracle) (a0 a1:Int):Option (List TV):=
  some [tU64 (wu64 ((wu64 ((wu64 ((shr .u64 a0 32)*(shr .u64 a1 32)))+(shr .u64 (wu64 ((wu64 ((shr .u64 a0 32)*(bitsAnd .u64 a1 4294967295)))+(shr .u64 (wu64 ((bitsAnd .u64 a0 4294967295)*(bitsAnd .u64 a1 4294967295))) 32))) 32)))+(shr .u64 (wu64 ((bitsAnd .u64 (wu64 ((wu64 ((shr .u64 a0 32)*(bitsAnd .u64 a1 4294967295)))+(shr .u64 (wu64 ((bitsAnd .u64 a0 4294967295)*(bitsAnd .u64 a1 4294967295))) 32))) 4294967295)+(wu64 ((bitsAnd .u64 a0 4294967295)*(shr .u64 a1 32))))) 32))),tU64 (wu64 (a0*a1))]
theorem zGj (a0 a1:Int) (h:bmath_bits_Mul64 R a0 a1=some o):R imath_bits_Mul64 [tU64 a0,tU64 a1]=some o:=go_ (b:=fun c=>bmath_bits_Mul64 c a0 a1) (fun c=>by kernel_rfl) h
def b_i_wide__times_3 (call:Oracle) (x0 x1:List Int) (x2 x3:List Int) (x4:Int):Option (List TV):=
  bif decide (x4<4) then
    bif (decide (0≤x4)&&decide (x4<4)) then
      (call i_i_wide__times_7 [tAw4 x0,tAw4 x1,tAw4 x2,tI x4,tU64 (List.getD x3 (Int.toNat x4) 0),tU64 0,tI 0,tAw4 x3,tI x4]).bind fun o4=>
      call i_i_wide__times_3 [tAw4 (gAw4 o4 1),tAw4 (gAw4 o4 2),tAw4 (gAw4 o4 3),tAw4 (gAw4 o4 4),tI (wi64 ((gI o4 5)+1))]
    else none
  else
    some [tI 0,tAw4 x1,tAw4 x2]
theorem zB9 (x0 x1:List Int) (x2 x3:List Int) (x4:Int) (h:b_i_wide__times_3 R x0 x1 x2 x3 x4=some o):R i_i_wide__times_3 [tAw4 x0,tAw4 x1,tAw4 x2,tAw4 x3,tI x4]=some o:=go_ (b:=fun c=>b_i_wide__times_3 c x0 x1 x2 x3 x4) (fun c=>by kernel_rfl) h
def b_i_wide__times_7 (call:Oracle) (x0 x1 x2:List Int) (x3 x4:Int) (x5 x6:Int) (x7:List Int) (x8:Int):Option (List TV):=
  bif decide ((wi64 (x3+x6))<4) then
    bif (decide (0≤x6)&&decide (x6<4)) then
      (call imath_bits_Mul64 [tU64 x4,tU64 (List.getD x0 (Int.toNat x6) 0)]).bind fun o2=>
      bif carOk (gU64 o2 1) x5 0 then
        bif (decide (0≤(wi64 (x3+x6)))&&decide ((wi64 (x3+x6))<4)) then
          bif carOk (addLo (gU64 o2 1) x5 0) (List.getD x2 (Int.toNat (wi64 (x3+x6))) 0) 0 then
            bif (decide (0≤(wi64 (x3+x6)))&&decide ((wi64 (x3+x6))<4)) then
              call i_i_wide__times_7 [tAw4 x0,tAw4 x1,tAw4 (List.set x2 (Int.toNat (wi64 (x3+x6))) (addLo (addLo (gU64 o2 1) x5 0) (List.getD x2 (Int.toNat (wi64 (x3+x6))) 0) 0)),tI x3,tU64 x4,tU64 (wu64 ((wu64 ((gU64 o2 0)+(addHi (gU64 o2 1) x5 0)))+(addHi (addLo (gU64 o2 1) x5 0) (List.getD x2 (Int.toNat (wi64 (x3+x6))) 0) 0))),tI (wi64 (x6+1)),tAw4 x7,tI x8]
            else none
          else none
        else none
      else none
    else none
  else
    some [tI 0,tAw4 x0,tAw4 x1,tAw4 x2,tAw4 x7,tI x8]
theorem zB8 (x0 x1 x2:List Int) (x3 x4:Int) (x5 x6:Int) (x7:List Int) (x8:Int) (h:b_i_wide__times_7 R x0 x1 x2 x3 x4 x5 x6 x7 x8=some o):R i_i_wide__times_7 [tAw4 x0,tAw4 x1,tAw4 x2,tI x3,tU64 x4,tU64 x5,tI x6,tAw4 x7,tI x8]=some o:=go_ (b:=fun c=>b_i_wide__times_7 c x0 x1 x2 x3 x4 x5 x6 x7 x8) (fun c=>by kernel_rfl) h
def b_i_wide__times (call:Oracle) (a0 a1:List Int):Option (List TV):=
  (call i_i_wide__times_3 [tAw4 a1,tAw4 (List.replicate 4 0),tAw4 (List.replicate 4 0),tAw4 a0,tI 0]).bind fun o5=>
  some [tAw4 (gAw4 o5 2)]
theorem zHF (a0 a1:List Int) (h:b_i_wide__times R a0 a1=some o):R i_i_wide__times [tAw4 a0,tAw4 a1]=some o:=go_ (b:=fun c=>b_i_wide__times c a0 a1) (fun c=>by kernel_rfl) h
def b_i_poly__multiply_5 (call:Oracle) (x0:Int) (x1:List (List Int)) (x2:Int) (x3:List (List Int)) (x4:Int) (x5 x6:List (List Int)) (x7 x8:Int):Option (List TV):=
  bif decide (x8<x7) then
    bif (decide (0≤x8)&&decide (x8<((List.length x6:Nat):Int))) then
      bif ((List.getD x6 (Int.toNat x8) (List.replicate 4 0))==(List.replicate 4 0)) then
        call i_i_poly__multiply_5 [tI x0,zJ x1,tI x2,zJ x3,tI x4,zJ x5,zJ x6,tI x7,tI (wi64 (x8+1))]
      else
        (call i_i_poly__multiply_9 [tI x0,zJ x1,tI x2,zJ x3,tI x4,zJ x5,tAw4 (List.getD x6 (Int.toNat x8) (List.replicate 4 0)),zJ x6,tI x8,tI x7,tI x8,tI ((List.length x1:Nat):Int),tI 0]).bind fun o6=>
        call i_i_poly__multiply_5 [tI (gI o6 1),zJ (zET o6 2),tI (gI o6 3),zJ (zET o6 4),tI (gI o6 5),zJ (zET o6 6),zJ (zET o6 7),tI (gI o6 8),tI (wi64 ((gI o6 9)+1))]
    else none
  else
    some [tI 0,tI x2,zJ x3,tI x4,zJ x5]
theorem jA (x0:Int) (x1:List (List Int)) (x2:Int) (x3:List (List Int)) (x4:Int) (x5 x6:List (List Int)) (x7 x8:Int) (h:b_i_poly__multiply_5 R x0 x1 x2 x3 x4 x5 x6 x7 x8=some o):R i_i_poly__multiply_5 [tI x0,zJ x1,tI x2,zJ x3,tI x4,zJ x5,zJ x6,tI x7,tI x8]=some o:=go_ (b:=fun c=>b_i_poly__multiply_5 c x0 x1 x2 x3 x4 x5 x6 x7 x8) (fun c=>by kernel_rfl) h
def b_i_poly__multiply_9 (call:Oracle) (x0:Int) (x1:List (List Int)) (x2:Int) (x3:List (List Int)) (x4:Int) (x5:List (List Int)) (x6:List Int) (x7:List (List Int)) (x8 x9:Int) (x10 x11 x12:Int):Option (List TV):=
  bif decide (x12<x11) then
    bif (decide (0≤x12)&&decide (x12<((List.length x1:Nat):Int))) then
      bif (decide (0≤(wi64 (x8+x12)))&&decide ((wi64 (x8+x12))<((List.length x5:Nat):Int))) then
        (call i_i_wide__times [tAw4 x6,tAw4 (List.getD x1 (Int.toNat x12) (List.replicate 4 0))]).bind fun o3=>
        (call i_i_wide__plus [tAw4 (List.getD x5 (Int.toNat (wi64 (x8+x12))) (List.replicate 4 0)),tAw4 (gAw4 o3 0)]).bind fun o4=>
        bif (decide (0≤(wi64 (x8+x12)))&&decide ((wi64 (x8+x12))<((List.length x5:Nat):Int))) then
          call i_i_poly__multiply_9 [tI x0,zJ x1,tI x2,zJ x3,tI x4,zJ (List.set x5 (Int.toNat (wi64 (x8+x12))) (gAw4 o4 0)),tAw4 x6,zJ x7,tI x8,tI x9,tI x10,tI x11,tI (wi64 (x12+1))]
        else none
      else none
    else none
  else
    some [tI 0,tI x0,zJ x1,tI x2,zJ x3,tI x4,zJ x5,zJ x7,tI x9,tI x10]
theorem zAU (x0:Int) (x1:List (List Int)) (x2:Int) (x3:List (List Int)) (x4:Int) (x5:List (List Int)) (x6:List Int) (x7:List (List Int)) (x8 x9:Int) (x10 x11 x12:Int) (h:b_i_poly__multiply_9 R x0 x1 x2 x3 x4 x5 x6 x7 x8 x9 x10 x11 x12=some o):R i_i_poly__multiply_9 [tI x0,zJ x1,tI x2,zJ x3,tI x4,zJ x5,tAw4 x6,zJ x7,tI x8,tI x9,tI x10,tI x11,tI x12]=some o:=go_ (b:=fun c=>b_i_poly__multiply_9 c x0 x1 x2 x3 x4 x5 x6 x7 x8 x9 x10 x11 x12) (fun c=>by kernel_rfl) h
def b_i_poly__multiply (call:Oracle) (a0 a1:Int×List (List Int)):Option (List TV):=
  bif (((List.length a0.2:Nat):Int)==0) then
    some [zI (0,[])]
  else
    bif (((List.length a1.2:Nat):Int)==0) then
      some [zI (0,[])]
    else
      bif (mkOk (wi64 ((wi64 (((List.length a0.2:Nat):Int)+((List.length a1.2:Nat):Int)))-1))) then
        (call i_i_poly__multiply_5 [tI a1.1,zJ a1.2,tI 0,zJ [],tI (wi64 (a0.1+a1.1)),zJ (List.replicate (Int.toNat (wi64 ((wi64 (((List.length a0.2:Nat):Int)+((List.length a1.2:Nat):Int)))-1))) (List.replicate 4 0)),zJ a0.2,tI ((List.length a0.2:Nat):Int),tI 0]).bind fun o7=>
        (call i_i_poly__trim [zI ((gI o7 3),(zET o7 4))]).bind fun o8=>
        some [zI (zG o8 0)]
      else none
theorem jU (a0 a1:Int×List (List Int)) (h:b_i_poly__multiply R a0 a1=some o):R i_i_poly__multiply [zI a0,zI a1]=some o:=go_ (b:=fun c=>b_i_poly__multiply c a0 a1) (fun c=>by kernel_rfl) h
def zEc (call:Oracle) (a0:Int):Option (List TV):=
  some [tI (mx a0 (wi64 (0-a0)))]
theorem zLQ (a0:Int) (h:zEc R a0=some o):R zAR [tI a0]=some o:=go_ (b:=fun c=>zEc c a0) (fun c=>by kernel_rfl) h
def b_i_poly__shift (call:Oracle) (a0:Int×List (List Int)) (a1:Int):Option (List TV):=
  bif decide (0<((List.length a0.2:Nat):Int)) then
    some [zI ((wi64 (a0.1+a1)),a0.2)]
  else
    some [zI a0]
theorem zC2 (a0:Int×List (List Int)) (a1:Int) (h:b_i_poly__shift R a0 a1=some o):R i_i_poly__shift [zI a0,tI a1]=some o:=go_ (b:=fun c=>b_i_poly__shift c a0 a1) (fun c=>by kernel_rfl) h
def zj (call:Oracle) (a0:List (Int×List (List Int))) (a1:Int):Option (List TV):=
  (call zAR [tI a1]).bind fun o1=>
  bif (decide (0≤(wi64 ((gI o1 0)-1)))&&decide ((wi64 ((gI o1 0)-1))<((List.length a0:Nat):Int))) then
    (call i_i_poly__shift [zI ((List.getD a0 (Int.toNat (wi64 ((gI o1 0)-1))) (0,[])).1,(List.getD a0 (Int.toNat (wi64 ((gI o1 0)-1))) (0,[])).2),tI 1]).bind fun o2=>
    bif (decide (0≤(wi64 ((gI o1 0)-1)))&&decide ((wi64 ((gI o1 0)-1))<((List.length a0:Nat):Int))) then
      (call i_i_poly__negative [zI (zG o2 0)]).bind fun o3=>
      bif (decide (0≤(wi64 ((gI o1 0)-1)))&&decide ((wi64 ((gI o1 0)-1))<((List.length a0:Nat):Int))) then
        bif decide (a1<0) then
          (call i_i_poly__shift [zI ((List.getD a0 (Int.toNat (wi64 ((gI o1 0)-1))) (0,[])).1,(List.getD a0 (Int.toNat (wi64 ((gI o1 0)-1))) (0,[])).2),tI (-1)]).bind fun o4=>
          (call i_i_poly__negative [zI (zG o4 0)]).bind fun o5=>
          bif (decide (0≤(wi64 ((gI o1 0)-1)))&&decide ((wi64 ((gI o1 0)-1))<((List.length (List.set a0 (Int.toNat (wi64 ((gI o1 0)-1))) (zG o3 0)):Nat):Int))) then
            bif decide (2≤(gI o1 0)) then
              bif (decide (0≤(wi64 ((gI o1 0)-2)))&&decide ((wi64 ((gI o1 0)-2))<((List.length (List.set (List.set a0 (Int.toNat (wi64 ((gI o1 0)-1))) (zG o3 0)) (Int.toNat (wi64 ((gI o1 0)-1))) (zG o5 0)):Nat):Int))) then
                (call i_i_poly__add [zI ((List.getD (List.set (List.set a0 (Int.toNat (wi64 ((gI o1 0)-1))) (zG o3 0)) (Int.toNat (wi64 ((gI o1 0)-1))) (zG o5 0)) (Int.toNat (wi64 ((gI o1 0)-2))) (0,[])).1,(List.getD (List.set (List.set a0 (Int.toNat (wi64 ((gI o1 0)-1))) (zG o3 0)) (Int.toNat (wi64 ((gI o1 0)-1))) (zG o5 0)) (Int.toNat (wi64 ((gI o1 0)-2))) (0,[])).2),zI ((List.getD a0 (Int.toNat (wi64 ((gI o1 0)-1))) (0,[])).1,(List.getD a0 (Int.toNat (wi64 ((gI o1 0)-1))) (0,[])).2)]).bind fun o6=>
                bif (decide (0≤(wi64 ((gI o1 0)-2)))&&decide ((wi64 ((gI o1 0)-2))<((List.length (List.set (List.set a0 (Int.toNat (wi64 ((gI o1 0)-1))) (zG o3 0)) (Int.toNat (wi64 ((gI o1 0)-1))) (zG o5 0)):Nat):Int))) then
                  bif decide ((gI o1 0)<((List.length (List.set (List.set (List.set a0 (Int.toNat (wi64 ((gI o1 0)-1))) (zG o3 0)) (Int.toNat (wi64 ((gI o1 0)-1))) (zG o5 0)) (Int.toNat (wi64 ((gI o1 0)-2))) (zG o6 0)):Nat):Int)) then
                    bif (decide (0≤(gI o1 0))&&decide ((gI o1 0)<((List.length (List.set (List.set (List.set a0 (Int.toNat (wi64 ((gI o1 0)-1))) (zG o3 0)) (Int.toNat (wi64 ((gI o1 0)-1))) (zG o5 0)) (Int.toNat (wi64 ((gI o1 0)-2))) (zG o6 0)):Nat):Int))) then
                      (call i_i_poly__add [zI ((List.getD (List.set (List.set (List.set a0 (Int.toNat (wi64 ((gI o1 0)-1))) (zG o3 0)) (Int.toNat (wi64 ((gI o1 0)-1))) (zG o5 0)) (Int.toNat (wi64 ((gI o1 0)-2))) (zG o6 0)) (Int.toNat (gI o1 0)) (0,[])).1,(List.getD (List.set (List.set (List.set a0 (Int.toNat (wi64 ((gI o1 0)-1))) (zG o3 0)) (Int.toNat (wi64 ((gI o1 0)-1))) (zG o5 0)) (Int.toNat (wi64 ((gI o1 0)-2))) (zG o6 0)) (Int.toNat (gI o1 0)) (0,[])).2),zI (zG o4 0)]).bind fun o7=>
                      bif (decide (0≤(gI o1 0))&&decide ((gI o1 0)<((List.length (List.set (List.set (List.set a0 (Int.toNat (wi64 ((gI o1 0)-1))) (zG o3 0)) (Int.toNat (wi64 ((gI o1 0)-1))) (zG o5 0)) (Int.toNat (wi64 ((gI o1 0)-2))) (zG o6 0)):Nat):Int))) then
                        some [kY (List.set (List.set (List.set (List.set a0 (Int.toNat (wi64 ((gI o1 0)-1))) (zG o3 0)) (Int.toNat (wi64 ((gI o1 0)-1))) (zG o5 0)) (Int.toNat (wi64 ((gI o1 0)-2))) (zG o6 0)) (Int.toNat (gI o1 0)) (zG o7 0))]
                      else none
                    else none
                  else
                    some [kY (List.set (List.set (List.set a0 (Int.toNat (wi64 ((gI o1 0)-1))) (zG o3 0)) (Int.toNat (wi64 ((gI o1 0)-1))) (zG o5 0)) (Int.toNat (wi64 ((gI o1 0)-2))) (zG o6 0))]
                else none
              else none
            else
              bif decide ((gI o1 0)<((List.length (List.set (List.set a0 (Int.toNat (wi64 ((gI o1 0)-1))) (zG o3 0)) (Int.toNat (wi64 ((gI o1 0)-1))) (zG o5 0)):Nat):Int)) then
                bif (decide (0≤(gI o1 0))&&decide ((gI o1 0)<((List.length (List.set (List.set a0 (Int.toNat (wi64 ((gI o1 0)-1))) (zG o3 0)) (Int.toNat (wi64 ((gI o1 0)-1))) (zG o5 0)):Nat):Int))) then
                  (call i_i_poly__add [zI ((List.getD (List.set (List.set a0 (Int.toNat (wi64 ((gI o1 0)-1))) (zG o3 0)) (Int.toNat (wi64 ((gI o1 0)-1))) (zG o5 0)) (Int.toNat (gI o1 0)) (0,[])).1,(List.getD (List.set (List.set a0 (Int.toNat (wi64 ((gI o1 0)-1))) (zG o3 0)) (Int.toNat (wi64 ((gI o1 0)-1))) (zG o5 0)) (Int.toNat (gI o1 0)) (0,[])).2),zI (zG o4 0)]).bind fun o8=>
                  bif (decide (0≤(gI o1 0))&&decide ((gI o1 0)<((List.length (List.set (List.set a0 (Int.toNat (wi64 ((gI o1 0)-1))) (zG o3 0)) (Int.toNat (wi64 ((gI o1 0)-1))) (zG o5 0)):Nat):Int))) then
                    some [kY (List.set (List.set (List.set a0 (Int.toNat (wi64 ((gI o1 0)-1))) (zG o3 0)) (Int.toNat (wi64 ((gI o1 0)-1))) (zG o5 0)) (Int.toNat (gI o1 0)) (zG o8 0))]
                  else none
                else none
              else
                some [kY (List.set (List.set a0 (Int.toNat (wi64 ((gI o1 0)-1))) (zG o3 0)) (Int.toNat (wi64 ((gI o1 0)-1))) (zG o5 0))]
          else none
        else
          bif decide (2≤(gI o1 0)) then
            bif (decide (0≤(wi64 ((gI o1 0)-2)))&&decide ((wi64 ((gI o1 0)-2))<((List.length (List.set a0 (Int.toNat (wi64 ((gI o1 0)-1))) (zG o3 0)):Nat):Int))) then
              (call i_i_poly__add [zI ((List.getD (List.set a0 (Int.toNat (wi64 ((gI o1 0)-1))) (zG o3 0)) (Int.toNat (wi64 ((gI o1 0)-2))) (0,[])).1,(List.getD (List.set a0 (Int.toNat (wi64 ((gI o1 0)-1))) (zG o3 0)) (Int.toNat (wi64 ((gI o1 0)-2))) (0,[])).2),zI (zG o2 0)]).bind fun o9=>
              bif (decide (0≤(wi64 ((gI o1 0)-2)))&&decide ((wi64 ((gI o1 0)-2))<((List.length (List.set a0 (Int.toNat (wi64 ((gI o1 0)-1))) (zG o3 0)):Nat):Int))) then
                bif decide ((gI o1 0)<((List.length (List.set (List.set a0 (Int.toNat (wi64 ((gI o1 0)-1))) (zG o3 0)) (Int.toNat (wi64 ((gI o1 0)-2))) (zG o9 0)):Nat):Int)) then
                  bif (decide (0≤(gI o1 0))&&decide ((gI o1 0)<((List.length (List.set (List.set a0 (Int.toNat (wi64 ((gI o1 0)-1))) (zG o3 0)) (Int.toNat (wi64 ((gI o1 0)-2))) (zG o9 0)):Nat):Int))) then
                    (call i_i_poly__add [zI ((List.getD (List.set (List.set a0 (Int.toNat (wi64 ((gI o1 0)-1))) (zG o3 0)) (Int.toNat (wi64 ((gI o1 0)-2))) (zG o9 0)) (Int.toNat (gI o1 0)) (0,[])).1,(List.getD (List.set (List.set a0 (Int.toNat (wi64 ((gI o1 0)-1))) (zG o3 0)) (Int.toNat (wi64 ((gI o1 0)-2))) (zG o9 0)) (Int.toNat (gI o1 0)) (0,[])).2),zI ((List.getD a0 (Int.toNat (wi64 ((gI o1 0)-1))) (0,[])).1,(List.getD a0 (Int.toNat (wi64 ((gI o1 0)-1))) (0,[])).2)]).bind fun o10=>
                    bif (decide (0≤(gI o1 0))&&decide ((gI o1 0)<((List.length (List.set (List.set a0 (Int.toNat (wi64 ((gI o1 0)-1))) (zG o3 0)) (Int.toNat (wi64 ((gI o1 0)-2))) (zG o9 0)):Nat):Int))) then
                      some [kY (List.set (List.set (List.set a0 (Int.toNat (wi64 ((gI o1 0)-1))) (zG o3 0)) (Int.toNat (wi64 ((gI o1 0)-2))) (zG o9 0)) (Int.toNat (gI o1 0)) (zG o10 0))]
                    else none
                  else none
                else
                  some [kY (List.set (List.set a0 (Int.toNat (wi64 ((gI o1 0)-1))) (zG o3 0)) (Int.toNat (wi64 ((gI o1 0)-2))) (zG o9 0))]
              else none
            else none
          else
            bif decide ((gI o1 0)<((List.length (List.set a0 (Int.toNat (wi64 ((gI o1 0)-1))) (zG o3 0)):Nat):Int)) then
              bif (decide (0≤(gI o1 0))&&decide ((gI o1 0)<((List.length (List.set a0 (Int.toNat (wi64 ((gI o1 0)-1))) (zG o3 0)):Nat):Int))) then
                (call i_i_poly__add [zI ((List.getD (List.set a0 (Int.toNat (wi64 ((gI o1 0)-1))) (zG o3 0)) (Int.toNat (gI o1 0)) (0,[])).1,(List.getD (List.set a0 (Int.toNat (wi64 ((gI o1 0)-1))) (zG o3 0)) (Int.toNat (gI o1 0)) (0,[])).2),zI ((List.getD a0 (Int.toNat (wi64 ((gI o1 0)-1))) (0,[])).1,(List.getD a0 (Int.toNat (wi64 ((gI o1 0)-1))) (0,[])).2)]).bind fun o11=>
                bif (decide (0≤(gI o1 0))&&decide ((gI o1 0)<((List.length (List.set a0 (Int.toNat (wi64 ((gI o1 0)-1))) (zG o3 0)):Nat):Int))) then
                  some [kY (List.set (List.set a0 (Int.toNat (wi64 ((gI o1 0)-1))) (zG o3 0)) (Int.toNat (gI o1 0)) (zG o11 0))]
                else none
              else none
            else
              some [kY (List.set a0 (Int.toNat (wi64 ((gI o1 0)-1))) (zG o3 0))]
      else none
    else none
  else none
theorem kA (a0:List (Int×List (List Int))) (a1:Int) (h:zj R a0 a1=some o):R zB0 [kY a0,tI a1]=some o:=go_ (b:=fun c=>zj c a0 a1) (fun c=>by kernel_rfl) h
def b_i_wide__isNegative (call:Oracle) (a0:List Int):Option (List TV):=
  some [tB ((shr .u64 (List.getD a0 3 0) 63)==1)]
theorem zDn (a0:List Int) (h:b_i_wide__isNegative R a0=some o):R i_i_wide__isNegative [tAw4 a0]=some o:=go_ (b:=fun c=>b_i_wide__isNegative c a0) (fun c=>by kernel_rfl) h
end
end Go.Ev.YtlkmkabnbegfdaaGreatP
