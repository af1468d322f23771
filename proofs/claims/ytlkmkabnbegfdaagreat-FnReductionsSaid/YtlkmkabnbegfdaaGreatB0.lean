/- Bodies, part 0. -/
import Derived.KernelRfl
import Derived.Test.YtlkmkabnbegfdaaGreatEnv
set_option linter.unusedVariables false
namespace Go.Ev.YtlkmkabnbegfdaaGreat
open Go.Ev
noncomputable section
variable {o:List TV}
def zQs (call:Oracle) (a0:List Int):Option (List TV):=
  some [tB (decide (4096<((List.length a0:Nat):Int)))]
theorem zUd (a0:List Int) (h:zQs R a0=some o):R zP8 [tLU8 a0]=some o:=go_ (b:=fun c=>zQs c a0) (fun c=>by kernel_rfl) h
def zBr (call:Oracle) (x0:List Int) (x1 x2 x3:Int):Option (List TV):=
  bif decide (x3<((List.length x0:Nat):Int)) then
    bif decide (x3<4096) then
      bif (decide (0≤x3)&&decide (x3<((List.length x0:Nat):Int))) then
        call zBa [tLU8 x0,tI x1,tU64 (wu64 ((wu64 ((wu64 (x2*1099511628211))+(wu64 ((List.getD x0 (Int.toNat x3) 0)))))+29)),tI (wi64 (x3+1))]
      else none
    else
      some [tI 0,tI x1,tU64 x2,tLU8 x0]
  else
    some [tI 0,tI x1,tU64 x2,tLU8 x0]
theorem zGO (x0:List Int) (x1 x2 x3:Int) (h:zBr R x0 x1 x2 x3=some o):R zBa [tLU8 x0,tI x1,tU64 x2,tI x3]=some o:=go_ (b:=fun c=>zBr c x0 x1 x2 x3) (fun c=>by kernel_rfl) h
def zF9 (call:Oracle) (a0:List Int):Option (List TV):=
  (call zBa [tLU8 a0,tI 0,tU64 (wu64 (9049+(wu64 (((List.length a0:Nat):Int))))),tI 0]).bind fun o1=>
  some [zE ((gLU8 o1 3),((gI o1 1),(gU64 o1 2)))]
theorem zN4 (a0:List Int) (h:zF9 R a0=some o):R zFu [tLU8 a0]=some o:=go_ (b:=fun c=>zF9 c a0) (fun c=>by kernel_rfl) h
def zCN (call:Oracle) (a0:List Int×Int×Int) (a1:Int):Option (List TV):=
  bif decide (a1<1) then
    some [tI 0,zE a0]
  else
    bif decide (a0.2.1<((List.length a0.1:Nat):Int)) then
      bif (decide (0≤a0.2.1)&&decide (a0.2.1<((List.length a0.1:Nat):Int))) then
        bif (a1 != 0) then
          some [tI (Int.tmod (wi64 ((wi64 ((bitsAnd .u64 (shr .u64 (wu64 ((wu64 (a0.2.2*6364136223846793005))+1442695040888963407)) 33) 16777215)))+(wi64 ((List.getD a0.1 (Int.toNat a0.2.1) 0))))) a1),zE (a0.1,((wi64 (a0.2.1+1)),(wu64 ((wu64 (a0.2.2*6364136223846793005))+1442695040888963407))))]
        else none
      else none
    else
      bif (a1 != 0) then
        some [tI (Int.tmod (wi64 ((bitsAnd .u64 (shr .u64 (wu64 ((wu64 (a0.2.2*6364136223846793005))+1442695040888963407)) 33) 16777215))) a1),zE (a0.1,(a0.2.1,(wu64 ((wu64 (a0.2.2*6364136223846793005))+1442695040888963407))))]
      else none
theorem zFa (a0:List Int×Int×Int) (a1:Int) (h:zCN R a0 a1=some o):R zW [zE a0,tI a1]=some o:=go_ (b:=fun c=>zCN c a0 a1) (fun c=>by kernel_rfl) h
def zF8 (call:Oracle) (a0:List Int×Int×Int) (a1:List Int):Option (List TV):=
  (call zW [zE a0,tI ((List.length a1:Nat):Int)]).bind fun o1=>
  bif (decide (0≤(gI o1 0))&&decide ((gI o1 0)<((List.length a1:Nat):Int))) then
    some [tI (List.getD a1 (Int.toNat (gI o1 0)) 0),zE (zC o1 1)]
  else none
theorem zN3 (a0:List Int×Int×Int) (a1:List Int) (h:zF8 R a0 a1=some o):R jl [zE a0,tLI a1]=some o:=go_ (b:=fun c=>zF8 c a0 a1) (fun c=>by kernel_rfl) h
def kq (call:Oracle) (x0 x1:Int) (x2 x3:List Int) (x4 x5 x6:Int):Option (List TV):=
  bif decide (0<x6) then
    (call zW [zE (x2,(x0,x1)),tI (wi64 (x4-1))]).bind fun o9=>
    bif (x5==1) then
      bif (apOk x3 [(wi64 (0-(wi64 (1+(gI o9 0)))))]) then
        (call zW [zE (zC o9 1),tI 12]).bind fun o10=>
        bif ((gI o10 0)==0) then
          bif decide (1<x6) then
            bif (apOk (x3++[(wi64 (0-(wi64 (1+(gI o9 0)))))]) [(wi64 (0-(wi64 (0-(wi64 (1+(gI o9 0)))))))]) then
              call zO [tI (((zC o10 1).2).1),tU64 (((zC o10 1).2).2),tLU8 ((zC o10 1).1),tLI ((x3++[(wi64 (0-(wi64 (1+(gI o9 0)))))])++[(wi64 (0-(wi64 (0-(wi64 (1+(gI o9 0)))))))]),tI x4,tI x5,tI (wi64 ((wi64 (x6-1))-1))]
            else none
          else
            call zO [tI (((zC o10 1).2).1),tU64 (((zC o10 1).2).2),tLU8 ((zC o10 1).1),tLI (x3++[(wi64 (0-(wi64 (1+(gI o9 0)))))]),tI x4,tI x5,tI (wi64 (x6-1))]
        else
          call zO [tI (((zC o10 1).2).1),tU64 (((zC o10 1).2).2),tLU8 ((zC o10 1).1),tLI (x3++[(wi64 (0-(wi64 (1+(gI o9 0)))))]),tI x4,tI x5,tI (wi64 (x6-1))]
      else none
    else
      bif decide (1<x5) then
        (call zW [zE (zC o9 1),tI 2]).bind fun o11=>
        bif ((gI o11 0)==0) then
          bif (apOk x3 [(wi64 (0-(wi64 (1+(gI o9 0)))))]) then
            (call zW [zE (zC o11 1),tI 12]).bind fun o12=>
            bif ((gI o12 0)==0) then
              bif decide (1<x6) then
                bif (apOk (x3++[(wi64 (0-(wi64 (1+(gI o9 0)))))]) [(wi64 (0-(wi64 (0-(wi64 (1+(gI o9 0)))))))]) then
                  call zO [tI (((zC o12 1).2).1),tU64 (((zC o12 1).2).2),tLU8 ((zC o12 1).1),tLI ((x3++[(wi64 (0-(wi64 (1+(gI o9 0)))))])++[(wi64 (0-(wi64 (0-(wi64 (1+(gI o9 0)))))))]),tI x4,tI x5,tI (wi64 ((wi64 (x6-1))-1))]
                else none
              else
                call zO [tI (((zC o12 1).2).1),tU64 (((zC o12 1).2).2),tLU8 ((zC o12 1).1),tLI (x3++[(wi64 (0-(wi64 (1+(gI o9 0)))))]),tI x4,tI x5,tI (wi64 (x6-1))]
            else
              call zO [tI (((zC o12 1).2).1),tU64 (((zC o12 1).2).2),tLU8 ((zC o12 1).1),tLI (x3++[(wi64 (0-(wi64 (1+(gI o9 0)))))]),tI x4,tI x5,tI (wi64 (x6-1))]
          else none
        else
          bif (apOk x3 [(wi64 (1+(gI o9 0)))]) then
            (call zW [zE (zC o11 1),tI 12]).bind fun o13=>
            bif ((gI o13 0)==0) then
              bif decide (1<x6) then
                bif (apOk (x3++[(wi64 (1+(gI o9 0)))]) [(wi64 (0-(wi64 (1+(gI o9 0)))))]) then
                  call zO [tI (((zC o13 1).2).1),tU64 (((zC o13 1).2).2),tLU8 ((zC o13 1).1),tLI ((x3++[(wi64 (1+(gI o9 0)))])++[(wi64 (0-(wi64 (1+(gI o9 0)))))]),tI x4,tI x5,tI (wi64 ((wi64 (x6-1))-1))]
                else none
              else
                call zO [tI (((zC o13 1).2).1),tU64 (((zC o13 1).2).2),tLU8 ((zC o13 1).1),tLI (x3++[(wi64 (1+(gI o9 0)))]),tI x4,tI x5,tI (wi64 (x6-1))]
            else
              call zO [tI (((zC o13 1).2).1),tU64 (((zC o13 1).2).2),tLU8 ((zC o13 1).1),tLI (x3++[(wi64 (1+(gI o9 0)))]),tI x4,tI x5,tI (wi64 (x6-1))]
          else none
      else
        bif (apOk x3 [(wi64 (1+(gI o9 0)))]) then
          (call zW [zE (zC o9 1),tI 12]).bind fun o14=>
          bif ((gI o14 0)==0) then
            bif decide (1<x6) then
              bif (apOk (x3++[(wi64 (1+(gI o9 0)))]) [(wi64 (0-(wi64 (1+(gI o9 0)))))]) then
                call zO [tI (((zC o14 1).2).1),tU64 (((zC o14 1).2).2),tLU8 ((zC o14 1).1),tLI ((x3++[(wi64 (1+(gI o9 0)))])++[(wi64 (0-(wi64 (1+(gI o9 0)))))]),tI x4,tI x5,tI (wi64 ((wi64 (x6-1))-1))]
              else none
            else
              call zO [tI (((zC o14 1).2).1),tU64 (((zC o14 1).2).2),tLU8 ((zC o14 1).1),tLI (x3++[(wi64 (1+(gI o9 0)))]),tI x4,tI x5,tI (wi64 (x6-1))]
          else
            call zO [tI (((zC o14 1).2).1),tU64 (((zC o14 1).2).2),tLU8 ((zC o14 1).1),tLI (x3++[(wi64 (1+(gI o9 0)))]),tI x4,tI x5,tI (wi64 (x6-1))]
        else none
  else
    some [tI 0,tI x0,tU64 x1,tLU8 x2,tLI x3]
theorem jw (x0 x1:Int) (x2 x3:List Int) (x4 x5 x6:Int) (h:kq R x0 x1 x2 x3 x4 x5 x6=some o):R zO [tI x0,tU64 x1,tLU8 x2,tLI x3,tI x4,tI x5,tI x6]=some o:=go_ (b:=fun c=>kq c x0 x1 x2 x3 x4 x5 x6) (fun c=>by kernel_rfl) h
def zDk (call:Oracle) (a0:List Int×Int×Int) (a1 a2:Int):Option (List TV):=
  bif decide (a1<2) then
    some [tLI [],zE a0]
  else
    (call zW [zE a0,tI 4]).bind fun o1=>
    (call zW [zE (zC o1 1),tI (wi64 (a2+1))]).bind fun o2=>
    (call zO [tI (((zC o2 1).2).1),tU64 (((zC o2 1).2).2),tLU8 ((zC o2 1).1),tLI [],tI a1,tI (gI o1 0),tI (gI o2 0)]).bind fun o15=>
    some [tLI (gLI o15 4),zE ((gLU8 o15 3),((gI o15 1),(gU64 o15 2)))]
theorem zIV (a0:List Int×Int×Int) (a1 a2:Int) (h:zDk R a0 a1 a2=some o):R jP [zE a0,tI a1,tI a2]=some o:=go_ (b:=fun c=>zDk c a0 a1 a2) (fun c=>by kernel_rfl) h
def zH4 (call:Oracle) (a0:List Int):Option (List TV):=
  bif (apOk [] a0) then
    some [tLI a0]
  else none
theorem zO1 (a0:List Int) (h:zH4 R a0=some o):R zHh [tLI a0]=some o:=go_ (b:=fun c=>zH4 c a0) (fun c=>by kernel_rfl) h
def zAI (call:Oracle) (a0:List Int×Int×Int) (a1:Int×List Int):Option (List TV):=
  (call zW [zE a0,tI 30]).bind fun o1=>
  bif ((gI o1 0)==0) then
    (call jl [zE (zC o1 1),tLI [0,9,1,(-1)]]).bind fun o2=>
    some [zH ((gI o2 0),a1.2),zE (zC o2 1)]
  else
    bif ((gI o1 0)==1) then
      (call zHh [tLI a1.2]).bind fun o3=>
      (call jl [zE (zC o1 1),tLI [0,a1.1,(wi64 (0-a1.1))]]).bind fun o4=>
      bif (apOk (gLI o3 0) [(gI o4 0)]) then
        some [zH (a1.1,((gLI o3 0)++[(gI o4 0)])),zE (zC o4 1)]
      else none
    else
      some [zH a1,zE (zC o1 1)]
theorem zC0 (a0:List Int×Int×Int) (a1:Int×List Int) (h:zAI R a0 a1=some o):R zBb [zE a0,zH a1]=some o:=go_ (b:=fun c=>zAI c a0 a1) (fun c=>by kernel_rfl) h
def zBH (call:Oracle) (a0:List Int×Int×Int):Option (List TV):=
  (call jl [zE a0,tLI [2,3,5]]).bind fun o1=>
  (call zW [zE (zC o1 1),tI (gI o1 0)]).bind fun o2=>
  (call jl [zE (zC o2 1),tLI [4,10,20]]).bind fun o3=>
  (call jP [zE (zC o3 1),tI (wi64 (2+(gI o2 0))),tI (gI o3 0)]).bind fun o4=>
  some [zH ((wi64 (2+(gI o2 0))),(gLI o4 0)),zE (zC o4 1)]
theorem zHB (a0:List Int×Int×Int) (h:zBH R a0=some o):R zA9 [zE a0]=some o:=go_ (b:=fun c=>zBH c a0) (fun c=>by kernel_rfl) h
def zCo (call:Oracle) (a0:List Int×Int×Int):Option (List TV):=
  (call zW [zE a0,tI 12]).bind fun o1=>
  bif ((gI o1 0)==0) then
    (call jl [zE (zC o1 1),tLI [1,7,8]]).bind fun o2=>
    (call jP [zE (zC o2 1),tI (gI o2 0),tI 40]).bind fun o3=>
    (call zBb [zE (zC o3 1),zH ((gI o2 0),(gLI o3 0))]).bind fun o4=>
    some [zH (zg o4 0),zE (zC o4 1)]
  else
    (call zA9 [zE (zC o1 1)]).bind fun o5=>
    (call zBb [zE (zC o5 1),zH (zg o5 0)]).bind fun o6=>
    some [zH (zg o6 0),zE (zC o6 1)]
theorem zHA (a0:List Int×Int×Int) (h:zCo R a0=some o):R jI [zE a0]=some o:=go_ (b:=fun c=>zCo c a0) (fun c=>by kernel_rfl) h
def zJn (call:Oracle) (a0 a1 a2:Int):Option (List TV):=
  bif decide (a1≤a0) then
    some [tB (decide (a0≤a2))]
  else
    some [tB false]
theorem zRH (a0 a1 a2:Int) (h:zJn R a0 a1 a2=some o):R zFG [tI a0,tI a1,tI a2]=some o:=go_ (b:=fun c=>zJn c a0 a1 a2) (fun c=>by kernel_rfl) h
def zDj (call:Oracle) (x0:Int) (x1:List Int) (x2:Int):Option (List TV):=
  bif decide (x2<((List.length x1:Nat):Int)) then
    bif (decide (0≤x2)&&decide (x2<((List.length x1:Nat):Int))) then
      (call zFG [tI (List.getD x1 (Int.toNat x2) 0),tI 1,tI (wi64 (x0-1))]).bind fun o4=>
      bif (!(gB o4 0)) then
        (call zFG [tI (wi64 (0-(List.getD x1 (Int.toNat x2) 0))),tI 1,tI (wi64 (x0-1))]).bind fun o5=>
        bif (!(gB o5 0)) then
          some [tI 1,tB false]
        else
          call zCD [tI x0,tLI x1,tI (wi64 (x2+1))]
      else
        call zCD [tI x0,tLI x1,tI (wi64 (x2+1))]
    else none
  else
    some [tI 0]
theorem zIU (x0:Int) (x1:List Int) (x2:Int) (h:zDj R x0 x1 x2=some o):R zCD [tI x0,tLI x1,tI x2]=some o:=go_ (b:=fun c=>zDj c x0 x1 x2) (fun c=>by kernel_rfl) h
def zJm (call:Oracle) (a0:Int×List Int):Option (List TV):=
  (call zFG [tI a0.1,tI 1,tI 8]).bind fun o1=>
  bif (!(gB o1 0)) then
    some [tB false]
  else
    bif decide (200<((List.length a0.2:Nat):Int)) then
      some [tB false]
    else
      (call zCD [tI a0.1,tLI a0.2,tI 0]).bind fun o6=>
      bif ((gI o6 0)==0) then
        some [tB true]
      else
        some [tB (gB o6 1)]
theorem zRG (a0:Int×List Int) (h:zJm R a0=some o):R zAc [zH a0]=some o:=go_ (b:=fun c=>zJm c a0) (fun c=>by kernel_rfl) h
def zBo (call:Oracle) (x0 x1:List Int) (x2 x3:Int):Option (List TV):=
  bif decide (x3<x2) then
    bif (decide (0≤x3)&&decide (x3<8)) then
      call zBX [tA8 x0,tA8 (List.set x1 (Int.toNat x3) (wu8 (x3))),tI x2,tI (wi64 (x3+1))]
    else none
  else
    some [tI 0,tA8 x0,tA8 x1]
theorem zGL (x0 x1:List Int) (x2 x3:Int) (h:zBo R x0 x1 x2 x3=some o):R zBX [tA8 x0,tA8 x1,tI x2,tI x3]=some o:=go_ (b:=fun c=>zBo c x0 x1 x2 x3) (fun c=>by kernel_rfl) h
def zF3 (call:Oracle) (a0:Int):Option (List TV):=
  (call zBX [tA8 (List.replicate 8 0),tA8 (List.replicate 8 0),tI a0,tI 0]).bind fun o1=>
  some [tA8 (gA8 o1 2)]
theorem zNy (a0:Int) (h:zF3 R a0=some o):R zAt [tI a0]=some o:=go_ (b:=fun c=>zF3 c a0) (fun c=>by kernel_rfl) h
def zB4 (call:Oracle) (a0 a1:Int):Option (List TV):=
  (call zAt [tI a0]).bind fun o1=>
  bif (decide (0≤(wi64 (a1-1)))&&decide ((wi64 (a1-1))<8)) then
    bif (decide (0≤a1)&&decide (a1<8)) then
      some [tA8 (List.set (List.set (gA8 o1 0) (Int.toNat (wi64 (a1-1))) (wu8 (a1))) (Int.toNat a1) (wu8 ((wi64 (a1-1)))))]
    else none
  else none
theorem zIC (a0 a1:Int) (h:zB4 R a0 a1=some o):R kj [tI a0,tI a1]=some o:=go_ (b:=fun c=>zB4 c a0 a1) (fun c=>by kernel_rfl) h
def zBp (call:Oracle) (x0 x1:List Int) (x2 x3:Int):Option (List TV):=
  bif decide (x3<x2) then
    bif (decide (0≤x3)&&decide (x3<8)) then
      call zBY [tA8 x0,tA8 (List.set x1 (Int.toNat x3) (wu8 ((wi64 ((wi64 (x2-1))-x3))))),tI x2,tI (wi64 (x3+1))]
    else none
  else
    some [tI 0,tA8 x0,tA8 x1]
theorem zGM (x0 x1:List Int) (x2 x3:Int) (h:zBp R x0 x1 x2 x3=some o):R zBY [tA8 x0,tA8 x1,tI x2,tI x3]=some o:=go_ (b:=fun c=>zBp c x0 x1 x2 x3) (fun c=>by kernel_rfl) h
def zF6 (call:Oracle) (a0:Int):Option (List TV):=
  (call zBY [tA8 (List.replicate 8 0),tA8 (List.replicate 8 0),tI a0,tI 0]).bind fun o1=>
  some [tA8 (gA8 o1 2)]
theorem zN1 (a0:Int) (h:zF6 R a0=some o):R jk [tI a0]=some o:=go_ (b:=fun c=>zF6 c a0) (fun c=>by kernel_rfl) h
def zBn (call:Oracle) (x0 x1:List Int) (x2 x3:List Int) (x4 x5:Int):Option (List TV):=
  bif decide (x5<x4) then
    bif (decide (0≤x5)&&decide (x5<8)) then
      bif (decide (0≤(List.getD x0 (Int.toNat x5) 0))&&decide ((List.getD x0 (Int.toNat x5) 0)<8)) then
        bif (decide (0≤x5)&&decide (x5<8)) then
          call zBW [tA8 x0,tA8 x1,tA8 x2,tA8 (List.set x3 (Int.toNat x5) (List.getD x1 (Int.toNat (List.getD x0 (Int.toNat x5) 0)) 0)),tI x4,tI (wi64 (x5+1))]
        else none
      else none
    else none
  else
    some [tI 0,tA8 x2,tA8 x3]
theorem zGK (x0 x1:List Int) (x2 x3:List Int) (x4 x5:Int) (h:zBn R x0 x1 x2 x3 x4 x5=some o):R zBW [tA8 x0,tA8 x1,tA8 x2,tA8 x3,tI x4,tI x5]=some o:=go_ (b:=fun c=>zBn c x0 x1 x2 x3 x4 x5) (fun c=>by kernel_rfl) h
def zF2 (call:Oracle) (a0 a1:List Int) (a2:Int):Option (List TV):=
  (call zBW [tA8 a0,tA8 a1,tA8 (List.replicate 8 0),tA8 (List.replicate 8 0),tI a2,tI 0]).bind fun o1=>
  some [tA8 (gA8 o1 2)]
theorem zNx (a0 a1:List Int) (a2:Int) (h:zF2 R a0 a1 a2=some o):R kG [tA8 a0,tA8 a1,tI a2]=some o:=go_ (b:=fun c=>zF2 c a0 a1 a2) (fun c=>by kernel_rfl) h
def zF1 (call:Oracle) (a0:List Int) (a1:Int):Option (List TV):=
  (call jk [tI a1]).bind fun o1=>
  (call kG [tA8 (gA8 o1 0),tA8 a0,tI a1]).bind fun o2=>
  (call kG [tA8 (gA8 o2 0),tA8 (gA8 o1 0),tI a1]).bind fun o3=>
  some [tA8 (gA8 o3 0)]
theorem zNw (a0:List Int) (a1:Int) (h:zF1 R a0 a1=some o):R zFr [tA8 a0,tI a1]=some o:=go_ (b:=fun c=>zF1 c a0 a1) (fun c=>by kernel_rfl) h
def ju (call:Oracle) (x0 x1:List (List Int)) (x2 x3 x4:Int):Option (List TV):=
  bif decide (x4<((List.length x0:Nat):Int)) then
    bif ((Int.tmod x3 2) != 0) then
      bif (decide (0≤x4)&&decide (x4<((List.length x0:Nat):Int))) then
        (call zFr [tA8 (List.getD x0 (Int.toNat x4) (List.replicate 8 0)),tI x2]).bind fun o2=>
        bif (apOk x1 [(gA8 o2 0)]) then
          call jC [tLA8 x0,tLA8 (x1++[(gA8 o2 0)]),tI x2,tI x3,tI (wi64 (x4+1))]
        else none
      else none
    else
      bif (decide (0≤x4)&&decide (x4<((List.length x0:Nat):Int))) then
        bif (apOk x1 [(List.getD x0 (Int.toNat x4) (List.replicate 8 0))]) then
          call jC [tLA8 x0,tLA8 (x1++[(List.getD x0 (Int.toNat x4) (List.replicate 8 0))]),tI x2,tI x3,tI (wi64 (x4+1))]
        else none
      else none
  else
    some [tI 0,tLA8 x1]
theorem zDq (x0 x1:List (List Int)) (x2 x3 x4:Int) (h:ju R x0 x1 x2 x3 x4=some o):R jC [tLA8 x0,tLA8 x1,tI x2,tI x3,tI x4]=some o:=go_ (b:=fun c=>ju c x0 x1 x2 x3 x4) (fun c=>by kernel_rfl) h
def zDU (call:Oracle) (a0:List (List Int)) (a1 a2:Int):Option (List TV):=
  (call jC [tLA8 a0,tLA8 [],tI a1,tI a2,tI 0]).bind fun o3=>
  some [tLA8 (gLA8 o3 1)]
theorem zJu (a0:List (List Int)) (a1 a2:Int) (h:zDU R a0 a1 a2=some o):R zDD [tLA8 a0,tI a1,tI a2]=some o:=go_ (b:=fun c=>zDU c a0 a1 a2) (fun c=>by kernel_rfl) h
def zBq (call:Oracle) (x0 x1 x2:List Int) (x3 x4:Int):Option (List TV):=
  bif decide (x4<x3) then
    bif (decide (0≤x4)&&decide (x4<8)) then
      bif (decide (0≤(List.getD x0 (Int.toNat x4) 0))&&decide ((List.getD x0 (Int.toNat x4) 0)<8)) then
        call zBZ [tA8 x0,tA8 x1,tA8 (List.set x2 (Int.toNat (List.getD x0 (Int.toNat x4) 0)) (wu8 (x4))),tI x3,tI (wi64 (x4+1))]
      else none
    else none
  else
    some [tI 0,tA8 x1,tA8 x2]
theorem zGN (x0 x1 x2:List Int) (x3 x4:Int) (h:zBq R x0 x1 x2 x3 x4=some o):R zBZ [tA8 x0,tA8 x1,tA8 x2,tI x3,tI x4]=some o:=go_ (b:=fun c=>zBq c x0 x1 x2 x3 x4) (fun c=>by kernel_rfl) h
def zF7 (call:Oracle) (a0:List Int) (a1:Int):Option (List TV):=
  (call zBZ [tA8 a0,tA8 (List.replicate 8 0),tA8 (List.replicate 8 0),tI a1,tI 0]).bind fun o1=>
  some [tA8 (gA8 o1 2)]
theorem zN2 (a0:List Int) (a1:Int) (h:zF7 R a0 a1=some o):R zCC [tA8 a0,tI a1]=some o:=go_ (b:=fun c=>zF7 c a0 a1) (fun c=>by kernel_rfl) h
def zF5 (call:Oracle) (a0:List Int) (a1:Int):Option (List TV):=
  (call jk [tI a1]).bind fun o1=>
  (call zCC [tA8 a0,tI a1]).bind fun o2=>
  (call kG [tA8 (gA8 o1 0),tA8 (gA8 o2 0),tI a1]).bind fun o3=>
  some [tA8 (gA8 o3 0)]
theorem zN0 (a0:List Int) (a1:Int) (h:zF5 R a0 a1=some o):R zFt [tA8 a0,tI a1]=some o:=go_ (b:=fun c=>zF5 c a0 a1) (fun c=>by kernel_rfl) h
def zAS (call:Oracle) (a0:List Int) (a1:Int):Option (List TV):=
  (call zCC [tA8 a0,tI a1]).bind fun o1=>
  (call jk [tI a1]).bind fun o2=>
  (call kG [tA8 (gA8 o1 0),tA8 (gA8 o2 0),tI a1]).bind fun o3=>
  some [tA8 (gA8 o3 0)]
theorem zGi (a0:List Int) (a1:Int) (h:zAS R a0 a1=some o):R zAP [tA8 a0,tI a1]=some o:=go_ (b:=fun c=>zAS c a0 a1) (fun c=>by kernel_rfl) h
def kV (call:Oracle) (x0 x1:List Int) (x2 x3:List Int) (x4 x5:Int):Option (List TV):=
  bif decide (x5<x4) then
    bif (decide (0≤(wi64 (x5-1)))&&decide ((wi64 (x5-1))<8)) then
      bif (decide (0≤x5)&&decide (x5<8)) then
        bif decide ((List.getD x0 (Int.toNat x5) 0)<(List.getD x0 (Int.toNat (wi64 (x5-1))) 0)) then
          bif (decide (0≤(wi64 (x5-1)))&&decide ((wi64 (x5-1))<8)) then
            bif (decide (0≤x5)&&decide (x5<8)) then
              bif decide ((List.getD x1 (Int.toNat x5) 0)<(List.getD x1 (Int.toNat (wi64 (x5-1))) 0)) then
                (call kj [tI x4,tI x5]).bind fun o6=>
                (call kG [tA8 x3,tA8 (gA8 o6 0),tI x4]).bind fun o7=>
                (call kG [tA8 (gA8 o6 0),tA8 x0,tI x4]).bind fun o8=>
                (call kG [tA8 (gA8 o6 0),tA8 x1,tI x4]).bind fun o9=>
                call jO [tA8 (gA8 o8 0),tA8 (gA8 o9 0),tA8 x2,tA8 (gA8 o7 0),tI x4,tI 1]
              else
                call jO [tA8 x0,tA8 x1,tA8 x2,tA8 x3,tI x4,tI (wi64 (x5+1))]
            else none
          else none
        else
          call jO [tA8 x0,tA8 x1,tA8 x2,tA8 x3,tI x4,tI (wi64 (x5+1))]
      else none
    else none
  else
    some [tI 0,tA8 x2,tA8 x3]
theorem jM (x0 x1:List Int) (x2 x3:List Int) (x4 x5:Int) (h:kV R x0 x1 x2 x3 x4 x5=some o):R jO [tA8 x0,tA8 x1,tA8 x2,tA8 x3,tI x4,tI x5]=some o:=go_ (b:=fun c=>kV c x0 x1 x2 x3 x4 x5) (fun c=>by kernel_rfl) h
def zF4 (call:Oracle) (a0 a1:List Int) (a2:Int):Option (List TV):=
  (call zAt [tI a2]).bind fun o1=>
  (call jO [tA8 a0,tA8 a1,tA8 (List.replicate 8 0),tA8 (gA8 o1 0),tI a2,tI 1]).bind fun o10=>
  some [tA8 (gA8 o10 2)]
theorem zNz (a0 a1:List Int) (a2:Int) (h:zF4 R a0 a1 a2=some o):R zFs [tA8 a0,tA8 a1,tI a2]=some o:=go_ (b:=fun c=>zF4 c a0 a1 a2) (fun c=>by kernel_rfl) h
def zk (call:Oracle) (x0:List (List Int)) (x1:Int) (x2:Bool):Option (List TV):=
  bif x2 then
    (call kd [tLA8 x0,tI x1,tB false,tI (wi64 (((List.length x0:Nat):Int)-2))]).bind fun o14=>
    call kJ [tLA8 (gLA8 o14 1),tI (gI o14 2),tB (gB o14 3)]
  else
    some [tI 0,tLA8 x0]
theorem kt (x0:List (List Int)) (x1:Int) (x2:Bool) (h:zk R x0 x1 x2=some o):R kJ [tLA8 x0,tI x1,tB x2]=some o:=go_ (b:=fun c=>zk c x0 x1 x2) (fun c=>by kernel_rfl) h
def kf (call:Oracle) (x0:List (List Int)) (x1:Int) (x2:Bool) (x3:Int):Option (List TV):=
  bif decide (0≤x3) then
    bif (decide (0≤x3)&&decide (x3<((List.length x0:Nat):Int))) then
      (call zAP [tA8 (List.getD x0 (Int.toNat x3) (List.replicate 8 0)),tI x1]).bind fun o7=>
      bif (decide (0≤(wi64 (x3+1)))&&decide ((wi64 (x3+1))<((List.length x0:Nat):Int))) then
        (call zFs [tA8 (gA8 o7 0),tA8 (List.getD x0 (Int.toNat (wi64 (x3+1))) (List.replicate 8 0)),tI x1]).bind fun o8=>
        (call zAt [tI x1]).bind fun o9=>
        bif ((gA8 o8 0)==(gA8 o9 0)) then
          call kd [tLA8 x0,tI x1,tB x2,tI (wi64 (x3-1))]
        else
          bif (decide (0≤x3)&&decide (x3<((List.length x0:Nat):Int))) then
            (call kG [tA8 (List.getD x0 (Int.toNat x3) (List.replicate 8 0)),tA8 (gA8 o8 0),tI x1]).bind fun o10=>
            bif (decide (0≤x3)&&decide (x3<((List.length x0:Nat):Int))) then
              (call zCC [tA8 (gA8 o8 0),tI x1]).bind fun o11=>
              bif (decide (0≤(wi64 (x3+1)))&&decide ((wi64 (x3+1))<((List.length (List.set x0 (Int.toNat x3) (gA8 o10 0)):Nat):Int))) then
                (call kG [tA8 (gA8 o11 0),tA8 (List.getD (List.set x0 (Int.toNat x3) (gA8 o10 0)) (Int.toNat (wi64 (x3+1))) (List.replicate 8 0)),tI x1]).bind fun o12=>
                bif (decide (0≤(wi64 (x3+1)))&&decide ((wi64 (x3+1))<((List.length (List.set x0 (Int.toNat x3) (gA8 o10 0)):Nat):Int))) then
                  call kd [tLA8 (List.set (List.set x0 (Int.toNat x3) (gA8 o10 0)) (Int.toNat (wi64 (x3+1))) (gA8 o12 0)),tI x1,tB true,tI (wi64 (x3-1))]
                else none
              else none
            else none
          else none
      else none
    else none
  else
    some [tI 0,tLA8 x0,tI x1,tB x2]
theorem jT (x0:List (List Int)) (x1:Int) (x2:Bool) (x3:Int) (h:kf R x0 x1 x2 x3=some o):R kd [tLA8 x0,tI x1,tB x2,tI x3]=some o:=go_ (b:=fun c=>kf c x0 x1 x2 x3) (fun c=>by kernel_rfl) h
def zEZ (call:Oracle) (a0:List (List Int)) (a1:Int):Option (List TV):=
  bif (apOk [] a0) then
    (call kJ [tLA8 a0,tI a1,tB true]).bind fun o15=>
    some [tLA8 (gLA8 o15 1)]
  else none
theorem zLN (a0:List (List Int)) (a1:Int) (h:zEZ R a0 a1=some o):R zEM [tLA8 a0,tI a1]=some o:=go_ (b:=fun c=>zEZ c a0 a1) (fun c=>by kernel_rfl) h
def zBk (call:Oracle) (x0:List (List Int)) (x1 x2:Int) (x3:List (List Int)) (x4 x5:Int) (x6 x7:Int):Option (List TV):=
  bif decide (x6<x7) then
    bif (decide (0≤x6)&&decide (x6<((List.length x0:Nat):Int))) then
      (call jk [tI x4]).bind fun o3=>
      bif ((List.getD x0 (Int.toNat x6) (List.replicate 8 0))==(gA8 o3 0)) then
        call zAC [tLA8 x0,tI x1,tI x2,tLA8 x3,tI x4,tI (wi64 (x5+1)),tI (wi64 (x6+1)),tI x7]
      else
        some [tI 0,tLA8 x0,tI x1,tI x2,tLA8 x3,tI x4,tI x5,tI x6,tI x7]
    else none
  else
    some [tI 0,tLA8 x0,tI x1,tI x2,tLA8 x3,tI x4,tI x5,tI x6,tI x7]
theorem zGI (x0:List (List Int)) (x1 x2:Int) (x3:List (List Int)) (x4 x5:Int) (x6 x7:Int) (h:zBk R x0 x1 x2 x3 x4 x5 x6 x7=some o):R zAC [tLA8 x0,tI x1,tI x2,tLA8 x3,tI x4,tI x5,tI x6,tI x7]=some o:=go_ (b:=fun c=>zBk c x0 x1 x2 x3 x4 x5 x6 x7) (fun c=>by kernel_rfl) h
def zBj (call:Oracle) (x0:List (List Int)) (x1 x2:Int) (x3:List (List Int)) (x4 x5:Int) (x6 x7:Int):Option (List TV):=
  bif decide (x6<x7) then
    bif (decide (0≤(wi64 (x7-1)))&&decide ((wi64 (x7-1))<((List.length x0:Nat):Int))) then
      (call zAt [tI x4]).bind fun o6=>
      bif ((List.getD x0 (Int.toNat (wi64 (x7-1))) (List.replicate 8 0))==(gA8 o6 0)) then
        call zAB [tLA8 x0,tI x1,tI x2,tLA8 x3,tI x4,tI x5,tI x6,tI (wi64 (x7-1))]
      else
        some [tI 0,tLA8 x0,tI x1,tI x2,tLA8 x3,tI x4,tI x5,tI x6,tI x7]
    else none
  else
    some [tI 0,tLA8 x0,tI x1,tI x2,tLA8 x3,tI x4,tI x5,tI x6,tI x7]
theorem zGH (x0:List (List Int)) (x1 x2:Int) (x3:List (List Int)) (x4 x5:Int) (x6 x7:Int) (h:zBj R x0 x1 x2 x3 x4 x5 x6 x7=some o):R zAB [tLA8 x0,tI x1,tI x2,tLA8 x3,tI x4,tI x5,tI x6,tI x7]=some o:=go_ (b:=fun c=>zBj c x0 x1 x2 x3 x4 x5 x6 x7) (fun c=>by kernel_rfl) h
def zDi (call:Oracle) (a0 a1:Int) (a2:List (List Int)):Option (List TV):=
  (call zEM [tLA8 a2,tI a0]).bind fun o1=>
  bif decide (1<a0) then
    (call zAC [tLA8 (gLA8 o1 0),tI 0,tI 0,tLA8 [],tI a0,tI a1,tI 0,tI ((List.length (gLA8 o1 0):Nat):Int)]).bind fun o4=>
    (call zAB [tLA8 (gLA8 o4 1),tI (gI o4 2),tI (gI o4 3),tLA8 (gLA8 o4 4),tI (gI o4 5),tI (gI o4 6),tI (gI o4 7),tI (gI o4 8)]).bind fun o7=>
    bif ((decide (0≤(gI o7 7))&&decide ((gI o7 7)≤(gI o7 8)))&&decide ((gI o7 8)≤((List.length (gLA8 o7 1):Nat):Int))) then
      bif (apOk [] (List.drop (Int.toNat (gI o7 7)) (List.take (Int.toNat (gI o7 8)) (gLA8 o7 1)))) then
        some [zK ((gI o7 5),((gI o7 6),(List.drop (Int.toNat (gI o7 7)) (List.take (Int.toNat (gI o7 8)) (gLA8 o7 1)))))]
      else none
    else none
  else
    (call zAB [tLA8 (gLA8 o1 0),tI 0,tI 0,tLA8 [],tI a0,tI a1,tI 0,tI ((List.length (gLA8 o1 0):Nat):Int)]).bind fun o8=>
    bif ((decide (0≤(gI o8 7))&&decide ((gI o8 7)≤(gI o8 8)))&&decide ((gI o8 8)≤((List.length (gLA8 o8 1):Nat):Int))) then
      bif (apOk [] (List.drop (Int.toNat (gI o8 7)) (List.take (Int.toNat (gI o8 8)) (gLA8 o8 1)))) then
        some [zK ((gI o8 5),((gI o8 6),(List.drop (Int.toNat (gI o8 7)) (List.take (Int.toNat (gI o8 8)) (gLA8 o8 1)))))]
      else none
    else none
theorem zNt (a0 a1:Int) (a2:List (List Int)) (h:zDi R a0 a1 a2=some o):R zDc [tI a0,tI a1,tLA8 a2]=some o:=go_ (b:=fun c=>zDi c a0 a1 a2) (fun c=>by kernel_rfl) h
def zCn (call:Oracle) (a0:Int×Int×List (List Int)) (a1:List Int) (a2:Bool):Option (List TV):=
  bif a2 then
    (call zDD [tLA8 a0.2.2,tI a0.1,tI 1]).bind fun o1=>
    (call zFt [tA8 a1,tI a0.1]).bind fun o2=>
    bif (apOk (gLA8 o1 0) [(gA8 o2 0)]) then
      (call zDc [tI a0.1,tI (wi64 (a0.2.1-1)),tLA8 ((gLA8 o1 0)++[(gA8 o2 0)])]).bind fun o3=>
      some [zK (zo o3 0)]
    else none
  else
    bif (apOk [] a0.2.2) then
      bif (apOk a0.2.2 [a1]) then
        (call zDc [tI a0.1,tI a0.2.1,tLA8 (a0.2.2++[a1])]).bind fun o4=>
        some [zK (zo o4 0)]
      else none
    else none
theorem zG9 (a0:Int×Int×List (List Int)) (a1:List Int) (a2:Bool) (h:zCn R a0 a1 a2=some o):R zA8 [zK a0,tA8 a1,tB a2]=some o:=go_ (b:=fun c=>zCn c a0 a1 a2) (fun c=>by kernel_rfl) h
def zCM (call:Oracle) (x0:List Int) (x1 x2:Int) (x3:List (List Int)) (x4 x5:Int) (x6:List (List Int)) (x7 x8:Int):Option (List TV):=
  bif decide (x8<((List.length x0:Nat):Int)) then
    bif (decide (0≤x8)&&decide (x8<((List.length x0:Nat):Int))) then
      bif decide (0<(List.getD x0 (Int.toNat x8) 0)) then
        bif (decide (0≤x8)&&decide (x8<((List.length x0:Nat):Int))) then
          (call kj [tI x7,tI (List.getD x0 (Int.toNat x8) 0)]).bind fun o5=>
          (call zA8 [zK (x4,(x5,x6)),tA8 (gA8 o5 0),tB false]).bind fun o6=>
          call zAs [tLI x0,tI x1,tI x2,tLA8 x3,tI ((zo o6 0).1),tI (((zo o6 0).2).1),tLA8 (((zo o6 0).2).2),tI x7,tI (wi64 (x8+1))]
        else none
      else
        bif (decide (0≤x8)&&decide (x8<((List.length x0:Nat):Int))) then
          (call kj [tI x7,tI (wi64 (0-(List.getD x0 (Int.toNat x8) 0)))]).bind fun o7=>
          (call zA8 [zK (x4,(x5,x6)),tA8 (gA8 o7 0),tB true]).bind fun o8=>
          call zAs [tLI x0,tI x1,tI x2,tLA8 x3,tI ((zo o8 0).1),tI (((zo o8 0).2).1),tLA8 (((zo o8 0).2).2),tI x7,tI (wi64 (x8+1))]
        else none
    else none
  else
    some [tI 0,tI x1,tI x2,tLA8 x3,tI x4,tI x5,tLA8 x6]
theorem zFZ (x0:List Int) (x1 x2:Int) (x3:List (List Int)) (x4 x5:Int) (x6:List (List Int)) (x7 x8:Int) (h:zCM R x0 x1 x2 x3 x4 x5 x6 x7 x8=some o):R zAs [tLI x0,tI x1,tI x2,tLA8 x3,tI x4,tI x5,tLA8 x6,tI x7,tI x8]=some o:=go_ (b:=fun c=>zCM c x0 x1 x2 x3 x4 x5 x6 x7 x8) (fun c=>by kernel_rfl) h
def zG2 (call:Oracle) (a0:Int) (a1:List Int):Option (List TV):=
  (call zAs [tLI a1,tI 0,tI 0,tLA8 [],tI a0,tI 0,tLA8 [],tI a0,tI 0]).bind fun o9=>
  some [zK ((gI o9 4),((gI o9 5),(gLA8 o9 6)))]
theorem zRF (a0:Int) (a1:List Int) (h:zG2 R a0 a1=some o):R zFF [tI a0,tLI a1]=some o:=go_ (b:=fun c=>zG2 c a0 a1) (fun c=>by kernel_rfl) h
def jE (call:Oracle) (x0 x1:List Int) (x2 x3:Int):Option (List TV):=
  bif decide (x3<x2) then
    bif (decide (0≤(wi64 (x3-1)))&&decide ((wi64 (x3-1))<8)) then
      bif (decide (0≤x3)&&decide (x3<8)) then
        bif decide ((List.getD x0 (Int.toNat x3) 0)<(List.getD x0 (Int.toNat (wi64 (x3-1))) 0)) then
          bif (apOk x1 [x3]) then
            call jD [tA8 x0,tLI (x1++[x3]),tI x2,tI (wi64 (x3+1))]
          else none
        else
          call jD [tA8 x0,tLI x1,tI x2,tI (wi64 (x3+1))]
      else none
    else none
  else
    some [tI 0,tLI x1]
theorem zDr (x0 x1:List Int) (x2 x3:Int) (h:jE R x0 x1 x2 x3=some o):R jD [tA8 x0,tLI x1,tI x2,tI x3]=some o:=go_ (b:=fun c=>jE c x0 x1 x2 x3) (fun c=>by kernel_rfl) h
def zDV (call:Oracle) (a0:List Int) (a1:Int):Option (List TV):=
  (call jD [tA8 a0,tLI [],tI a1,tI 1]).bind fun o1=>
  some [tLI (gLI o1 1)]
theorem zJw (a0:List Int) (a1:Int) (h:zDV R a0 a1=some o):R zDE [tA8 a0,tI a1]=some o:=go_ (b:=fun c=>zDV c a0 a1) (fun c=>by kernel_rfl) h
def zBm (call:Oracle) (x0 x1:List Int) (x2:Int):Option (List TV):=
  (call zDE [tA8 x0,tI x2]).bind fun o4=>
  bif (((List.length (gLI o4 0):Nat):Int)==0) then
    some [tI 0,tLI x1]
  else
    bif decide (0<((List.length (gLI o4 0):Nat):Int)) then
      bif (apOk x1 [(List.getD (gLI o4 0) 0 0)]) then
        bif decide (0<((List.length (gLI o4 0):Nat):Int)) then
          (call kj [tI x2,tI (List.getD (gLI o4 0) 0 0)]).bind fun o5=>
          (call kG [tA8 (gA8 o5 0),tA8 x0,tI x2]).bind fun o6=>
          call zBV [tA8 (gA8 o6 0),tLI (x1++[(List.getD (gLI o4 0) 0 0)]),tI x2]
        else none
      else none
    else none
theorem zJv (x0 x1:List Int) (x2:Int) (h:zBm R x0 x1 x2=some o):R zBV [tA8 x0,tLI x1,tI x2]=some o:=go_ (b:=fun c=>zBm c x0 x1 x2) (fun c=>by kernel_rfl) h
def zF0 (call:Oracle) (a0:Int) (a1:List Int):Option (List TV):=
  (call zBV [tA8 a1,tLI [],tI a0]).bind fun o7=>
  some [tLI (gLI o7 1)]
theorem zNv (a0:Int) (a1:List Int) (h:zF0 R a0 a1=some o):R zDd [tI a0,tA8 a1]=some o:=go_ (b:=fun c=>zF0 c a0 a1) (fun c=>by kernel_rfl) h
def zBi (call:Oracle) (x0 x1:Int) (x2:List (List Int)) (x3 x4:List Int) (x5:Int):Option (List TV):=
  bif decide (x5<x1) then
    bif (apOk x4 x3) then
      call zBT [tI x0,tI x1,tLA8 x2,tLI x3,tLI (x4++x3),tI (wi64 (x5+1))]
    else none
  else
    some [tI 0,tI x0,tI x1,tLA8 x2,tLI x3,tLI x4]
theorem zGG (x0 x1:Int) (x2:List (List Int)) (x3 x4:List Int) (x5:Int) (h:zBi R x0 x1 x2 x3 x4 x5=some o):R zBT [tI x0,tI x1,tLA8 x2,tLI x3,tLI x4,tI x5]=some o:=go_ (b:=fun c=>zBi c x0 x1 x2 x3 x4 x5) (fun c=>by kernel_rfl) h
def zBh (call:Oracle) (x0 x1:Int) (x2:List (List Int)) (x3 x4:List Int) (x5:Int):Option (List TV):=
  bif decide (x5<0) then
    (call zAb [tI x0,tI x1,tLA8 x2,tLI x3,tLI x4,tI x5,tI (wi64 (((List.length x3:Nat):Int)-1))]).bind fun o5=>
    call zBS [tI (gI o5 1),tI (gI o5 2),tLA8 (gLA8 o5 3),tLI (gLI o5 4),tLI (gLI o5 5),tI (wi64 ((gI o5 6)+1))]
  else
    some [tI 0,tI x0,tI x1,tLA8 x2,tLI x4]
theorem zGF (x0 x1:Int) (x2:List (List Int)) (x3 x4:List Int) (x5:Int) (h:zBh R x0 x1 x2 x3 x4 x5=some o):R zBS [tI x0,tI x1,tLA8 x2,tLI x3,tLI x4,tI x5]=some o:=go_ (b:=fun c=>zBh c x0 x1 x2 x3 x4 x5) (fun c=>by kernel_rfl) h
def zAk (call:Oracle) (x0 x1:Int) (x2:List (List Int)) (x3 x4:List Int) (x5 x6:Int):Option (List TV):=
  bif decide (0≤x6) then
    bif (decide (0≤x6)&&decide (x6<((List.length x3:Nat):Int))) then
      bif (apOk x4 [(wi64 (0-(List.getD x3 (Int.toNat x6) 0)))]) then
        call zAb [tI x0,tI x1,tLA8 x2,tLI x3,tLI (x4++[(wi64 (0-(List.getD x3 (Int.toNat x6) 0)))]),tI x5,tI (wi64 (x6-1))]
      else none
    else none
  else
    some [tI 0,tI x0,tI x1,tLA8 x2,tLI x3,tLI x4,tI x5]
theorem zEm (x0 x1:Int) (x2:List (List Int)) (x3 x4:List Int) (x5 x6:Int) (h:zAk R x0 x1 x2 x3 x4 x5 x6=some o):R zAb [tI x0,tI x1,tLA8 x2,tLI x3,tLI x4,tI x5,tI x6]=some o:=go_ (b:=fun c=>zAk c x0 x1 x2 x3 x4 x5 x6) (fun c=>by kernel_rfl) h
def zAj (call:Oracle) (x0 x1:Int) (x2:List (List Int)) (x3:List Int) (x4:Int):Option (List TV):=
  bif decide (x4<((List.length x2:Nat):Int)) then
    bif (decide (0≤x4)&&decide (x4<((List.length x2:Nat):Int))) then
      (call zDd [tI x0,tA8 (List.getD x2 (Int.toNat x4) (List.replicate 8 0))]).bind fun o8=>
      bif (apOk x3 (gLI o8 0)) then
        call zAa [tI x0,tI x1,tLA8 x2,tLI (x3++(gLI o8 0)),tI (wi64 (x4+1))]
      else none
    else none
  else
    some [tI 0,tLI x3]
theorem zEl (x0 x1:Int) (x2:List (List Int)) (x3:List Int) (x4:Int) (h:zAj R x0 x1 x2 x3 x4=some o):R zAa [tI x0,tI x1,tLA8 x2,tLI x3,tI x4]=some o:=go_ (b:=fun c=>zAj c x0 x1 x2 x3 x4) (fun c=>by kernel_rfl) h
def zFz (call:Oracle) (a0:Int×Int×List (List Int)):Option (List TV):=
  (call jk [tI a0.1]).bind fun o1=>
  (call zDd [tI a0.1,tA8 (gA8 o1 0)]).bind fun o2=>
  (call zBT [tI a0.1,tI a0.2.1,tLA8 a0.2.2,tLI (gLI o2 0),tLI [],tI 0]).bind fun o3=>
  (call zBS [tI (gI o3 1),tI (gI o3 2),tLA8 (gLA8 o3 3),tLI (gLI o3 4),tLI (gLI o3 5),tI (gI o3 2)]).bind fun o6=>
  (call zAa [tI (gI o6 1),tI (gI o6 2),tLA8 (gLA8 o6 3),tLI (gLI o6 4),tI 0]).bind fun o9=>
  some [tLI (gLI o9 1)]
theorem zNs (a0:Int×Int×List (List Int)) (h:zFz R a0=some o):R zFp [zK a0]=some o:=go_ (b:=fun c=>zFz c a0) (fun c=>by kernel_rfl) h
def kH (call:Oracle) (a0:List Int):Option (List TV):=
  (call zFu [tLU8 a0]).bind fun o1=>
  (call jI [zE (zC o1 0)]).bind fun o2=>
  (call zAc [zH (zg o2 0)]).bind fun o3=>
  bif (gB o3 0) then
    (call zW [zE (zC o2 1),tI 2]).bind fun o4=>
    bif ((gI o4 0)==0) then
      (call zFF [tI ((zg o2 0).1),tLI ((zg o2 0).2)]).bind fun o5=>
      (call zFp [zK (zo o5 0)]).bind fun o6=>
      bif decide (((List.length (gLI o6 0):Nat):Int)≤200) then
        some [zH (zg o2 0),zH ((zg o2 0).1,(gLI o6 0))]
      else
        (call jI [zE (zC o4 1)]).bind fun o7=>
        (call zAc [zH (zg o2 0)]).bind fun o8=>
        bif (gB o8 0) then
          (call zW [zE (zC o7 1),tI 4]).bind fun o9=>
          bif decide (0<(gI o9 0)) then
            (call jP [zE (zC o9 1),tI ((zg o2 0).1),tI 12]).bind fun o10=>
            some [zH (zg o2 0),zH ((zg o2 0).1,(gLI o10 0))]
          else
            some [zH (zg o2 0),zH (zg o7 0)]
        else
          some [zH (zg o2 0),zH (zg o7 0)]
    else
      (call jI [zE (zC o4 1)]).bind fun o11=>
      (call zAc [zH (zg o2 0)]).bind fun o12=>
      bif (gB o12 0) then
        (call zW [zE (zC o11 1),tI 4]).bind fun o13=>
        bif decide (0<(gI o13 0)) then
          (call jP [zE (zC o13 1),tI ((zg o2 0).1),tI 12]).bind fun o14=>
          some [zH (zg o2 0),zH ((zg o2 0).1,(gLI o14 0))]
        else
          some [zH (zg o2 0),zH (zg o11 0)]
      else
        some [zH (zg o2 0),zH (zg o11 0)]
  else
    (call jI [zE (zC o2 1)]).bind fun o15=>
    (call zAc [zH (zg o2 0)]).bind fun o16=>
    bif (gB o16 0) then
      (call zW [zE (zC o15 1),tI 4]).bind fun o17=>
      bif decide (0<(gI o17 0)) then
        (call jP [zE (zC o17 1),tI ((zg o2 0).1),tI 12]).bind fun o18=>
        some [zH (zg o2 0),zH ((zg o2 0).1,(gLI o18 0))]
      else
        some [zH (zg o2 0),zH (zg o15 0)]
    else
      some [zH (zg o2 0),zH (zg o15 0)]
theorem jF (a0:List Int) (h:kH R a0=some o):R zAQ [tLU8 a0]=some o:=go_ (b:=fun c=>kH c a0) (fun c=>by kernel_rfl) h
def jd (call:Oracle) (a0 a1 a2:Int):Option (List TV):=
  bif decide (a1≤a0) then
    some [tB (decide (a0≤a2))]
  else
    some [tB false]
theorem zEn (a0 a1 a2:Int) (h:jd R a0 a1 a2=some o):R kh [tI a0,tI a1,tI a2]=some o:=go_ (b:=fun c=>jd c a0 a1 a2) (fun c=>by kernel_rfl) h
def zGC (call:Oracle) (a0:Int):Option (List TV):=
  (call kh [tI a0,tI 1,tI 8]).bind fun o1=>
  some [tB (gB o1 0)]
theorem zN7 (a0:Int) (h:zGC R a0=some o):R zFw [tI a0]=some o:=go_ (b:=fun c=>zGC c a0) (fun c=>by kernel_rfl) h
def zEg (call:Oracle) (a0 a1:Int):Option (List TV):=
  bif (a0 != 0) then
    (call kh [tI a0,tI (wi64 (1-a1)),tI (wi64 (a1-1))]).bind fun o1=>
    some [tB (gB o1 0)]
  else
    some [tB false]
theorem zLV (a0 a1:Int) (h:zEg R a0 a1=some o):R zER [tI a0,tI a1]=some o:=go_ (b:=fun c=>zEg c a0 a1) (fun c=>by kernel_rfl) h
def zBv (call:Oracle) (x0:Int) (x1:List Int) (x2 x3:Int):Option (List TV):=
  bif decide (x3<x2) then
    bif (decide (0≤x3)&&decide (x3<((List.length x1:Nat):Int))) then
      (call zER [tI (List.getD x1 (Int.toNat x3) 0),tI x0]).bind fun o3=>
      bif (!(gB o3 0)) then
        some [tI 1,tB false]
      else
        call zBe [tI x0,tLI x1,tI x2,tI (wi64 (x3+1))]
    else none
  else
    some [tI 0]
theorem zGR (x0:Int) (x1:List Int) (x2 x3:Int) (h:zBv R x0 x1 x2 x3=some o):R zBe [tI x0,tLI x1,tI x2,tI x3]=some o:=go_ (b:=fun c=>zBv c x0 x1 x2 x3) (fun c=>by kernel_rfl) h
def zGD (call:Oracle) (a0:Int×List Int):Option (List TV):=
  (call zFw [tI a0.1]).bind fun o1=>
  bif (!(gB o1 0)) then
    some [tB false]
  else
    bif decide (200<((List.length a0.2:Nat):Int)) then
      some [tB false]
    else
      (call zBe [tI a0.1,tLI a0.2,tI ((List.length a0.2:Nat):Int),tI 0]).bind fun o4=>
      bif ((gI o4 0)==0) then
        some [tB true]
      else
        some [tB (gB o4 1)]
theorem zN8 (a0:Int×List Int) (h:zGD R a0=some o):R kx [zH a0]=some o:=go_ (b:=fun c=>zGD c a0) (fun c=>by kernel_rfl) h
end
end Go.Ev.YtlkmkabnbegfdaaGreat
