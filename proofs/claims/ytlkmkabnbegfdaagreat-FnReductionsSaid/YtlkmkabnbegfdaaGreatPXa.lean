/- Texts merged: PPw1 PPw2 PPr1 PPr2 PPr3 PPr4 PPr5 PPw3 PPw4. -/
import Derived.Test.YtlkmkabnbegfdaaGreatPB
import Derived.Test.YtlkmkabnbegfdaaGreatV4
set_option linter.unusedVariables false
set_option linter.unusedSimpArgs false
namespace Go.Ev.YtlkmkabnbegfdaaGreatP
open Go.Ev
abbrev B64:Int:=18446744073709551616
abbrev M256:Int:=115792089237316195423570985008687907853269984665640564039457584007913129639936
def vl:List Int→Int
 | []=>0
 | x::t=>x+B64*vl t
def Lm (l:List Int):Prop:=∀ x∈l,0≤x∧x<B64
structure W4 (l:List Int):Prop where
 len:l.length=4
 lm:Lm l
theorem W4.split {l:List Int}(h:W4 l):∃ a b c d,l=[a,b,c,d]∧(0≤a∧a<B64)∧(0≤b∧b<B64)∧(0≤c∧c<B64)∧(0≤d∧d<B64):=by
 obtain⟨h1,h2⟩:=h
 match l,h1 with
 | [a,b,c,d],_=>exact⟨a,b,c,d,rfl,h2 a (by simp),h2 b (by simp),h2 c (by simp),h2 d (by simp)⟩
theorem W4.mk4 {a b c d:Int}(h1:0≤a∧a<B64) (h2:0≤b∧b<B64) (h3:0≤c∧c<B64) (h4:0≤d∧d<B64):W4 [a,b,c,d]:=⟨rfl,fun x hx=>by
 simp only[List.mem_cons,List.not_mem_nil,or_false] at hx;rcases hx with rfl | rfl | rfl | rfl<;>assumption⟩
theorem vl4 (a b c d:Int):vl [a,b,c,d]=a+B64*b+340282366920938463463374607431768211456*c+6277101735386680763835789423207666416102355444464034512896*d:=by
 simp only[vl,B64];omega
theorem W4.rng {l:List Int}(h:W4 l):0≤vl l∧vl l<M256:=by
 obtain⟨a,b,c,d,rfl,h1,h2,h3,h4⟩:=h.split;rw[vl4];simp only[B64,M256] at *;omega
theorem W4.inj {l m:List Int}(h:W4 l) (h':W4 m) (e:vl l=vl m):l=m:=by
 obtain⟨a,b,c,d,rfl,h1,h2,h3,h4⟩:=h.split;obtain⟨a',b',c',d',rfl,h1',h2',h3',h4'⟩:=h'.split;rw[vl4,vl4] at e;simp only[B64] at *;have q1:a=a':=by omega
 have q2:b=b':=by omega
 have q3:c=c':=by omega
 have q4:d=d':=by omega
 subst q1 q2 q3 q4
 rfl
theorem W4.zero:W4 (List.replicate 4 0):=⟨by simp,fun x hx=>by rw[List.eq_of_mem_replicate hx];simp only[B64];omega⟩
theorem zO2:vl (List.replicate 4 0)=0:=by
 show vl [0,0,0,0]=0;rw[vl4];omega
theorem zI4 {x y c:Int}:addLo x y c+B64*addHi x y c=x+y+c:=by
 unfold addLo addHi;simp only[B64];omega
theorem zOr {x y c:Int}(hx:0≤x∧x<B64) (hy:0≤y∧y<B64) (hc:0≤c∧c≤1):carOk x y c=true∧(0≤addLo x y c∧addLo x y c<B64)∧(0≤addHi x y c∧addHi x y c≤1):=by
 unfold addLo addHi carOk;simp only[B64,Bool.and_eq_true,decide_eq_true_eq] at *;omega
theorem zM4 {x y c:Int}(hx:0≤x∧x<B64) (hy:0≤y∧y<B64) (hc:0≤c∧c≤1):subLo x y c-B64*subHi x y c=x-y-c:=by
 unfold subLo subHi;simp only[B64] at *;split<;>omega
theorem zRJ {x y c:Int}(hx:0≤x∧x<B64) (hy:0≤y∧y<B64) (hc:0≤c∧c≤1):carOk x y c=true∧(0≤subLo x y c∧subLo x y c<B64)∧(0≤subHi x y c∧subHi x y c≤1):=by
 unfold subLo subHi carOk;simp only[B64,Bool.and_eq_true,decide_eq_true_eq] at *;split<;>omega
theorem w1:wi64 1=1:=by decide
theorem w2:wi64 2=2:=by decide
theorem w3:wi64 3=3:=by decide
theorem w4:wi64 4=4:=by decide
theorem zS7 {x y:List Int}(hx:W4 x) (hy:W4 y):∃ z,R i_i_wide__plus [tAw4 x,tAw4 y]=some [tAw4 z]∧W4 z∧vl z=(vl x+vl y) % M256:=by
 obtain⟨a,b,c,d,rfl,h1,h2,h3,h4⟩:=hx.split;obtain⟨a',b',c',d',rfl,h1',h2',h3',h4'⟩:=hy.split;obtain⟨o1,p1,q1⟩:=zOr h1 h1' (c:=0) (by omega);obtain⟨o2,p2,q2⟩:=zOr h2 h2' q1;obtain⟨o3,p3,q3⟩:=zOr h3 h3' q2;obtain⟨o4,p4,q4⟩:=zOr h4 h4' q3;have l1:=zI4 (x:=a) (y:=a') (c:=0);have l2:=zI4 (x:=b) (y:=b') (c:=addHi a a' 0);have l3:=zI4 (x:=c) (y:=c') (c:=addHi b b' (addHi a a' 0));have l4:=zI4 (x:=d) (y:=d') (c:=addHi c c' (addHi b b' (addHi a a' 0)));generalize e1:addHi a a' 0=t1 at *;generalize e2:addHi b b' t1=t2 at *;generalize e3:addHi c c' t2=t3 at *;generalize e4:addHi d d' t3=t4 at *;generalize f1:addLo a a' 0=u1 at *;generalize f2:addLo b b' t1=u2 at *;generalize f3:addLo c c' t2=u3 at *;generalize f4:addLo d d' t3=u4 at*
 refine⟨[u1,u2,u3,u4],?_,W4.mk4 p1 p2 p3 p4,?_⟩
 · have r:List.replicate 4 (0:Int)=[0,0,0,0]:=rfl;have s4:R i_i_wide__plus_3 [tAw4 [a,b,c,d],tAw4 [a',b',c',d'],tAw4 [0,0,0,0],tAw4 [u1,u2,u3,u4],tU64 t4,tI 4]=some [tI 0,tAw4 [0,0,0,0],tAw4 [u1,u2,u3,u4]]:=by
    apply kg;simp[b_i_wide__plus_3]
   have s3:R i_i_wide__plus_3 [tAw4 [a,b,c,d],tAw4 [a',b',c',d'],tAw4 [0,0,0,0],tAw4 [u1,u2,u3,0],tU64 t3,tI 3]=some [tI 0,tAw4 [0,0,0,0],tAw4 [u1,u2,u3,u4]]:=by
    apply kg;simp[b_i_wide__plus_3,o4,f4,e4,w4,s4]
   have s2:R i_i_wide__plus_3 [tAw4 [a,b,c,d],tAw4 [a',b',c',d'],tAw4 [0,0,0,0],tAw4 [u1,u2,0,0],tU64 t2,tI 2]=some [tI 0,tAw4 [0,0,0,0],tAw4 [u1,u2,u3,u4]]:=by
    apply kg;simp[b_i_wide__plus_3,o3,f3,e3,w3,s3]
   have s1:R i_i_wide__plus_3 [tAw4 [a,b,c,d],tAw4 [a',b',c',d'],tAw4 [0,0,0,0],tAw4 [u1,0,0,0],tU64 t1,tI 1]=some [tI 0,tAw4 [0,0,0,0],tAw4 [u1,u2,u3,u4]]:=by
    apply kg;simp[b_i_wide__plus_3,o2,f2,e2,w2,s2]
   have s0:R i_i_wide__plus_3 [tAw4 [a,b,c,d],tAw4 [a',b',c',d'],tAw4 [0,0,0,0],tAw4 [0,0,0,0],tU64 0,tI 0]=some [tI 0,tAw4 [0,0,0,0],tAw4 [u1,u2,u3,u4]]:=by
    apply kg;simp[b_i_wide__plus_3,o1,f1,e1,w1,s1]
   apply zIG;simp only[b_i_wide__plus,r,s0,Option.bind_some,getTV_here,getTV_next]
 · rw[vl4,vl4,vl4];simp only[B64,M256] at *;omega
theorem zQa {x y:List Int}(hx:W4 x) (hy:W4 y):∃ z,R i_i_wide__minus [tAw4 x,tAw4 y]=some [tAw4 z]∧W4 z∧vl z=(vl x-vl y) % M256:=by
 obtain⟨a,b,c,d,rfl,h1,h2,h3,h4⟩:=hx.split;obtain⟨a',b',c',d',rfl,h1',h2',h3',h4'⟩:=hy.split;have z0:(0:Int)≤0∧(0:Int)≤1:=by omega
 obtain⟨o1,p1,q1⟩:=zRJ h1 h1' z0;obtain⟨o2,p2,q2⟩:=zRJ h2 h2' q1;obtain⟨o3,p3,q3⟩:=zRJ h3 h3' q2;obtain⟨o4,p4,q4⟩:=zRJ h4 h4' q3;have l1:=zM4 h1 h1' z0;have l2:=zM4 h2 h2' q1;have l3:=zM4 h3 h3' q2;have l4:=zM4 h4 h4' q3;generalize e1:subHi a a' 0=t1 at *;generalize e2:subHi b b' t1=t2 at *;generalize e3:subHi c c' t2=t3 at *;generalize e4:subHi d d' t3=t4 at *;generalize f1:subLo a a' 0=u1 at *;generalize f2:subLo b b' t1=u2 at *;generalize f3:subLo c c' t2=u3 at *;generalize f4:subLo d d' t3=u4 at*
 refine⟨[u1,u2,u3,u4],?_,W4.mk4 p1 p2 p3 p4,?_⟩
 · have r:List.replicate 4 (0:Int)=[0,0,0,0]:=rfl;have s4:R i_i_wide__minus_3 [tAw4 [a,b,c,d],tAw4 [a',b',c',d'],tAw4 [0,0,0,0],tAw4 [u1,u2,u3,u4],tU64 t4,tI 4]=some [tI 0,tAw4 [0,0,0,0],tAw4 [u1,u2,u3,u4]]:=by
    apply kS;simp[b_i_wide__minus_3]
   have s3:R i_i_wide__minus_3 [tAw4 [a,b,c,d],tAw4 [a',b',c',d'],tAw4 [0,0,0,0],tAw4 [u1,u2,u3,0],tU64 t3,tI 3]=some [tI 0,tAw4 [0,0,0,0],tAw4 [u1,u2,u3,u4]]:=by
    apply kS;simp[b_i_wide__minus_3,o4,f4,e4,w4,s4]
   have s2:R i_i_wide__minus_3 [tAw4 [a,b,c,d],tAw4 [a',b',c',d'],tAw4 [0,0,0,0],tAw4 [u1,u2,0,0],tU64 t2,tI 2]=some [tI 0,tAw4 [0,0,0,0],tAw4 [u1,u2,u3,u4]]:=by
    apply kS;simp[b_i_wide__minus_3,o3,f3,e3,w3,s3]
   have s1:R i_i_wide__minus_3 [tAw4 [a,b,c,d],tAw4 [a',b',c',d'],tAw4 [0,0,0,0],tAw4 [u1,0,0,0],tU64 t1,tI 1]=some [tI 0,tAw4 [0,0,0,0],tAw4 [u1,u2,u3,u4]]:=by
    apply kS;simp[b_i_wide__minus_3,o2,f2,e2,w2,s2]
   have s0:R i_i_wide__minus_3 [tAw4 [a,b,c,d],tAw4 [a',b',c',d'],tAw4 [0,0,0,0],tAw4 [0,0,0,0],tU64 0,tI 0]=some [tI 0,tAw4 [0,0,0,0],tAw4 [u1,u2,u3,u4]]:=by
    apply kS;simp[b_i_wide__minus_3,o1,f1,e1,w1,s1]
   apply zHH;simp only[b_i_wide__minus,r,s0,Option.bind_some,getTV_here,getTV_next]
 · rw[vl4,vl4,vl4];simp only[B64,M256] at *;omega
end Go.Ev.YtlkmkabnbegfdaaGreatP
namespace Go.Ev.YtlkmkabnbegfdaaGreatP
open Go.Ev
theorem kP {x:Int}(h1:0≤x) (h2:x<B64):wu64 x=x:=by
 show IntKind.wrap .u64 x=x;simp only[B64] at h2;have:IntKind.wrap .u64 x=x % 18446744073709551616:=by
  unfold IntKind.wrap;simp[IntKind.bits,IntKind.signed]
 rw[this];omega
theorem zUU (x:Int):wu64 x=x % B64:=by
 show IntKind.wrap .u64 x=_;unfold IntKind.wrap;simp[IntKind.bits,IntKind.signed,B64]
theorem zPM {x:Int}(h:0≤x):shr .u64 x 32=x / 4294967296:=by
 unfold shr;have:((32:Int).toNat)=32:=rfl;rw[this];show x.fdiv (2^32)=_;rw[Int.fdiv_eq_ediv_of_nonneg _ (by decide)]
 rfl
theorem zUL {x:Int}(h:0≤x) (h':x<B64):bitsAnd .u64 x 4294967295=x % 4294967296:=by
 unfold bitsAnd;rw[BitVec.toNat_and];have e1:(BitVec.ofInt (IntKind.bits .u64) 4294967295).toNat=4294967295:=by decide
 have e2:(BitVec.ofInt (IntKind.bits .u64) x).toNat=x.toNat:=by
  show (BitVec.ofInt 64 x).toNat=_;rw[BitVec.toNat_ofInt];simp only[B64] at h';omega
 rw[e1,e2];have e3:x.toNat &&& 4294967295=x.toNat % 4294967296:=Nat.and_two_pow_sub_one_eq_mod x.toNat 32;rw[e3];have:wu64 ((x.toNat % 4294967296:Nat):Int)=((x.toNat % 4294967296:Nat):Int):=kP (by omega) (by simp only[B64];omega);show wu64 _=_;rw[this];omega
theorem zHe {x y m:Int}(hm:0≤m) (hx:0≤x∧x≤m) (hy:0≤y∧y≤m):0≤x*y∧x*y≤m*m:=
 ⟨Int.mul_nonneg hx.1 hy.1,Int.mul_le_mul hx.2 hy.2 hy.1 hm⟩
theorem zUF {a b:Int}(ha:0≤a∧a<B64) (hb:0≤b∧b<B64):∃ hi lo,R imath_bits_Mul64 [tU64 a,tU64 b]=some [tU64 hi,tU64 lo]∧(0≤hi∧hi<B64)∧(0≤lo∧lo<B64)∧lo+B64*hi=a*b:=by
 have hA:a=a / 4294967296*4294967296+a % 4294967296:=by omega
 have hB:b=b / 4294967296*4294967296+b % 4294967296:=by omega
 have sa:=zPM ha.1;have sb:=zPM hb.1;have na:=zUL ha.1 ha.2;have nb:=zUL hb.1 hb.2;have ra1:0≤a / 4294967296∧a / 4294967296≤4294967295:=by simp only[B64] at ha;omega
 have ra0:0≤a % 4294967296∧a % 4294967296≤4294967295:=by omega
 have rb1:0≤b / 4294967296∧b / 4294967296≤4294967295:=by simp only[B64] at hb;omega
 have rb0:0≤b % 4294967296∧b % 4294967296≤4294967295:=by omega
 generalize a / 4294967296=a1 at *;generalize a % 4294967296=a0 at *;generalize b / 4294967296=b1 at *;generalize b % 4294967296=b0 at *;have hab:a*b=(a1*b1)*18446744073709551616+(a1*b0+a0*b1)*4294967296+a0*b0:=by
  rw[hA,hB]
  grind
 have m1:=zHe (m:=4294967295) (by omega) ra1 rb1;have m2:=zHe (m:=4294967295) (by omega) ra1 rb0;have m3:=zHe (m:=4294967295) (by omega) ra0 rb1;have m4:=zHe (m:=4294967295) (by omega) ra0 rb0;generalize h11:a1*b1=p11 at *;generalize h10:a1*b0=p10 at *;generalize h01:a0*b1=p01 at *;generalize h00:a0*b0=p00 at*
 refine⟨p11+(p10+p00 / 4294967296) / 4294967296+((p10+p00 / 4294967296) % 4294967296+p01) / 4294967296,(a*b) % B64,?_,?_,?_,?_⟩
 · apply zGj;unfold bmath_bits_Mul64;simp only[B64] at *;have c1:wu64 p00=p00:=kP (by omega) (by simp only[B64];omega);have c2:wu64 p10=p10:=kP (by omega) (by simp only[B64];omega);have c3:wu64 p01=p01:=kP (by omega) (by simp only[B64];omega);have c4:wu64 p11=p11:=kP (by omega) (by simp only[B64];omega);have d1:=zPM (x:=p00) (by omega);have t1:wu64 (p10+p00 / 4294967296)=p10+p00 / 4294967296:=kP (by omega) (by simp only[B64];omega);have d2:=zPM (x:=p10+p00 / 4294967296) (by omega);have d3:=zUL (x:=p10+p00 / 4294967296) (by omega) (by simp only[B64];omega);have t2:wu64 ((p10+p00 / 4294967296) % 4294967296+p01)=(p10+p00 / 4294967296) % 4294967296+p01:=kP (by omega) (by simp only[B64];omega);have d4:=zPM (x:=(p10+p00 / 4294967296) % 4294967296+p01) (by omega);have t3:wu64 (p11+(p10+p00 / 4294967296) / 4294967296)=p11+(p10+p00 / 4294967296) / 4294967296:=kP (by omega) (by simp only[B64];omega);have t4:wu64 (p11+(p10+p00 / 4294967296) / 4294967296+((p10+p00 / 4294967296) % 4294967296+p01) / 4294967296)=p11+(p10+p00 / 4294967296) / 4294967296+((p10+p00 / 4294967296) % 4294967296+p01) / 4294967296:=kP (by omega) (by simp only[B64];omega);have e5:=zUU (a*b);simp only[B64] at e5;simp only[sa,sb,na,nb,h11,h10,h01,h00,c1,c2,c3,c4,d1,t1,d2,d3,t2,d4,t3,t4,e5]
 · simp only[B64] at *;omega
 · simp only[B64] at *;omega
 · simp only[B64] at *;omega
theorem zSV:∀ (l:List Int) (j:Nat) (v:Int),j<l.length→vl (l.set j v)=vl l+B64^j*(v-l.getD j 0)
 | x::t,0,v,_=>by simp[vl];omega
 | x::t,j+1,v,h=>by
  have ih:=zSV t j v (by simpa using h);simp only[List.set_cons_succ,vl,List.getD_cons_succ,ih];rw[Int.pow_succ]
  grind
theorem zO3 {l:List Int}{k:Nat}(h:k<l.length):vl (l.drop k)=l.getD k 0+B64*vl (l.drop (k+1)):=by
 rw[List.drop_eq_getElem_cons h,vl,List.getD_eq_getElem?_getD,List.getElem?_eq_getElem h]
 rfl
theorem W4.get {l:List Int}(h:W4 l) {k:Nat}(hk:k<4):0≤l.getD k 0∧l.getD k 0<B64:=by
 have hl:k<l.length:=by rw[h.len];exact hk
 rw[List.getD_eq_getElem?_getD,List.getElem?_eq_getElem hl];exact h.lm _ (List.getElem_mem hl)
theorem W4.set {l:List Int}(h:W4 l) (k:Nat) {v:Int}(hv:0≤v∧v<B64):W4 (l.set k v):=⟨by rw[List.length_set,h.len],fun x hx=>by
 rcases List.mem_or_eq_of_mem_set hx with h' | h'
 · exact h.lm x h'
 · rw[h'];exact hv⟩
theorem zQT {y r xs:List Int}(hy:W4 y) {i:Nat}(hi:i<4) {a:Int}(ha:0≤a∧a<B64) (j:Int):∀ (d k:Nat) (out:List Int) (c:Int),i+k+d=4→W4 out→(0≤c∧c<B64) →
  ∃ (out':List Int) (q:Int),R i_i_wide__times_7 [tAw4 y,tAw4 r,tAw4 out,tI (i:Int),tU64 a,tU64 c,tI (k:Int),tAw4 xs,tI j]=some [tI 0,tAw4 y,tAw4 r,tAw4 out',tAw4 xs,tI j]∧W4 out'∧vl out'=vl out+B64^(i+k)*(c+a*vl (y.drop k))+M256*q:=by
 intro d
 induction d with
 | zero=>
  intro k out c h ho hc
  refine⟨out,-(c+a*vl (y.drop k)),?_,ho,?_⟩
  · apply zB8;have w:wi64 ((i:Int)+(k:Int))=((i+k:Nat):Int):=by rw[zD]<;>omega
    have p:decide (((i+k:Nat):Int)<4)=false:=decide_eq_false (by omega);simp only[b_i_wide__times_7,w,p,cond_false]
  · rw[show i+k=4 by omega];have:(B64:Int)^4=M256:=by decide
    rw[this]
    grind
 | succ d ih=>
  intro k out c h ho hc;have hk:k<4:=by omega
  have hyk:=hy.get hk;have hoi:=ho.get (show i+k<4 by omega);obtain⟨hi',lo,e1,rh,rl,eq⟩:=zUF ha hyk;obtain⟨o1,p1,q1⟩:=zOr rl hc (c:=0) (by omega);have l1:=zI4 (x:=lo) (y:=c) (c:=0);obtain⟨o2,p2,q2⟩:=zOr p1 hoi (c:=0) (by omega);have l2:=zI4 (x:=addLo lo c 0) (y:=out.getD (i+k) 0) (c:=0);have hm:=zHe (m:=18446744073709551615) (by omega) (x:=a) (y:=y.getD k 0) (by simp only[B64] at ha;omega) (by simp only[B64] at hyk;omega);have hcar:hi'+addHi lo c 0+addHi (addLo lo c 0) (out.getD (i+k) 0) 0<B64:=by
   simp only[B64] at *;omega
  have hg:List.getD out (i+k) 0=out.getD (i+k) 0:=rfl;generalize ey:y.getD k 0=yk at *;generalize eo:out.getD (i+k) 0=ok at *;generalize el1:addLo lo c 0=lo1 at *;generalize eh1:addHi lo c 0=hi1 at *;generalize el2:addLo lo1 ok 0=lo2 at *;generalize eh2:addHi lo1 ok 0=hi2 at *;have hl:i+k<out.length:=by rw[ho.len];omega
  have hs:=zSV out (i+k) lo2 hl;rw[eo] at hs;obtain⟨out',q,h1,h2,h3⟩:=ih (k+1) (out.set (i+k) lo2) (hi'+hi1+hi2) (by omega) (ho.set _ p2) (by simp only[B64] at *;omega)
  refine⟨out',q,?_,h2,?_⟩
  · apply zB8;have w:wi64 ((i:Int)+(k:Int))=((i+k:Nat):Int):=by rw[zD]<;>omega
    have w':wi64 ((k:Int)+1)=((k+1:Nat):Int):=by rw[zD]<;>omega
    have p:decide (((i+k:Nat):Int)<4)=true:=decide_eq_true (by omega);have p':decide (0≤(k:Int))=true:=decide_eq_true (by omega);have p'':decide ((k:Int)<4)=true:=decide_eq_true (by omega);have p3:decide (0≤((i+k:Nat):Int))=true:=decide_eq_true (by omega);have u1:wu64 (hi'+hi1)=hi'+hi1:=kP (by omega) (by simp only[B64] at *;omega);have u2:wu64 (hi'+hi1+hi2)=hi'+hi1+hi2:=kP (by omega) hcar;simp only[b_i_wide__times_7,w,p,p',p'',p3,cond_true,Bool.and_self,Int.toNat_natCast,ey,e1,Option.bind_some,getTV_here,getTV_next,o1,el1,eh1,eo,o2,el2,eh2,u1,u2,w',h1]
  · rw[h3,hs,zO3 (l:=y) (k:=k) (by rw[hy.len];exact hk),ey];rw[show i+(k+1)=(i+k)+1 by omega,Int.pow_succ];have e:lo2+B64*(hi'+hi1+hi2)=a*yk+c+ok:=by
     simp only[B64] at *;omega
    have e':lo2-ok=a*yk+c-B64*(hi'+hi1+hi2):=by omega
    rw[e'];generalize vl (y.drop (k+1))=Y;generalize (B64:Int)^(i+k)=Bp
    grind
theorem zQU {y r xs:List Int}(hy:W4 y) (hx:W4 xs):∀ (d i:Nat) (out:List Int),i+d=4→W4 out→∃ (out':List Int) (q:Int),R i_i_wide__times_3 [tAw4 y,tAw4 r,tAw4 out,tAw4 xs,tI (i:Int)]=some [tI 0,tAw4 r,tAw4 out']∧W4 out'∧vl out'=vl out+B64^i*(vl (xs.drop i)*vl y)+M256*q:=by
 intro d
 induction d with
 | zero=>
  intro i out h ho;obtain rfl:i=4:=by omega
  refine⟨out,0,?_,ho,?_⟩
  · apply zB9;have p:decide ((((4:Nat):Int))<4)=false:=by decide
    simp only[b_i_wide__times_3,p,cond_false]
  · rw[List.drop_eq_nil_of_le (by rw[hx.len];omega)];simp[vl]
 | succ d ih=>
  intro i out h ho;have hi:i<4:=by omega
  have ha:=hx.get hi;obtain⟨o1,q1,e1,g1,v1⟩:=zQT (r:=r) (xs:=xs) hy hi ha (i:Int) (4-i) 0 out 0 (by omega) ho (by simp only[B64];omega);obtain⟨o2,q2,e2,g2,v2⟩:=ih (i+1) o1 (by omega) g1
  refine⟨o2,q1+q2,?_,g2,?_⟩
  · apply zB9;have p:decide ((i:Int)<4)=true:=decide_eq_true (by omega);have p':decide (0≤(i:Int))=true:=decide_eq_true (by omega);have w':wi64 ((i:Int)+1)=((i+1:Nat):Int):=by rw[zD]<;>omega
    simp only[Int.natCast_zero] at e1;simp only[b_i_wide__times_3,p,p',Bool.and_self,cond_true,Int.toNat_natCast,e1,Option.bind_some,getTV_here,getTV_next,w',e2]
  · rw[v2,v1,zO3 (l:=xs) (k:=i) (by rw[hx.len];exact hi),List.drop_zero,Nat.add_zero,Int.pow_succ];generalize vl (xs.drop (i+1))=X;generalize xs.getD i 0=a;generalize (B64:Int)^i=Bp;generalize vl y=Y
    grind
theorem zUA {x y:List Int}(hx:W4 x) (hy:W4 y):∃ z,R i_i_wide__times [tAw4 x,tAw4 y]=some [tAw4 z]∧W4 z∧vl z=(vl x*vl y) % M256:=by
 obtain⟨z,q,e,hz,hv⟩:=zQU (r:=List.replicate 4 0) hy hx 4 0 (List.replicate 4 0) (by omega) W4.zero
 refine⟨z,?_,hz,?_⟩
 · simp only[Int.natCast_zero] at e;apply zHF;simp only[b_i_wide__times,e,Option.bind_some,getTV_here,getTV_next]
 · have hr:=hz.rng;rw[zO2,List.drop_zero,Int.pow_zero] at hv;have:vl x*vl y=vl z+M256*(-q):=by rw[hv];grind
   rw[this,Int.add_mul_emod_self_left];exact (Int.emod_eq_of_lt hr.1 hr.2).symm
end Go.Ev.YtlkmkabnbegfdaaGreatP
namespace Go.Lau
abbrev Co:=BitVec 256
abbrev Fn:=Int→Co
abbrev Mon:=List (Co×Int)
def opL:Mon→Fn→Fn
 | [],_=>fun _=>0
 | (r,j)::l,g=>fun k=>r*g (k-j)+opL l g k
theorem zLs:∀ (l m:Mon) (g:Fn) (k:Int),opL (l++m) g k=opL l g k+opL m g k
 | [],m,g,k=>by simp[opL]
 | (r,j)::l,m,g,k=>by
  show r*g (k-j)+opL (l++m) g k=r*g (k-j)+opL l g k+opL m g k;rw[zLs l m g k,BitVec.add_assoc]
theorem zPm:∀ (l:Mon) (g h:Fn) (r s:Co) (k:Int),opL l (fun i=>r*g i+s*h i) k=r*opL l g k+s*opL l h k
 | [],g,h,r,s,k=>by simp[opL]
 | (a,j)::l,g,h,r,s,k=>by
  show a*(r*g (k-j)+s*h (k-j))+opL l _ k=r*(a*g (k-j)+opL l g k)+s*(a*h (k-j)+opL l h k);rw[zPm l g h r s k]
  grind
theorem zKT:∀ (l:Mon) (g:Fn) (j k:Int),opL l (fun i=>g (i-j)) k=opL l g (k-j)
 | [],g,j,k=>rfl
 | (a,i)::l,g,j,k=>by
  show a*g (k-i-j)+opL l _ k=a*g (k-j-i)+opL l g (k-j);rw[zKT l g j k,show k-i-j=k-j-i by omega]
theorem zKU {l:Mon}{g h:Fn}(e:∀ i,g i=h i) (k:Int):opL l g k=opL l h k:=by
 have:g=h:=funext e;rw[this]
theorem zNB:∀ (l:Mon) (k:Int),opL l (fun _=>0) k=0
 | [],_=>rfl
 | (a,j)::l,k=>by
  show a*0+opL l (fun _=>0) k=0;rw[zNB l k];simp
theorem zGv:∀ (l m:Mon) (g:Fn) (k:Int),opL l (opL m g) k=opL m (opL l g) k
 | [],m,g,k=>(zNB m k).symm
 | (a,j)::l,m,g,k=>by
  show a*opL m g (k-j)+opL l (opL m g) k=opL m (fun i=>a*g (i-j)+opL l g i) k;have h1:opL m (fun i=>a*g (i-j)+opL l g i) k=opL m (fun i=>a*(fun i=>g (i-j)) i+1*opL l g i) k:=zKU (fun i=>by simp) k;rw[h1,zPm,zKT,zGv l m g k];simp
structure A where
 f:Fn→Fn
 rep:∃ l,f=opL l
theorem A.ext {a b:A}(h:∀ g k,a.f g k=b.f g k):a=b:=by
 have:a.f=b.f:=funext fun g=>funext fun k=>h g k
 cases a;cases b
 simp only at this;subst this
 rfl
def mulL:Mon→Mon→Mon
 | [],_=>[]
 | (r,j)::l,m=>m.map (fun p=>(r*p.1,j+p.2))++mulL l m
theorem zPl (r:Co) (j:Int):∀ (m:Mon) (g:Fn) (k:Int),opL (m.map fun p=>(r*p.1,j+p.2)) g k=r*opL m g (k-j)
 | [],g,k=>by simp[opL]
 | (a,i)::m,g,k=>by
  show r*a*g (k-(j+i))+opL _ g k=r*(a*g (k-j-i)+opL m g (k-j));rw[zPl r j m g k,show k-(j+i)=k-j-i by omega]
  grind
theorem zLr:∀ (l m:Mon) (g:Fn) (k:Int),opL (mulL l m) g k=opL l (opL m g) k
 | [],m,g,k=>rfl
 | (r,j)::l,m,g,k=>by
  show opL (m.map _++mulL l m) g k=r*opL m g (k-j)+opL l (opL m g) k;rw[zLs,zPl,zLr l m g k]
def ofL (l:Mon):A:=⟨opL l,l,rfl⟩
def add (a b:A):A:=⟨fun g k=>a.f g k+b.f g k,by
 obtain⟨l,hl⟩:=a.rep;obtain⟨m,hm⟩:=b.rep;exact⟨l++m,funext fun g=>funext fun k=>by rw[hl,hm,zLs]⟩⟩
def mul (a b:A):A:=⟨fun g=>a.f (b.f g),by
 obtain⟨l,hl⟩:=a.rep;obtain⟨m,hm⟩:=b.rep;exact⟨mulL l m,funext fun g=>funext fun k=>by rw[hl,hm,zLr]⟩⟩
def neg (a:A):A:=⟨fun g k=>-(a.f g k),by
 obtain⟨l,hl⟩:=a.rep;exact⟨mulL [(-1,0)] l,funext fun g=>funext fun k=>by
  rw[hl,zLr];show _=-1*opL l g (k-0)+0;rw[Int.sub_zero]
  grind⟩⟩
instance:Add A:=⟨add⟩
instance:Mul A:=⟨mul⟩
instance:Neg A:=⟨neg⟩
instance:Zero A:=⟨ofL []⟩
instance:One A:=⟨ofL [(1,0)]⟩
theorem zOs (a b:A) (g:Fn) (k:Int):(a+b).f g k=a.f g k+b.f g k:=rfl
theorem mul_f (a b:A) (g:Fn):(a*b).f g=a.f (b.f g):=rfl
theorem zRj (a:A) (g:Fn) (k:Int):(-a).f g k=-(a.f g k):=rfl
theorem zMo (g:Fn) (k:Int):(0:A).f g k=0:=rfl
theorem one_f (g:Fn) (k:Int):(1:A).f g k=g k:=by
 show 1*g (k-0)+0=g k;rw[Int.sub_zero];simp
theorem add_assoc (a b c:A):a+b+c=a+(b+c):=A.ext fun g k=>by simp only[zOs,BitVec.add_assoc]
theorem add_comm (a b:A):a+b=b+a:=A.ext fun g k=>by simp only[zOs,BitVec.add_comm]
theorem zero_add (a:A):0+a=a:=A.ext fun g k=>by simp[zOs,zMo]
theorem add_zero (a:A):a+0=a:=by rw[add_comm,zero_add]
theorem zLu (a:A):-a+a=0:=A.ext fun g k=>by
 simp only[zOs,zRj,zMo]
 grind
theorem zMm (a:A):a+-a=0:=by rw[add_comm,zLu]
theorem kp (a b c:A):a*b*c=a*(b*c):=A.ext fun g k=>rfl
theorem mul_comm (a b:A):a*b=b*a:=A.ext fun g k=>by
 obtain⟨l,hl⟩:=a.rep;obtain⟨m,hm⟩:=b.rep;rw[mul_f,mul_f,hl,hm];exact zGv l m g k
theorem one_mul (a:A):1*a=a:=A.ext fun g k=>by rw[mul_f,one_f]
theorem mul_one (a:A):a*1=a:=by rw[mul_comm,one_mul]
theorem add_mul (a b c:A):(a+b)*c=a*c+b*c:=A.ext fun g k=>rfl
theorem zAO (a b c:A):a*(b+c)=a*b+a*c:=by rw[mul_comm,add_mul,mul_comm b,mul_comm c]
theorem zero_mul (a:A):0*a=0:=A.ext fun g k=>rfl
theorem zM (a:A):a*0=0:=by rw[mul_comm,zero_mul]
theorem jB (a b:A):-a*b=-(a*b):=A.ext fun g k=>rfl
theorem zHf (a b:A):a*-b=-(a*b):=by rw[mul_comm,jB,mul_comm]
theorem neg_neg (a:A):- -a=a:=A.ext fun g k=>by
 simp only[zRj]
 grind
theorem zND:-(0:A)=0:=A.ext fun g k=>by simp[zRj,zMo]
theorem zHd (a b:A):-(a+b)=-a+-b:=A.ext fun g k=>by
 simp only[zRj,zOs]
 grind
def tt (j:Int):A:=ofL [(1,j)]
theorem tt_f (j:Int) (g:Fn) (k:Int):(tt j).f g k=g (k-j):=by
 show 1*g (k-j)+0=_;simp
theorem zSX (i j:Int):tt i*tt j=tt (i+j):=A.ext fun g k=>by
 rw[mul_f,tt_f,tt_f,tt_f,show k-i-j=k-(i+j) by omega]
def lst (j:Int):List Co→A
 | []=>0
 | x::t=>ofL [(x,j)]+lst (j+1) t
def dl:Fn:=fun k=>if k=0 then 1 else 0
def cf (a:A) (k:Int):Co:=a.f dl k
theorem zIx:∀ (l:List Co) (j k:Int),cf (lst j l) k=if j≤k then l.getD (k-j).toNat 0 else 0
 | [],j,k=>by simp[cf,lst,zMo]
 | x::t,j,k=>by
  have ih:=zIx t (j+1) k;unfold cf at ih ⊢;rw[lst,zOs,ih];have h1:(ofL [(x,j)]).f dl k=if k=j then x else 0:=by
   show x*dl (k-j)+0=_;unfold dl
   by_cases h:k=j
   · subst h;simp
   · have:¬ (k-j=0):=by omega
     rw[if_neg this,if_neg h];simp
  rw[h1]
  by_cases h:k=j
  · subst h;rw[if_pos rfl,if_neg (by omega),if_pos (by omega)];simp
  · rw[if_neg h]
    by_cases h2:j≤k
    · rw[if_pos (by omega),if_pos h2];have:(k-j).toNat=(k-(j+1)).toNat+1:=by omega
      rw[this];simp
    · rw[if_neg (by omega),if_neg h2];simp
end Go.Lau
namespace Go.Lau
theorem zJr (a b c:A):a+(b+c)=b+(a+c):=by rw[← add_assoc,add_comm a b,add_assoc]
theorem add4 (a b c d:A):a+b+(c+d)=a+c+(b+d):=by rw[add_assoc,zJr b c d,← add_assoc]
theorem zz (a b c:A):a*(b*c)=b*(a*c):=by rw[← kp,mul_comm a b,kp]
def sumN:Nat→(Nat→A)→A
 | 0,_=>0
 | m+1,f=>sumN m f+f m
theorem zp:∀ {m:Nat}{f g:Nat→A},(∀ c,c<m→f c=g c)→sumN m f=sumN m g
 | 0,_,_,_=>rfl
 | m+1,f,g,h=>by
  show sumN m f+f m=sumN m g+g m;rw[zp (fun c hc=>h c (by omega)),h m (by omega)]
theorem zBx:∀ (m:Nat) (f g:Nat→A),sumN m (fun c=>f c+g c)=sumN m f+sumN m g
 | 0,_,_=>(zero_add 0).symm
 | m+1,f,g=>by
  show sumN m _+(f m+g m)=sumN m f+f m+(sumN m g+g m);rw[zBx m f g,add4]
theorem zC6:∀ (m:Nat) (u:A) (f:Nat→A),sumN m (fun c=>u*f c)=u*sumN m f
 | 0,u,_=>(zM u).symm
 | m+1,u,f=>by
  show sumN m _+u*f m=u*(sumN m f+f m);rw[zC6 m u f,zAO]
theorem zEv:∀ {m:Nat}{f:Nat→A},(∀ c,c<m→f c=0)→sumN m f=0
 | 0,_,_=>rfl
 | m+1,f,h=>by
  show sumN m f+f m=0;rw[zEv (fun c hc=>h c (by omega)),h m (by omega),add_zero]
theorem zLb {m a:Nat}{f:Nat→A}(ha:a<m) (h:∀ c,c<m→c≠a→f c=0):sumN m f=f a:=by
 induction m with
 | zero=>omega
 | succ m ih=>
  show sumN m f+f m=f a
  by_cases e:a=m
  · subst e;rw[zEv (fun c hc=>h c (by omega) (by omega)),zero_add]
  · rw[ih (by omega) (fun c hc hne=>h c (by omega) hne),h m (by omega) (by omega),add_zero]
theorem zPI {m a b:Nat}{f:Nat→A}(ha:a<m) (hb:b<m) (hab:a≠b) (h:∀ c,c<m→c≠a→c≠b→f c=0):sumN m f=f a+f b:=by
 have e:sumN m f=sumN m (fun c=>(if c=a then f a else 0)+(if c=b then f b else 0)):=zp fun c hc=>by
  by_cases h1:c=a
  · subst h1;rw[if_pos rfl,if_neg hab,add_zero]
  · by_cases h2:c=b
    · subst h2;rw[if_neg h1,if_pos rfl,zero_add]
    · rw[if_neg h1,if_neg h2,add_zero,h c hc h1 h2]
 rw[e,zBx,zLb ha (fun c _ hne=>if_neg hne),zLb hb (fun c _ hne=>if_neg hne),if_pos rfl,if_pos rfl]
theorem zM2 {m a b:Nat}{f g:Nat→A}(ha:a<m) (hb:b<m) (hab:a≠b) (h:∀ c,c<m→c≠a→c≠b→f c=g c) (h2:f a+f b=g a+g b):sumN m f=sumN m g:=by
 have e1:sumN m f=sumN m (fun c=>if c=a∨c=b then 0 else f c)+sumN m (fun c=>if c=a∨c=b then f c else 0):=by
  rw[← zBx];exact zp fun c _=>by split<;>simp[zero_add,add_zero]
 have e2:sumN m g=sumN m (fun c=>if c=a∨c=b then 0 else g c)+sumN m (fun c=>if c=a∨c=b then g c else 0):=by
  rw[← zBx];exact zp fun c _=>by split<;>simp[zero_add,add_zero]
 rw[e1,e2]
 congr 1
 · exact zp fun c hc=>by
    split
    · rfl
    · rename_i hn;exact h c hc (fun e=>hn (.inl e)) (fun e=>hn (.inr e))
 · rw[zPI ha hb hab (fun c _ h1 h2=>if_neg (by simp[h1,h2])),zPI ha hb hab (fun c _ h1 h2=>if_neg (by simp[h1,h2])),if_pos (.inl rfl),if_pos (.inr rfl),if_pos (.inl rfl),if_pos (.inr rfl)];exact h2
theorem zM3:∀ {m:Nat}{G:Nat→Nat→A},(∀ c d,c<m→d<m→c<d→G c d+G d c=0)→(∀ c,c<m→G c c=0)→sumN m (fun c=>sumN m (G c))=0
 | 0,_,_,_=>rfl
 | m+1,G,h,h0=>by
  show sumN m (fun c=>sumN m (G c)+G c m)+(sumN m (G m)+G m m)=0;rw[zBx,zM3 (fun c d hc hd=>h c d (by omega) (by omega)) (fun c hc=>h0 c (by omega)),zero_add,h0 m (by omega),add_zero,← zBx];exact zEv fun c hc=>h c m (by omega) (by omega) hc
abbrev St:=Nat→Bool
def sg (p:Bool) (a:A):A:=if p then -a else a
theorem zEw (p:Bool) (u a:A):sg p (u*a)=u*sg p a:=by cases p<;>simp[sg,zHf]
theorem zHP (p:Bool) (a b:A):sg p (a+b)=sg p a+sg p b:=by cases p<;>simp[sg,zHd]
theorem zJH (p:Bool):sg p 0=0:=by cases p<;>simp[sg,zND]
theorem zPN (p:Bool) (a:A):sg (!p) a=-sg p a:=by cases p<;>simp[sg,neg_neg]
theorem zSZ (p:Bool):∀ (m:Nat) (f:Nat→A),sg p (sumN m f)=sumN m (fun c=>sg p (f c))
 | 0,_=>zJH p
 | m+1,f=>by
  show sg p (sumN m f+f m)=_;rw[zHP,zSZ p m f]
  rfl
def par (S:St) (c:Nat):Nat→Bool
 | 0=>false
 | m+1=>if c<m∧S m=true then !(par S c m) else par S c m
def del (S:St) (c:Nat):St:=fun j=>if j=c then false else S j
theorem zA6 {S T:St}{c:Nat}:∀ {m:Nat},(∀ j,c<j→j<m→S j=T j)→par S c m=par T c m
 | 0,_=>rfl
 | m+1,h=>by
  have ih:=zA6 (S:=S) (T:=T) (c:=c) (m:=m) (fun j h1 h2=>h j h1 (by omega));unfold par;rw[ih]
  by_cases hc:c<m
  · rw[h m hc (by omega)]
  · rw[if_neg (by simp[hc]),if_neg (by simp[hc])]
theorem zGt {S T:St}{c d:Nat}(hcd:c<d) (hS:S d=true) (hT:T d=false):∀ {m:Nat},d<m→(∀ j,c<j→j<m→j≠d→S j=T j)→par S c m=!(par T c m)
 | 0,h,_=>by omega
 | m+1,h,hj=>by
  unfold par
  by_cases e:d=m
  · subst e;rw[if_pos ⟨hcd,hS⟩,if_neg (by simp[hT]),zA6 (fun j h1 h2=>hj j h1 (by omega) (by omega))]
  · have ih:=zGt hcd hS hT (m:=m) (by omega) (fun j h1 h2 h3=>hj j h1 (by omega) h3);rw[ih]
    by_cases hc:c<m
    · rw[hj m hc (by omega) (by omega)];split<;>simp
    · omega
theorem zR2 (S:St) (c d:Nat):del (del S c) d=del (del S d) c:=funext fun j=>by
 unfold del;by_cases h1:j=c<;>by_cases h2:j=d<;>simp[h1,h2]
abbrev Row:=Nat→A
abbrev Wf:=St→A
def wd (m:Nat) (w:Wf) (r:Row):Wf:=fun S=>sumN m fun c=>if S c=true then sg (par S c m) (r c*w (del S c)) else 0
theorem zSS (m:Nat) (w:Wf) (r s:Row) (u:A) (S:St):wd m w (fun c=>r c+u*s c) S=wd m w r S+u*wd m w s S:=by
 unfold wd;rw[← zC6,← zBx];refine zp fun c _=>?_
 by_cases h:S c=true
 · rw[if_pos h,if_pos h,if_pos h,add_mul,zHP,kp u,zEw _ u]
 · rw[if_neg h,if_neg h,if_neg h,zM,add_zero]
theorem zUX (m:Nat) (w v:Wf) (u:A) (r:Row) (S:St):wd m (fun T=>w T+u*v T) r S=wd m w r S+u*wd m v r S:=by
 unfold wd;rw[← zC6,← zBx];refine zp fun c _=>?_
 by_cases h:S c=true
 · rw[if_pos h,if_pos h,if_pos h,zAO,zHP,zz (r c) u,zEw _ u]
 · rw[if_neg h,if_neg h,if_neg h,zM,add_zero]
theorem zRA (m:Nat) (w:Wf) (u:A) (r:Row) (S:St):wd m (fun T=>u*w T) r S=u*wd m w r S:=by
 unfold wd;rw[← zC6];refine zp fun c _=>?_
 by_cases h:S c=true
 · rw[if_pos h,if_pos h,zz,zEw]
 · rw[if_neg h,if_neg h,zM]
theorem zOw (m:Nat) (w:Wf) (u:A) (r:Row) (S:St):wd m w (fun c=>u*r c) S=u*wd m w r S:=by
 unfold wd;rw[← zC6];refine zp fun c _=>?_
 by_cases h:S c=true
 · rw[if_pos h,if_pos h,kp,zEw]
 · rw[if_neg h,if_neg h,zM]
theorem zMs (m:Nat) (w:Wf) (r:Row) (S:St):wd m (wd m w r) r S=0:=by
 let G:Nat→Nat→A:=fun c d=>if S c=true then (if del S c d=true then sg (par S c m) (sg (par (del S c) d m) (r c*(r d*w (del (del S c) d)))) else 0) else 0
 have e:wd m (wd m w r) r S=sumN m (fun c=>sumN m (G c)):=by
  unfold wd;refine zp fun c _=>?_
  by_cases h:S c=true
  · rw[if_pos h];rw[← zC6,zSZ];refine zp fun d _=>?_;show _=G c d;simp only[G,if_pos h]
    by_cases h':del S c d=true
    · rw[if_pos h',if_pos h',← zEw]
    · rw[if_neg h',if_neg h',zM,zJH]
  · rw[if_neg h];symm;refine zEv fun d _=>?_;simp only[G,if_neg h]
 rw[e]
 refine zM3 (fun c d hc hd hcd=>?_) (fun c _=>?_)
 · simp only[G]
   by_cases h1:S c=true
   · by_cases h2:S d=true
     · have d1:del S c d=true:=by unfold del;rw[if_neg (by omega)];exact h2
       have d2:del S d c=true:=by unfold del;rw[if_neg (by omega)];exact h1
       rw[if_pos h1,if_pos h2,if_pos d1,if_pos d2,zR2 S d c];have p1:par (del S c) d m=par S d m:=zA6 fun j hj _=>by unfold del;rw[if_neg (by omega)]
       have p2:par S c m=!(par (del S d) c m):=zGt hcd h2 (by simp[del]) hd fun j _ _ hne=>by unfold del;rw[if_neg hne]
       rw[p1,p2,zPN,zz (r d) (r c)];generalize r c*(r d*w (del (del S c) d))=x
       cases par S d m<;>cases par (del S d) c m<;>simp[sg,neg_neg,zMm,zLu]
     · have d1:¬ del S c d=true:=by unfold del;split<;>simp[h2]
       rw[if_pos h1,if_neg h2,if_neg d1,add_zero]
   · by_cases h2:S d=true
     · have d2:¬ del S d c=true:=by unfold del;split<;>simp[h1]
       rw[if_neg h1,if_pos h2,if_neg d2,add_zero]
     · rw[if_neg h1,if_neg h2,add_zero]
 · simp only[G];have:¬ del S c c=true:=by simp[del]
   rw[if_neg this];split<;>rfl
def sw (a b:Nat) (S:St):St:=fun j=>if j=a then false else if j=b then true else S j
def colA (a b:Nat) (u:A) (r:Row):Row:=fun c=>if c=a then r a+u*r b else r c
def RelA (a b:Nat) (u:A) (w w':Wf):Prop:=∀ S,w' S=w S+(if S a=true∧S b=false then u*w (sw a b S) else 0)
theorem zT9 {m a b:Nat}(ha:a<m) (hb:b<m) (hab:a=b+1∨b=a+1) {u:A}{w w':Wf}(h:RelA a b u w w') (r:Row):RelA a b u (wd m w r) (wd m w' (colA a b u r)):=by
 intro S;have hne:a≠b:=by omega
 by_cases hSa:S a=true
 · by_cases hSb:S b=true
   ·
    rw[if_neg (by simp[hSb]),add_zero];have hda:del S a a=false:=by simp[del]
    have key:sw a b (del S b)=del S a:=funext fun j=>by
     unfold sw del
     by_cases h1:j=a
     · simp[h1]
     · by_cases h2:j=b
       · subst h2;simp[h1,hSb]
       · simp[h1,h2]
    unfold wd
    refine zM2 ha hb hne (fun c hc h1 h2=>?_) ?_
    · by_cases hc':S c=true
      · have g1:del S c b=true:=by unfold del;rw[if_neg (by omega)];exact hSb
        rw[if_pos hc',if_pos hc',h (del S c),if_neg (by simp[g1]),add_zero];unfold colA;rw[if_neg h1]
      · rw[if_neg hc',if_neg hc']
    · rw[if_pos hSa,if_pos hSb,if_pos hSa,if_pos hSb,h (del S a),if_neg (by simp[hda]),add_zero,h (del S b)];have g1:del S b a=true:=by unfold del;rw[if_neg hne];exact hSa
      have g2:del S b b=false:=by simp[del]
      rw[if_pos ⟨g1,g2⟩,key];have c1:colA a b u r a=r a+u*r b:=if_pos rfl;have c2:colA a b u r b=r b:=if_neg (by omega);rw[c1,c2,add_mul,zAO,zHP,zHP,add4];have hp:par S a m=!(par S b m):=by
       rcases hab with e | e
       ·
        have:par S b m=!(par (del S a) b m):=zGt (by omega) hSa hda ha fun j _ _ hj=>by unfold del;rw[if_neg hj]
        have q:par (del S a) b m=par S a m:=by
         have q1:par S a m=par (del S a) a m:=zA6 fun j h1 _=>by unfold del;rw[if_neg (by omega)]
         rw[q1];have:∀ n,par (del S a) b n=par (del S a) a n:=by
          intro n
          induction n with
          | zero=>rfl
          | succ n ih=>
           unfold par;rw[ih]
           by_cases h1:n=a
           · rw[h1,if_neg (by simp[hda]),if_neg (by simp[hda])]
           · by_cases h2:a<n
             · have:b<n:=by omega
               simp[h2,this]
             · have:¬ b<n:=by omega
               simp[h2,this]
         exact this m
        rw[this,q,Bool.not_not]
       · have hdb:del S b b=false:=by simp[del]
         have:par S a m=!(par (del S b) a m):=zGt (by omega) hSb hdb hb fun j _ _ hj=>by unfold del;rw[if_neg hj]
         have q:par (del S b) a m=par S b m:=by
          have q1:par S b m=par (del S b) b m:=zA6 fun j h1 _=>by unfold del;rw[if_neg (by omega)]
          rw[q1];have:∀ n,par (del S b) a n=par (del S b) b n:=by
           intro n
           induction n with
           | zero=>rfl
           | succ n ih=>
            unfold par;rw[ih]
            by_cases h1:n=b
            · rw[h1,if_neg (by simp[hdb]),if_neg (by simp[hdb])]
            · by_cases h2:b<n
              · have:a<n:=by omega
                simp[h2,this]
              · have:¬ a<n:=by omega
                simp[h2,this]
          exact this m
         rw[this,q]
      have z:sg (par S a m) (u*r b*w (del S a))+sg (par S b m) (r b*(u*w (del S a)))=0:=by
       rw[hp,zPN,kp,zz (r b) u];exact zLu _
      rw[z,add_zero]
   ·
    have hSb':S b=false:=by simpa using hSb
    rw[if_pos ⟨hSa,hSb'⟩];have key:∀ c,c≠a→c≠b→del (sw a b S) c=sw a b (del S c):=fun c h1 h2=>funext fun j=>by
     unfold sw del
     by_cases e1:j=a
     · subst e1;simp[show ¬ j=c from fun e=>h1 e.symm]
     · by_cases e2:j=b
       · subst e2;simp[e1,show ¬ j=c from fun e=>h2 e.symm]
       · simp[e1,e2]
    have key2:del (sw a b S) b=del S a:=funext fun j=>by
     unfold sw del
     by_cases e1:j=b
     · subst e1;simp[hSb',show ¬ j=a by omega]
     · by_cases e2:j=a
       · simp[e1,e2]
       · simp[e1,e2]
    have pc:∀ c,c<m→c≠a→c≠b→par (sw a b S) c m=par S c m:=by
     intro c hc h1 h2;have g:∀ n,(max a b<n→par (sw a b S) c n=par S c n)∧(n≤min a b→par (sw a b S) c n=par S c n)∧(n=max a b→c<min a b→par (sw a b S) c n=!(par S c n) )∧(n=max a b→max a b<c→par (sw a b S) c n=par S c n):=by
      intro n
      induction n with
      | zero=>exact⟨fun h=>by omega,fun _=>rfl,fun h=>by omega,fun _ _=>rfl⟩
      | succ n ih=>
       obtain⟨i1,i2,i3,i4⟩:=ih;have step:par (sw a b S) c (n+1)=if c<n∧sw a b S n=true then !(par (sw a b S) c n) else par (sw a b S) c n:=rfl
       have step':par S c (n+1)=if c<n∧S n=true then !(par S c n) else par S c n:=rfl
       have swa:sw a b S a=false:=by simp[sw]
       have swb:sw a b S b=true:=by unfold sw;rw[if_neg (by omega),if_pos rfl]
       have swo:∀ j,j≠a→j≠b→sw a b S j=S j:=fun j q1 q2=>by unfold sw;rw[if_neg q1,if_neg q2]
       refine⟨fun hh=>?_,fun hh=>?_,fun hh hc'=>?_,fun hh hc'=>?_⟩
       · rw[step,step']
         by_cases q:n=max a b
         · by_cases hcl:c<min a b
           · have i3':=i3 q hcl
             rcases hab with e | e
             · have hn:n=a:=by omega
               subst hn;rw[swa,hSa,i3'];simp[show c<n by omega]
             · have hn:n=b:=by omega
               subst hn;rw[swb,hSb',i3'];simp[show c<n by omega]
           · have i4':=i4 q (by omega);rw[i4'];simp[show ¬ c<n by omega]
         · rw[i1 (by omega),swo n (by omega) (by omega)]
       · rw[step,step',i2 (by omega),swo n (by omega) (by omega)]
       · rw[step,step'];have hn:n=min a b:=by omega
         rw[i2 (by omega)]
         rcases hab with e | e
         · have hn:n=b:=by omega
           subst hn;rw[swb,hSb'];simp[show c<n by omega]
         · have hn:n=a:=by omega
           subst hn;rw[swa,hSa];simp[show c<n by omega]
       · rw[step,step'];have hn:n=min a b:=by omega
         rw[i2 (by omega)];simp[show ¬ c<n by omega]
     exact (g m).1 (by omega)
    have pa:par (sw a b S) b m=par S a m:=by
     have g:∀ n,par (sw a b S) b n=par S a n:=by
      intro n
      induction n with
      | zero=>rfl
      | succ n ih=>
       unfold par;rw[ih];have swa:sw a b S a=false:=by simp[sw]
       by_cases h1:n=a
       · subst h1;simp[swa]
       · by_cases h2:n=b
         · subst h2;simp[hSb']
         · have e:sw a b S n=S n:=by unfold sw;rw[if_neg h1,if_neg h2]
           rw[e]
           by_cases h3:b<n
           · have:a<n:=by omega
             simp[h3,this]
           · have:¬ a<n:=by omega
             simp[h3,this]
     exact g m
    unfold wd;rw[← zC6,← zBx]
    refine zM2 ha hb hne (fun c hc h1 h2=>?_) ?_
    · have es:sw a b S c=S c:=by unfold sw;rw[if_neg h1,if_neg h2]
      rw[es]
      by_cases hc':S c=true
      · have g1:del S c a=true:=by unfold del;rw[if_neg (by omega)];exact hSa
        have g2:del S c b=false:=by unfold del;rw[if_neg (by omega)];exact hSb'
        rw[if_pos hc',if_pos hc',if_pos hc',h (del S c),if_pos ⟨g1,g2⟩,key c h1 h2,pc c hc h1 h2];unfold colA;rw[if_neg h1,zAO,zHP,zz (r c) u,zEw _ u]
      · rw[if_neg hc',if_neg hc',if_neg hc',zM,add_zero]
    · have s1:sw a b S a=false:=by simp[sw]
      have s2:sw a b S b=true:=by unfold sw;rw[if_neg (by omega),if_pos rfl]
      have hda:del S a a=false:=by simp[del]
      rw[if_pos hSa,if_neg (by simp[hSb']),if_pos hSa,if_neg (by simp[s1]),if_neg (by simp[hSb']),if_pos s2,h (del S a),if_neg (by simp[hda]),add_zero,key2,pa];have c1:colA a b u r a=r a+u*r b:=if_pos rfl;rw[c1,add_mul,zHP,zM,add_zero,zero_add,add_zero,kp u,zEw _ u]
 · have hSa':S a=false:=by simpa using hSa
   rw[if_neg (by simp[hSa']),add_zero];unfold wd;refine zp fun c _=>?_
   by_cases hc':S c=true
   · have h1:c≠a:=fun e=>by rw[e,hSa'] at hc';simp at hc'
     have g1:del S c a=false:=by unfold del;split<;>simp[hSa']
     rw[if_pos hc',if_pos hc',h (del S c),if_neg (by simp[g1]),add_zero];unfold colA;rw[if_neg h1]
   · rw[if_neg hc',if_neg hc']
def colS (a:Nat) (u:A) (r:Row):Row:=fun c=>if c=a then u*r a else r c
def RelS (a:Nat) (u:A) (w w':Wf):Prop:=∀ S,w' S=if S a=true then u*w S else w S
theorem zT8 {m a:Nat}{u:A}{w w':Wf}(h:RelS a u w w') (r:Row):RelS a u (wd m w r) (wd m w' (colS a u r)):=by
 intro S
 by_cases hSa:S a=true
 · rw[if_pos hSa];unfold wd;rw[← zC6];refine zp fun c _=>?_
   by_cases hc':S c=true
   · rw[if_pos hc',if_pos hc',h (del S c)];unfold colS
     by_cases e:c=a
     · subst e;have:¬ del S c c=true:=by simp[del]
       rw[if_neg this,if_pos rfl,kp,zEw]
     · have:del S c a=true:=by unfold del;rw[if_neg (by omega)];exact hSa
       rw[if_pos this,if_neg e,zz,zEw]
   · rw[if_neg hc',if_neg hc',zM]
 · rw[if_neg hSa];unfold wd;refine zp fun c _=>?_
   by_cases hc':S c=true
   · have h1:c≠a:=fun e=>hSa (e ▸ hc');have:¬ del S c a=true:=by unfold del;split<;>simp[hSa]
     rw[if_pos hc',if_pos hc',h (del S c),if_neg this];unfold colS;rw[if_neg h1]
   · rw[if_neg hc',if_neg hc']
end Go.Lau
namespace Go.Lau
def w0 (m:Nat):Wf:=fun S=>if (List.range m).all (fun j=>!S j) then 1 else 0
theorem zO0 {m a:Nat}{S:St}(ha:a<m) (h:S a=true):w0 m S=0:=by
 unfold w0;rw[if_neg];intro h';rw[List.all_eq_true] at h';have:=h' a (List.mem_range.2 ha);simp[h] at this
def wl (m:Nat) (w:Wf) (rows:List Row):Wf:=rows.foldl (wd m) w
theorem zMr (m:Nat) (w:Wf) (a b:List Row):wl m w (a++b)=wl m (wl m w a) b:=by simp[wl]
theorem zD6 (m:Nat) (w:Wf) (r:Row) (b:List Row):wl m w (r::b)=wl m (wd m w r) b:=rfl
def full:St:=fun _=>true
def det (m:Nat) (N:Nat→Row):A:=wl m (w0 m) ((List.range m).map N) full
theorem zMq (m:Nat) (u:A):∀ (rows:List Row) (w:Wf),wl m (fun S=>u*w S) rows=fun S=>u*wl m w rows S
 | [],w=>rfl
 | r::rows,w=>by
  rw[zD6,zD6,← zMq m u rows];congr 1;exact funext fun S=>zRA m w u r S
def lastR:List Row→Row
 | []=>fun _=>0
 | [r]=>r
 | _::r::t=>lastR (r::t)
def headR:List Row→Row
 | []=>fun _=>0
 | r::_=>r
theorem zSO (m:Nat) (w:Wf) (x y:Row) (v:A):wd m (wd m w (fun c=>x c+v*y c)) y=wd m (wd m w x) y:=funext fun S=>by
 have e:wd m w (fun c=>x c+v*y c)=fun T=>wd m w x T+v*wd m w y T:=funext fun T=>zSS m w x y v T;rw[e,zUX,zMs,zM,add_zero]
theorem zSN (m:Nat) (w:Wf) (x y:Row) (u:A):wd m (wd m w y) (fun c=>x c+u*y c)=wd m (wd m w y) x:=funext fun S=>by
 rw[zSS,zMs,zM,add_zero]
theorem zNL (a:List Row) (r:Row):lastR (a++[r])=r:=by
 induction a with
 | nil=>rfl
 | cons x a ih=>
  cases a with
  | nil=>rfl
  | cons y a=>exact ih
theorem zRU (m:Nat) (pre post:List Row) (q:Row) (u s v:A) (w:Wf):
  wl m w (pre++(fun c=>s*q c+v*headR post c+u*lastR pre c)::post)=fun S=>s*wl m w (pre++q::post) S:=by
 have h1:∀ x:Row,wd m (wl m w pre) (fun c=>x c+u*lastR pre c)=wd m (wl m w pre) x:=fun x=>by
  by_cases h:pre=[]
  · subst h;congr 1;exact funext fun c=>by simp[lastR,zM,add_zero]
  · obtain⟨a,r,rfl⟩:∃ a r,pre=a++[r]:=⟨pre.dropLast,pre.getLast h,(List.dropLast_concat_getLast h).symm⟩;rw[zNL,zMr];exact zSN m _ x r u
 have h2:∀ x:Row,wl m (wd m (wl m w pre) (fun c=>x c+v*headR post c)) post=wl m (wd m (wl m w pre) x) post:=fun x=>by
  cases post with
  | nil=>
   congr 1;congr 1;exact funext fun c=>by simp[headR,zM,add_zero]
  | cons r post=>
   rw[zD6,zD6];congr 1;exact zSO m _ x r v
 rw[zMr,zD6,h1,h2,zMr,zD6,← zMq];congr 1;exact funext fun S=>zOw m _ s q S
def rowL (m p:Nat) (u s v:A) (N:Nat→Row):Nat→Row:=fun k=>if k=p then (fun c=>s*N p c+(if p+1<m then v*N (p+1) c else 0)+(if 1≤p then u*N (p-1) c else 0)) else N k
theorem zRz {m p:Nat}(hp:p<m) (u s v:A) (N:Nat→Row):det m (rowL m p u s v N)=s*det m N:=by
 have er:List.range m=List.range p++p::List.range' (p+1) (m-p-1):=by
  have h1:List.range m=List.range' 0 m:=List.range_eq_range';have h2:List.range p=List.range' 0 p:=List.range_eq_range';rw[h1,h2];have h3:List.range' 0 m=List.range' 0 p++List.range' (0+p) (m-p):=by
   have:=List.range'_append (s:=0) (m:=p) (n:=m-p) (step:=1);rw[show p+(m-p)=m by omega] at this;rw[← this];simp
  rw[h3,show m-p=(m-p-1)+1 by omega,List.range'_succ];simp
 have e1:(List.range p).map (rowL m p u s v N)=(List.range p).map N:=List.map_congr_left fun k hk=>by
  have:=List.mem_range.1 hk;unfold rowL;rw[if_neg (by omega)]
 have e2:(List.range' (p+1) (m-p-1)).map (rowL m p u s v N)=(List.range' (p+1) (m-p-1)).map N:=List.map_congr_left fun k hk=>by
  have:=(List.mem_range'_1.1 hk).1;unfold rowL;rw[if_neg (by omega)]
 have hh:∀ c,(if p+1<m then v*N (p+1) c else 0)=v*headR ((List.range' (p+1) (m-p-1)).map N) c:=fun c=>by
  by_cases h:p+1<m
  · rw[if_pos h,show m-p-1=(m-p-2)+1 by omega,List.range'_succ]
    rfl
  · rw[if_neg h,show m-p-1=0 by omega];simp[headR,zM]
 have hl:∀ c,(if 1≤p then u*N (p-1) c else 0)=u*lastR ((List.range p).map N) c:=fun c=>by
  by_cases h:1≤p
  · rw[if_pos h];have:List.range p=List.range (p-1)++[p-1]:=by
     have h5:=List.range_succ (n:=p-1);have h6:(p-1).succ=p:=by omega
     rwa [h6] at h5
    rw[this,List.map_append,List.map_cons,List.map_nil,zNL]
  · rw[if_neg h,show p=0 by omega];simp[lastR,zM]
 have ep:rowL m p u s v N p=fun c=>s*N p c+v*headR ((List.range' (p+1) (m-p-1)).map N) c+u*lastR ((List.range p).map N) c:=by
  unfold rowL;rw[if_pos rfl];exact funext fun c=>by rw[hh,hl]
 unfold det;rw[er,List.map_append,List.map_cons,List.map_append,List.map_cons,e1,e2,ep,zRU]
theorem zG0 {m a b:Nat}(ha:a<m) (hb:b<m) (hab:a=b+1∨b=a+1) (u:A) (N:Nat→Row):det m (fun k=>colA a b u (N k))=det m N:=by
 have key:∀ (rows:List Row) (w w':Wf),RelA a b u w w'→RelA a b u (wl m w rows) (wl m w' (rows.map (colA a b u))):=by
  intro rows
  induction rows with
  | nil=>intro w w' h;exact h
  | cons r rows ih=>intro w w' h;exact ih _ _ (zT9 ha hb hab h r)
 have base:RelA a b u (w0 m) (w0 m):=fun S=>by
  by_cases h:S a=true∧S b=false
  · have s2:sw a b S b=true:=by unfold sw;rw[if_neg (by omega),if_pos rfl]
    rw[if_pos h,zO0 hb s2,zM,add_zero]
  · rw[if_neg h,add_zero]
 have:=key ((List.range m).map N) _ _ base full;rw[if_neg (by simp[full]),add_zero] at this;unfold det;rw[← this,List.map_map]
 rfl
theorem zR1 {m a:Nat}(ha:a<m) (u:A) (N:Nat→Row):det m (fun k=>colS a u (N k))=u*det m N:=by
 have key:∀ (rows:List Row) (w w':Wf),RelS a u w w'→RelS a u (wl m w rows) (wl m w' (rows.map (colS a u))):=by
  intro rows
  induction rows with
  | nil=>intro w w' h;exact h
  | cons r rows ih=>intro w w' h;exact ih _ _ (zT8 h r)
 have base:RelS a u (w0 m) (w0 m):=fun S=>by
  by_cases h:S a=true
  · rw[if_pos h,zO0 ha h,zM]
  · rw[if_neg h]
 have:=key ((List.range m).map N) _ _ base full;rw[if_pos (show full a=true from rfl)] at this;unfold det;rw[← this,List.map_map]
 rfl
def stp (m p:Nat) (u s v:A) (r:Row):Row:=fun c=>if c=p then s*r p else r c+(if 1≤p∧c=p-1 then u*r p else 0)+(if p+1<m∧c=p+1 then v*r p else 0)
theorem zRK {m p:Nat}(u s v:A) (r:Row):stp m p u s v r=colS p s (let r1:=if 1≤p then colA (p-1) p u r else r;if p+1<m then colA (p+1) p v r1 else r1):=funext fun c=>by
 unfold stp colS;have a1:¬ p=p+1:=by omega
 have a4:¬ p+1=p-1:=by omega
 by_cases h1:1≤p
 · have a2:¬ p=p-1:=by omega
   by_cases h2:p+1<m
   · simp only[if_pos h1,if_pos h2];unfold colA;simp only[if_neg a1,if_neg a2,if_neg a4]
     by_cases c1:c=p
     · rw[if_pos c1,if_pos c1]
     · rw[if_neg c1,if_neg c1]
       by_cases c2:c=p-1
       · have z3:¬ c=p+1:=by omega
         have z4:¬ (p+1<m∧c=p+1):=fun h=>z3 h.2;rw[if_pos (And.intro h1 c2),if_neg z4,if_neg z3,if_pos c2,add_zero,c2]
       · have z2:¬ (1≤p∧c=p-1):=fun h=>c2 h.2;rw[if_neg z2,add_zero]
         by_cases c3:c=p+1
         · rw[if_pos (And.intro h2 c3),if_pos c3,c3]
         · have z4:¬ (p+1<m∧c=p+1):=fun h=>c3 h.2;rw[if_neg z4,if_neg c3,if_neg c2,add_zero]
   · simp only[if_pos h1,if_neg h2];unfold colA;simp only[if_neg a2]
     by_cases c1:c=p
     · rw[if_pos c1,if_pos c1]
     · have z4:¬ (p+1<m∧c=p+1):=fun h=>h2 h.1;rw[if_neg c1,if_neg c1,if_neg z4,add_zero]
       by_cases c2:c=p-1
       · rw[if_pos (And.intro h1 c2),if_pos c2,c2]
       · have z2:¬ (1≤p∧c=p-1):=fun h=>c2 h.2;rw[if_neg z2,if_neg c2,add_zero]
 · have z2:¬ (1≤p∧c=p-1):=fun h=>h1 h.1
   by_cases h2:p+1<m
   · simp only[if_neg h1,if_pos h2];unfold colA;simp only[if_neg a1]
     by_cases c1:c=p
     · rw[if_pos c1,if_pos c1]
     · rw[if_neg c1,if_neg c1,if_neg z2,add_zero]
       by_cases c3:c=p+1
       · rw[if_pos (And.intro h2 c3),if_pos c3,c3]
       · have z4:¬ (p+1<m∧c=p+1):=fun h=>c3 h.2;rw[if_neg z4,if_neg c3,add_zero]
   · have z4:¬ (p+1<m∧c=p+1):=fun h=>h2 h.1;simp only[if_neg h1,if_neg h2]
     by_cases c1:c=p
     · rw[if_pos c1,if_pos c1]
     · rw[if_neg c1,if_neg c1,if_neg z2,if_neg z4,add_zero,add_zero]
theorem zT7 {m p:Nat}(hp:p<m) (u s v:A) (N:Nat→Row):det m (fun k=>stp m p u s v (N k))=s*det m N:=by
 have e:(fun k=>stp m p u s v (N k))=fun k=>colS p s ((fun k=>(let r1:=if 1≤p then colA (p-1) p u (N k) else N k;if p+1<m then colA (p+1) p v r1 else r1)) k):=funext fun k=>zRK u s v (N k);rw[e,zR1 hp];congr 1
 by_cases h1:1≤p
 · by_cases h2:p+1<m
   · simp only[if_pos h1,if_pos h2];rw[zG0 h2 hp (.inl rfl) v (fun k=>colA (p-1) p u (N k)),zG0 (by omega) hp (.inr (by omega)) u N]
   · simp only[if_pos h1,if_neg h2];exact zG0 (by omega) hp (.inr (by omega)) u N
 · by_cases h2:p+1<m
   · simp only[if_neg h1,if_pos h2];exact zG0 h2 hp (.inl rfl) v N
   · simp only[if_neg h1,if_neg h2]
theorem zPK (m p:Nat) (u s v:A) (r q:Row) (x:A):stp m p u s v (fun c=>r c+x*q c)=fun c=>stp m p u s v r c+x*stp m p u s v q c:=funext fun c=>by
 unfold stp
 by_cases h:c=p
 · rw[if_pos h,if_pos h,if_pos h,zAO,zz]
 · rw[if_neg h,if_neg h,if_neg h];have e1:∀ (P:Prop) [Decidable P] (k:A),(if P then k*(r p+x*q p) else 0)=(if P then k*r p else 0)+x*(if P then k*q p else 0):=fun P _ k=>by
    by_cases hP:P
    · rw[if_pos hP,if_pos hP,if_pos hP,zAO,zz]
    · rw[if_neg hP,if_neg hP,if_neg hP,zM,add_zero]
   rw[e1,e1,zAO,zAO,add4 (r c),add4]
def lu (x:Int):A:=if 0<x then tt 1 else 1
def ls (x:Int):A:=if 0<x then -tt 1 else -tt (-1)
def lv (x:Int):A:=if 0<x then 1 else tt (-1)
def lstp (m:Nat) (x:Int) (r:Row):Row:=stp m (x.natAbs-1) (lu x) (ls x) (lv x) r
theorem zSW:tt 1*tt (-1)=1:=by rw[zSX];rfl
theorem zPB:tt (-1)*tt 1=1:=by rw[zSX];rfl
theorem zSx {x:Int}(hx:x≠0):ls (-x)*ls x=1:=by
 unfold ls
 by_cases h:0<x
 · rw[if_neg (by omega),if_pos h,jB,zHf,neg_neg,zPB]
 · rw[if_pos (by omega),if_neg h,jB,zHf,neg_neg,zSW]
theorem zPz (m:Nat) {x:Int}(hx:x≠0) (r:Row):lstp m (-x) (lstp m x r)=r:=funext fun c=>by
 unfold lstp;rw[Int.natAbs_neg];generalize x.natAbs-1=p;have e0:stp m p (lu x) (ls x) (lv x) r p=ls x*r p:=if_pos rfl;unfold stp at e0 ⊢
 by_cases h:c=p
 · rw[if_pos h,if_pos rfl,← kp,zSx hx,one_mul,h]
 · rw[if_neg h,if_neg h,if_pos rfl];have c1:lu (-x)*(ls x*r p)=-(lu x*r p):=by
    rw[← kp];unfold lu ls
    by_cases h:0<x
    · rw[if_neg (by omega),if_pos h,if_pos h,one_mul,jB]
    · rw[if_pos (by omega),if_neg h,if_neg h,zHf,zSW,jB]
   have c2:lv (-x)*(ls x*r p)=-(lv x*r p):=by
    rw[← kp];unfold lv ls
    by_cases h:0<x
    · rw[if_neg (by omega),if_pos h,if_pos h,zHf,zPB,jB]
    · rw[if_pos (by omega),if_neg h,if_neg h,one_mul,jB]
   rw[c1,c2]
   by_cases q1:1≤p∧c=p-1
   · have q2:¬ (p+1<m∧c=p+1):=fun h=>by omega
     rw[if_pos q1,if_pos q1,if_neg q2,if_neg q2,add_zero,add_zero,add_assoc,zMm,add_zero]
   · rw[if_neg q1,if_neg q1,add_zero,add_zero]
     by_cases q2:p+1<m∧c=p+1
     · rw[if_pos q2,if_pos q2,add_assoc,zMm,add_zero]
     · rw[if_neg q2,if_neg q2,add_zero,add_zero]
def unit (k:Nat):Row:=fun c=>if c=k then 1 else 0
def rwd (m:Nat) (w:List Int) (r:Row):Row:=w.foldl (fun r x=>lstp m x r) r
theorem zPT (m:Nat):∀ (w:List Int) (r q:Row) (x:A),rwd m w (fun c=>r c+x*q c)=fun c=>rwd m w r c+x*rwd m w q c
 | [],r,q,x=>rfl
 | y::w,r,q,x=>by
  show rwd m w (lstp m y _)=fun c=>rwd m w (lstp m y r) c+x*rwd m w (lstp m y q) c;rw[← zPT m w];congr 1;exact zPK ..
def Nw (m:Nat) (w:List Int):Nat→Row:=fun k c=>unit k c+(-1)*rwd m w (unit k) c
def defect (m:Nat) (w:List Int) (r:Row):Row:=fun c=>r c+(-1)*rwd m w r c
theorem zDg (m:Nat) (w:List Int) (r q:Row) (x:A):defect m w (fun c=>r c+x*q c)=fun c=>defect m w r c+x*defect m w q c:=funext fun c=>by
 unfold defect;rw[zPT,zAO,zAO,add4,zz]
theorem zMA (m:Nat) (w:List Int):defect m w (fun _=>0)=fun _=>0:=by
 have:=zDg m w (fun _=>0) (fun _=>0) 0;have e:(fun c:Nat=>(0:A)+0*0)=fun _=>0:=funext fun _=>by rw[zero_mul,zero_add]
 rw[e] at this;refine funext fun c=>?_;have h:=congrFun this c;rw[zero_mul,add_zero] at h;have z:∀ (w:List Int) (r:Row),(∀ c,r c=0)→∀ c,rwd m w r c=0:=by
  intro w
  induction w with
  | nil=>intro r h c;exact h c
  | cons x w ih=>
   intro r h c;refine ih _ (fun c=>?_) c;show lstp m x r c=0;unfold lstp stp
   split
   · rw[h,zM]
   · rw[h,h,zM,zM,zero_add];split<;>split<;>rw[add_zero]
 unfold defect;rw[z w _ (fun _=>rfl),zM,add_zero]
theorem zKp (m:Nat) (w:List Int) (q:Row) (x:A):defect m w (fun c=>x*q c)=fun c=>x*defect m w q c:=by
 have:=zDg m w (fun _=>0) q x;rw[zMA] at this;have e1:(fun c=>(0:A)+x*q c)=fun c=>x*q c:=funext fun c=>zero_add _;rw[e1] at this;rw[this];exact funext fun c=>zero_add _
theorem zPy (m:Nat) (x:Int) {k:Nat}(hk:k≠x.natAbs-1):lstp m x (unit k)=unit k:=funext fun c=>by
 unfold lstp stp unit;have h0:¬ (x.natAbs-1=k):=fun e=>hk e.symm
 by_cases h:c=x.natAbs-1
 · rw[if_pos h,if_neg h0,if_neg (by omega),zM]
 · rw[if_neg h,if_neg h0,zM,zM];split<;>split<;>simp[add_zero]
theorem zOQ (m:Nat) (x:Int):lstp m x (unit (x.natAbs-1))=fun c=>ls x*unit (x.natAbs-1) c+(if x.natAbs-1+1<m then lv x*unit (x.natAbs-1+1) c else 0)+(if 1≤x.natAbs-1 then lu x*unit (x.natAbs-1-1) c else 0):=funext fun c=>by
 unfold lstp;generalize x.natAbs-1=p;unfold stp unit;have hp:(if p=p then (1:A) else 0)=1:=if_pos rfl;rw[hp,mul_one,mul_one,mul_one];have k1:¬ p=p+1:=by omega
 by_cases h:c=p
 · subst h;rw[if_pos rfl,if_pos rfl,mul_one,if_neg k1,zM,ite_self,add_zero]
   by_cases h2:1≤c
   · have h3:¬ c=c-1:=by omega
     rw[if_pos h2,if_neg h3,zM,add_zero]
   · rw[if_neg h2,add_zero]
 · rw[if_neg h,if_neg h,zM,zero_add,zero_add]
   by_cases h1:c=p+1
   · have h3:¬ c=p-1:=by omega
     have z:¬ (1≤p∧c=p-1):=fun h=>h3 h.2;rw[if_neg z,zero_add,if_pos h1,mul_one,if_neg h3,zM,ite_self,add_zero]
     by_cases h4:p+1<m
     · rw[if_pos (And.intro h4 h1),if_pos h4]
     · have z':¬ (p+1<m∧c=p+1):=fun h=>h4 h.1;rw[if_neg z',if_neg h4]
   · have z':¬ (p+1<m∧c=p+1):=fun h=>h1 h.2;rw[if_neg z',add_zero,if_neg h1,zM,ite_self,zero_add]
     by_cases h3:c=p-1
     · by_cases h2:1≤p
       · rw[if_pos (And.intro h2 h3),if_pos h2,if_pos h3,mul_one]
       · omega
     · have z:¬ (1≤p∧c=p-1):=fun h=>h3 h.2;rw[if_neg z,if_neg h3,zM,ite_self]
theorem det_conj {m:Nat}{x:Int}(hx:x≠0) (hm:x.natAbs-1<m) (w:List Int):det m (Nw m (x::w++[-x]))=det m (Nw m w):=by
 have e:∀ k,Nw m (x::w++[-x]) k=lstp m (-x) (defect m w (lstp m x (unit k))):=fun k=>by
  have h1:rwd m (x::w++[-x]) (unit k)=lstp m (-x) (rwd m w (lstp m x (unit k))):=by
   unfold rwd;rw[List.cons_append,List.foldl_cons,List.foldl_append]
   rfl
  have h2:unit k=lstp m (-x) (lstp m x (unit k)):=(zPz m hx _).symm;have h3:defect m w (lstp m x (unit k))=fun c=>lstp m x (unit k) c+(-1)*rwd m w (lstp m x (unit k)) c:=rfl;refine funext fun c=>?_;have h4:=congrFun (zPK m ((-x).natAbs-1) (lu (-x)) (ls (-x)) (lv (-x)) (lstp m x (unit k)) (rwd m w (lstp m x (unit k))) (-1)) c;show unit k c+(-1)*rwd m (x::w++[-x]) (unit k) c=_;rw[h1,h3];refine Eq.trans ?_ h4.symm;show _=lstp m (-x) (lstp m x (unit k)) c+_;rw[← h2]
  rfl
 have e2:∀ k,defect m w (lstp m x (unit k))=rowL m (x.natAbs-1) (lu x) (ls x) (lv x) (Nw m w) k:=fun k=>by
  unfold rowL
  by_cases h:k=x.natAbs-1
  · rw[if_pos h,h,zOQ];generalize x.natAbs-1=p
    have f1:(fun c=>ls x*unit p c+(if p+1<m then lv x*unit (p+1) c else 0)+(if 1≤p then lu x*unit (p-1) c else 0))=
      fun c=>(fun c=>(fun c=>ls x*unit p c) c+(if p+1<m then lv x else 0)*unit (p+1) c) c+(if 1≤p then lu x else 0)*unit (p-1) c:=funext fun c=>by
     by_cases q1:p+1<m<;>by_cases q2:1≤p<;>simp[q1,q2,zero_mul]
    rw[f1,zDg,zDg,zKp];refine funext fun c=>?_;show ls x*Nw m w p c+(if p+1<m then lv x else 0)*Nw m w (p+1) c+(if 1≤p then lu x else 0)*Nw m w (p-1) c=_;by_cases q1:p+1<m<;>by_cases q2:1≤p<;>simp[q1,q2,zero_mul]
  · rw[if_neg h,zPy m x h]
    rfl
 have e3:Nw m (x::w++[-x])=fun k=>stp m ((-x).natAbs-1) (lu (-x)) (ls (-x)) (lv (-x)) (rowL m (x.natAbs-1) (lu x) (ls x) (lv x) (Nw m w) k):=funext fun k=>by rw[e,e2];rfl
 rw[e3,zT7 (by rw[Int.natAbs_neg];exact hm),zRz hm,← kp,zSx hx,one_mul]
end Go.Lau
namespace Go.Lau
theorem zS5 (a b:A) (k:Int):cf (a+b) k=cf a k+cf b k:=rfl
theorem zUW (g:Fn) (N:Nat):∃ m:Mon,∀ i:Int,-(N:Int)≤i→i≤N→opL m dl i=g i:=by
 obtain⟨m,hm⟩:=(lst (-(N:Int)) ((List.range (2*N+1)).map fun (p:Nat)=>g ((p:Int)-N))).rep;refine⟨m,fun i h1 h2=>?_⟩;have:=zIx ((List.range (2*N+1)).map fun (p:Nat)=>g ((p:Int)-N)) (-(N:Int)) i;unfold cf at this;rw[hm] at this;rw[this,if_pos h1];have hl:(i - -(N:Int)).toNat<2*N+1:=by omega
 rw[List.getD_eq_getElem?_getD,List.getElem?_map,List.getElem?_range hl];show g (((i - -(N:Int)).toNat:Int)-N)=g i;congr 1;omega
theorem zHa:∀ (l:Mon) (k:Int),∃ N:Nat,∀ M:Nat,N≤M→∀ g h:Fn,(∀ i:Int,-(M:Int)≤i→i≤M→g i=h i)→opL l g k=opL l h k
 | [],k=>⟨0,fun _ _ _ _ _=>rfl⟩
 | (r,j)::l,k=>by
  obtain⟨N,hN⟩:=zHa l k;refine⟨max N (k-j).natAbs,fun M hM g h e=>?_⟩;show r*g (k-j)+opL l g k=r*h (k-j)+opL l h k;rw[e (k-j) (by omega) (by omega),hN M (by omega) g h e]
theorem A.eq_cf {a b:A}(h:∀ k,cf a k=cf b k):a=b:=A.ext fun g k=>by
 obtain⟨l,hl⟩:=a.rep;obtain⟨m,hm⟩:=b.rep;obtain⟨N1,h1⟩:=zHa l k;obtain⟨N2,h2⟩:=zHa m k;obtain⟨q,hq⟩:=zUW g (max N1 N2);rw[hl,hm,h1 (max N1 N2) (by omega) g (opL q dl) (fun i a b=>(hq i a b).symm),h2 (max N1 N2) (by omega) g (opL q dl) (fun i a b=>(hq i a b).symm),zGv l q,zGv m q];have e:∀ i,opL l dl i=opL m dl i:=fun i=>by
  have:=h i;unfold cf at this;rw[hl,hm] at this;exact this
 exact zKU e k
theorem zPn (x y:Co) (i j:Int):ofL [(x,i)]*ofL [(y,j)]=ofL [(x*y,i+j)]:=A.ext fun g k=>by
 show x*(y*g (k-i-j)+0)+0=x*y*g (k-(i+j))+0;rw[show k-i-j=k-(i+j) by omega]
 grind
theorem zTq (x y:Co) (i:Int):ofL [(x+y,i)]=ofL [(x,i)]+ofL [(y,i)]:=A.ext fun g k=>by
 show (x+y)*g (k-i)+0=(x*g (k-i)+0)+(y*g (k-i)+0)
 grind
theorem zGx (i:Int):ofL [((0:Co),i)]=0:=A.ext fun g k=>by
 show 0*g (k-i)+0=(0:Co);simp
theorem zTp (x:Co) (i:Int):ofL [(-x,i)]=-ofL [(x,i)]:=A.ext fun g k=>by
 show -x*g (k-i)+0=-(x*g (k-i)+0)
 grind
theorem zFn (j:Int):lst j []=0:=rfl
theorem kQ (j:Int) (x:Co) (t:List Co):lst j (x::t)=ofL [(x,j)]+lst (j+1) t:=rfl
theorem zP4:∀ (l m:List Co) (j:Int),lst j (l++m)=lst j l+lst (j+l.length) m
 | [],m,j=>by
  rw[zFn,zero_add];simp
 | x::l,m,j=>by
  rw[List.cons_append,kQ,zP4 l m (j+1),kQ,add_assoc,List.length_cons,show j+1+(l.length:Int)=j+((l.length+1:Nat):Int) by omega]
theorem zP0:∀ (l:List Co) (j:Int) (i:Nat) (c:Co),i<l.length→lst j (l.set i (l.getD i 0+c))=lst j l+ofL [(c,j+i)]
 | x::t,j,0,c,h=>by
  show lst j ((x+c)::t)=_;rw[kQ,kQ,zTq,add_assoc,add_comm (ofL [(c,j)]),← add_assoc];simp
 | x::t,j,i+1,c,h=>by
  show lst j (x::t.set i (t.getD i 0+c))=_;rw[kQ,kQ,zP0 t (j+1) i c (by simpa using h),add_assoc,show j+1+(i:Int)=j+((i+1:Nat):Int) by omega]
theorem zP1 (j:Int):∀ n,lst j (List.replicate n (0:Co))=0
 | 0=>rfl
 | n+1=>by
  rw[List.replicate_succ,kQ,zGx,zero_add,zP1 (j+1) n]
theorem zKZ (i:Int):∀ (l:List Co) (j:Int),tt i*lst j l=lst (j+i) l
 | [],j=>by rw[zFn,zM,zFn]
 | x::t,j=>by
  rw[kQ,zAO,zKZ i t (j+1),kQ,show j+1+i=j+i+1 by omega];congr 1;show ofL [(1,i)]*ofL [(x,j)]=_;rw[zPn,show i+j=j+i by omega];simp
theorem zP3:∀ (l:List Co) (j:Int),-lst j l=lst j (l.map fun x=>-x)
 | [],j=>zND
 | x::t,j=>by rw[kQ,zHd,zP3 t,List.map_cons,kQ,zTp]
theorem zP2 (x:Co) (j:Int):lst j [x]=ofL [(x,j)]:=by rw[kQ,zFn,add_zero]
theorem zRp:lst 0 [(1:Co)]=1:=zP2 1 0
structure RowE (l:List Co):Prop where
 hd:∀ x t,l=x::t→x≠0
 tl:∀ x t,l=t++[x]→x≠0
theorem zBg {l:List Co}{j k:Int}(h:k<j∨j+l.length≤k):cf (lst j l) k=0:=by
 rw[zIx]
 by_cases h1:j≤k
 · rw[if_pos h1,List.getD_eq_getElem?_getD,List.getElem?_eq_none (by omega)]
   rfl
 · rw[if_neg h1]
theorem zR5 {l:List Co}{j:Int}{i:Nat}(h:i<l.length):cf (lst j l) (j+i)=l.getD i 0:=by
 rw[zIx,if_pos (by omega),show (j+(i:Int)-j).toNat=i by omega]
theorem RowE.first {l:List Co}(h:RowE l) (hl:0<l.length) (j:Int):cf (lst j l) j≠0:=by
 match l,hl,h with
 | x::t,_,h=>
  have:=zR5 (l:=x::t) (j:=j) (i:=0) (by simp);simp only[Int.natCast_zero,Int.add_zero] at this;rw[this];exact h.hd x t rfl
theorem RowE.last {l:List Co}(h:RowE l) (hl:0<l.length) (j:Int):cf (lst j l) (j+(l.length:Int)-1)≠0:=by
 obtain⟨t,x,rfl⟩:∃ t x,l=t++[x]:=⟨l.dropLast,l.getLast (List.ne_nil_of_length_pos hl),(List.dropLast_concat_getLast _).symm⟩;have:=zR5 (l:=t++[x]) (j:=j) (i:=t.length) (by simp);have e:(j:Int)+((t++[x]).length:Int)-1=j+(t.length:Int):=by simp;omega
 rw[e,this];have:(t++[x]).getD t.length 0=x:=by simp
 rw[this];exact h.tl x t rfl
theorem zTw {l m:List Co}{i j:Int}(hl:RowE l) (hm:RowE m) (h:lst i l=lst j m):l=m∧(l≠[]→i=j):=by
 have hc:∀ k,cf (lst i l) k=cf (lst j m) k:=fun k=>by rw[h]
 by_cases zl:l.length=0
 · by_cases zm:m.length=0
   · rw[List.length_eq_zero_iff] at zl zm;rw[zl,zm];exact⟨rfl,fun h=>absurd rfl h⟩
   · exact absurd ((hc j).symm.trans (zBg (by omega))) (hm.first (by omega) j)
 · by_cases zm:m.length=0
   · exact absurd ((hc i).trans (zBg (by omega))) (hl.first (by omega) i)
   · have a1:j≤i:=by
      refine Decidable.byContradiction fun hn=>hl.first (by omega) i ((hc i).trans (zBg (by omega)))
     have a2:i≤j:=by
      refine Decidable.byContradiction fun hn=>hm.first (by omega) j ((hc j).symm.trans (zBg (by omega)))
     obtain rfl:i=j:=by omega
     have a3:l.length≤m.length:=by
      refine Decidable.byContradiction fun hn=>hl.last (by omega) i ((hc _).trans (zBg (by omega)))
     have a4:m.length≤l.length:=by
      refine Decidable.byContradiction fun hn=>hm.last (by omega) i ((hc _).symm.trans (zBg (by omega)))
     refine⟨List.ext_getElem (by omega) fun k h1 h2=>?_,fun _=>rfl⟩;have:=hc (i+k);rw[zR5 h1,zR5 h2,List.getD_eq_getElem?_getD,List.getD_eq_getElem?_getD,List.getElem?_eq_getElem h1,List.getElem?_eq_getElem h2] at this;exact this
theorem RowE.low {l:List Co}(h:RowE l) (hl:l≠[]) {i K M:Int}(hz:∀ k,(k<K∨M≤k)→cf (lst i l) k=0):K≤i∧i+l.length≤M:=by
 have hp:0<l.length:=List.length_pos_iff.mpr hl;refine⟨Decidable.byContradiction fun hn=>h.first hp i (hz i (by omega)),Decidable.byContradiction fun hn=>h.last hp i (hz _ (by omega))⟩
end Go.Lau
namespace Go.Lau
def stOf (s:Nat):St:=fun j=>s.testBit j
def Cg (m:Nat) (w:Wf):Prop:=∀ S T:St,(∀ j,j<m→S j=T j)→w S=w T
theorem zVv (m:Nat):Cg m (w0 m):=fun S T h=>by
 unfold w0;have:(List.range m).all (fun j=>!S j)=(List.range m).all (fun j=>!T j):=by
  rw[Bool.eq_iff_iff,List.all_eq_true,List.all_eq_true];exact⟨fun k j hj=>by rw[← h j (List.mem_range.mp hj)];exact k j hj,fun k j hj=>by rw[h j (List.mem_range.mp hj)];exact k j hj⟩
 rw[this]
theorem zVu {m:Nat}{w:Wf}(h:Cg m w) (r:Row):Cg m (wd m w r):=fun S T hS=>by
 unfold wd;refine zp fun c hc=>?_;have e1:par S c m=par T c m:=zA6 fun j _ hj=>hS j hj;have e2:w (del S c)=w (del T c):=h _ _ fun j hj=>by
  unfold del
  by_cases hjc:j=c
  · rw[if_pos hjc,if_pos hjc]
  · rw[if_neg hjc,if_neg hjc,hS j hj]
 rw[hS c hc,e1,e2]
theorem zVL {m:Nat}:∀ (rows:List Row) {w:Wf},Cg m w→Cg m (wl m w rows)
 | [],w,h=>h
 | r::rows,w,h=>zVL rows (zVu h r)
theorem zTC {s m j:Nat}(hs:s<2^m) (h:s.testBit j=true):j<m:=by
 refine Decidable.byContradiction fun hn=>?_;have:=Nat.testBit_lt_two_pow (Nat.lt_of_lt_of_le hs (Nat.pow_le_pow_right (by omega) (by omega:m≤j)));rw[this] at h;simp at h
def wo (s c:Nat):Nat:=s ^^^ 2^c
theorem zTI {s c:Nat}(h:s.testBit c=true):del (stOf s) c=stOf (wo s c):=funext fun j=>by
 unfold del stOf wo;rw[Nat.testBit_xor,Nat.testBit_two_pow]
 by_cases hj:j=c
 · subst hj;rw[if_pos rfl,h];simp
 · rw[if_neg hj];have:decide (c=j)=false:=decide_eq_false fun e=>hj e.symm;rw[this];simp
theorem zVP {s c m:Nat}(hs:s<2^m) (h:s.testBit c=true):wo s c<2^m:=Nat.xor_lt_two_pow hs (Nat.pow_lt_pow_right (by omega) (zTC hs h))
theorem zUV {s c:Nat}(h:s.testBit c=true):(wo s c).testBit c=false:=by
 unfold wo;rw[Nat.testBit_xor,h,Nat.testBit_two_pow];simp
def wi (u c:Nat):Nat:=u ||| 2^c
theorem zSR (u c:Nat):(wi u c).testBit c=true:=by
 unfold wi;rw[Nat.testBit_or,Nat.testBit_two_pow];simp
theorem zVQ {u c m:Nat}(hu:u<2^m) (hc:c<m):wi u c<2^m:=Nat.or_lt_two_pow hu (Nat.pow_lt_pow_right (by omega) hc)
theorem zTJ {u c:Nat}(h:u.testBit c=false):wo (wi u c) c=u:=by
 apply Nat.eq_of_testBit_eq;intro j;unfold wo wi;rw[Nat.testBit_xor,Nat.testBit_or,Nat.testBit_two_pow]
 by_cases hj:c=j
 · subst hj;rw[h];simp
 · simp[hj]
theorem zVO {s c:Nat}(h:s.testBit c=true):wi (wo s c) c=s:=by
 apply Nat.eq_of_testBit_eq;intro j;unfold wo wi;rw[Nat.testBit_or,Nat.testBit_xor,Nat.testBit_two_pow]
 by_cases hj:c=j
 · subst hj;rw[h];simp
 · simp[hj]
def tm (m:Nat) (r:Row) (w:Wf) (s c:Nat):A:=sg (par (stOf s) c m) (r c*w (del (stOf s) c))
def acc (m:Nat) (r:Row) (w:Wf) (D:Nat→Nat→Prop) [∀ u c,Decidable (D u c)] (s:Nat):A:=sumN m fun c=>if s.testBit c=true∧D (wo s c) c then tm m r w s c else 0
theorem zSP (m:Nat) (r:Row) (w:Wf) (D:Nat→Nat→Prop) [∀ u c,Decidable (D u c)] (s:Nat) (h:∀ u c,¬ D u c):acc m r w D s=0:=zEv fun c _=>if_neg fun e=>h _ _ e.2
theorem zFX {m:Nat}{r:Row}{w:Wf}{D D':Nat→Nat→Prop} [∀ u c,Decidable (D u c)] [∀ u c,Decidable (D' u c)] {s:Nat}(h:∀ c,c<m→s.testBit c=true→(D (wo s c) c↔D' (wo s c) c)):acc m r w D s=acc m r w D' s:=zp fun c hc=>by
 by_cases hb:s.testBit c=true
 · have:=h c hc hb
   by_cases hd:D (wo s c) c
   · rw[if_pos ⟨hb,hd⟩,if_pos ⟨hb,this.mp hd⟩]
   · rw[if_neg fun e=>hd e.2,if_neg fun e=>hd (this.mpr e.2)]
 · rw[if_neg fun e=>hb e.1,if_neg fun e=>hb e.1]
theorem zUM {m:Nat}{r:Row}{w:Wf}{D D':Nat→Nat→Prop} [∀ u c,Decidable (D u c)] [∀ u c,Decidable (D' u c)] {u j:Nat}(hj:j<m) (hu:u.testBit j=false) (hD:¬ D u j) (hD':∀ v c,D' v c↔D v c∨(v=u∧c=j)) (s:Nat):
  acc m r w D' s=acc m r w D s+(if s=wi u j then tm m r w s j else 0):=by
 by_cases hs:s=wi u j
 · subst hs;rw[if_pos rfl];unfold acc;have e:∀ c,c<m→(if (wi u j).testBit c=true∧D' (wo (wi u j) c) c then tm m r w (wi u j) c else 0)=(if (wi u j).testBit c=true∧D (wo (wi u j) c) c then tm m r w (wi u j) c else 0)+(if c=j then tm m r w (wi u j) j else 0):=fun c hc=>by
    by_cases hcj:c=j
    · subst hcj;rw[if_pos rfl,if_pos ⟨zSR u c,(hD' _ _).mpr (.inr ⟨zTJ hu,rfl⟩)⟩,if_neg fun e=>hD (by have:=e.2;rwa [zTJ hu] at this),zero_add]
    · rw[if_neg hcj,add_zero]
      by_cases hd:(wi u j).testBit c=true∧D (wo (wi u j) c) c
      · rw[if_pos hd,if_pos ⟨hd.1,(hD' _ _).mpr (.inl hd.2)⟩]
      · rw[if_neg hd,if_neg fun e=>hd ⟨e.1,((hD' _ _).mp e.2).elim id fun e=>absurd e.2 hcj⟩]
   rw[zp e,zBx,zLb (a:=j) hj (f:=fun c=>if c=j then tm m r w (wi u j) j else 0) (fun c _ hc=>if_neg hc),if_pos rfl]
 · rw[if_neg hs,add_zero];refine zFX fun c hc hb=>?_;rw[hD'];refine⟨fun h=>h.elim id fun e=>?_,.inl⟩;obtain⟨e1,rfl⟩:=e;exact absurd (by rw[← e1,zVO hb]) hs
theorem zUN {m:Nat}{r:Row}{w:Wf}{D:Nat→Nat→Prop} [∀ u c,Decidable (D u c)] {s:Nat}(h:∀ c,c<m→s.testBit c=true→D (wo s c) c∨w (stOf (wo s c))=0):acc m r w D s=wd m w r (stOf s):=by
 refine zp fun c hc=>?_
 by_cases hb:s.testBit c=true
 · have hb':stOf s c=true:=hb;rw[if_pos hb']
   rcases h c hc hb with hd | hz
   · rw[if_pos ⟨hb,hd⟩]
     rfl
   · rw[zTI hb,hz,zM,zJH]
     by_cases hd:s.testBit c=true∧D (wo s c) c
     · rw[if_pos hd];unfold tm;rw[zTI hb,hz,zM,zJH]
     · rw[if_neg hd]
 · have hb':¬ stOf s c=true:=hb;rw[if_neg fun e=>hb e.1,if_neg hb']
theorem zRb (S:St) {c k:Nat}(h:c<k):par S c (k+1)=if S k=true then !(par S c k) else par S c k:=by
 show (if c<k∧S k=true then !(par S c k) else par S c k)=_
 by_cases hk:S k=true
 · rw[if_pos ⟨h,hk⟩,if_pos hk]
 · rw[if_neg fun e=>hk e.2,if_neg hk]
theorem zPg (S:St) (c:Nat):∀ k,k≤c+1→par S c k=false
 | 0,_=>rfl
 | k+1,h=>by
  show (if c<k∧S k=true then !(par S c k) else par S c k)=_;rw[if_neg fun e=>by omega,zPg S c k (by omega)]
theorem zRc {S T:St}{c m:Nat}(h:∀ j,c<j→j<m→S j=T j):par S c m=par T c m:=zA6 h
theorem zT1 (m:Nat):∀ j,j<m→stOf (2^m-1) j=full j:=fun j hj=>by
 unfold stOf full;rw[Nat.testBit_two_pow_sub_one];exact decide_eq_true hj
end Go.Lau
namespace Go.Ev.YtlkmkabnbegfdaaGreatP
open Go.Ev Go.Lau
abbrev Pol:=Int×List (List Int)
def co (x:List Int):Co:=BitVec.ofInt 256 (vl x)
def pv (p:Pol):A:=lst p.1 (p.2.map co)
def Wl (l:List (List Int)):Prop:=∀ x∈l,W4 x
theorem Wl.nil:Wl []:=fun _ h=>absurd h List.not_mem_nil
theorem Wl.app {l m:List (List Int)}(h:Wl l) (h':Wl m):Wl (l++m):=fun x hx=>(List.mem_append.mp hx).elim (h x) (h' x)
theorem Wl.one {x:List Int}(h:W4 x):Wl [x]:=fun y hy=>by rw[List.mem_singleton.mp hy];exact h
theorem zHc (x:Int):BitVec.ofInt 256 (x % M256)=BitVec.ofInt 256 x:=by
 apply BitVec.eq_of_toInt_eq;rw[BitVec.toInt_ofInt,BitVec.toInt_ofInt];have:((2^256:Nat):Int)=M256:=by decide
 rw[show (M256:Int)=((2^256:Nat):Int) from this.symm];exact Int.emod_bmod _ _
theorem zQS {x y z:List Int}(h:vl z=(vl x+vl y) % M256):co z=co x+co y:=by
 unfold co;rw[h,zHc,BitVec.ofInt_add]
theorem zR4 {x y z:List Int}(h:vl z=(vl x-vl y) % M256):co z=co x-co y:=by
 unfold co;rw[h,zHc,Int.sub_eq_add_neg,BitVec.ofInt_add,BitVec.ofInt_neg,BitVec.sub_eq_add_neg]
theorem zR3 {x y z:List Int}(h:vl z=(vl x*vl y) % M256):co z=co x*co y:=by
 unfold co;rw[h,zHc,BitVec.ofInt_mul]
theorem zDO:co (List.replicate 4 0)=0:=by
 unfold co;rw[zO2]
 rfl
theorem zS4 {x y:List Int}(hx:W4 x) (hy:W4 y) (h:co x=co y):x=y:=by
 refine hx.inj hy ?_;have h1:=congrArg BitVec.toNat h;unfold co at h1;rw[BitVec.toNat_ofInt,BitVec.toNat_ofInt] at h1;have hm:((2^256:Nat):Int)=M256:=by decide
 rw[hm,Int.emod_eq_of_lt hx.rng.1 hx.rng.2,Int.emod_eq_of_lt hy.rng.1 hy.rng.2] at h1;have:=hx.rng.1;have:=hy.rng.1;omega
theorem zIw:∀ {l m:List (List Int)},Wl l→Wl m→l.map co=m.map co→l=m
 | [],[],_,_,_=>rfl
 | x::l,y::m,hl,hm,h=>by
  simp only[List.map_cons,List.cons.injEq] at h;rw[zS4 (hl x (by simp)) (hm y (by simp)) h.1,zIw (fun z hz=>hl z (by simp[hz])) (fun z hz=>hm z (by simp[hz])) h.2]
structure Pk (K:Int) (p:Pol):Prop where
 w:Wl p.2
 e:RowE (p.2.map co)
 z:p.2=[]→p.1=0
 lo:-K≤p.1
 hi:p.1+p.2.length≤K
theorem Pk.inj {K L:Int}{p q:Pol}(hp:Pk K p) (hq:Pk L q) (h:pv p=pv q):p=q:=by
 obtain⟨e1,e2⟩:=zTw hp.e hq.e h;have e3:=zIw hp.w hq.w e1;refine Prod.ext ?_ e3
 by_cases h0:p.2=[]
 · rw[hp.z h0,hq.z (e3 ▸ h0)]
 · exact e2 (by simpa using h0)
theorem Pk.up {K L:Int}{p:Pol}(h:Pk K p) (hL:K≤L):Pk L p:=⟨h.w,h.e,h.z,by have:=h.lo;omega,by have:=h.hi;omega⟩
theorem Pk.pos {K:Int}{p:Pol}(h:Pk K p):0≤K:=by
 have:=h.lo;have:=h.hi;omega
theorem RowE.nil:RowE []:=⟨fun x t h=>by simp at h,fun x t h=>by simp at h⟩
theorem Pk.zero:Pk 0 (0,[]):=⟨Wl.nil,RowE.nil,fun _=>rfl,by simp,by simp⟩
theorem zKI {p:Pol}(h:p.2=[]):pv p=0:=by
 unfold pv;rw[h]
 rfl
abbrev Sm (k:Int):Prop:=-1000000000≤k∧k≤1000000000
theorem c_at {p:Pol}(hw:Wl p.2) (h1:Sm p.1) (h2:Sm (p.1+p.2.length)) {k:Int}(hk:Sm k):∃ x,R i_i_poly__at [zI p,tI k]=some [tAw4 x]∧W4 x∧co x=cf (pv p) k:=by
 unfold Sm at h1 h2 hk;have e1:wi64 (p.1+((List.length p.2:Nat):Int))=p.1+(p.2.length:Int):=zD (by omega) (by omega);have e2:wi64 (p.1+(p.2.length:Int)-1)=p.1+(p.2.length:Int)-1:=zD (by omega) (by omega);have e3:wi64 (k-p.1)=k-p.1:=zD (by omega) (by omega)
 by_cases hc:p.1≤k∧k≤p.1+(p.2.length:Int)-1
 · have s:R kh [tI k,tI p.1,tI (p.1+(p.2.length:Int)-1)]=some [tB true]:=by
    apply zEn;simp only[jd,decide_eq_true hc.1,decide_eq_true hc.2,cond_true]
   have hi:(k-p.1).toNat<p.2.length:=by omega
   refine⟨p.2.getD (k-p.1).toNat (List.replicate 4 0),?_,?_,?_⟩
   · apply zGS;simp only[b_i_poly__at,e1,e2,e3,s,Option.bind_some,getTV_here,Bool.not_true,cond_false,decide_eq_true (show 0≤k-p.1 by omega),decide_eq_true (show k-p.1<((List.length p.2:Nat):Int) by omega),Bool.and_self,cond_true]
   · rw[List.getD_eq_getElem?_getD,List.getElem?_eq_getElem hi];exact hw _ (List.getElem_mem hi)
   · unfold pv;rw[zIx,if_pos hc.1,List.getD_eq_getElem?_getD,List.getD_eq_getElem?_getD,List.getElem?_map,List.getElem?_eq_getElem hi]
     rfl
 · have s:R kh [tI k,tI p.1,tI (p.1+(p.2.length:Int)-1)]=some [tB false]:=by
    apply zEn
    by_cases h:p.1≤k
    · simp only[jd,decide_eq_true h,decide_eq_false (show ¬ k≤p.1+(p.2.length:Int)-1 by omega),cond_true]
    · simp only[jd,decide_eq_false h,cond_false]
   refine⟨List.replicate 4 0,?_,W4.zero,?_⟩
   · apply zGS;simp only[b_i_poly__at,e1,e2,e3,s,Option.bind_some,getTV_here,Bool.not_false,cond_true]
   · unfold pv;rw[zDO,zBg (by rw[List.length_map];omega)]
theorem zG7 {x:List Int}(h:W4 x):co x=0↔x=List.replicate 4 0:=
 ⟨fun e=>zS4 h W4.zero (by rw[e,zDO]),fun e=>by rw[e,zDO]⟩
theorem zNf (x2:Int) (x3:List (List Int)):∀ (l:List (List Int)) (x0:Int),Wl l→Sm x0→Sm (x0+l.length)→∃ y l',R i_i_poly__trim_1 [tI x0,zJ l,tI x2,zJ x3]=some [tI 0,tI y,zJ l',tI x2,zJ x3]∧Wl l'∧lst y (l'.map co)=lst x0 (l.map co)∧(∀ x t,l'=x::t→co x≠0)∧x0≤y∧y+l'.length=x0+l.length
 | [],x0,hw,h1,h2=>⟨x0,[],by
   apply zAM;simp only[b_i_poly__trim_1,List.length_nil,decide_eq_false (show ¬ (0:Int)<((0:Nat):Int) by omega),cond_false],hw,rfl,fun x t h=>by simp at h,by omega,rfl⟩
 | x::t,x0,hw,h1,h2=>by
  have hx:W4 x:=hw x (by simp);have ht:Wl t:=fun z hz=>hw z (by simp[hz])
  have p1:decide (0<((List.length (x::t):Nat):Int))=true:=decide_eq_true (by simp only[List.length_cons];omega);have p2:decide (1≤((List.length (x::t):Nat):Int))=true:=decide_eq_true (by simp only[List.length_cons];omega)
  by_cases hz:x=List.replicate 4 0
  · unfold Sm at *;simp only[List.length_cons] at h2;obtain⟨y,l',e,a1,a2,a3,a4,a5⟩:=zNf x2 x3 t (x0+1) ht (by unfold Sm;omega) (by unfold Sm;omega)
    refine⟨y,l',?_,a1,?_,a3,by omega,by rw[a5,List.length_cons];omega⟩
    · apply zAM;have w:wi64 (x0+1)=x0+1:=zD (by omega) (by omega);have q:(x==List.replicate 4 0)=true:=beq_iff_eq.mpr hz;simp only[b_i_poly__trim_1,p1,p2,cond_true,List.getD_cons_zero,q,w,List.drop_succ_cons,List.drop_zero,e]
    · rw[a2,List.map_cons,kQ,hz,zDO,zGx,zero_add]
  · refine⟨x0,x::t,?_,hw,rfl,?_,by omega,rfl⟩
    · apply zAM;have q:(x==List.replicate 4 0)=false:=beq_eq_false_iff_ne.mpr hz;simp only[b_i_poly__trim_1,p1,cond_true,List.getD_cons_zero,q,cond_false]
    · intro z s hzs hc;simp only[List.cons.injEq] at hzs;rw[← hzs.1] at hc;exact hz ((zG7 hx).mp hc)
theorem zNe (x0 x2:Int) (x3:List (List Int)):∀ (d:Nat) (l:List (List Int)),l.length=d→Wl l→d<10000000000→(∀ x t,l=x::t→co x≠0)→∃ l',R i_i_poly__trim_5 [tI x0,zJ l,tI x2,zJ x3,tI (d:Int)]=some [tI 0,tI x0,zJ l',tI x2,zJ x3]∧Wl l'∧lst x0 (l'.map co)=lst x0 (l.map co)∧RowE (l'.map co)∧l'.length≤l.length
 | 0,l,hl,hw,hd,h=>⟨l,by
   apply zAL;simp only[b_i_poly__trim_5,decide_eq_false (show ¬ (0:Int)<((0:Nat):Int) by omega),cond_false],hw,rfl,by rw[List.length_eq_zero_iff.mp hl];exact RowE.nil,Nat.le_refl _⟩
 | d+1,l,hl,hw,hd,h=>by
  obtain⟨t,x,rfl⟩:∃ t x,l=t++[x]:=⟨l.dropLast,l.getLast (List.ne_nil_of_length_pos (by omega)),(List.dropLast_concat_getLast _).symm⟩;have ht:t.length=d:=by simpa using hl
  have hx:W4 x:=hw x (by simp);have hwt:Wl t:=fun z hz=>hw z (by simp[hz])
  have p1:decide (0<(((d+1:Nat)):Int))=true:=decide_eq_true (by omega);have w:wi64 (((d+1:Nat):Int)-1)=(d:Int):=by rw[zD]<;>omega
  have p2:decide (0≤(d:Int))=true:=decide_eq_true (by omega);have p3:decide ((d:Int)<((List.length (t++[x]):Nat):Int))=true:=decide_eq_true (by rw[hl];omega);have p4:decide ((d:Int)≤((List.length (t++[x]):Nat):Int))=true:=decide_eq_true (by rw[hl];omega);have g:(t++[x]).getD d (List.replicate 4 0)=x:=by rw[← ht];simp
  have tk:(t++[x]).take d=t:=by rw[← ht];simp
  by_cases hz:x=List.replicate 4 0
  · have ht':∀ y s,t=y::s→co y≠0:=fun y s e=>h y (s++[x]) (by rw[e];rfl)
    obtain⟨l',e,a1,a2,a3,a4⟩:=zNe x0 x2 x3 d t ht hwt (by omega) ht'
    refine⟨l',?_,a1,?_,a3,by rw[List.length_append];omega⟩
    · apply zAL;have q:(x==List.replicate 4 0)=true:=beq_iff_eq.mpr hz;simp only[b_i_poly__trim_5,p1,w,p2,p3,p4,Bool.and_self,cond_true,Int.toNat_natCast,g,q,tk,e]
    · rw[a2,List.map_append,zP4,List.map_singleton,zP2,hz,zDO,zGx,add_zero]
  · refine⟨t++[x],?_,hw,rfl,⟨?_,?_⟩,Nat.le_refl _⟩
    · apply zAL;have q:(x==List.replicate 4 0)=false:=beq_eq_false_iff_ne.mpr hz;simp only[b_i_poly__trim_5,p1,w,p2,p3,Bool.and_self,cond_true,Int.toNat_natCast,g,q,cond_false]
    · intro y s e
      match ht':t++[x],e with
      | a::b,e=>
       simp only[List.map_cons,List.cons.injEq] at e;rw[← e.1];exact h a b ht'
    · intro y s e;rw[List.map_append,List.map_singleton] at e;have:=List.append_inj_right' e rfl;simp only[List.cons.injEq,and_true] at this;rw[← this];exact fun hc=>hz ((zG7 hx).mp hc)
theorem zNg {p:Pol}(hw:Wl p.2) (h1:Sm p.1) (h2:Sm (p.1+p.2.length)):∃ q,R i_i_poly__trim [zI p]=some [zI q]∧Wl q.2∧RowE (q.2.map co)∧(q.2=[]→q.1=0)∧pv q=pv p:=by
 obtain⟨y,l,e1,a1,a2,a3,a4,a5⟩:=zNf 0 [] p.2 p.1 hw h1 h2;unfold Sm at h1 h2;obtain⟨l',e2,b1,b2,b3,b4⟩:=zNe y 0 [] l.length l rfl a1 (by omega) a3
 by_cases hz:l'=[]
 · refine⟨(0,l'),?_,b1,b3,fun _=>rfl,?_⟩
   · apply zDt;simp only[b_i_poly__trim,e1,Option.bind_some,getTV_here,getTV_next,e2,hz,List.length_nil,Int.natCast_zero,beq_self_eq_true,cond_true]
   · unfold pv;rw[← a2,← b2,hz]
     rfl
 · refine⟨(y,l'),?_,b1,b3,fun h=>absurd h hz,?_⟩
   · apply zDt;have q:(((List.length l':Nat):Int)==0)=false:=beq_eq_false_iff_ne.mpr (by have:=List.length_pos_iff.mpr hz;omega);simp only[b_i_poly__trim,e1,Option.bind_some,getTV_here,getTV_next,e2,q,cond_false]
   · show lst y (l'.map co)=pv p;rw[b2,a2]
     rfl
theorem Pk.of {q:Pol}{K:Int}(hK:0≤K) (hw:Wl q.2) (he:RowE (q.2.map co)) (hz:q.2=[]→q.1=0) (hc:∀ k,(k < -K∨K≤k)→cf (pv q) k=0):Pk K q:=by
 by_cases h:q.2=[]
 · exact⟨hw,he,hz,by rw[hz h];omega,by rw[hz h,h];simp;omega⟩
 · have:=he.low (i:=q.1) (K:=-K) (M:=K) (by simpa using h) hc;rw[List.length_map] at this;exact⟨hw,he,hz,this.1,this.2⟩
theorem Pk.out {K:Int}{p:Pol}(h:Pk K p) {k:Int}(hk:k < -K∨K≤k):cf (pv p) k=0:=by
 have:=h.lo;have:=h.hi;unfold pv;exact zBg (by rw[List.length_map];omega)
theorem zUG {a b:Pol}(ha:Wl a.2) (a1:Sm a.1) (a2:Sm (a.1+a.2.length)) (hb:Wl b.2) (b1:Sm b.1) (b2:Sm (b.1+b.2.length)) (x4 x6 x8:Int) (x5:List (List Int)) (h8:Sm x8):
  ∀ (d:Nat) (x9:Int) (x7:List (List Int)),x9+d=x8→Sm x9→Wl x7→(x7.length:Int)+d<10000000000→∃ l,R i_i_poly__add_9 [tI a.1,zJ a.2,tI b.1,zJ b.2,tI x4,zJ x5,tI x6,zJ x7,tI x8,tI x9]=some [tI 0,tI x4,zJ x5,tI x6,zJ (x7++l)]∧l.length=d∧Wl l∧∀ i:Nat,i<d→(l.map co).getD i 0=cf (pv a) (x9+i)+cf (pv b) (x9+i):=by
 intro d
 induction d with
 | zero=>exact fun x9 x7 hx h9 hw hl=>⟨[],by
   apply zC3;simp only[b_i_poly__add_9,decide_eq_false (show ¬ x9<x8 by omega),cond_false,List.append_nil],rfl,Wl.nil,fun i h=>by omega⟩
 | succ d ih=>
  intro x9 x7 hx h9 hw hl;obtain⟨x,e1,w1,c1⟩:=c_at ha a1 a2 h9;obtain⟨y,e2,w2,c2⟩:=c_at hb b1 b2 h9;obtain⟨z,e3,w3,v3⟩:=zS7 w1 w2;have c3:=zQS v3;unfold Sm at h9 h8;obtain⟨l,e4,g1,g2,g3⟩:=ih (x9+1) (x7++[z]) (by omega) (by unfold Sm;omega) (hw.app (Wl.one w3)) (by rw[List.length_append];simp;omega)
  refine⟨z::l,?_,by rw[List.length_cons,g1],(Wl.one w3).app g2,?_⟩
  · apply zC3;have w:wi64 (x9+1)=x9+1:=zD (by omega) (by omega);have ap:apOk x7 [z]=true:=zDp (by omega);rw[List.append_assoc,List.singleton_append] at e4;simp only[b_i_poly__add_9,decide_eq_true (show x9<x8 by omega),cond_true,e1,e2,e3,Option.bind_some,getTV_here,ap,w,e4]
  · intro i hi
    match i with
    | 0=>
     show co z=_;rw[c3,c1,c2];simp
    | i+1=>
     show (l.map co).getD i 0=_;rw[g3 i (by omega),show x9+1+(i:Int)=x9+((i+1:Nat):Int) by omega]
theorem zMa {a b:Pol}{K:Int}(ha:Pk K a) (hb:Pk K b) (hK:K<100000000):∃ q,R i_i_poly__add [zI a,zI b]=some [zI q]∧Pk K q∧pv q=pv a+pv b:=by
 have:=ha.lo;have:=ha.hi;have:=hb.lo;have:=hb.hi
 by_cases za:a.2=[]
 · refine⟨b,?_,hb,by rw[zKI za,zero_add]⟩;apply zCV;simp only[b_i_poly__add,za,List.length_nil,Int.natCast_zero,beq_self_eq_true,cond_true]
 · have qa:(((List.length a.2:Nat):Int)==0)=false:=beq_eq_false_iff_ne.mpr (by have:=List.length_pos_iff.mpr za;omega)
   by_cases zb:b.2=[]
   · refine⟨a,?_,ha,by rw[zKI zb,add_zero]⟩;apply zCV;simp only[b_i_poly__add,qa,cond_false,zb,List.length_nil,Int.natCast_zero,beq_self_eq_true,cond_true]
   · have qb:(((List.length b.2:Nat):Int)==0)=false:=beq_eq_false_iff_ne.mpr (by have:=List.length_pos_iff.mpr zb;omega);have la:=List.length_pos_iff.mpr za;have lb:=List.length_pos_iff.mpr zb;have w1:wi64 (a.1+((List.length a.2:Nat):Int))=a.1+(a.2.length:Int):=zD (by omega) (by omega);have w2:wi64 (b.1+((List.length b.2:Nat):Int))=b.1+(b.2.length:Int):=zD (by omega) (by omega);have hlo:∃ lo,mn a.1 b.1=lo∧lo≤a.1∧lo≤b.1∧-K≤lo:=⟨mn a.1 b.1,rfl,by unfold mn;split<;>omega,by unfold mn;split<;>omega,by unfold mn;split<;>omega⟩;have hhi:∃ hi,mx (a.1+(a.2.length:Int)) (b.1+(b.2.length:Int))=hi∧a.1+(a.2.length:Int)≤hi∧b.1+(b.2.length:Int)≤hi∧hi≤K:=⟨mx (a.1+(a.2.length:Int)) (b.1+(b.2.length:Int)),rfl,by unfold mx;split<;>omega,by unfold mx;split<;>omega,by unfold mx;split<;>omega⟩;obtain⟨lo,elo,lo1,lo2,lo3⟩:=hlo;obtain⟨hi,ehi,hi1,hi2,hi3⟩:=hhi;obtain⟨l,e,g1,g2,g3⟩:=zUG ha.w (by unfold Sm;omega) (by unfold Sm;omega) hb.w (by unfold Sm;omega) (by unfold Sm;omega) 0 lo hi [] (by unfold Sm;omega) (hi-lo).toNat lo [] (by omega) (by unfold Sm;omega) Wl.nil (by simp;omega);obtain⟨q,e2,q1,q2,q3,q4⟩:=zNg (p:=(lo,l)) g2 (by unfold Sm;omega) (by unfold Sm;simp only[g1];omega);have val:pv (lo,l)=pv a+pv b:=by
      refine A.eq_cf fun k=>?_;rw[zS5]
      by_cases hk:k<lo∨hi≤k
      · have z1:cf (pv (lo,l)) k=0:=zBg (by rw[List.length_map];simp only[g1];omega);have z2:cf (pv a) k=0:=zBg (by rw[List.length_map];omega);have z3:cf (pv b) k=0:=zBg (by rw[List.length_map];omega);rw[z1,z2,z3]
        rfl
      · have:=g3 (k-lo).toNat (by omega);rw[show lo+((k-lo).toNat:Int)=k by omega] at this;rw[← this];unfold pv;rw[zIx,if_pos (by show lo≤k;omega)]
     refine⟨q,?_,Pk.of ha.pos q1 q2 q3 fun k hk=>?_,q4.trans val⟩
     · apply zCV;rw[List.nil_append] at e;simp only[b_i_poly__add,qa,qb,cond_false,w1,w2,elo,ehi,e,Option.bind_some,getTV_here,getTV_next,e2]
     · rw[q4,val,zS5,ha.out hk,hb.out hk]
       rfl
theorem zQY (x0 x2:Int) (x1 x4:List (List Int)) (hw:Wl x4) (hl:(x4.length:Int)<1000000000):∀ (d i:Nat) (x3:List (List Int)),i+d=x4.length→x3.length=i→∃ l,R i_i_poly__negative_3 [tI x0,zJ x1,tI x2,zJ x3,zJ x4,tI ((x4.length:Nat):Int),tI (i:Int)]=some [tI 0,tI x0,zJ x1,tI x2,zJ (x3++l)]∧Wl l∧l.map co=(x4.drop i).map fun x=>-co x
 | 0,i,x3,h,h3=>⟨[],by
   apply zAT;simp only[b_i_poly__negative_3,decide_eq_false (show ¬ (i:Int)<(x4.length:Int) by omega),cond_false,List.append_nil],Wl.nil,by rw[List.drop_eq_nil_of_le (by omega)];rfl⟩
 | d+1,i,x3,h,h3=>by
  have hi:i<x4.length:=by omega
  have wi:W4 (x4.getD i (List.replicate 4 0)):=by
   rw[List.getD_eq_getElem?_getD,List.getElem?_eq_getElem hi];exact hw _ (List.getElem_mem hi)
  obtain⟨z,e,w,v⟩:=zQa W4.zero wi;have c:=zR4 v;rw[zDO] at c;obtain⟨l,e2,g2,g3⟩:=zQY x0 x2 x1 x4 hw hl d (i+1) (x3++[z]) (by omega) (by simp[h3])
  refine⟨z::l,?_,(Wl.one w).app g2,?_⟩
  · apply zAT;have w':wi64 ((i:Int)+1)=((i+1:Nat):Int):=by rw[zD]<;>omega
    have ap:apOk x3 [z]=true:=zDp (by omega);rw[List.append_assoc,List.singleton_append] at e2;simp only[b_i_poly__negative_3,decide_eq_true (show (i:Int)<(x4.length:Int) by omega),decide_eq_true (show 0≤(i:Int) by omega),Bool.and_self,cond_true,Int.toNat_natCast,e,Option.bind_some,getTV_here,ap,w',e2]
  · rw[List.drop_eq_getElem_cons hi,List.map_cons,List.map_cons,g3,c,List.getD_eq_getElem?_getD,List.getElem?_eq_getElem hi];simp
theorem zQZ {p:Pol}{K:Int}(hp:Pk K p) (hK:K<100000000):∃ q,R i_i_poly__negative [zI p]=some [zI q]∧Pk K q∧pv q=-pv p:=by
 have h1:=hp.lo;have h2:=hp.hi;obtain⟨l,e,g1,g2⟩:=zQY 0 p.1 [] p.2 hp.w (by omega) p.2.length 0 [] (by omega) rfl;rw[List.drop_zero] at g2;have gl:l.length=p.2.length:=by
  have:=congrArg List.length g2;simpa using this
 refine⟨(p.1,l),?_,⟨g1,?_,?_,h1,by show p.1+(l.length:Int)≤K;rw[gl];exact h2⟩,?_⟩
 · apply zEt;simp only[Int.natCast_zero,List.nil_append] at e;simp only[b_i_poly__negative,e,Option.bind_some,getTV_here,getTV_next]
 · have nn:∀ c:Co,c=- -c:=fun c=>by grind
   have nz:∀ c:Co,c≠0→-c≠0:=fun c h hc=>h (by rw[nn c,hc];rfl)
   have e3:l.map co=(p.2.map co).map fun c=>-c:=by rw[g2,List.map_map];rfl
   show RowE (l.map co);rw[e3]
   refine⟨fun x t h=>?_,fun x t h=>?_⟩
   · match hm:p.2.map co,h with
     | a::b,h=>
      simp only[List.map_cons,List.cons.injEq] at h;rw[← h.1];exact nz _ (hp.e.hd a b hm)
   · obtain⟨s,y,h4,h5,h6⟩:=List.map_eq_append_iff.mp h;obtain⟨b,c,h7,h8,h9⟩:=List.map_eq_cons_iff.mp h6;rw[List.map_eq_nil_iff] at h9;rw[← h8];exact nz _ (hp.e.tl b s (by rw[h4,h7,h9]))
 · intro h;exact hp.z (List.length_eq_zero_iff.mp (by rw[← gl];exact List.length_eq_zero_iff.mpr h))
 · unfold pv;rw[zP3];show lst p.1 (l.map co)=_;rw[g2,List.map_map]
   rfl
theorem zQW {p:Pol}{K s:Int}(hp:Pk K p) (hK:K<100000000) (hs:s=1∨s=-1):∃ q,R i_i_poly__shift [zI p,tI s]=some [zI q]∧Pk (K+1) q∧pv q=tt s*pv p:=by
 have h1:=hp.lo;have h2:=hp.hi
 by_cases h0:p.2=[]
 · refine⟨p,?_,hp.up (by omega),by rw[zKI h0,zM]⟩;apply zC2;simp only[b_i_poly__shift,h0,List.length_nil,decide_eq_false (show ¬ (0:Int)<((0:Nat):Int) by omega),cond_false]
   try rw[← h0]
 · have hp0:=List.length_pos_iff.mpr h0
   refine⟨(p.1+s,p.2),?_,⟨hp.w,hp.e,fun h=>absurd h h0,by show -(K+1)≤p.1+s;omega,by show p.1+s+(p.2.length:Int)≤K+1;omega⟩,?_⟩
   · apply zC2;have w:wi64 (p.1+s)=p.1+s:=zD (by omega) (by omega);simp only[b_i_poly__shift,decide_eq_true (show (0:Int)<((List.length p.2:Nat):Int) by omega),cond_true,w]
   · unfold pv;rw[zKZ]
end Go.Ev.YtlkmkabnbegfdaaGreatP
namespace Go.Ev.YtlkmkabnbegfdaaGreatP
open Go.Ev Go.Lau
theorem Wl.get {l:List (List Int)}(h:Wl l) {i:Nat}(hi:i<l.length):W4 (l.getD i (List.replicate 4 0)):=by
 rw[List.getD_eq_getElem?_getD,List.getElem?_eq_getElem hi];exact h _ (List.getElem_mem hi)
theorem Wl.set {l:List (List Int)}(h:Wl l) (i:Nat) {x:List Int}(hx:W4 x):Wl (l.set i x):=fun y hy=>by
 rcases List.mem_or_eq_of_mem_set hy with h' | h'
 · exact h y h'
 · rw[h'];exact hx
theorem zU7 {l:List (List Int)}{i:Nat}(hi:i<l.length):(l.map co).getD i 0=co (l.getD i (List.replicate 4 0)):=by
 rw[List.getD_eq_getElem?_getD,List.getD_eq_getElem?_getD,List.getElem?_map,List.getElem?_eq_getElem hi]
 rfl
theorem zMB {l:List (List Int)}{i:Nat}(hi:i<l.length):(l.drop i).map co=co (l.getD i (List.replicate 4 0))::(l.drop (i+1)).map co:=by
 rw[List.drop_eq_getElem_cons hi,List.map_cons,List.getD_eq_getElem?_getD,List.getElem?_eq_getElem hi]
 rfl
theorem zUD (b:Pol) (hb:Wl b.2) (x2 x4 x9:Int) (x3 xa:List (List Int)) {i L:Nat}{x6:List Int}(h6:W4 x6) (J u:Int) (hL:i+b.2.length≤L) (hS:L<1000000000) (hJ:J=u+b.1):
  ∀ (d j:Nat) (x5:List (List Int)),j+d=b.2.length→Wl x5→x5.length=L→∃ out,R i_i_poly__multiply_9 [tI b.1,zJ b.2,tI x2,zJ x3,tI x4,zJ x5,tAw4 x6,zJ xa,tI (i:Int),tI x9,tI (i:Int),tI ((b.2.length:Nat):Int),tI (j:Int)]=some [tI 0,tI b.1,zJ b.2,tI x2,zJ x3,tI x4,zJ out,zJ xa,tI x9,tI (i:Int)]∧Wl out∧out.length=L∧lst J (out.map co)=lst J (x5.map co)+ofL [(co x6,u+i)]*lst (b.1+j) ((b.2.drop j).map co):=by
 intro d
 induction d with
 | zero=>
  intro j x5 hj hw hl
  refine⟨x5,?_,hw,hl,?_⟩
  · apply zAU;simp only[b_i_poly__multiply_9,decide_eq_false (show ¬ (j:Int)<(b.2.length:Int) by omega),cond_false]
  · rw[List.drop_eq_nil_of_le (by omega),List.map_nil,zFn,zM,add_zero]
 | succ d ih=>
  intro j x5 hj hw hl;have h1:j<b.2.length:=by omega
  have h2:i+j<x5.length:=by omega
  obtain⟨y,e1,w1,v1⟩:=zUA h6 (hb.get h1);obtain⟨z,e2,w2,v2⟩:=zS7 (hw.get h2) w1;have c1:=zR3 v1;have c2:=zQS v2;obtain⟨out,e3,g1,g2,g3⟩:=ih (j+1) (x5.set (i+j) z) (by omega) (hw.set _ w2) (by rw[List.length_set,hl])
  refine⟨out,?_,g1,g2,?_⟩
  · apply zAU;have w:wi64 ((i:Int)+(j:Int))=((i+j:Nat):Int):=by rw[zD]<;>omega
    have w':wi64 ((j:Int)+1)=((j+1:Nat):Int):=by rw[zD]<;>omega
    simp only[b_i_poly__multiply_9,decide_eq_true (show (j:Int)<(b.2.length:Int) by omega),decide_eq_true (show 0≤(j:Int) by omega),decide_eq_true (show 0≤((i+j:Nat):Int) by omega),w,decide_eq_true (show ((i+j:Nat):Int)<((List.length x5:Nat):Int) by omega),Bool.and_self,cond_true,Int.toNat_natCast,e1,Option.bind_some,getTV_here,e2,w',e3]
  · rw[g3,List.map_set,c2,c1,← zU7 h2,zP0 _ _ _ _ (by rw[List.length_map];exact h2),zMB h1,kQ,zAO,zPn,add_assoc]
    congr 2
    · congr 3;omega
    · congr 2;omega
theorem zUE (a b:Pol) (ha:Wl a.2) (hb:Wl b.2) (x2 x4:Int) (x3:List (List Int)) {L:Nat}(J:Int) (hL:a.2.length+b.2.length≤L+1) (hS:L<1000000000) (hb0:0<b.2.length) (hJ:J=a.1+b.1):
  ∀ (d i:Nat) (x5:List (List Int)),i+d=a.2.length→Wl x5→x5.length=L→∃ out,R i_i_poly__multiply_5 [tI b.1,zJ b.2,tI x2,zJ x3,tI x4,zJ x5,zJ a.2,tI ((a.2.length:Nat):Int),tI (i:Int)]=some [tI 0,tI x2,zJ x3,tI x4,zJ out]∧Wl out∧out.length=L∧lst J (out.map co)=lst J (x5.map co)+lst (a.1+i) ((a.2.drop i).map co)*pv b:=by
 intro d
 induction d with
 | zero=>
  intro i x5 hj hw hl
  refine⟨x5,?_,hw,hl,?_⟩
  · apply jA;simp only[b_i_poly__multiply_5,decide_eq_false (show ¬ (i:Int)<(a.2.length:Int) by omega),cond_false]
  · rw[List.drop_eq_nil_of_le (by omega),List.map_nil,zFn,zero_mul,add_zero]
 | succ d ih=>
  intro i x5 hj hw hl;have h1:i<a.2.length:=by omega
  have h6:=ha.get h1;have w':wi64 ((i:Int)+1)=((i+1:Nat):Int):=by rw[zD]<;>omega
  by_cases hz:a.2.getD i (List.replicate 4 0)=List.replicate 4 0
  · obtain⟨out,e3,g1,g2,g3⟩:=ih (i+1) x5 (by omega) hw hl
    refine⟨out,?_,g1,g2,?_⟩
    · apply jA;have q:(a.2.getD i (List.replicate 4 0)==List.replicate 4 0)=true:=beq_iff_eq.mpr hz;simp only[b_i_poly__multiply_5,decide_eq_true (show (i:Int)<(a.2.length:Int) by omega),decide_eq_true (show 0≤(i:Int) by omega),Bool.and_self,cond_true,Int.toNat_natCast,q,w',e3]
    · rw[g3,zMB h1,kQ,hz,zDO,zGx,zero_add,show a.1+((i+1:Nat):Int)=a.1+i+1 by omega]
  · obtain⟨out1,e1,f1,f2,f3⟩:=zUD b hb x2 x4 (a.2.length:Int) x3 a.2 h6 J a.1 (show i+b.2.length≤L by omega) hS hJ b.2.length 0 x5 (by omega) hw hl;obtain⟨out,e3,g1,g2,g3⟩:=ih (i+1) out1 (by omega) f1 f2
    refine⟨out,?_,g1,g2,?_⟩
    · apply jA;have q:(a.2.getD i (List.replicate 4 0)==List.replicate 4 0)=false:=beq_eq_false_iff_ne.mpr hz;simp only[Int.natCast_zero] at e1;simp only[b_i_poly__multiply_5,decide_eq_true (show (i:Int)<(a.2.length:Int) by omega),decide_eq_true (show 0≤(i:Int) by omega),Bool.and_self,cond_true,cond_false,Int.toNat_natCast,q,e1,Option.bind_some,getTV_here,getTV_next,w',e3]
    · rw[g3,f3,zMB h1,kQ,add_mul,add_assoc,List.drop_zero,show a.1+((i+1:Nat):Int)=a.1+i+1 by omega];congr 2;unfold pv;congr 2;omega
theorem zVp {a b:Pol}{K M:Int}(ha:Pk K a) (hb:Pk M b) (hK:K+M<100000000):∃ q,R i_i_poly__multiply [zI a,zI b]=some [zI q]∧Pk (K+M) q∧pv q=pv a*pv b:=by
 have a1:=ha.lo;have a2:=ha.hi;have b1:=hb.lo;have b2:=hb.hi;have ka:=ha.pos;have kb:=hb.pos
 by_cases za:a.2=[]
 · refine⟨(0,[]),?_,Pk.zero.up (by omega),by rw[zKI za,zero_mul];rfl⟩;apply jU;simp only[b_i_poly__multiply,za,List.length_nil,Int.natCast_zero,beq_self_eq_true,cond_true]
 · have la:=List.length_pos_iff.mpr za;have qa:(((List.length a.2:Nat):Int)==0)=false:=beq_eq_false_iff_ne.mpr (by omega)
   by_cases zb:b.2=[]
   · refine⟨(0,[]),?_,Pk.zero.up (by omega),by rw[zKI zb,zM];rfl⟩;apply jU;simp only[b_i_poly__multiply,qa,cond_false,zb,List.length_nil,Int.natCast_zero,beq_self_eq_true,cond_true]
   · have lb:=List.length_pos_iff.mpr zb;have qb:(((List.length b.2:Nat):Int)==0)=false:=beq_eq_false_iff_ne.mpr (by omega);have w1:wi64 (((List.length a.2:Nat):Int)+((List.length b.2:Nat):Int))=((a.2.length+b.2.length:Nat):Int):=by rw[zD]<;>omega
     have w2:wi64 (((a.2.length+b.2.length:Nat):Int)-1)=((a.2.length+b.2.length-1:Nat):Int):=by rw[zD]<;>omega
     have w3:wi64 (a.1+b.1)=a.1+b.1:=zD (by omega) (by omega);have mk:mkOk ((a.2.length+b.2.length-1:Nat):Int)=true:=by
      unfold mkOk lim;simp only[decide_eq_true (show 0≤((a.2.length+b.2.length-1:Nat):Int) by omega),decide_eq_true (show ((a.2.length+b.2.length-1:Nat):Int)≤((549755813888:Nat):Int) by omega),Bool.and_true,decide_true]
      rfl
     obtain⟨out,e,g1,g2,g3⟩:=zUE a b ha.w hb.w 0 (a.1+b.1) [] (L:=a.2.length+b.2.length-1) (a.1+b.1) (by omega) (by omega) lb rfl a.2.length 0 (List.replicate (a.2.length+b.2.length-1) (List.replicate 4 0)) (by omega) (fun x hx=>by rw[List.eq_of_mem_replicate hx];exact W4.zero) (by rw[List.length_replicate]);have val:pv (a.1+b.1,out)=pv a*pv b:=by
      show lst (a.1+b.1) (out.map co)=_;rw[g3,List.map_replicate,zDO,zP1,zero_add,List.drop_zero,Int.natCast_zero,Int.add_zero]
      rfl
     obtain⟨q,e2,q1,q2,q3,q4⟩:=zNg (p:=(a.1+b.1,out)) g1 (by unfold Sm;omega) (by unfold Sm;simp only[g2];omega)
     refine⟨q,?_,Pk.of (by omega) q1 q2 q3 fun k hk=>?_,q4.trans val⟩
     · apply jU;simp only[Int.natCast_zero] at e;simp only[b_i_poly__multiply,qa,qb,cond_false,w1,w2,w3,mk,cond_true,Int.toNat_natCast,e,Option.bind_some,getTV_here,getTV_next,e2]
     · rw[q4];exact zBg (by rw[List.length_map];simp only[g2];omega)
theorem zVo:∃ q,R zKd [zH (0,[1])]=some [zI q]∧Pk 1 q∧pv q=1:=by
 have w1:wu64 1=1:=by decide
 have hw:W4 [1,0,0,0]:=W4.mk4 (by simp only[B64];omega) (by simp only[B64];omega) (by simp only[B64];omega) (by simp only[B64];omega);have c1:co [1,0,0,0]=1:=by
  unfold co;rw[vl4]
  rfl
 have e1:R zBB [tI 1]=some [tAw4 [1,0,0,0]]:=by
  apply zEo;simp only[zAJ,decide_eq_false (show ¬ (1:Int)<0 by omega),cond_false,w1]
 have e2:R zBC [tI 0,zJ [],tI 0,zJ [[1,0,0,0]],tLI [1],tI 1,tI 1]=some [tI 0,tI 0,zJ [],tI 0,zJ [[1,0,0,0]]]:=by
  apply zHC;simp only[zCp,decide_eq_false (show ¬ (1:Int)<1 by omega),cond_false]
 have e3:R zBC [tI 0,zJ [],tI 0,zJ [],tLI [1],tI 1,tI 0]=some [tI 0,tI 0,zJ [],tI 0,zJ [[1,0,0,0]]]:=by
  apply zHC;have w':wi64 ((0:Int)+1)=1:=by decide
  have ap:apOk ([]:List (List Int)) [[1,0,0,0]]=true:=zDp (by simp);have g:List.getD [(1:Int)] (Int.toNat 0) 0=1:=rfl;have l1:((List.length [(1:Int)]:Nat):Int)=1:=rfl;simp only[zCp,l1,decide_eq_true (show (0:Int)<1 by omega),decide_eq_true (show (0:Int)≤0 by omega),Bool.and_self,cond_true,g,e1,Option.bind_some,getTV_here,ap,w',List.nil_append,e2]
 refine⟨(0,[[1,0,0,0]]),?_,⟨Wl.one hw,⟨fun x t h=>?_,fun x t h=>?_⟩,fun h=>by simp at h,by simp,by simp⟩,?_⟩
 · apply zO4;have l1:((List.length [(1:Int)]:Nat):Int)=1:=rfl;simp only[zH6,l1,e3,Option.bind_some,getTV_here,getTV_next]
 · simp only[List.map_cons,List.map_nil,List.cons.injEq] at h;rw[← h.1,c1]
   decide
 · rw[List.map_cons,List.map_nil,c1] at h;have:=List.append_inj_right' (s₁:=[]) (t₁:=[(1:Co)]) h rfl;simp only[List.cons.injEq,and_true] at this;rw[← this]
   decide
 · show lst 0 [co [1,0,0,0]]=1;rw[c1,zRp]
def rv (l:List Pol):Row:=fun c=>pv (l.getD c (0,[]))
def Pl (K:Int) (l:List Pol):Prop:=∀ p∈l,Pk K p
theorem Pl.get {K:Int}{l:List Pol}(h:Pl K l) {i:Nat}(hi:i<l.length):Pk K (l.getD i (0,[])):=by
 rw[List.getD_eq_getElem?_getD,List.getElem?_eq_getElem hi];exact h _ (List.getElem_mem hi)
theorem Pl.set {K:Int}{l:List Pol}(h:Pl K l) (i:Nat) {p:Pol}(hp:Pk K p):Pl K (l.set i p):=fun y hy=>by
 rcases List.mem_or_eq_of_mem_set hy with h' | h'
 · exact h y h'
 · rw[h'];exact hp
theorem Pl.up {K L:Int}{l:List Pol}(h:Pl K l) (hL:K≤L):Pl L l:=fun p hp=>(h p hp).up hL
theorem zA4 {l:List Pol}{i:Nat}(hi:i<l.length) (p:Pol) (c:Nat):rv (l.set i p) c=if c=i then pv p else rv l c:=by
 unfold rv
 by_cases h:c=i
 · subst h;rw[if_pos rfl,List.getD_eq_getElem?_getD,List.getElem?_set_self hi]
   rfl
 · rw[if_neg h,List.getD_eq_getElem?_getD,List.getD_eq_getElem?_getD,List.getElem?_set_ne (fun e=>h e.symm)]
theorem zIY {l:List Pol}{i:Nat}:pv (l.getD i (0,[]))=rv l i:=rfl
theorem zU9 {l:List Pol}{K x:Int}(hl:Pl K l) (hx:x≠0) (hm:x.natAbs-1<l.length) (hK:K+1<100000000) (hl8:l.length<1000):∃ l',R zB0 [kY l,tI x]=some [kY l']∧Pl (K+1) l'∧l'.length=l.length∧rv l'=lstp l.length x (rv l):=by
 obtain⟨p,hp⟩:∃ p:Nat,x.natAbs=p+1:=⟨x.natAbs-1,by omega⟩;have hpm:p<l.length:=by omega
 have s0:R zAR [tI x]=some [tI ((p+1:Nat):Int)]:=by
  apply zLQ;have w:wi64 (0-x)=-x:=by rw[zD]<;>omega
  have:mx x (-x)=((p+1:Nat):Int):=by unfold mx;split<;>omega
  simp only[zEc,w,this]
 have w1:wi64 (((p+1:Nat):Int)-1)=(p:Int):=by rw[zD]<;>omega
 have hq:=hl.get hpm;obtain⟨q1,e1,f1,g1⟩:=zQW hq (by omega) (.inl rfl);obtain⟨q2,e2,f2,g2⟩:=zQZ f1 hK;obtain⟨q3,e3,f3,g3⟩:=zQW hq (by omega) (.inr rfl);obtain⟨q4,e4,f4,g4⟩:=zQZ f3 hK;have hup:=hl.up (show K≤K+1 by omega);have d1:decide (0≤(p:Int))=true:=decide_eq_true (by omega);have d2:decide ((p:Int)<((List.length l:Nat):Int))=true:=decide_eq_true (by omega);by_cases hn:x<0
 ·
  have dn:decide (x<0)=true:=decide_eq_true hn;have elu:lu x=1:=if_neg (by omega);have els:ls x=-tt (-1):=if_neg (by omega);have elv:lv x=tt (-1):=if_neg (by omega);have gM:pv q4=-(tt (-1)*rv l p):=by rw[g4,g3];rfl
  have hl1:Pl (K+1) (l.set p q2):=hup.set _ f2;have hl2:Pl (K+1) ((l.set p q2).set p q4):=hl1.set _ f4;have n2:((l.set p q2).set p q4).length=l.length:=by rw[List.length_set,List.length_set]
  have rv2:∀ c,rv ((l.set p q2).set p q4) c=if c=p then pv q4 else rv l c:=fun c=>by
   rw[zA4 (by rw[List.length_set];exact hpm),zA4 hpm]
   by_cases h:c=p
   · rw[if_pos h,if_pos h]
   · rw[if_neg h,if_neg h,if_neg h]
  have d3:decide ((p:Int)<((List.length (l.set p q2):Nat):Int))=true:=decide_eq_true (by rw[List.length_set];omega)
  by_cases h1:1≤p
  · have dl:decide (2≤((p+1:Nat):Int))=true:=decide_eq_true (by omega);have w2:wi64 (((p+1:Nat):Int)-2)=((p-1:Nat):Int):=by rw[zD]<;>omega
    have d4:decide (0≤((p-1:Nat):Int))=true:=decide_eq_true (by omega);have d5:decide (((p-1:Nat):Int)<((List.length ((l.set p q2).set p q4):Nat):Int))=true:=decide_eq_true (by omega);obtain⟨q6,e6,f6,g6⟩:=zMa (hl2.get (i:=p-1) (by omega)) (hq.up (show K≤K+1 by omega)) hK;have gL:pv q6=rv l (p-1)+rv l p:=by
     rw[g6,zIY,rv2,if_neg (by omega)]
     rfl
    have hl3:Pl (K+1) (((l.set p q2).set p q4).set (p-1) q6):=hl2.set _ f6;have n3:(((l.set p q2).set p q4).set (p-1) q6).length=l.length:=by rw[List.length_set,n2]
    by_cases h2:p+1<l.length
    · have dr:decide (((p+1:Nat):Int)<((List.length (((l.set p q2).set p q4).set (p-1) q6):Nat):Int))=true:=decide_eq_true (by omega);have d6:decide (0≤((p+1:Nat):Int))=true:=decide_eq_true (by omega);obtain⟨q7,e7,f7,g7⟩:=zMa (hl3.get (i:=p+1) (by omega)) f3 hK;have gR:pv q7=rv l (p+1)+tt (-1)*rv l p:=by
       rw[g7,zIY,zA4 (by omega),if_neg (by omega),rv2,if_neg (by omega),g3]
       rfl
      refine⟨(((l.set p q2).set p q4).set (p-1) q6).set (p+1) q7,?_,hl3.set _ f7,by rw[List.length_set,n3],?_⟩
      · apply kA;simp only[zj,s0,Option.bind_some,getTV_here,w1,d1,d2,Bool.and_self,cond_true,Int.toNat_natCast,e1,e2,dn,e3,e4,d3,dl,w2,d4,d5,e6,dr,d6,e7]
      · funext c;rw[zA4 (by omega),zA4 (by omega),rv2];unfold lstp stp;rw[elu,els,elv,show x.natAbs-1=p by omega,gR,gL,gM]
        by_cases c1:c=p
        · have n1:¬ c=p+1:=by omega
          have n2:¬ c=p-1:=by omega
          simp only[if_neg n1,if_neg n2,if_pos c1,jB]
        · by_cases c2:c=p-1
          · have n1:¬ c=p+1:=by omega
            have y1:1≤p∧c=p-1:=⟨h1,c2⟩;have y2:¬ (p+1<l.length∧c=p+1):=by omega
            simp only[if_neg n1,if_neg c1,if_pos y1,if_neg y2,if_pos c2,add_zero,one_mul];rw[c2]
          · by_cases c3:c=p+1
            · have y1:¬ (1≤p∧c=p-1):=by omega
              have y2:p+1<l.length∧c=p+1:=⟨h2,c3⟩;simp only[if_pos c3,if_neg c1,if_neg y1,if_pos y2,add_zero,one_mul];rw[c3]
            · have y1:¬ (1≤p∧c=p-1):=by omega
              have y2:¬ (p+1<l.length∧c=p+1):=by omega
              simp only[if_neg c1,if_neg y1,if_neg y2,add_zero,if_neg c2,if_neg c3]
    · have dr:decide (((p+1:Nat):Int)<((List.length (((l.set p q2).set p q4).set (p-1) q6):Nat):Int))=false:=decide_eq_false (by omega)
      refine⟨((l.set p q2).set p q4).set (p-1) q6,?_,hl3,n3,?_⟩
      · apply kA;simp only[zj,s0,Option.bind_some,getTV_here,w1,d1,d2,Bool.and_self,cond_true,cond_false,Int.toNat_natCast,e1,e2,dn,e3,e4,d3,dl,w2,d4,d5,e6,dr]
      · funext c;rw[zA4 (by omega),rv2];unfold lstp stp;rw[elu,els,elv,show x.natAbs-1=p by omega,gL,gM]
        by_cases c1:c=p
        · have n1:¬ c=p+1:=by omega
          have n2:¬ c=p-1:=by omega
          simp only[if_neg n1,if_neg n2,if_pos c1,jB]
        · by_cases c2:c=p-1
          · have n1:¬ c=p+1:=by omega
            have y1:1≤p∧c=p-1:=⟨h1,c2⟩;have y2:¬ (p+1<l.length∧c=p+1):=by omega
            simp only[if_neg n1,if_neg c1,if_pos y1,if_neg y2,if_pos c2,add_zero,one_mul];rw[c2]
          · have y1:¬ (1≤p∧c=p-1):=by omega
            have y2:¬ (p+1<l.length∧c=p+1):=by omega
            simp only[if_neg c1,if_neg y1,if_neg y2,add_zero,if_neg c2]
  · have dl:decide (2≤((p+1:Nat):Int))=false:=decide_eq_false (by omega)
    by_cases h2:p+1<l.length
    · have dr:decide (((p+1:Nat):Int)<((List.length ((l.set p q2).set p q4):Nat):Int))=true:=decide_eq_true (by omega);have d6:decide (0≤((p+1:Nat):Int))=true:=decide_eq_true (by omega);obtain⟨q7,e7,f7,g7⟩:=zMa (hl2.get (i:=p+1) (by omega)) f3 hK;have gR:pv q7=rv l (p+1)+tt (-1)*rv l p:=by
       rw[g7,zIY,rv2,if_neg (by omega),g3]
       rfl
      refine⟨((l.set p q2).set p q4).set (p+1) q7,?_,hl2.set _ f7,by rw[List.length_set,n2],?_⟩
      · apply kA;simp only[zj,s0,Option.bind_some,getTV_here,w1,d1,d2,Bool.and_self,cond_true,cond_false,Int.toNat_natCast,e1,e2,dn,e3,e4,d3,dl,dr,d6,e7]
      · funext c;rw[zA4 (by omega),rv2];unfold lstp stp;rw[elu,els,elv,show x.natAbs-1=p by omega,gR,gM]
        by_cases c1:c=p
        · have n1:¬ c=p+1:=by omega
          simp only[if_neg n1,if_pos c1,jB]
        · by_cases c3:c=p+1
          · have y1:¬ (1≤p∧c=p-1):=by omega
            have y2:p+1<l.length∧c=p+1:=⟨h2,c3⟩;simp only[if_pos c3,if_neg c1,if_neg y1,if_pos y2,add_zero,one_mul];rw[c3]
          · have y1:¬ (1≤p∧c=p-1):=by omega
            have y2:¬ (p+1<l.length∧c=p+1):=by omega
            simp only[if_neg c1,if_neg y1,if_neg y2,add_zero,if_neg c3]
    · have dr:decide (((p+1:Nat):Int)<((List.length ((l.set p q2).set p q4):Nat):Int))=false:=decide_eq_false (by omega)
      refine⟨(l.set p q2).set p q4,?_,hl2,n2,?_⟩
      · apply kA;simp only[zj,s0,Option.bind_some,getTV_here,w1,d1,d2,Bool.and_self,cond_true,cond_false,Int.toNat_natCast,e1,e2,dn,e3,e4,d3,dl,dr]
      · funext c;rw[rv2];unfold lstp stp;rw[elu,els,elv,show x.natAbs-1=p by omega,gM]
        by_cases c1:c=p
        · have n1:¬ c=p+1:=by omega
          simp only[if_neg n1,if_pos c1,jB]
        · have y1:¬ (1≤p∧c=p-1):=by omega
          have y2:¬ (p+1<l.length∧c=p+1):=by omega
          simp only[if_neg c1,if_neg y1,if_neg y2,add_zero]
 ·
  have dn:decide (x<0)=false:=decide_eq_false hn;have elu:lu x=tt 1:=if_pos (by omega);have els:ls x=-tt 1:=if_pos (by omega);have elv:lv x=1:=if_pos (by omega);have gM:pv q2=-(tt 1*rv l p):=by rw[g2,g1];rfl
  have hl2:Pl (K+1) (l.set p q2):=hup.set _ f2;have n2:(l.set p q2).length=l.length:=by rw[List.length_set]
  have rv2:∀ c,rv (l.set p q2) c=if c=p then pv q2 else rv l c:=fun c=>zA4 hpm q2 c
  by_cases h1:1≤p
  · have dl:decide (2≤((p+1:Nat):Int))=true:=decide_eq_true (by omega);have w2:wi64 (((p+1:Nat):Int)-2)=((p-1:Nat):Int):=by rw[zD]<;>omega
    have d4:decide (0≤((p-1:Nat):Int))=true:=decide_eq_true (by omega);have d5:decide (((p-1:Nat):Int)<((List.length (l.set p q2):Nat):Int))=true:=decide_eq_true (by omega);obtain⟨q6,e6,f6,g6⟩:=zMa (hl2.get (i:=p-1) (by omega)) f1 hK;have gL:pv q6=rv l (p-1)+tt 1*rv l p:=by
     rw[g6,zIY,rv2,if_neg (by omega)];rw[g1];rfl
    have hl3:Pl (K+1) ((l.set p q2).set (p-1) q6):=hl2.set _ f6;have n3:((l.set p q2).set (p-1) q6).length=l.length:=by rw[List.length_set,n2]
    by_cases h2:p+1<l.length
    · have dr:decide (((p+1:Nat):Int)<((List.length ((l.set p q2).set (p-1) q6):Nat):Int))=true:=decide_eq_true (by omega);have d6:decide (0≤((p+1:Nat):Int))=true:=decide_eq_true (by omega);obtain⟨q7,e7,f7,g7⟩:=zMa (hl3.get (i:=p+1) (by omega)) (hq.up (show K≤K+1 by omega)) hK;have gR:pv q7=rv l (p+1)+rv l p:=by
       rw[g7,zIY,zA4 (by omega),if_neg (by omega),rv2,if_neg (by omega)]
       rfl
      refine⟨((l.set p q2).set (p-1) q6).set (p+1) q7,?_,hl3.set _ f7,by rw[List.length_set,n3],?_⟩
      · apply kA;simp only[zj,s0,Option.bind_some,getTV_here,w1,d1,d2,Bool.and_self,cond_true,cond_false,Int.toNat_natCast,e1,e2,dn,dl,w2,d4,d5,e6,dr,d6,e7]
      · funext c;rw[zA4 (by omega),zA4 (by omega),rv2];unfold lstp stp;rw[elu,els,elv,show x.natAbs-1=p by omega,gR,gL,gM]
        by_cases c1:c=p
        · have n1:¬ c=p+1:=by omega
          have n2:¬ c=p-1:=by omega
          simp only[if_neg n1,if_neg n2,if_pos c1,jB]
        · by_cases c2:c=p-1
          · have n1:¬ c=p+1:=by omega
            have y1:1≤p∧c=p-1:=⟨h1,c2⟩;have y2:¬ (p+1<l.length∧c=p+1):=by omega
            simp only[if_neg n1,if_neg c1,if_pos y1,if_neg y2,if_pos c2,add_zero,one_mul];rw[c2]
          · by_cases c3:c=p+1
            · have y1:¬ (1≤p∧c=p-1):=by omega
              have y2:p+1<l.length∧c=p+1:=⟨h2,c3⟩;simp only[if_pos c3,if_neg c1,if_neg y1,if_pos y2,add_zero,one_mul];rw[c3]
            · have y1:¬ (1≤p∧c=p-1):=by omega
              have y2:¬ (p+1<l.length∧c=p+1):=by omega
              simp only[if_neg c1,if_neg y1,if_neg y2,add_zero,if_neg c2,if_neg c3]
    · have dr:decide (((p+1:Nat):Int)<((List.length ((l.set p q2).set (p-1) q6):Nat):Int))=false:=decide_eq_false (by omega)
      refine⟨(l.set p q2).set (p-1) q6,?_,hl3,n3,?_⟩
      · apply kA;simp only[zj,s0,Option.bind_some,getTV_here,w1,d1,d2,Bool.and_self,cond_true,cond_false,Int.toNat_natCast,e1,e2,dn,dl,w2,d4,d5,e6,dr]
      · funext c;rw[zA4 (by omega),rv2];unfold lstp stp;rw[elu,els,elv,show x.natAbs-1=p by omega,gL,gM]
        by_cases c1:c=p
        · have n1:¬ c=p+1:=by omega
          have n2:¬ c=p-1:=by omega
          simp only[if_neg n1,if_neg n2,if_pos c1,jB]
        · by_cases c2:c=p-1
          · have n1:¬ c=p+1:=by omega
            have y1:1≤p∧c=p-1:=⟨h1,c2⟩;have y2:¬ (p+1<l.length∧c=p+1):=by omega
            simp only[if_neg n1,if_neg c1,if_pos y1,if_neg y2,if_pos c2,add_zero,one_mul];rw[c2]
          · have y1:¬ (1≤p∧c=p-1):=by omega
            have y2:¬ (p+1<l.length∧c=p+1):=by omega
            simp only[if_neg c1,if_neg y1,if_neg y2,add_zero,if_neg c2]
  · have dl:decide (2≤((p+1:Nat):Int))=false:=decide_eq_false (by omega)
    by_cases h2:p+1<l.length
    · have dr:decide (((p+1:Nat):Int)<((List.length (l.set p q2):Nat):Int))=true:=decide_eq_true (by omega);have d6:decide (0≤((p+1:Nat):Int))=true:=decide_eq_true (by omega);obtain⟨q7,e7,f7,g7⟩:=zMa (hl2.get (i:=p+1) (by omega)) (hq.up (show K≤K+1 by omega)) hK;have gR:pv q7=rv l (p+1)+rv l p:=by
       rw[g7,zIY,rv2,if_neg (by omega)]
       rfl
      refine⟨(l.set p q2).set (p+1) q7,?_,hl2.set _ f7,by rw[List.length_set,n2],?_⟩
      · apply kA;simp only[zj,s0,Option.bind_some,getTV_here,w1,d1,d2,Bool.and_self,cond_true,cond_false,Int.toNat_natCast,e1,e2,dn,dl,dr,d6,e7]
      · funext c;rw[zA4 (by omega),rv2];unfold lstp stp;rw[elu,els,elv,show x.natAbs-1=p by omega,gR,gM]
        by_cases c1:c=p
        · have n1:¬ c=p+1:=by omega
          simp only[if_neg n1,if_pos c1,jB]
        · by_cases c3:c=p+1
          · have y1:¬ (1≤p∧c=p-1):=by omega
            have y2:p+1<l.length∧c=p+1:=⟨h2,c3⟩;simp only[if_pos c3,if_neg c1,if_neg y1,if_pos y2,add_zero,one_mul];rw[c3]
          · have y1:¬ (1≤p∧c=p-1):=by omega
            have y2:¬ (p+1<l.length∧c=p+1):=by omega
            simp only[if_neg c1,if_neg y1,if_neg y2,add_zero,if_neg c3]
    · have dr:decide (((p+1:Nat):Int)<((List.length (l.set p q2):Nat):Int))=false:=decide_eq_false (by omega)
      refine⟨l.set p q2,?_,hl2,n2,?_⟩
      · apply kA;simp only[zj,s0,Option.bind_some,getTV_here,w1,d1,d2,Bool.and_self,cond_true,cond_false,Int.toNat_natCast,e1,e2,dn,dl,dr]
      · funext c;rw[rv2];unfold lstp stp;rw[elu,els,elv,show x.natAbs-1=p by omega,gM]
        by_cases c1:c=p
        · have n1:¬ c=p+1:=by omega
          simp only[if_neg n1,if_pos c1,jB]
        · have y1:¬ (1≤p∧c=p-1):=by omega
          have y2:¬ (p+1<l.length∧c=p+1):=by omega
          simp only[if_neg c1,if_neg y1,if_neg y2,add_zero]
end Go.Ev.YtlkmkabnbegfdaaGreatP
