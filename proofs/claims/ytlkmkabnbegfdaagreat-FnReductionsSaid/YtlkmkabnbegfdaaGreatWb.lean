/- Texts merged: Md1 Md2 Md3 Mw1 MwL Mw3 MwN Mw9 Mx1 Mx2 Mh1 Mh2 Mh3 Mh4 Mk1 Mz1 Mz2 Mz3 Mz4. -/
import Derived.Test.YtlkmkabnbegfdaaGreatWa
set_option linter.unusedVariables false
set_option linter.unusedSimpArgs false
namespace Go.Ev.YtlkmkabnbegfdaaGreat
open Go.Ev Go.Gar
abbrev Sc:=List Int×Int×Int
structure Src (s:Sc):Prop where
 len:s.1.length≤4096
 by':∀ x∈s.1,0≤x∧x≤255
 lo:0≤s.2.1
 hi:s.2.1≤4096
theorem zNo (X:Int):0≤bitsAnd .u64 X 16777215∧bitsAnd .u64 X 16777215≤16777215:=by
 unfold bitsAnd;rw[BitVec.toNat_and];show 0≤IntKind.wrap .u64 (((BitVec.ofInt 64 X).toNat &&& (BitVec.ofInt 64 16777215).toNat:Nat):Int)∧IntKind.wrap .u64 (((BitVec.ofInt 64 X).toNat &&& (BitVec.ofInt 64 16777215).toNat:Nat):Int)≤_;have e:(BitVec.ofInt 64 16777215).toNat=16777215:=by decide
 rw[e];have h:(BitVec.ofInt 64 X).toNat &&& 16777215≤16777215:=Nat.and_le_right;rw[show IntKind.wrap .u64 (((BitVec.ofInt 64 X).toNat &&& 16777215:Nat):Int)=(((BitVec.ofInt 64 X).toNat &&& 16777215:Nat):Int) from kP (by omega) (by omega)];omega
theorem zJC {a n:Int}(ha:0≤a) (hn:1≤n):0≤Int.tmod a n∧Int.tmod a n<n:=by
 rw[Int.tmod_eq_emod_of_nonneg ha];exact⟨Int.emod_nonneg _ (by omega),Int.emod_lt_of_pos _ (by omega)⟩
theorem zQr {l:List Int}(h:∀ x∈l,0≤x∧x≤255) {i:Nat}(hi:i<l.length):0≤List.getD l i 0∧List.getD l i 0≤255:=by
 rw[zV hi];exact h _ (List.getElem_mem hi)
theorem zDQ (s:Sc) (hs:Src s) (n:Int):∃ (r:Int) (s':Sc),R zW [zE s,tI n]=some [tI r,zE s']∧Src s'∧0≤r∧(1≤n→r<n):=by
 by_cases h1:n<1
 · refine⟨0,s,?_,hs,by omega,by omega⟩;apply zFa;have p:decide (n<1)=true:=decide_eq_true h1;simp only[zCN,p,cond_true]
 · have p:decide (n<1)=false:=decide_eq_false h1;have p0:(n != 0)=true:=by simp;omega
   have hl:=hs.len;have ha:=hs.lo;have hh:=hs.hi
   by_cases h2:s.2.1<(s.1.length:Int)
   · have p1:decide (s.2.1<((s.1.length:Nat):Int))=true:=decide_eq_true h2;have p2:decide (0≤s.2.1)=true:=decide_eq_true ha;have hb:=zQr hs.by' (i:=s.2.1.toNat) (by omega);have hm:=zNo (shr .u64 (wu64 ((wu64 (s.2.2*6364136223846793005))+1442695040888963407)) 33);generalize hX:bitsAnd .u64 (shr .u64 (wu64 ((wu64 (s.2.2*6364136223846793005))+1442695040888963407)) 33) 16777215=X at hm;generalize hY:List.getD s.1 s.2.1.toNat 0=Y at hb;have e1:wi64 X=X:=zD (by omega) (by omega);have e2:wi64 Y=Y:=zD (by omega) (by omega);have e3:wi64 (X+Y)=X+Y:=zD (by omega) (by omega);have e4:wi64 (s.2.1+1)=s.2.1+1:=zD (by omega) (by omega);have t:=zJC (a:=X+Y) (n:=n) (by omega) (by omega);refine⟨Int.tmod (X+Y) n,(s.1,(s.2.1+1,wu64 ((wu64 (s.2.2*6364136223846793005))+1442695040888963407))),?_,⟨hs.len,hs.by',by show (0:Int)≤s.2.1+1;omega,by show s.2.1+1≤(4096:Int);omega⟩,t.1,fun _=>t.2⟩;apply zFa;simp only[zCN,p,p0,p1,p2,cond_true,cond_false,Bool.and_true,hX,hY,e1,e2,e3,e4]
   · have p1:decide (s.2.1<((s.1.length:Nat):Int))=false:=decide_eq_false h2;have hm:=zNo (shr .u64 (wu64 ((wu64 (s.2.2*6364136223846793005))+1442695040888963407)) 33);generalize hX:bitsAnd .u64 (shr .u64 (wu64 ((wu64 (s.2.2*6364136223846793005))+1442695040888963407)) 33) 16777215=X at hm;have e1:wi64 X=X:=zD (by omega) (by omega);have t:=zJC (a:=X) (n:=n) (by omega) (by omega);refine⟨Int.tmod X n,(s.1,(s.2.1,wu64 ((wu64 (s.2.2*6364136223846793005))+1442695040888963407))),?_,⟨hs.len,hs.by',ha,hh⟩,t.1,fun _=>t.2⟩;apply zFa;simp only[zCN,p,p0,p1,cond_true,cond_false,hX,e1]
theorem zKw (s:Sc) (hs:Src s) (l:List Int) (hl:l≠[]) (hl':l.length<1000):∃ (r:Int) (s':Sc),R jl [zE s,tLI l]=some [tI r,zE s']∧Src s'∧r∈l:=by
 have h0:0<l.length:=List.length_pos_iff.2 hl;obtain⟨r,s',hr,hs',r0,r1⟩:=zDQ s hs ((l.length:Nat):Int);have r2:=r1 (by omega)
 refine⟨List.getD l r.toNat 0,s',?_,hs',?_⟩
 · apply zN3;have p1:decide (0≤r)=true:=decide_eq_true r0;have p2:decide (r<((l.length:Nat):Int))=true:=decide_eq_true r2;simp only[zF8,hr,Option.bind_some,getTV_here,getTV_next,p1,p2,Bool.and_true,cond_true]
 · rw[zV (by omega)];exact List.getElem_mem _
theorem zMV (a:List Int) (hl:a.length≤4096):∀ (d i:Nat) (x:Int),i+d=a.length→∃ y:Int,R zBa [tLU8 a,tI 0,tU64 x,tI (i:Int)]=some [tI 0,tI 0,tU64 y,tLU8 a]:=by
 intro d
 induction d with
 | zero=>
  intro i x hi;refine⟨x,?_⟩;apply zGO;have p1:decide ((i:Int)<((a.length:Nat):Int))=false:=decide_eq_false (by omega);simp only[zBr,p1,cond_false]
 | succ d ih=>
  intro i x hi;have p1:decide ((i:Int)<((a.length:Nat):Int))=true:=decide_eq_true (by omega);have p2:decide ((i:Int)<4096)=true:=decide_eq_true (by omega);have p3:decide (0≤(i:Int))=true:=decide_eq_true (by omega);have w:wi64 ((i:Int)+1)=((i+1:Nat):Int):=by rw[zD]<;>omega
  obtain⟨y,hy⟩:=ih (i+1) (wu64 ((wu64 ((wu64 (x*1099511628211))+(wu64 ((List.getD a (Int.toNat (i:Int)) 0)))))+29)) (by omega);refine⟨y,?_⟩;apply zGO;simp only[zBr,p1,p2,p3,cond_true,Bool.and_true,w,hy]
theorem zQj (a:List Int) (h:∀ x∈a,0≤x∧x≤255) (hl:a.length≤4096):∃ s:Sc,R zFu [tLU8 a]=some [zE s]∧Src s:=by
 obtain⟨y,hy⟩:=zMV a hl a.length 0 (wu64 (9049+(wu64 (((a.length:Nat):Int))))) (by omega);refine⟨(a,(0,y)),?_,⟨hl,h,by show (0:Int)≤0;omega,by show (0:Int)≤4096;omega⟩⟩;apply zN4;simp only[Int.natCast_zero] at hy;simp only[zF9,hy,Option.bind_some,getTV_here,getTV_next]
theorem Lw.snoc {n:Nat}{w:List Int}(h:Lw n w) {x:Int}(hx:x≠0∧1-(n:Int)≤x∧x≤(n:Int)-1):Lw n (w++[x]):=by
 intro y hy
 rcases List.mem_append.1 hy with h' | h'
 · exact h y h'
 · rw[List.mem_singleton.1 h'];exact hx
theorem zQN (n:Nat) (hn:n≤100) (k:Nat) (hk:k+1≤1000) (kind:Int)
  (ih:∀ (j:Nat),j≤k→∀ (s:Sc) (out:List Int),Src s→Lw n out→out.length+j≤1000→∃ (s':Sc) (out':List Int),R zO [tI s.2.1,tU64 s.2.2,tLU8 s.1,tLI out,tI (n:Int),tI kind,tI (j:Int)]=some [tI 0,tI s'.2.1,tU64 s'.2.2,tLU8 s'.1,tLI out']∧Src s'∧Lw n out'∧out'.length≤out.length+j)
  (s:Sc) (out:List Int) (hs:Src s) (hw:Lw n out) (hl:out.length+(k+1)≤1000) (x:Int) (hx:x≠0∧1-(n:Int)≤x∧x≤(n:Int)-1):
  ∃ (s':Sc) (out':List Int),((R zW [zE s,tI 12]).bind fun o10=>
    bif ((gI o10 0)==0) then
     bif decide (1<((k+1:Nat):Int)) then
      bif (apOk (out++[x]) [(wi64 (0-x))]) then
       R zO [tI (((zC o10 1).2).1),tU64 (((zC o10 1).2).2),tLU8 ((zC o10 1).1),tLI ((out++[x])++[(wi64 (0-x))]),tI (n:Int),tI kind,tI (wi64 ((wi64 (((k+1:Nat):Int)-1))-1))]
      else none
     else
      R zO [tI (((zC o10 1).2).1),tU64 (((zC o10 1).2).2),tLU8 ((zC o10 1).1),tLI (out++[x]),tI (n:Int),tI kind,tI (wi64 (((k+1:Nat):Int)-1))]
    else
     R zO [tI (((zC o10 1).2).1),tU64 (((zC o10 1).2).2),tLU8 ((zC o10 1).1),tLI (out++[x]),tI (n:Int),tI kind,tI (wi64 (((k+1:Nat):Int)-1))])
   = some [tI 0,tI s'.2.1,tU64 s'.2.2,tLU8 s'.1,tLI out']∧Src s'∧Lw n out'∧out'.length≤out.length+(k+1):=by
 obtain⟨r,s1,hr,hs1,r0,r1⟩:=zDQ s hs 12;have w1:wi64 (((k+1:Nat):Int)-1)=((k:Nat):Int):=by rw[zD]<;>omega
 have wx:wi64 (0-x)=-x:=by rw[zD]<;>omega
 have hw1:Lw n (out++[x]):=hw.snoc hx;have hw2:Lw n ((out++[x])++[-x]):=hw1.snoc (by omega);have ap:apOk (out++[x]) [-x]=true:=zIR (by simp;omega);simp only[hr,Option.bind_some,getTV_here,getTV_next,w1,wx,ap,cond_true]
 by_cases h0:r=0
 · have p0:(r==0)=true:=by simp[h0]
   by_cases h1:1≤k
   · have p1:decide ((1:Int)<((k+1:Nat):Int))=true:=decide_eq_true (by omega);have w2:wi64 ((k:Int)-1)=((k-1:Nat):Int):=by rw[zD]<;>omega
     obtain⟨s',out',e,a,b,c⟩:=ih (k-1) (by omega) s1 _ hs1 hw2 (by simp;omega);refine⟨s',out',?_,a,b,by simp at c;omega⟩;simp only[p0,p1,cond_true,w2];exact e
   · have p1:decide ((1:Int)<((k+1:Nat):Int))=false:=decide_eq_false (by omega);obtain⟨s',out',e,a,b,c⟩:=ih k (by omega) s1 _ hs1 hw1 (by simp;omega);refine⟨s',out',?_,a,b,by simp at c;omega⟩;simp only[p0,p1,cond_true,cond_false];exact e
 · have p0:(r==0)=false:=by simp[h0]
   obtain⟨s',out',e,a,b,c⟩:=ih k (by omega) s1 _ hs1 hw1 (by simp;omega);refine⟨s',out',?_,a,b,by simp at c;omega⟩;simp only[p0,cond_false];exact e
theorem zMW (n:Nat) (h2:2≤n) (hn:n≤100) (kind:Int):∀ (K j:Nat),j≤K→K≤1000→∀ (s:Sc) (out:List Int),Src s→Lw n out→out.length+j≤1000→∃ (s':Sc) (out':List Int),R zO [tI s.2.1,tU64 s.2.2,tLU8 s.1,tLI out,tI (n:Int),tI kind,tI (j:Int)]=some [tI 0,tI s'.2.1,tU64 s'.2.2,tLU8 s'.1,tLI out']∧Src s'∧Lw n out'∧out'.length≤out.length+j:=by
 intro K
 induction K with
 | zero=>
  intro j hj _ s out hs hw hl;obtain rfl:j=0:=by omega
  refine⟨s,out,?_,hs,hw,by omega⟩;apply jw;simp[kq]
 | succ K ih=>
  intro j hj hK s out hs hw hl
  by_cases hjK:j≤K
  · exact ih j hjK (by omega) s out hs hw hl
  obtain rfl:j=K+1:=by omega
  have p1:decide ((0:Int)<((K+1:Nat):Int))=true:=decide_eq_true (by omega);have wn:wi64 ((n:Int)-1)=((n-1:Nat):Int):=by rw[zD]<;>omega
  obtain⟨r,s1,hr,hs1,r0,r1'⟩:=zDQ s hs ((n-1:Nat):Int);have r1:=r1' (by omega);have wr:wi64 (1+r)=1+r:=by rw[zD]<;>omega
  have wm:wi64 (0-(1+r))=-(1+r):=by rw[zD]<;>omega
  have T:=zQN n hn K (by omega) kind (fun j hj s out a b c=>ih j hj (by omega) s out a b c);have apn:apOk out [-(1+r)]=true:=zIR (by simp;omega);have app:apOk out [1+r]=true:=zIR (by simp;omega)
  by_cases k1:kind=1
  · obtain⟨s',out',e,a,b,c⟩:=T s1 out hs1 hw hl (-(1+r)) (by omega);refine⟨s',out',?_,a,b,c⟩;apply jw;have q:(kind==1)=true:=by simp[k1]
    simp only[kq,p1,cond_true,wn,hr,Option.bind_some,getTV_here,getTV_next,q,wr,wm,apn];exact e
  · have q:(kind==1)=false:=by simp[k1]
    by_cases k2:1<kind
    · have q2:decide (1<kind)=true:=decide_eq_true k2;obtain⟨t,s2,ht,hs2,t0,t1⟩:=zDQ s1 hs1 2
      by_cases h0:t=0
      · have p0:(t==0)=true:=by simp[h0]
        obtain⟨s',out',e,a,b,c⟩:=T s2 out hs2 hw hl (-(1+r)) (by omega);refine⟨s',out',?_,a,b,c⟩;apply jw;simp only[kq,p1,cond_true,cond_false,wn,hr,ht,Option.bind_some,getTV_here,getTV_next,q,q2,p0,wr,wm,apn];exact e
      · have p0:(t==0)=false:=by simp[h0]
        obtain⟨s',out',e,a,b,c⟩:=T s2 out hs2 hw hl (1+r) (by omega);refine⟨s',out',?_,a,b,c⟩;apply jw;simp only[kq,p1,cond_true,cond_false,wn,hr,ht,Option.bind_some,getTV_here,getTV_next,q,q2,p0,wr,app];exact e
    · have q2:decide (1<kind)=false:=decide_eq_false k2;obtain⟨s',out',e,a,b,c⟩:=T s1 out hs1 hw hl (1+r) (by omega);refine⟨s',out',?_,a,b,c⟩;apply jw;simp only[kq,p1,cond_true,cond_false,wn,hr,Option.bind_some,getTV_here,getTV_next,q,q2,wr,app];exact e
theorem zQm (s:Sc) (hs:Src s) (n most:Int) (hn0:-1000≤n) (hn:n≤100) (hm0:0≤most) (hm:most≤500):∃ (w:List Int) (s':Sc),R jP [zE s,tI n,tI most]=some [tLI w,zE s']∧Src s'∧Lw n.toNat w∧(w.length:Int)≤most:=by
 by_cases h1:n<2
 · refine⟨[],s,?_,hs,fun x hx=>by simp at hx,by simpa using hm0⟩;apply zIV;have p:decide (n<2)=true:=decide_eq_true h1;simp only[zDk,p,cond_true]
 · have p:decide (n<2)=false:=decide_eq_false h1;obtain⟨k,s1,hk,hs1,k0,k1⟩:=zDQ s hs 4;have wm:wi64 (most+1)=most+1:=by rw[zD]<;>omega
   obtain⟨l,s2,hl,hs2,l0,l1'⟩:=zDQ s1 hs1 (most+1);have l1:=l1' (by omega);obtain⟨s',w,e,a,b,c⟩:=zMW n.toNat (by omega) (by omega) k l.toNat l.toNat (Nat.le_refl _) (by omega) s2 [] hs2 (fun x hx=>by simp at hx) (by simp;omega);rw[show ((n.toNat:Nat):Int)=n by omega,show ((l.toNat:Nat):Int)=l by omega] at e;refine⟨w,s',?_,a,b,by simp at c;omega⟩;apply zIV;simp only[zDk,p,cond_false,hk,wm,hl,Option.bind_some,getTV_here,getTV_next,e]
end Go.Ev.YtlkmkabnbegfdaaGreat
namespace Go.Ev.YtlkmkabnbegfdaaGreat
open Go.Ev Go.Gar
theorem zKz (a b:List Int) (h0:a.length<1000000000) (h1:b.length=a.length):∀ (d i:Nat),i+d=a.length→R zAY [tLI a,tLI b,tI (i:Int)]=some (if a.drop i=b.drop i then [tI 0] else [tI 1,tB false]):=by
 intro d
 induction d with
 | zero=>
  intro i hi;apply zEk;have p1:decide ((i:Int)<((a.length:Nat):Int))=false:=decide_eq_false (by omega);rw[List.drop_eq_nil_of_le (by omega),List.drop_eq_nil_of_le (by omega)];simp only[zAi,p1,cond_false,if_true]
 | succ d ih=>
  intro i hi;apply zEk;have p1:decide ((i:Int)<((a.length:Nat):Int))=true:=decide_eq_true (by omega);have p2:decide ((i:Int)<((b.length:Nat):Int))=true:=decide_eq_true (by omega);have p3:decide (0≤(i:Int))=true:=decide_eq_true (by omega);have w:wi64 ((i:Int)+1)=((i+1:Nat):Int):=by rw[zD]<;>omega
  simp only[zAi,p1,p2,p3,cond_true,Bool.and_true,w,Int.toNat_natCast,zV (show i<a.length by omega),zV (show i<b.length by omega),zBI,ih (i+1) (by omega)];have da:a.drop i=a[i]'(by omega)::a.drop (i+1):=List.drop_eq_getElem_cons _;have db:b.drop i=b[i]'(by omega)::b.drop (i+1):=List.drop_eq_getElem_cons _;rw[da,db];simp only[List.cons.injEq]
  by_cases h:a[i]=b[i]
  · simp[h]
  · simp[h]
theorem zOh (a b:List Int) (h0:a.length<1000000000):R zEL [tLI a,tLI b]=some [tB (decide (a=b))]:=by
 apply zLL
 by_cases h3:a.length=b.length
 · have h:=zKz a b h0 h3.symm a.length 0 (by omega);simp only[Int.natCast_zero,List.drop_zero] at h;have q3:(((a.length:Nat):Int) != ((b.length:Nat):Int))=false:=by simp[h3]
   simp only[zCm,q3,cond_false,h,Option.bind_some]
   by_cases e:a=b
   · simp[e]
   · simp[e]
 · have e:¬ a=b:=fun e=>h3 (by rw[e])
   have q3:¬ ((a.length:Nat):Int)=((b.length:Nat):Int):=by omega
   simp[zCm,zBI,q3,e]
structure Bd (a:Int×List Int):Prop where
 lo:-1000≤a.1
 hi:a.1≤1000
 len:a.2.length≤1000
 rng:∀ x∈a.2,-1000≤x∧x≤1000
theorem Bd.i64 {a:Int×List Int}(h:Bd a):I64 a.2:=fun x hx=>by
 have:=h.rng x hx;omega
theorem Bd.l {a:Int×List Int}(h:Bd a):a.2.length<1000000000:=by have:=h.len;omega
theorem Bd.mk' {n:Int}{w:List Int}(h:Lw n.toNat w) (lo:-9≤n) (hi:n≤100) (hl:w.length≤500):Bd (n,w):=
 ⟨by show -1000≤n;omega,by show n≤1000;omega,by show w.length≤1000;omega,fun x hx=>by have:=h x hx;omega⟩
theorem zVn (l:List Int) (h:l.length<1000000):R zHh [tLI l]=some [tLI l]:=by
 apply zO1;have ap:apOk [] l=true:=zOo (by omega);simp only[zH4,ap,cond_true]
theorem zNk (s:Sc) (hs:Src s) (a:Int×List Int) (ha:Bd a) (hl:a.2.length≤500):∃ (b:Int×List Int) (s':Sc),R zBb [zE s,zH a]=some [zH b,zE s']∧Src s'∧Bd b:=by
 obtain⟨r,s1,hr,hs1,r0,r1⟩:=zDQ s hs 30
 by_cases h0:r=0
 · obtain⟨n,s2,hn,hs2,hm⟩:=zKw s1 hs1 [0,9,1,(-1)] (by simp) (by simp)
   refine⟨(n,a.2),s2,?_,hs2,⟨?_,?_,ha.len,ha.rng⟩⟩
   · apply zC0;simp[zAI,hr,h0,hn]
   · simp at hm;show -1000≤n;omega
   · simp at hm;show n≤1000;omega
 · have q0:(r==0)=false:=by simp[h0]
   by_cases h1:r=1
   · have q1:(r==1)=true:=by simp[h1]
     obtain⟨x,s2,hx,hs2,hm⟩:=zKw s1 hs1 [0,a.1,(wi64 (0-a.1))] (by simp) (by simp);have A:=ha.lo;have B:=ha.hi;have w:wi64 (0-a.1)=-a.1:=by rw[zD]<;>omega
     have ap:apOk a.2 [x]=true:=zDp (by have:=ha.len;omega)
     refine⟨(a.1,a.2++[x]),s2,?_,hs2,⟨A,B,by show (a.2++[x]).length≤1000;simp;omega,fun y hy=>?_⟩⟩
     · apply zC0;simp only[zAI,hr,Option.bind_some,getTV_here,getTV_next,q0,q1,cond_true,cond_false,zVn a.2 (by omega),hx,ap]
     · rcases List.mem_append.1 hy with h | h
       · exact ha.rng y h
       · rw[List.mem_singleton.1 h];rw[w] at hm;simp at hm;omega
   · have q1:(r==1)=false:=by simp[h1]
     refine⟨a,s1,?_,hs1,ha⟩;apply zC0;simp only[zAI,hr,Option.bind_some,getTV_here,getTV_next,q0,q1,cond_true,cond_false]
theorem zMX (s:Sc) (hs:Src s):∃ (b:Int×List Int) (s':Sc),R zA9 [zE s]=some [zH b,zE s']∧Src s'∧Bd b∧b.2.length≤500:=by
 obtain⟨r1,s1,h1,hs1,m1⟩:=zKw s hs [2,3,5] (by simp) (by simp);obtain⟨r2,s2,h2,hs2,a2,b2'⟩:=zDQ s1 hs1 r1;have b2:r2<r1:=by simp at m1;exact b2' (by omega)
 obtain⟨r3,s3,h3,hs3,m3⟩:=zKw s2 hs2 [4,10,20] (by simp) (by simp);simp at m1 m3;have w:wi64 (2+r2)=2+r2:=by rw[zD]<;>omega
 obtain⟨w4,s4,h4,hs4,l4,n4⟩:=zQm s3 hs3 (2+r2) r3 (by omega) (by omega) (by omega) (by omega);refine⟨(2+r2,w4),s4,?_,hs4,Bd.mk' l4 (by omega) (by omega) (by omega),by show w4.length≤500;omega⟩;apply zHB;simp only[zBH,h1,h2,h3,Option.bind_some,getTV_here,getTV_next,w,h4]
theorem zQV (s:Sc) (hs:Src s):∃ (b:Int×List Int) (s':Sc),R jI [zE s]=some [zH b,zE s']∧Src s'∧Bd b:=by
 obtain⟨r1,s1,h1,hs1,a1,b1⟩:=zDQ s hs 12
 by_cases h0:r1=0
 · have q0:(r1==0)=true:=by simp[h0]
   obtain⟨r2,s2,h2,hs2,m2⟩:=zKw s1 hs1 [1,7,8] (by simp) (by simp);simp at m2;obtain⟨w3,s3,h3,hs3,l3,n3⟩:=zQm s2 hs2 r2 40 (by omega) (by omega) (by omega) (by omega);obtain⟨b,s4,h4,hs4,hb⟩:=zNk s3 hs3 (r2,w3) (Bd.mk' l3 (by omega) (by omega) (by omega)) (by show w3.length≤500;omega);refine⟨b,s4,?_,hs4,hb⟩;apply zHA;simp only[zCo,h1,h2,h3,h4,Option.bind_some,getTV_here,getTV_next,q0,cond_true]
 · have q0:(r1==0)=false:=by simp[h0]
   obtain⟨a,s2,h2,hs2,ha,hl⟩:=zMX s1 hs1;obtain⟨b,s4,h4,hs4,hb⟩:=zNk s2 hs2 a ha hl;refine⟨b,s4,?_,hs4,hb⟩;apply zHA;simp only[zCo,h1,h2,h4,Option.bind_some,getTV_here,getTV_next,q0,cond_false]
theorem zTs {n:Nat}(h1:1≤n) (w:List Int) (hw:Lw n w):(nOf n w).2.length≤w.length∧-(w.length:Int)≤(nOf n w).1∧(nOf n w).1≤w.length:=by
 by_cases h2:2≤n
 · have:=zGz h2 w (OkJ.zero n);rw[Nat.zero_add] at this;exact⟨this.len,this.lo,by have:=this.hi;show (List.foldl stepN (0,[]) w).1≤_;omega⟩
 · obtain rfl:n=1:=by omega
   rw[zIB hw];simp[nOf]
def Bytes (a:List Int):Prop:=(∀ x∈a,0≤x∧x≤255)∧a.length≤4096
theorem zQG {a:List Int}(h:Fit (.slice (.int .u8)) a):a.length≤9223372036854775807∧∀ x∈a,0≤x∧x≤255:=by
 exact⟨h.1,fun x hx=>zVR (h.2 x hx)⟩
theorem zQn (a:List Int):R zP8 [tLU8 a]=some [tB (decide (4096<((a.length:Nat):Int)))]:=by
 apply zUd;simp only[zQs]
end Go.Ev.YtlkmkabnbegfdaaGreat
namespace Go.Ev.YtlkmkabnbegfdaaGreat
open Go.Ev Go.Gar
theorem zSA (a:List Int):∀ (d i:Nat) (x:Int),a.length≤4096→i+d=a.length→∃ y:Int,R zFE [tLU8 a,tI 0,tU64 x,tI (i:Int)]=some [tI 0,tI 0,tU64 y,tLU8 a]:=by
 intro d
 induction d with
 | zero=>
  intro i x hl hi;refine⟨x,?_⟩;apply zJt;have p1:decide ((i:Int)<((a.length:Nat):Int))=false:=decide_eq_false (by omega);simp only[zFU,p1,cond_false]
 | succ d ih=>
  intro i x hl hi;have p1:decide ((i:Int)<((a.length:Nat):Int))=true:=decide_eq_true (by omega);have p3:decide (0≤(i:Int))=true:=decide_eq_true (by omega);have w:wi64 ((i:Int)+1)=((i+1:Nat):Int):=by rw[zD]<;>omega
  obtain⟨y,hy⟩:=ih (i+1) (wu64 ((wu64 ((wu64 (x*1099511628211))+(wu64 ((List.getD a (Int.toNat (i:Int)) 0)))))+5)) hl (by omega);refine⟨y,?_⟩;apply zJt;simp only[zFU,p1,p3,cond_true,Bool.and_true,w,hy]
theorem zVA (a:List Int) (h:∀ x∈a,0≤x∧x≤255) (hl:a.length≤4096) (t:Int):∃ s:Sc,R zL0 [tLU8 a,tU64 t]=some [zE s]∧Src s:=by
 obtain⟨y,hy⟩:=zSA a a.length 0 (wu64 ((wu64 (t*7919))+(wu64 (((a.length:Nat):Int))))) hl (by omega);refine⟨(a,(0,y)),?_,⟨hl,h,by show (0:Int)≤0;omega,by show (0:Int)≤4096;omega⟩⟩;apply zTM;simp only[Int.natCast_zero] at hy;simp only[zMd,hy,Option.bind_some,getTV_here,getTV_next]
theorem zQo (s:Sc) (hs:Src s) (n:Int):∃ (r:Int) (s':Sc),R i__w_dice__below [zE s,tI n]=some [tI r,zE s']∧Src s'∧0≤r∧(1≤n→r<n):=by
 by_cases h1:n<1
 · refine⟨0,s,?_,hs,by omega,by omega⟩;apply zAN;have p:decide (n<1)=true:=decide_eq_true h1;simp only[b__w_dice__below,p,cond_true]
 · have p:decide (n<1)=false:=decide_eq_false h1;have p0:(n != 0)=true:=by simp;omega
   have hl:=hs.len;have ha:=hs.lo;have hh:=hs.hi
   by_cases h2:s.2.1<(s.1.length:Int)
   · have p1:decide (s.2.1<((s.1.length:Nat):Int))=true:=decide_eq_true h2;have p2:decide (0≤s.2.1)=true:=decide_eq_true ha;have hb:=zQr hs.by' (i:=s.2.1.toNat) (by omega);have hm:=zNo (shr .u64 (wu64 ((wu64 (s.2.2*6364136223846793005))+1442695040888963407)) 33);generalize hX:bitsAnd .u64 (shr .u64 (wu64 ((wu64 (s.2.2*6364136223846793005))+1442695040888963407)) 33) 16777215=X at hm;generalize hY:List.getD s.1 s.2.1.toNat 0=Y at hb;have e1:wi64 X=X:=zD (by omega) (by omega);have e2:wi64 Y=Y:=zD (by omega) (by omega);have e3:wi64 (X+Y)=X+Y:=zD (by omega) (by omega);have e4:wi64 (s.2.1+1)=s.2.1+1:=zD (by omega) (by omega);have t:=zJC (a:=X+Y) (n:=n) (by omega) (by omega);refine⟨Int.tmod (X+Y) n,(s.1,(s.2.1+1,wu64 ((wu64 (s.2.2*6364136223846793005))+1442695040888963407))),?_,⟨hs.len,hs.by',by show (0:Int)≤s.2.1+1;omega,by show s.2.1+1≤(4096:Int);omega⟩,t.1,fun _=>t.2⟩;apply zAN;simp only[b__w_dice__below,p,p0,p1,p2,cond_true,cond_false,Bool.and_true,hX,hY,e1,e2,e3,e4]
   · have p1:decide (s.2.1<((s.1.length:Nat):Int))=false:=decide_eq_false h2;have hm:=zNo (shr .u64 (wu64 ((wu64 (s.2.2*6364136223846793005))+1442695040888963407)) 33);generalize hX:bitsAnd .u64 (shr .u64 (wu64 ((wu64 (s.2.2*6364136223846793005))+1442695040888963407)) 33) 16777215=X at hm;have e1:wi64 X=X:=zD (by omega) (by omega);have t:=zJC (a:=X) (n:=n) (by omega) (by omega);refine⟨Int.tmod X n,(s.1,(s.2.1,wu64 ((wu64 (s.2.2*6364136223846793005))+1442695040888963407))),?_,⟨hs.len,hs.by',ha,hh⟩,t.1,fun _=>t.2⟩;apply zAN;simp only[b__w_dice__below,p,p0,p1,cond_true,cond_false,hX,e1]
theorem zP5 {n:Nat}{r t:Int}(hn:n≤100) (r0:0≤r) (r1:r<(n:Int)-1) (t0:0≤t) (t1:t<2):∃ x:Int,wi64 ((wi64 (1+r))*(wi64 (1-(wi64 (2*t)))))=x∧x≠0∧1-(n:Int)≤x∧x≤(n:Int)-1:=by
 have w1:wi64 (1+r)=1+r:=by rw[zD]<;>omega
 have w2:wi64 (2*t)=2*t:=by rw[zD]<;>omega
 have w3:wi64 (1-2*t)=1-2*t:=by rw[zD]<;>omega
 rw[w1,w2,w3]
 by_cases h:t=0
 · subst h;refine⟨1+r,?_,by omega,by omega,by omega⟩;rw[show (1+r)*(1-2*0)=1+r by omega,zD]<;>omega
 · obtain rfl:t=1:=by omega
   refine⟨-(1+r),?_,by omega,by omega,by omega⟩;rw[show (1+r)*(1-2*1)=-(1+r) by omega,zD]<;>omega
theorem zK0 (n:Nat) (hn:n≤100):∀ (k:Nat) (s:Sc) (out:List Int),Src s→Lw n out→out.length+k≤1000→∃ (s':Sc) (out':List Int),R zAZ [tI s.2.1,tU64 s.2.2,tLU8 s.1,tLI out,tI (n:Int),tI (k:Int)]=some [tI 0,tI s'.2.1,tU64 s'.2.2,tLU8 s'.1,tLI out']∧Src s'∧Lw n out'∧out'.length≤out.length+k:=by
 intro k
 induction k with
 | zero=>
  intro s out hs hw hl;refine⟨s,out,?_,hs,hw,by omega⟩;apply zCS;simp[jb]
 | succ k ih=>
  intro s out hs hw hl;have p1:decide ((0:Int)<((k+1:Nat):Int))=true:=decide_eq_true (by omega)
  by_cases h2:2≤n
  · have p2:decide ((1:Int)<(n:Int))=true:=decide_eq_true (by omega);have wn:wi64 ((n:Int)-1)=(n:Int)-1:=by rw[zD]<;>omega
    obtain⟨r,s1,hr,hs1,r0,r1'⟩:=zQo s hs ((n:Int)-1);have r1:=r1' (by omega);obtain⟨t,s2,ht,hs2,t0,t1'⟩:=zQo s1 hs1 2;have t1:=t1' (by omega);obtain⟨x,hx,hx'⟩:=zP5 (n:=n) hn r0 r1 t0 t1;obtain⟨s',out',e,a,b,c⟩:=ih s2 (out++[x]) hs2 (hw.snoc hx') (by simp;omega);have ap:apOk out [x]=true:=zDp (by omega);have w1:wi64 (((k+1:Nat):Int)-1)=(k:Int):=by rw[zD]<;>omega
    refine⟨s',out',?_,a,b,by simp at c;omega⟩;apply zCS;simp only[jb,p1,p2,cond_true,wn,hr,ht,Option.bind_some,getTV_here,getTV_next,hx,ap,w1];exact e
  · have p2:decide ((1:Int)<(n:Int))=false:=decide_eq_false (by omega);refine⟨s,out,?_,hs,hw,by omega⟩;apply zCS;simp only[jb,p1,p2,cond_true,cond_false]
theorem zOi (s:Sc) (hs:Src s) (n:Nat) (hn:n≤100) (k:Nat) (hk:k≤500):∃ (w:List Int) (s':Sc),R zCa [zE s,tI (n:Int),tI (k:Int)]=some [tLI w,zE s']∧Src s'∧Lw n w∧w.length≤k:=by
 obtain⟨s',w,e,a,b,c⟩:=zK0 n hn k s [] hs (fun x hx=>by simp at hx) (by simp;omega);refine⟨w,s',?_,a,b,by simpa using c⟩;apply zLM;simp only[zEY,e,Option.bind_some,getTV_here,getTV_next]
end Go.Ev.YtlkmkabnbegfdaaGreat
namespace Go.Ev.YtlkmkabnbegfdaaGreat
open Go.Ev Go.Gar
def wLf {n:Nat}:Nat→Pm n→List Int
 | 0,_=>[]
 | f+1,s=>match begL s n with
  | []=>[]
  | x::_=>x::wLf f (swapN n (x.natAbs-1)*s)
def wL {n:Nat}(s:Pm n):List Int:=wLf (n*n+1) s
theorem zGE {n:Nat}{s:Pm n}{x:Int}{m:List Int}(h:begL s n=x::m):∃ p,∃ hp:p+1<n,s.f (p+1)<s.f p∧x=((p+1:Nat):Int):=by
 obtain⟨p,_,h1,h2,h3⟩:=(zJo s n (Nat.le_refl _) x).1 (by rw[h];exact List.mem_cons_self);exact⟨p,h1,h2,h3⟩
theorem zSG {n:Nat}{s:Pm n}(h:begL s n=[]):s=1:=by
 have no:∀ p,p+1<n→¬ s.f (p+1)<s.f p:=fun p hp h2=>by
  have:=(zJo s n (Nat.le_refl _) ((p+1:Nat):Int)).2 ⟨p,by omega,hp,h2,rfl⟩;rw[h] at this;simp at this
 have G:Pm.Greedy s s 1:=⟨Pm.one_le s,Pm.one_le s,fun p hp _ h=>no p hp h.1⟩;exact Pm.le_anti (G.max ((Pm.lat n).refl trivial) ((Pm.lat n).refl trivial)) (Pm.one_le s)
theorem zEu {n p:Nat}(h:p+1<n):Pm.swap n p h*Pm.swap n p h=1:=Pm.ext fun x=>Pm.sf_sf p x
theorem zJD {n p:Nat}(h:p+1<n):(Pm.swap n p h)⁻¹=Pm.swap n p h:=Pm.ext fun x=>rfl
theorem zM1 {n p:Nat}(h:p+1<n) {s:Pm n}(hs:s.f (p+1)<s.f p):Pm.cnt (Pm.swap n p h*s)⁻¹<Pm.cnt s⁻¹:=by
 have e:s⁻¹=Pm.put1 (Pm.swap n p h*s)⁻¹ p h:=by
  show s⁻¹=(Pm.swap n p h*s)⁻¹*Pm.swap n p h;rw[zS,zJD,Grp.assoc,zEu,Grp.mul_one]
 have c:(Pm.swap n p h*s)⁻¹.g p<(Pm.swap n p h*s)⁻¹.g (p+1):=by
  show s.f (Pm.sf p p)<s.f (Pm.sf p (p+1));simp[Pm.sf];exact hs
 have:=Pm.cnt_put1 (h:=h) c;rw[← e] at this;exact this
theorem zPH {n p:Nat}(h:p+1<n) {s:Pm n}(hs:s.f (p+1)<s.f p):Pm.le (Pm.swap n p h) s:=by
 intro i j hij hlt;have hlt':Pm.sf p j<Pm.sf p i:=hlt;unfold Pm.sf at hlt';have:i=p∧j=p+1:=by
  by_cases a:j=p
  · rw[if_pos a] at hlt'
    by_cases b:i=p
    · omega
    · rw[if_neg b] at hlt'
      by_cases c:i=p+1
      · omega
      · rw[if_neg c] at hlt';omega
  · rw[if_neg a] at hlt'
    by_cases a':j=p+1
    · rw[if_pos a'] at hlt'
      by_cases b:i=p
      · exact⟨b,a'⟩
      · rw[if_neg b] at hlt'
        by_cases c:i=p+1
        · omega
        · rw[if_neg c] at hlt';omega
    · rw[if_neg a'] at hlt'
      by_cases b:i=p
      · rw[if_pos b] at hlt';omega
      · rw[if_neg b] at hlt'
        by_cases c:i=p+1
        · rw[if_pos c] at hlt';omega
        · rw[if_neg c] at hlt';omega
 obtain⟨rfl,rfl⟩:=this;exact hs
theorem zJg (n:Nat) (hn:n≤8) (s:Pm n):∀ (d:Nat),d≤n→∀ out:List Int,out.length+d≤100 →
  R jD [tA8 (sA s),tLI out,tI (n:Int),tI ((n-d+1:Nat):Int)]=some [tI 0,tLI (out++begL s d)]:=by
 intro d
 induction d with
 | zero=>
  intro _ out _;apply zDr;have h1:¬ (((n-0+1:Nat):Int)<(n:Int)):=by omega
  simp only[jE,decide_eq_false h1,cond_false,begL,List.append_nil]
 | succ d ih=>
  intro hd out ho;apply zDr;have e0:n-(d+1)+1=n-d:=by omega
  by_cases h0:n-(d+1)+1<n
  · have w1:wi64 (((n-(d+1)+1:Nat):Int)-1)=((n-(d+1):Nat):Int):=by rw[zD]<;>omega
    have w2:wi64 (((n-(d+1)+1:Nat):Int)+1)=((n-d+1:Nat):Int):=by rw[zD]<;>omega
    have g1:List.getD (sA s) (n-(d+1)) 0=(s.f (n-(d+1)):Int):=jW (by omega) hn;have g2:List.getD (sA s) (n-(d+1)+1) 0=(s.f (n-d):Int):=by rw[e0];exact jW (by omega) hn
    simp (disch:=omega) only[jE,w1,w2,decide_eq_true,cond_true,Bool.and_true,Int.toNat_natCast,g1,g2,zDp];unfold begL
    by_cases h:s.f (n-d)<s.f (n-(d+1))
    · rw[decide_eq_true (show ((s.f (n-d):Nat):Int)<(s.f (n-(d+1)):Nat) by omega),cond_true,if_pos ⟨h,by omega⟩,ih (by omega) _ (by simp;omega),e0];simp only[List.append_assoc,List.cons_append,List.nil_append]
    · rw[decide_eq_false (show ¬ ((s.f (n-d):Nat):Int)<(s.f (n-(d+1)):Nat) by omega),cond_false,if_neg (fun h2=>h h2.1),ih (by omega) _ (by omega)]
  · have h1:¬ (((n-(d+1)+1:Nat):Int)<(n:Int)):=by omega
    have hd0:d=0:=by omega
    subst hd0;simp only[jE,decide_eq_false h1,cond_false];unfold begL;rw[if_neg (fun h2=>absurd h2.2 (by simp))];simp[begL]
theorem zHz (n:Nat) (hn:n≤8) (s:Pm n):R zDE [tA8 (sA s),tI (n:Int)]=some [tLI (begL s n)]:=by
 apply zJw;have:=zJg n hn s n (Nat.le_refl _) [] (by simp;omega);rw[show ((n-n+1:Nat):Int)=1 by omega] at this;simp only[zDV,this,Option.bind_some,getTV_here,getTV_next,List.nil_append]
theorem zMO (n:Nat) (hn:n≤8):∀ (f:Nat) (s:Pm n),Pm.cnt s⁻¹<f→∀ out:List Int,out.length+f≤10000→∃ z:List Int,R zBV [tA8 (sA s),tLI out,tI (n:Int)]=some [tI 0,tLI (out++wLf f s)]:=by
 intro f
 induction f with
 | zero=>intro s h;omega
 | succ f ih=>
  intro s hf out ho;refine⟨[],?_⟩;apply zJv
  cases h:begL s n with
  | nil=>
   simp only[zBm,zHz n hn,h,Option.bind_some,getTV_here,wLf,List.append_nil]
   rfl
  | cons x m=>
   obtain⟨p,hp,hs,rfl⟩:=zGE h;obtain⟨_,hi⟩:=ih (Pm.swap n p hp*s) (by have:=zM1 hp hs;omega) (out++[((p+1:Nat):Int)]) (by simp;omega);have p1:((((((p+1:Nat):Int)::m).length:Nat):Int)==0)=false:=by simp;omega
   have p2:decide (0<(((((p+1:Nat):Int)::m).length:Nat):Int))=true:=by simp
   have g:List.getD (((p+1:Nat):Int)::m) 0 0=((p+1:Nat):Int):=rfl;have ap:apOk out [((p+1:Nat):Int)]=true:=zDp (by omega);have e:swapN n ((((p+1:Nat):Int)).natAbs-1)=Pm.swap n p hp:=by
    rw[show (((p+1:Nat):Int)).natAbs-1=p by omega];exact zCX hp
   simp only[zBm,zHz n hn,h,Option.bind_some,getTV_here,p1,p2,cond_true,cond_false,g,ap,zAh n p hp hn,zCL n hn,hi,wLf,e,List.append_assoc,List.cons_append,List.nil_append]
theorem zK8 (n:Nat) (hn:n≤8) (s:Pm n):R zDd [tI (n:Int),tA8 (sA s)]=some [tLI (wL s)]:=by
 apply zNv;have hc:=Pm.cnt_le s⁻¹;have hm:n*n≤8*8:=Nat.mul_le_mul hn hn;obtain⟨_,h⟩:=zMO n hn (n*n+1) s (by omega) [] (by simp;omega);simp only[zF0,h,Option.bind_some,getTV_here,getTV_next,List.nil_append,wL]
theorem zOy {n:Nat}:∀ (f:Nat) (s:Pm n),(wLf f s).length≤f
 | 0,s=>by simp[wLf]
 | f+1,s=>by
  unfold wLf
  cases h:begL s n with
  | nil=>simp
  | cons x m=>
   have:=zOy f (swapN n (x.natAbs-1)*s);simp only[List.length_cons];omega
theorem zOz {n:Nat}(hn:n≤8) (s:Pm n):(wL s).length≤65:=by
 have hm:n*n≤8*8:=Nat.mul_le_mul hn hn;have:=zOy (n*n+1) s;unfold wL;omega
theorem zSU {n:Nat}:∀ (f:Nat) (s:Pm n),Lw n (wLf f s)
 | 0,s=>fun x hx=>by simp[wLf] at hx
 | f+1,s=>by
  unfold wLf
  cases h:begL s n with
  | nil=>exact fun x hx=>by simp at hx
  | cons x m=>
   obtain⟨p,hp,hs,rfl⟩:=zGE h;intro y hy
   rcases List.mem_cons.1 hy with rfl | hy
   · omega
   · exact zSU f _ y hy
noncomputable def gx (n:Nat) (x:Int):Nm n:=if 0<x then sN (swapN n (x.natAbs-1)) else isN (swapN n (x.natAbs-1))
theorem zRL {n:Nat}(h2:2≤n) (v:Nm n) (x:Int):stepN v x=prod v (gx n x):=by
 unfold stepN gx
 by_cases h:0<x
 · rw[if_pos h,if_pos h];have:=zLp h2 v 0 [swapN n (x.natAbs-1)];rw[sN,this,Int.add_zero]
   rfl
 · rw[if_neg h,if_neg h];exact zJF h2 v _
theorem zVb {n:Nat}(h2:2≤n) (w:List Int):(Pm.lat n).Proper (nOf n w).2:=by
 have:=zGz h2 w (OkJ.zero n);exact this.P
theorem zLx {n:Nat}(h2:2≤n) (p:Int) (X:List (Pm n)):mk p (X++[1])=mk p X:=by
 rw[zSw h2,zSu h2 _ (zEK h2 p X).1]
theorem zVc {n:Nat}{X Y:List (Pm n)}(p:Int) (h:(Pm.lat n).nf X=(Pm.lat n).nf Y):mk p X=mk p Y:=by
 unfold mk;rw[← Lat.norm_nf (Γ:=Pm.lat n) (allS X),h,Lat.norm_nf (allS Y)]
theorem zTu {n:Nat}(h2:2≤n) (p:Int) {u s:Pm n}(h:Pm.le u s):mk p [u,u⁻¹*s]=mk p [s]:=by
 have hm:=Lat.nf_move (Γ:=Pm.lat n) (p:=[]) (q:=[]) (x:=u) (y:=u⁻¹*s) (c:=u⁻¹*s) trivial trivial trivial (Pm.p0 h) ((Pm.lat n).refl trivial) (allS _);rw[zf,Grp.inv_mul] at hm;simp only[List.nil_append] at hm;rw[zVc p hm];exact zLx h2 p [s]
theorem zNQ {n p:Nat}(h:p+1<n):gx n ((p+1:Nat):Int)=sN (Pm.swap n p h):=by
 unfold gx;rw[if_pos (by omega),show (((p+1:Nat):Int)).natAbs-1=p by omega,zCX h]
def invW (w:List Int):List Int:=w.reverse.map fun x=>-x
theorem zU3 {n:Nat}(h2:2≤n) {x:Int}(hx:x≠0):prod (gx n x) (gx n (-x))=eN n:=by
 unfold gx;rw[show (-x).natAbs=x.natAbs by omega]
 by_cases h:0<x
 · rw[if_pos h,if_neg (by omega)];exact s_is h2 _
 · rw[if_neg h,if_pos (by omega)];exact is_s h2 _
def times (l:List Int):Nat→List Int
 | 0=>[]
 | k+1=>l++times l k
theorem zKB (l:List Int):∀ k,(times l k).length=k*l.length
 | 0=>by simp[times]
 | k+1=>by simp only[times,List.length_append,zKB l k,Nat.add_mul];omega
def wordN {n:Nat}(v:Nm n):List Int:=times (if v.1<0 then invW (wL (Pm.half n)) else wL (Pm.half n)) v.1.natAbs++v.2.flatMap wL
theorem zRE {n:Nat}(s:Pm n):Lw n (wL s):=zSU _ s
theorem Lw.app {n:Nat}{u w:List Int}(h:Lw n u) (h':Lw n w):Lw n (u++w):=fun x hx=>by
 rcases List.mem_append.1 hx with q | q
 · exact h x q
 · exact h' x q
theorem Lw.inv {n:Nat}{w:List Int}(h:Lw n w):Lw n (invW w):=fun x hx=>by
 simp only[invW,List.mem_map,List.mem_reverse] at hx;obtain⟨y,hy,rfl⟩:=hx;have:=h y hy;omega
theorem Lw.times {n:Nat}{w:List Int}(h:Lw n w):∀ k,Lw n (times w k)
 | 0=>fun x hx=>by simp[Go.Ev.YtlkmkabnbegfdaaGreat.times] at hx
 | k+1=>h.app (Lw.times h k)
theorem zQ9 {n:Nat}(v:Nm n):Lw n (wordN v):=by
 unfold wordN
 apply Lw.app
 · apply Lw.times
   split
   · exact (zRE _).inv
   · exact zRE _
 · intro x hx;obtain⟨s,_,hs⟩:=List.mem_flatMap.1 hx;exact zRE s x hs
end Go.Ev.YtlkmkabnbegfdaaGreat
namespace Go.Ev.YtlkmkabnbegfdaaGreat
open Go.Ev Go.Gar
theorem zMJ (x0 p:Int) (L:List (List Int)) (w:List Int) (hw:w.length≤100) (hp:p≤1000):∀ (d:Nat) (i:Int) (out:List Int),0≤i→i+d=p∨(d=0∧p≤i)→i≤1000→out.length+100*d≤1000000 →
  R zBT [tI x0,tI p,tLA8 L,tLI w,tLI out,tI i]=some [tI 0,tI x0,tI p,tLA8 L,tLI w,tLI (out++times w d)]:=by
 intro d
 induction d with
 | zero=>
  intro i out h0 h _ _;apply zGG;have p1:decide (i<p)=false:=decide_eq_false (by omega);simp only[zBi,p1,cond_false,times,List.append_nil]
 | succ d ih=>
  intro i out h0 h hi ho;apply zGG;have p1:decide (i<p)=true:=decide_eq_true (by omega);have ap:apOk out w=true:=zIR (by omega);have w1:wi64 (i+1)=i+1:=by rw[zD]<;>omega
  simp only[zBi,p1,cond_true,ap,w1,times];rw[ih (i+1) (out++w) (by omega) (by omega) (by omega) (by simp;omega),List.append_assoc]
theorem zRi {w:List Int}{k:Nat}(h:k<w.length):((w.take (k+1)).reverse.map fun x=>-x)=-w[k]::((w.take k).reverse.map fun x=>-x):=by
 rw[zA2 h,List.reverse_append]
 rfl
theorem zK3 (x0 p x5:Int) (L:List (List Int)) (w:List Int) (hw:w.length≤100) (hr:∀ x∈w,-100≤x∧x≤100):∀ (k:Nat),k≤w.length→∀ (out:List Int),out.length+k≤1000000 →
  R zAb [tI x0,tI p,tLA8 L,tLI w,tLI out,tI x5,tI ((k:Int)-1)]=some [tI 0,tI x0,tI p,tLA8 L,tLI w,tLI (out++(w.take k).reverse.map fun x=>-x),tI x5]:=by
 intro k
 induction k with
 | zero=>
  intro _ out _;apply zEm;simp[zAk]
 | succ k ih=>
  intro hk out ho;apply zEm;have p1:decide (0≤((k+1:Nat):Int)-1)=true:=decide_eq_true (by omega);have p2:decide (((k+1:Nat):Int)-1<((w.length:Nat):Int))=true:=decide_eq_true (by omega);have e:(((k+1:Nat):Int)-1).toNat=k:=by omega
  have hx:=hr _ (List.getElem_mem (show k<w.length by omega));have g:List.getD w k 0=w[k]:=zV (by omega);have w1:wi64 (0-w[k])=-w[k]:=by rw[zD]<;>omega
  have w2:wi64 (((k+1:Nat):Int)-1-1)=(k:Int)-1:=by rw[zD]<;>omega
  have ap:apOk out [-w[k]]=true:=zDp (by omega);simp only[zAk,p1,p2,cond_true,Bool.and_true,e,g,w1,w2,ap];rw[ih (by omega) _ (by simp;omega),zRi (show k<w.length by omega),List.append_assoc]
  rfl
theorem zMI (x0 p:Int) (L:List (List Int)) (w:List Int) (hw:w.length≤100) (hr:∀ x∈w,-100≤x∧x≤100):∀ (d:Nat) (i:Int) (out:List Int),i+d=0∨(d=0∧0≤i)→-1000≤i→i≤1000→out.length+100*d≤1000000 →
  R zBS [tI x0,tI p,tLA8 L,tLI w,tLI out,tI i]=some [tI 0,tI x0,tI p,tLA8 L,tLI (out++times (invW w) d)]:=by
 intro d
 induction d with
 | zero=>
  intro i out h _ _ _;apply zGF;have p1:decide (i<0)=false:=decide_eq_false (by omega);simp only[zBh,p1,cond_false,times,List.append_nil]
 | succ d ih=>
  intro i out h h1 h2 ho;apply zGF;have p1:decide (i<0)=true:=decide_eq_true (by omega);have w1:wi64 (i+1)=i+1:=by rw[zD]<;>omega
  have w2:wi64 (((w.length:Nat):Int)-1)=((w.length:Nat):Int)-1:=by rw[zD]<;>omega
  have c:=zK3 x0 p i L w hw hr w.length (Nat.le_refl _) out (by omega);rw[List.take_length,show (w.reverse.map fun x=>-x)=invW w from rfl] at c;simp only[zBh,p1,cond_true,w2,c,Option.bind_some,getTV_here,getTV_next,w1,times];rw[ih (i+1) (out++invW w) (by omega) (by omega) (by omega) (by simp[invW];omega),List.append_assoc]
theorem zK2 (n:Nat) (hn:n≤8) (p:Int) (A:List (Pm n)) (hA:A.length≤1000):∀ (d i:Nat) (out:List Int),i+d=A.length→out.length+100*d≤1000000 →
  R zAa [tI (n:Int),tI p,tLA8 (sL A),tLI out,tI (i:Int)]=some [tI 0,tLI (out++(A.drop i).flatMap wL)]:=by
 intro d
 induction d with
 | zero=>
  intro i out h _;apply zEl;have p1:decide ((i:Int)<((A.length:Nat):Int))=false:=decide_eq_false (by omega);rw[List.drop_eq_nil_of_le (by omega)];simp only[zAj,kO,p1,cond_false,List.flatMap_nil,List.append_nil]
 | succ d ih=>
  intro i out h ho;apply zEl;have p1:decide ((i:Int)<((A.length:Nat):Int))=true:=decide_eq_true (by omega);have p2:decide (0≤(i:Int))=true:=decide_eq_true (by omega);have w1:wi64 ((i:Int)+1)=((i+1:Nat):Int):=by rw[zD]<;>omega
  have hl:=zOz hn (A[i]'(by omega));have ap:apOk out (wL (A[i]'(by omega)))=true:=zIR (by omega);simp only[zAj,kO,p1,p2,cond_true,Bool.and_true,Int.toNat_natCast,zCx (show i<A.length by omega),zK8 n hn,Option.bind_some,getTV_here,ap,w1];have da:A.drop i=A[i]'(by omega)::A.drop (i+1):=List.drop_eq_getElem_cons _;rw[ih (i+1) _ (by omega) (by simp only[List.length_append];omega),da,List.flatMap_cons,List.append_assoc]
theorem zUc {n:Nat}(hn:n≤8) (s:Pm n):∀ x∈wL s,-100≤x∧x≤100:=fun x hx=>by
 have:=zRE s x hx;omega
theorem zLK {n:Nat}(v:Nm n):wordN v=times (wL (Pm.half n)) v.1.toNat++(times (invW (wL (Pm.half n))) (-v.1).toNat++v.2.flatMap wL):=by
 unfold wordN
 by_cases h:v.1<0
 · rw[if_pos h,show v.1.toNat=0 by omega,show (-v.1).toNat=v.1.natAbs by omega]
   rfl
 · rw[if_neg h,show (-v.1).toNat=0 by omega,show v.1.toNat=v.1.natAbs by omega]
   rfl
theorem zDf {n:Nat}(hn:n≤8):∀ (A:List (Pm n)),(A.flatMap wL).length≤65*A.length
 | []=>by simp
 | a::A=>by
  have:=zDf hn A;have:=zOz hn a;simp only[List.flatMap_cons,List.length_append,List.length_cons];omega
theorem zRr (w:List Int):(invW w).length=w.length:=by simp[invW]
theorem zMz {w:List Int}(h:w.length≤65) (k:Nat):(times w k).length≤65*k:=by
 rw[zKB,Nat.mul_comm];exact Nat.mul_le_mul_right _ h
theorem zQc (n:Nat) (hn:n≤8) (v:Nm n) (hv:OkN v 200):R zFp [zK (enc v)]=some [tLI (wordN v)]:=by
 have h1:=hv.lo;have h2:=hv.hi;have h3:=hv.len;have hl:=zOz hn (Pm.half n);have hr:=zUc hn (Pm.half n);have t1:=zMz hl v.1.toNat;have t2:=zMz (w:=invW (wL (Pm.half n))) (by rw[zRr];exact hl) (-v.1).toNat;apply zNs;have c1:=zMJ (n:Int) v.1 (sL v.2) (wL (Pm.half n)) (by omega) (by omega) v.1.toNat 0 [] (by omega) (by omega) (by omega) (by simp only[List.length_nil];omega);have c2:=zMI (n:Int) v.1 (sL v.2) (wL (Pm.half n)) (by omega) hr (-v.1).toNat v.1 (times (wL (Pm.half n)) v.1.toNat) (by omega) (by omega) (by omega) (by omega);have c3:=zK2 n hn v.1 v.2 (by omega) v.2.length 0 (times (wL (Pm.half n)) v.1.toNat++times (invW (wL (Pm.half n))) (-v.1).toNat) (by omega) (by simp only[List.length_append];omega);simp only[List.nil_append] at c1;simp only[Int.natCast_zero,List.drop_zero] at c3;simp only[zFz,enc,zDS n hn,zK8 n hn,c1,c2,c3,Option.bind_some,getTV_here,getTV_next];rw[zLK,List.append_assoc]
end Go.Ev.YtlkmkabnbegfdaaGreat
namespace Go.Ev.YtlkmkabnbegfdaaGreat
open Go.Ev Go.Gar
theorem e0:((0:Int) != 0)=false:=rfl
end Go.Ev.YtlkmkabnbegfdaaGreat
namespace Go.Ev.YtlkmkabnbegfdaaGreat
open Go.Ev Go.Gar
theorem zT0 {n:Nat}(h1:1≤n) (hn:n≤8) {w:List Int}(hw:Lw n w) (hl:w.length≤200):isBr ((n:Int),w)=true:=by
 unfold isBr;simp only[Bool.and_eq_true,decide_eq_true_eq,List.all_eq_true,okL];refine⟨⟨⟨by omega,by omega⟩,hl⟩,fun x hx=>?_⟩;have:=hw x hx;simp;omega
theorem zPr {w:List Int}(hw:Lw 1 w):nOf 1 w=(0,[]):=by
 rw[zIB hw]
 rfl
theorem zTr {n:Nat}(h1:1≤n) {w:List Int}(hw:Lw n w) (hl:w.length≤200):OkN (nOf n w) 200:=by
 have h:=zTs h1 w hw
 refine⟨?_,by omega,by omega,by omega,?_⟩
 · by_cases h2:2≤n
   · exact zVb h2 w
   · obtain rfl:n=1:=by omega
     rw[zPr hw];exact Lat.Proper.nil
 · intro e;subst e;exact zPr hw
end Go.Ev.YtlkmkabnbegfdaaGreat
namespace Go.Ev.YtlkmkabnbegfdaaGreat
open Go.Ev Go.Gar
theorem zH3 (a:List Int) (h:Bytes a):∃ b c,R zAQ [tLU8 a]=some [zH b,zH c]∧Bd b∧Bd c:=by
 obtain⟨s,e,hs⟩:=zQj a h.1 h.2;obtain⟨b,s2,e2,hs2,hb⟩:=zQV s hs;have e3:=zMU b hb.l hb.i64;have other:∀ t:Sc,Src t→∃ c,((R jI [zE t]).bind fun o7=>
       (R zAc [zH b]).bind fun o8=>
       bif (gB o8 0) then
        (R zW [zE ((zC o7 1).1,(((zC o7 1).2).1,((zC o7 1).2).2)),tI 4]).bind fun o9=>
        bif decide (0<(gI o9 0)) then
         (R jP [zE ((zC o9 1).1,(((zC o9 1).2).1,((zC o9 1).2).2)),tI b.1,tI 12]).bind fun o10=>
         some [zH (b.1,b.2),zH (b.1,(gLI o10 0))]
        else
         some [zH (b.1,b.2),zH ((zg o7 0).1,(zg o7 0).2)]
       else
        some [zH (b.1,b.2),zH ((zg o7 0).1,(zg o7 0).2)])=some [zH b,zH c]∧Bd c:=by
  intro t ht;obtain⟨c,s3,f1,hs3,hc⟩:=zQV t ht
  cases hB:isBr b with
  | false=>
   rw[hB] at e3;refine⟨c,?_,hc⟩;simp only[f1,e3,Option.bind_some,getTV_here,getTV_next,cond_false]
  | true=>
   rw[hB] at e3;obtain⟨k,s4,f2,hs4,k0,k1⟩:=zDQ s3 hs3 4
   by_cases hk:0<k
   · obtain⟨q1,q2,q3,q4,q5⟩:=zDG hB;obtain⟨w,s5,f3,_,hw,hl⟩:=zQm s4 hs4 b.1 12 (by omega) (by omega) (by omega) (by omega);refine⟨(b.1,w),?_,Bd.mk' hw (by omega) (by omega) (by omega)⟩;simp only[f1,e3,f2,f3,decide_eq_true hk,Option.bind_some,getTV_here,getTV_next,cond_true]
   · refine⟨c,?_,hc⟩;simp only[f1,e3,f2,decide_eq_false hk,Option.bind_some,getTV_here,getTV_next,cond_true,cond_false]
 cases hB:isBr b with
 | false=>
  rw[hB] at e3;obtain⟨c,f,hc⟩:=other s2 hs2;refine⟨b,c,?_,hb,hc⟩;apply jF;simp only[kH,e,e2,e3,Option.bind_some,getTV_here,getTV_next,cond_false];simp only[e3,Option.bind_some,getTV_here,cond_false] at f;exact f
 | true=>
  rw[hB] at e3;obtain⟨k,s4,f2,hs4,k0,k1⟩:=zDQ s2 hs2 2;obtain⟨c,f,hc⟩:=other s4 hs4
  by_cases hk:k=0
  · have p0:(k==0)=true:=by simp[hk]
    obtain⟨q1,q2,q3,q4,q5⟩:=zDG hB;have g1:=zML b.1.toNat q3 q4 b.2 q1 q5;have ok:=zTr q3 q1 q5;have g2:=zQc b.1.toNat q4 (nOf b.1.toNat b.2) ok;rw[← q2] at g1
    by_cases hl:(wordN (nOf b.1.toNat b.2)).length≤200
    · have p1:decide ((((wordN (nOf b.1.toNat b.2)).length:Nat):Int)≤200)=true:=decide_eq_true (by omega)
      refine⟨b,(b.1,wordN (nOf b.1.toNat b.2)),?_,hb,⟨hb.lo,hb.hi,by show (wordN (nOf b.1.toNat b.2)).length≤1000;omega,fun x hx=>?_⟩⟩
      · apply jF;simp only[kH,e,e2,e3,f2,g1,g2,p0,p1,Option.bind_some,getTV_here,getTV_next,cond_true]
      · have:=zQ9 (nOf b.1.toNat b.2) x hx;omega
    · have p1:decide ((((wordN (nOf b.1.toNat b.2)).length:Nat):Int)≤200)=false:=decide_eq_false (by omega);refine⟨b,c,?_,hb,hc⟩;apply jF;simp only[kH,e,e2,e3,f2,g1,g2,p0,p1,Option.bind_some,getTV_here,getTV_next,cond_true,cond_false];simp only[e3,Option.bind_some,getTV_here,cond_true] at f;exact f
  · have p0:(k==0)=false:=by simp[hk]
    refine⟨b,c,?_,hb,hc⟩;apply jF;simp only[kH,e,e2,e3,f2,p0,Option.bind_some,getTV_here,getTV_next,cond_true,cond_false];simp only[e3,Option.bind_some,getTV_here,cond_true] at f;exact f
end Go.Ev.YtlkmkabnbegfdaaGreat
namespace Go.Ev.YtlkmkabnbegfdaaGreat
open Go.Ev Go.Gar
def Wd (n:Nat):={ w:List Int // ∀ x∈w,Lr n x }
def WE (n:Nat) (a b:Wd n):Prop:=BE n a.1 b.1
theorem WE.eqv (n:Nat):Equivalence (WE n):=⟨fun a=>BE.re a.1,fun h=>BE.sy h,fun h h'=>BE.tr h h'⟩
instance wdS (n:Nat):Setoid (Wd n):=⟨WE n,WE.eqv n⟩
def Bn (n:Nat):=Quotient (wdS n)
theorem zU1 {n:Nat}{u w:List Int}(h:∀ x∈u,Lr n x) (h':∀ x∈w,Lr n x):∀ x∈u++w,Lr n x:=fun x hx=>by
 rcases List.mem_append.1 hx with q | q
 · exact h x q
 · exact h' x q
def Bn.mk {n:Nat}(w:List Int) (h:∀ x∈w,Lr n x):Bn n:=Quotient.mk (wdS n) ⟨w,h⟩
theorem Bn.sound {n:Nat}{a b:List Int}{ha:∀ x∈a,Lr n x}{hb:∀ x∈b,Lr n x}(h:BE n a b):Bn.mk a ha=Bn.mk b hb:=Quotient.sound (a:=(⟨a,ha⟩:Wd n)) (b:=⟨b,hb⟩) h
theorem Bn.exact {n:Nat}{a b:List Int}{ha:∀ x∈a,Lr n x}{hb:∀ x∈b,Lr n x}(h:Bn.mk a ha=Bn.mk b hb):BE n a b:=Quotient.exact (a:=(⟨a,ha⟩:Wd n)) (b:=⟨b,hb⟩) h
def Bn.mul {n:Nat}(a b:Bn n):Bn n:=Quotient.liftOn₂ a b (fun u v=>Bn.mk (u.1++v.1) (zU1 u.2 v.2)) (fun a b c d h h'=>Bn.sound ((h.right b.1).tr (h'.left c.1)))
def Bn.inv {n:Nat}(a:Bn n):Bn n:=Quotient.liftOn a (fun u=>Bn.mk (invL u.1) (zJZ u.2)) (fun a b h=>Bn.sound (h.inv a.2 b.2))
instance bnG (n:Nat):Grp (Bn n) where
 mul:=Bn.mul
 one:=Bn.mk [] (fun x hx=>by simp at hx)
 inv:=Bn.inv
 assoc a b c:=by
  induction a using Quotient.inductionOn
  induction b using Quotient.inductionOn
  induction c using Quotient.inductionOn
  rename_i a b c;apply Bn.sound;show BE n ((a.1++b.1)++c.1) (a.1++(b.1++c.1));rw[List.append_assoc];exact BE.re _
 one_mul a:=by
  induction a using Quotient.inductionOn
  rename_i a;exact Bn.sound (BE.re _)
 mul_one a:=by
  induction a using Quotient.inductionOn
  rename_i a;apply Bn.sound;show BE n (a.1++[]) a.1;rw[List.append_nil];exact BE.re _
 inv_mul a:=by
  induction a using Quotient.inductionOn
  rename_i a;exact Bn.sound (BE.inv_l a.1 a.2)
 mul_inv a:=by
  induction a using Quotient.inductionOn
  rename_i a;exact Bn.sound (BE.inv_r a.1 a.2)
theorem Bn.mk_inv {n:Nat}{a:List Int}{ha:∀ x∈a,Lr n x}:(Bn.mk a ha)⁻¹=Bn.mk (invL a) (zJZ ha):=rfl
def sg (n p:Nat):Bn n:=if h:p+1<n then Bn.mk [((p+1:Nat):Int)] (fun x hx=>by rw[List.mem_singleton.1 hx];unfold Lr;omega) else 1
theorem zOF {n p:Nat}(h:p+1<n):sg n p=Bn.mk [((p+1:Nat):Int)] (fun x hx=>by rw[List.mem_singleton.1 hx];unfold Lr;omega):=dif_pos h
theorem zPO {n p q:Nat}(h:p+2≤q):sg n p*sg n q=sg n q*sg n p:=by
 by_cases hq:q+1<n
 · rw[zOF hq,zOF (show p+1<n by omega)];exact Bn.sound (BE.fa [] [] p q h hq)
 · have:sg n q=1:=dif_neg hq;rw[this,Grp.mul_one,Grp.one_mul]
theorem zRN {n p:Nat}(h:p+2<n):sg n p*(sg n (p+1)*sg n p)=sg n (p+1)*(sg n p*sg n (p+1)):=by
 rw[zOF (show p+1<n by omega),zOF (show p+1+1<n by omega)];exact Bn.sound (BE.br [] [] p h)
end Go.Ev.YtlkmkabnbegfdaaGreat
namespace Go.Ev.YtlkmkabnbegfdaaGreat
open Go.Ev Go.Gar
theorem zTZ {n:Nat}(h2:2≤n) {u s:Pm n}(h:Pm.le u s):prod (sN u) (sN (u⁻¹*s))=sN s:=by
 rw[sN,sN,zRk h2];exact zTu h2 0 h
theorem zFg {n p:Nat}(h2:2≤n) (h:p+1<n) {s:Pm n}(hs:s.f (p+1)<s.f p):prod (sN (Pm.swap n p h)) (sN (Pm.swap n p h*s))=sN s:=by
 have:=zTZ h2 (zPH h hs);rw[zJD] at this;exact this
theorem kT {n:Nat}(h2:2≤n) (v:Nm n) (x:Int):stepN v x=prod v (gx n x):=zRL h2 v x
theorem zUy {n:Nat}(h2:2≤n) {a b:List Int}(h:BE n a b):nOf n a=nOf n b:=by
 refine h.fold (P:=fun v:Nm n=>(Pm.lat n).Proper v.2) (f:=stepN) (fun s x hs=>by rw[kT h2];exact zSk h2 _ _) ?_ ?_ ?_ (0,[]) Lat.Proper.nil
 · intro s x hs hx;rw[kT h2,kT h2,zr h2,zU3 h2 hx.1,zUu h2 hs]
 · intro s i j hs hij hj;have hi:i+1<n:=by omega
   rw[kT h2,kT h2,kT h2,kT h2,zr h2,zr h2,zNQ hi,zNQ hj];have c:Pm.swap n i hi*Pm.swap n j hj=Pm.swap n j hj*Pm.swap n i hi:=by
    apply Pm.ext;intro x;show Pm.sf j (Pm.sf i x)=Pm.sf i (Pm.sf j x);unfold Pm.sf
    repeat' split
    all_goals omega
   have e1:=zFg h2 hi (s:=Pm.swap n i hi*Pm.swap n j hj) (by
    show Pm.sf j (Pm.sf i (i+1))<Pm.sf j (Pm.sf i i);unfold Pm.sf;simp
    repeat' split
    all_goals omega)
   have e2:=zFg h2 hj (s:=Pm.swap n j hj*Pm.swap n i hi) (by
    show Pm.sf i (Pm.sf j (j+1))<Pm.sf i (Pm.sf j j);unfold Pm.sf;simp
    repeat' split
    all_goals omega)
   rw[← Grp.assoc,zEu,Grp.one_mul] at e1 e2;rw[e1,e2,c]
 · intro s i hs hi;have h1:i+1<n:=by omega
   have hi':i+1+1<n:=hi;have g1:gx n ((i+2:Nat):Int)=sN (Pm.swap n (i+1) hi'):=zNQ hi';rw[kT h2,kT h2,kT h2,kT h2,kT h2,kT h2,zr h2,zr h2,zr h2,zr h2,g1,zNQ h1];have f1:Pm.sf i i=i+1:=by simp[Pm.sf]
   have f2:Pm.sf (i+1) i=i:=by unfold Pm.sf;rw[if_neg (by omega),if_neg (by omega)]
   have f3:Pm.sf i (i+1)=i:=by unfold Pm.sf;rw[if_neg (by omega),if_pos rfl]
   have f4:Pm.sf (i+1) (i+1)=i+2:=by simp[Pm.sf]
   have f5:Pm.sf (i+1) (i+2)=i+1:=by unfold Pm.sf;rw[if_neg (by omega),if_pos rfl]
   have f6:Pm.sf i (i+2)=i+2:=by unfold Pm.sf;rw[if_neg (by omega),if_neg (by omega)]
   have b:Pm.swap n i h1*(Pm.swap n (i+1) hi'*Pm.swap n i h1)=Pm.swap n (i+1) hi'*(Pm.swap n i h1*Pm.swap n (i+1) hi'):=by
    apply Pm.ext;intro x;show Pm.sf i (Pm.sf (i+1) (Pm.sf i x))=Pm.sf (i+1) (Pm.sf i (Pm.sf (i+1) x))
    by_cases x1:x=i
    · subst x1;simp only[f1,f2,f3,f4,f5,f6]
    · by_cases x2:x=i+1
      · subst x2;simp only[f1,f2,f3,f4,f5,f6]
      · by_cases x3:x=i+2
        · subst x3;simp only[f1,f2,f3,f4,f5,f6]
        · have f7:Pm.sf i x=x:=by unfold Pm.sf;rw[if_neg x1,if_neg x2]
          have f8:Pm.sf (i+1) x=x:=by unfold Pm.sf;rw[if_neg x2,if_neg x3]
          simp only[f7,f8]
   have a1:=zFg h2 hi' (s:=Pm.swap n (i+1) hi'*Pm.swap n i h1) (by
    show Pm.sf i (Pm.sf (i+1) (i+1+1))<Pm.sf i (Pm.sf (i+1) (i+1));rw[f4,f5,f3,f6];omega)
   have a2:=zFg h2 h1 (s:=Pm.swap n i h1*(Pm.swap n (i+1) hi'*Pm.swap n i h1)) (by
    show Pm.sf i (Pm.sf (i+1) (Pm.sf i (i+1)))<Pm.sf i (Pm.sf (i+1) (Pm.sf i i));rw[f3,f2,f1,f4,f6];omega)
   have a3:=zFg h2 h1 (s:=Pm.swap n i h1*Pm.swap n (i+1) hi') (by
    show Pm.sf (i+1) (Pm.sf i (i+1))<Pm.sf (i+1) (Pm.sf i i);rw[f3,f2,f1,f4];omega)
   have a4:=zFg h2 hi' (s:=Pm.swap n (i+1) hi'*(Pm.swap n i h1*Pm.swap n (i+1) hi')) (by
    show Pm.sf (i+1) (Pm.sf i (Pm.sf (i+1) (i+1+1)))<Pm.sf (i+1) (Pm.sf i (Pm.sf (i+1) (i+1)));rw[f4,f5,f3,f6,f2,f5];omega)
   rw[← Grp.assoc,zEu,Grp.one_mul] at a1 a2 a3 a4;rw[a1,a2,a3,a4,b]
def cy (n m:Nat):Nat→Bn n
 | 0=>1
 | d+1=>cy n m d*sg n (m+d)
theorem zNc {n m:Nat}:∀ d,cy n m (d+1)=sg n m*cy n (m+1) d
 | 0=>by
  show 1*sg n (m+0)=sg n m*1;rw[Grp.one_mul,Grp.mul_one]
  rfl
 | d+1=>by
  show cy n m (d+1)*sg n (m+(d+1))=sg n m*(cy n (m+1) d*sg n (m+1+d));rw[zNc d,Grp.assoc,show m+(d+1)=m+1+d by omega]
theorem zS3 {n m p:Nat}:∀ d,p+2≤m→sg n p*cy n m d=cy n m d*sg n p
 | 0,_=>by
  show sg n p*1=1*sg n p;rw[Grp.one_mul,Grp.mul_one]
 | d+1,h=>by
  show sg n p*(cy n m d*sg n (m+d))=cy n m d*sg n (m+d)*sg n p;rw[← Grp.assoc,zS3 d h,Grp.assoc,Grp.assoc,zPO (show p+2≤m+d by omega)]
theorem zU5 {n m:Nat}:∀ (d p:Nat),m≤p→p+1<m+d→m+d<n→sg n (p+1)*cy n m d=cy n m d*sg n p
 | 0,p,h1,h2,_=>by omega
 | d+1,p,h1,h2,h3=>by
  show sg n (p+1)*(cy n m d*sg n (m+d))=cy n m d*sg n (m+d)*sg n p
  by_cases h:p+1<m+d
  · rw[← Grp.assoc,zU5 d p h1 h (by omega),Grp.assoc,Grp.assoc,zPO (show p+2≤m+d by omega)]
  · obtain⟨e,rfl⟩:∃ e,d=e+1:=⟨d-1,by omega⟩;obtain rfl:p=m+e:=by omega
    show sg n (m+e+1)*(cy n m e*sg n (m+e)*sg n (m+(e+1)))=cy n m e*sg n (m+e)*sg n (m+(e+1))*sg n (m+e);have far:sg n (m+e+1)*cy n m e=cy n m e*sg n (m+e+1):=by
     have:∀ f,f≤e→sg n (m+e+1)*cy n m f=cy n m f*sg n (m+e+1):=by
      intro f
      induction f with
      | zero=>
       intro _;show sg n (m+e+1)*1=1*sg n (m+e+1);rw[Grp.one_mul,Grp.mul_one]
      | succ f ih=>
       intro hf;show sg n (m+e+1)*(cy n m f*sg n (m+f))=cy n m f*sg n (m+f)*sg n (m+e+1);rw[← Grp.assoc,ih (by omega),Grp.assoc,Grp.assoc,zPO (show m+f+2≤m+e+1 by omega)]
     exact this e (Nat.le_refl _)
    rw[Grp.assoc (cy n m e),← Grp.assoc (sg n (m+e+1)),far,show m+(e+1)=m+e+1 by omega];have hb:=zRN (n:=n) (p:=m+e) (by omega);simp only[Grp.assoc];rw[hb]
def cyf (m k x:Nat):Nat:=if x=m then k else if m<x∧x≤k then x-1 else x
def cyg (m k x:Nat):Nat:=if x=k then m else if m≤x∧x<k then x+1 else x
theorem zVl {m k:Nat}(h:m≤k) (x:Nat):cyg m k (cyf m k x)=x:=by
 unfold cyf cyg
 repeat' split
 all_goals omega
theorem zVm {m k:Nat}(h:m≤k) (x:Nat):cyf m k (cyg m k x)=x:=by
 unfold cyf cyg
 repeat' split
 all_goals omega
def cyI (n m k:Nat):Pm n:=if h:m≤k∧k<n then ⟨cyg m k,cyf m k,zVm h.1,zVl h.1,fun x hx=>by unfold cyg;rw[if_neg (by omega),if_neg (by omega)]⟩ else 1
theorem zGn {n m k:Nat}(h:m≤k) (hk:k<n) (x:Nat):(cyI n m k).f x=cyg m k x:=by unfold cyI;rw[dif_pos ⟨h,hk⟩]
def tc (n:Nat):Nat→Pm n→Bn n
 | 0,_=>1
 | k+1,s=>cy n (s.g k) (k-s.g k)*tc n k (cyI n (s.g k) k*s)
def Sp {n:Nat}(k:Nat) (x:Pm n):Prop:=∀ z,k≤z→x.f z=z
theorem Sp.g {n k:Nat}{x:Pm n}(h:Sp k x) {z:Nat}(hz:k≤z):x.g z=z:=by
 have:=x.gf z;rw[h z hz] at this;exact this
theorem Sp.g_lt {n k:Nat}{x:Pm n}(h:Sp k x) {z:Nat}(hz:z<k):x.g z<k:=by
 by_cases h':x.g z<k
 · exact h'
 · have e:=h (x.g z) (by omega);rw[x.fg] at e;omega
theorem Sp.f_lt {n k:Nat}{x:Pm n}(h:Sp k x) {z:Nat}(hz:z<k):x.f z<k:=by
 by_cases h':x.f z<k
 · exact h'
 · have e:=h.g (z:=x.f z) (by omega);rw[x.gf] at e;omega
theorem zU6 {n k:Nat}{s:Pm n}(hk:k<n) (hS:Sp (k+1) s):Sp k (cyI n (s.g k) k*s):=fun z hz=>by
 have hm:s.g k≤k:=by have:=hS.g_lt (z:=k) (by omega);omega
 show s.f ((cyI n (s.g k) k).f z)=z;rw[zGn hm hk]
 by_cases h:z=k
 · rw[h];unfold cyg;rw[if_pos rfl,s.fg]
 · unfold cyg;rw[if_neg h,if_neg (by omega)];exact hS z (by omega)
theorem zLa {n:Nat}:∀ (k p:Nat) (s:Pm n) (h:p+1<n),k≤n→p+1<k→Sp k s→s.f p<s.f (p+1)→tc n k (Pm.swap n p h*s)=sg n p*tc n k s
 | 0,p,s,h,_,h2,_,_=>by omega
 | k+1,p,s,h,hkn,hpk,hS,hlt=>by
  have hk:k<n:=by omega
  have hm:s.g k≤k:=by have:=hS.g_lt (z:=k) (by omega);omega
  have fm:s.f (s.g k)=k:=s.fg k;have yg:(Pm.swap n p h*s).g k=Pm.sf p (s.g k):=rfl;have hSy:Sp (k+1) (Pm.swap n p h*s):=fun z hz=>by
   show s.f (Pm.sf p z)=z;rw[show Pm.sf p z=z by unfold Pm.sf;rw[if_neg (by omega),if_neg (by omega)]];exact hS z hz
  have hflt:s.f (p+1)<k+1:=hS.f_lt (by omega);have hmp:s.g k≠p:=fun e=>by
   rw[e] at fm;omega
  rw[tc,tc,yg]
  by_cases e1:s.g k=p+1
  · rw[e1];have e2:Pm.sf p (p+1)=p:=by unfold Pm.sf;rw[if_neg (by omega),if_pos rfl]
    rw[e2,show k-p=(k-(p+1))+1 by omega,zNc,Grp.assoc];congr 2;congr 1;apply Pm.ext;intro z;show s.f (Pm.sf p ((cyI n p k).f z))=s.f ((cyI n (p+1) k).f z);rw[zGn (by omega) hk,zGn (by omega) hk];congr 1;unfold cyg Pm.sf
    repeat' split
    all_goals omega
  · have e2:Pm.sf p (s.g k)=s.g k:=by unfold Pm.sf;rw[if_neg hmp,if_neg e1]
    rw[e2];have hS':=zU6 hk hS;by_cases c:p+1<s.g k
    ·
     have q:cyI n (s.g k) k*(Pm.swap n p h*s)=Pm.swap n p h*(cyI n (s.g k) k*s):=by
      apply Pm.ext;intro z;show s.f (Pm.sf p ((cyI n (s.g k) k).f z))=s.f ((cyI n (s.g k) k).f (Pm.sf p z));rw[zGn hm hk,zGn hm hk];congr 1;unfold cyg Pm.sf
      repeat' split
      all_goals omega
     have l:(cyI n (s.g k) k*s).f p<(cyI n (s.g k) k*s).f (p+1):=by
      show s.f ((cyI n (s.g k) k).f p)<s.f ((cyI n (s.g k) k).f (p+1));rw[zGn hm hk,zGn hm hk];have x1:cyg (s.g k) k p=p:=by unfold cyg;rw[if_neg (by omega),if_neg (by omega)]
      have x2:cyg (s.g k) k (p+1)=p+1:=by unfold cyg;rw[if_neg (by omega),if_neg (by omega)]
      rw[x1,x2];exact hlt
     rw[q,zLa k p _ h (by omega) (by omega) hS' l,← Grp.assoc,← Grp.assoc,zS3 _ (by omega)]
    ·
     have hmlt:s.g k<p:=by omega
     obtain⟨r,rfl⟩:∃ r,p=r+1:=⟨p-1,by omega⟩;have hr:r+1<n:=by omega
     have q:cyI n (s.g k) k*(Pm.swap n (r+1) h*s)=Pm.swap n r hr*(cyI n (s.g k) k*s):=by
      apply Pm.ext;intro z;show s.f (Pm.sf (r+1) ((cyI n (s.g k) k).f z))=s.f ((cyI n (s.g k) k).f (Pm.sf r z));rw[zGn hm hk,zGn hm hk];congr 1;unfold cyg Pm.sf
      repeat' split
      all_goals omega
     have l:(cyI n (s.g k) k*s).f r<(cyI n (s.g k) k*s).f (r+1):=by
      show s.f ((cyI n (s.g k) k).f r)<s.f ((cyI n (s.g k) k).f (r+1));rw[zGn hm hk,zGn hm hk];have x1:cyg (s.g k) k r=r+1:=by unfold cyg;rw[if_neg (by omega),if_pos ⟨by omega,by omega⟩]
      have x2:cyg (s.g k) k (r+1)=r+1+1:=by unfold cyg;rw[if_neg (by omega),if_pos ⟨by omega,by omega⟩]
      rw[x1,x2];exact hlt
     rw[q,zLa k r _ hr (by omega) (by omega) hS' l,← Grp.assoc,← Grp.assoc,zU5 _ r (by omega) (by omega) (by omega)]
theorem sp_n {n:Nat}(x:Pm n):Sp n x:=fun z hz=>x.out z hz
theorem zM0 {n:Nat}:∀ k,tc n k (1:Pm n)=1
 | 0=>rfl
 | k+1=>by
  have e:(1:Pm n).g k=k:=rfl;rw[tc,e,Nat.sub_self];have q:cyI n k k*(1:Pm n)=1:=by
   apply Pm.ext;intro z;show (cyI n k k).f z=z
   by_cases hk:k<n
   · rw[zGn (Nat.le_refl _) hk];unfold cyg
     repeat' split
     all_goals omega
   · unfold cyI;rw[dif_neg (by omega)]
     rfl
  rw[q,zM0 k];exact Grp.mul_one _
theorem zC4 {n p:Nat}(h:p+1<n) {s:Pm n}(hs:s.f p<s.f (p+1)):tc n n (Pm.swap n p h*s)=sg n p*tc n n s:=zLa n p s h (Nat.le_refl _) h (sp_n s) hs
theorem zPG {n p:Nat}(h:p+1<n):tc n n (Pm.swap n p h)=sg n p:=by
 have:=zC4 h (s:=(1:Pm n)) (by simp);rw[Grp.mul_one,zM0,Grp.mul_one] at this;exact this
theorem zUk {n:Nat}:∀ (K:Nat) (x c:Pm n),Pm.cnt x⁻¹<K→(Pm.lat n).le c ((Pm.lat n).K x)→tc n n (x*c)=tc n n x*tc n n c:=by
 intro K
 induction K with
 | zero=>intro x c h;omega
 | succ K ih=>
  intro x c hK hle
  cases hb:begL x n with
  | nil=>rw[zSG hb,Grp.one_mul,zM0,Grp.one_mul]
  | cons z m=>
   obtain⟨p,hp,hs,rfl⟩:=zGE hb;have lx:=zPH hp hs;obtain⟨_,lxy⟩:=Lat.P1 (Γ:=Pm.lat n) (x:=x) (y:=c) trivial trivial hle;have ly:Pm.le (Pm.swap n p hp) (x*c):=fun i j hij h=>lxy i j hij (lx i j hij h);have hy:(x*c).f (p+1)<(x*c).f p:=lxy p (p+1) (by omega) hs;have l1:=(Lat.P0 (Γ:=Pm.lat n) (x:=Pm.swap n p hp) (y:=x) trivial trivial lx).2;have l2:=(Lat.P0 (Γ:=Pm.lat n) (x:=Pm.swap n p hp) (y:=x*c) trivial trivial ly).2;have lX:=(Lat.P2 (Γ:=Pm.lat n) (v:=Pm.swap n p hp) (x:=(Pm.swap n p hp)⁻¹*x) (y:=(Pm.swap n p hp)⁻¹*(x*c)) trivial trivial trivial l1 l2).1;rw[zf,zf] at lX;have l3:=(Lat.P0 (Γ:=Pm.lat n) (x:=(Pm.swap n p hp)⁻¹*x) (y:=(Pm.swap n p hp)⁻¹*(x*c)) trivial trivial (lX lxy)).2;have e1:((Pm.swap n p hp)⁻¹*x)⁻¹*((Pm.swap n p hp)⁻¹*(x*c))=c:=by
    rw[← Grp.assoc (Pm.swap n p hp)⁻¹,zAD]
   rw[e1,zJD] at l3;have i:=ih (Pm.swap n p hp*x) c (by have:=zM1 hp hs;omega) l3;have f1:(Pm.swap n p hp*x).f p<(Pm.swap n p hp*x).f (p+1):=by
    show x.f (Pm.sf p p)<x.f (Pm.sf p (p+1));rw[show Pm.sf p p=p+1 by simp[Pm.sf],show Pm.sf p (p+1)=p by unfold Pm.sf;rw[if_neg (by omega),if_pos rfl]];exact hs
   have f2:(Pm.swap n p hp*(x*c)).f p<(Pm.swap n p hp*(x*c)).f (p+1):=by
    show (x*c).f (Pm.sf p p)<(x*c).f (Pm.sf p (p+1));rw[show Pm.sf p p=p+1 by simp[Pm.sf],show Pm.sf p (p+1)=p by unfold Pm.sf;rw[if_neg (by omega),if_pos rfl]];exact hy
   have t1:=zC4 hp f1;have t2:=zC4 hp f2;rw[← Grp.assoc,zEu,Grp.one_mul] at t1 t2;rw[t2,t1,← Grp.assoc (Pm.swap n p hp),i,Grp.assoc]
theorem zLZ {n:Nat}{x c:Pm n}(h:(Pm.lat n).le c ((Pm.lat n).K x)):tc n n (x*c)=tc n n x*tc n n c:=zUk _ x c (Nat.lt_succ_self _) h
theorem zUl {n:Nat}{c y:Pm n}(h:(Pm.lat n).le c y):tc n n y=tc n n c*tc n n (c⁻¹*y):=by
 have h3:=(Lat.P0 (Γ:=Pm.lat n) (x:=c) (y:=y) trivial trivial h).2;have:=zLZ h3;rw[zf] at this;exact this
def pwG {G:Type} [Grp G] (g:G):Nat→G
 | 0=>1
 | k+1=>pwG g k*g
theorem zHU {G:Type} [Grp G] (g:G):∀ k,pwG g (k+1)=g*pwG g k
 | 0=>by
  show 1*g=g*1;rw[Grp.one_mul,Grp.mul_one]
 | k+1=>by
  show pwG g (k+1)*g=g*(pwG g k*g);rw[zHU g k,Grp.assoc]
def zpG {G:Type} [Grp G] (g:G) (p:Int):G:=if 0≤p then pwG g p.toNat else (pwG g (-p).toNat)⁻¹
theorem zMn {G:Type} [Grp G] (g:G) (p:Int):zpG g (p+1)=zpG g p*g:=by
 unfold zpG
 by_cases h:0≤p
 · rw[if_pos h,if_pos (by omega),show (p+1).toNat=p.toNat+1 by omega]
   rfl
 · rw[if_neg h];obtain⟨k,hk⟩:∃ k:Nat,(-p).toNat=k+1:=⟨(-p).toNat-1,by omega⟩;rw[hk,zHU,zS,Grp.assoc,Grp.inv_mul,Grp.mul_one]
   by_cases h':0≤p+1
   · have:k=0:=by omega
     subst this;rw[if_pos h',show (p+1).toNat=0 by omega];show (1:G)=(1:G)⁻¹;exact inv_one.symm
   · rw[if_neg h',show (-(p+1)).toNat=k by omega]
theorem zOt {G:Type} [Grp G] (g:G) (p:Int):∀ k:Nat,zpG g (p+k)=zpG g p*pwG g k
 | 0=>by rw[Int.natCast_zero,Int.add_zero,pwG,Grp.mul_one]
 | k+1=>by rw[show p+((k+1:Nat):Int)=p+(k:Int)+1 by omega,zMn,zOt g p k,pwG,Grp.assoc]
def Wc {n:Nat}:List (Pm n)→Bn n
 | []=>1
 | s::A=>tc n n s*Wc A
theorem zLI {n:Nat}:∀ (A B:List (Pm n)),Wc (A++B)=Wc A*Wc B
 | [],B=>(Grp.one_mul _).symm
 | s::A,B=>by rw[List.cons_append,Wc,zLI A B,Wc,Grp.assoc]
theorem Wc_L {n:Nat}:∀ (A:List (Pm n)) (t:Pm n),Wc ((Pm.lat n).L t A)=tc n n t*Wc A
 | [],t=>rfl
 | a::A,t=>by
  have C:=Lat.cut (Γ:=Pm.lat n) (t:=t) (a:=a) trivial trivial;have e:(Pm.lat n).L t (a::A)=(t*(Pm.lat n).meet ((Pm.lat n).K t) a)::(Pm.lat n).L (((Pm.lat n).meet ((Pm.lat n).K t) a)⁻¹*a) A:=rfl;rw[e,Wc,Wc_L A,zLZ C.c_K,Wc,zUl C.c_a];simp only[Grp.assoc]
theorem zVH {n:Nat}:∀ (X:List (Pm n)),Wc ((Pm.lat n).nf X)=Wc X
 | []=>rfl
 | a::X=>by rw[Lat.nf_cons,Wc_L,zVH X,Wc]
theorem zQ3 {n:Nat}:∀ j,Wc (Lat.ones j:List (Pm n))=1
 | 0=>rfl
 | j+1=>by
  show tc n n 1*Wc (Lat.ones j)=1;rw[zM0,zQ3 j,Grp.mul_one]
theorem zVI {n:Nat}:∀ j,Wc ((Pm.lat n).Ds j)=pwG (tc n n (Pm.half n)) j
 | 0=>rfl
 | j+1=>by
  show tc n n (Pm.half n)*Wc ((Pm.lat n).Ds j)=_;rw[zVI j,zHU]
def Wn {n:Nat}(v:Nm n):Bn n:=zpG (tc n n (Pm.half n)) v.1*Wc v.2
theorem zVG {n:Nat}(h2:2≤n) (p:Int) (X:List (Pm n)):Wn (mk p X)=zpG (tc n n (Pm.half n)) p*Wc X:=by
 obtain⟨j,e,hP,_⟩:=Lat.norm_spec (Γ:=Pm.lat n) (zBD h2) (allS X);have h:=zVH X;rw[e,zLI,zLI,zQ3,zVI,Grp.mul_one] at h;show zpG _ (p+(((Pm.lat n).norm X).1:Nat))*Wc ((Pm.lat n).norm X).2=_;rw[zOt,Grp.assoc,h]
theorem tc_K {n:Nat}(x:Pm n):tc n n x*tc n n ((Pm.lat n).K x)=tc n n (Pm.half n):=by
 rw[← zLZ ((Pm.lat n).refl trivial),x_K]
theorem zSY {n:Nat}(x:Pm n):tc n n (Pm.half n*x⁻¹)*tc n n x=tc n n (Pm.half n):=by
 have:=tc_K (Pm.half n*x⁻¹);rw[zTH] at this;exact this
theorem zUj {n:Nat}(x:Pm n):tc n n (trn x)*tc n n (Pm.half n)=tc n n (Pm.half n)*tc n n x:=by
 have e:(Pm.lat n).K (trn x)=Pm.half n*x⁻¹:=by
  show (trn x)⁻¹*Pm.half n=_;unfold trn;simp only[zS,Pm.half_inv,Grp.assoc,Pm.half_half,Grp.mul_one]
 have h:=tc_K (trn x);rw[e] at h;have h':=zSY x;rw[← h',← Grp.assoc,h,h']
theorem zTF {n:Nat}:∀ (A:List (Pm n)),Wc (A.map trn)*tc n n (Pm.half n)=tc n n (Pm.half n)*Wc A
 | []=>by rw[List.map_nil,Wc,Grp.one_mul,Grp.mul_one]
 | a::A=>by rw[List.map_cons,Wc,Grp.assoc,zTF A,← Grp.assoc,zUj,Wc,Grp.assoc]
theorem zTx {n:Nat}{x:Int}(h:Lr n x):∀ y∈[x],Lr n y:=fun y hy=>by rw[List.mem_singleton.1 hy];exact h
theorem zUO {n:Nat}(h2:2≤n) (v:Nm n) {x:Int}(hx:Lr n x):Wn (stepN v x)=Wn v*Bn.mk [x] (zTx hx):=by
 have hx':=hx;unfold Lr at hx';have hp:x.natAbs-1+1<n:=by omega
 unfold stepN;rw[zCX hp]
 by_cases h:0<x
 · have es:Bn.mk [x] (zTx hx)=sg n (x.natAbs-1):=by
    rw[zOF hp];congr 1;rw[show ((x.natAbs-1+1:Nat):Int)=x by omega]
   rw[if_pos h,zVG h2,zLI,Wc,Wc,Grp.mul_one,zPG hp,es,← Grp.assoc]
   rfl
 · have es:Bn.mk [x] (zTx hx)=(sg n (x.natAbs-1))⁻¹:=by
    rw[zOF hp,Bn.mk_inv];congr 1;show [x]=[-((x.natAbs-1+1:Nat):Int)];rw[show -((x.natAbs-1+1:Nat):Int)=x by omega]
   rw[if_neg h,zVG h2,zLI,Wc,Wc,Grp.mul_one,es];have hl:=zSY (Pm.swap n (x.natAbs-1) hp);rw[zPG hp] at hl;have e1:tc n n (Pm.half n*(Pm.swap n (x.natAbs-1) hp)⁻¹)=tc n n (Pm.half n)*(sg n (x.natAbs-1))⁻¹:=by
    rw[← hl,Grp.assoc,Grp.mul_inv,Grp.mul_one]
   rw[e1,← Grp.assoc (Wc _),zTF];have e2:zpG (tc n n (Pm.half n)) v.1=zpG (tc n n (Pm.half n)) (v.1-1)*tc n n (Pm.half n):=by
    rw[← zMn,show v.1-1+1=v.1 by omega]
   show _=zpG (tc n n (Pm.half n)) v.1*Wc v.2*_;rw[e2];simp only[Grp.assoc]
theorem zQ1 {n:Nat}(h2:2≤n):∀ (w:List Int) (hw:∀ x∈w,Lr n x) (v:Nm n),Wn (w.foldl stepN v)=Wn v*Bn.mk w hw
 | [],hw,v=>(Grp.mul_one _).symm
 | x::w,hw,v=>by
  have hx:=hw x List.mem_cons_self;have ih:=zQ1 h2 w (fun y hy=>hw y (List.mem_cons_of_mem _ hy)) (stepN v x);rw[List.foldl_cons,ih,zUO h2 v hx,Grp.assoc]
  rfl
theorem zTE {n:Nat}(h2:2≤n) (w:List Int) (hw:∀ x∈w,Lr n x):Wn (nOf n w)=Bn.mk w hw:=by
 have h:=zQ1 h2 w hw (0,[]);have e:Wn ((0,[]):Nm n)=1:=by
  show zpG _ 0*1=1;rw[Grp.mul_one]
  rfl
 rw[e,Grp.one_mul] at h;exact h
theorem zQ5 {n:Nat}(h2:2≤n) {a b:List Int}(ha:∀ x∈a,Lr n x) (hb:∀ x∈b,Lr n x) (h:nOf n a=nOf n b):BE n a b:=by
 have e1:=zTE h2 a ha;have e2:=zTE h2 b hb;rw[h,e2] at e1;exact (Bn.exact e1).sy
end Go.Ev.YtlkmkabnbegfdaaGreat
namespace Go.Ev.YtlkmkabnbegfdaaGreat
open Go.Ev
def Lt (w:List Int):Prop:=∀ x∈w,x≠0∧-8≤x∧x≤8
theorem Lt.at {w:List Int}(h:Lt w) {i:Nat}(hi:i<w.length):w[i]≠0∧-8≤w[i]∧w[i]≤8:=h _ (List.getElem_mem hi)
theorem zFR (x:Int) (h:-1000000000≤x) (h':x≤1000000000):R zAR [tI x]=some [tI (x.natAbs:Int)]:=by
 apply zLQ;rw[zEc,zD (by omega) (by omega)];have:mx x (0-x)=(x.natAbs:Int):=by simp only[mx];split<;>omega
 rw[this]
theorem zS6 (x:Int):R zJa [tI x]=some [tI (if 0<x then 1 else -1)]:=by
 apply zTP;by_cases h:0<x<;>simp[zMi,h]
def hb (w:List Int) (z:Int):Nat→Option Nat
 | 0=>none
 | p+1=>if (List.getD w p 0).natAbs=z.natAbs then (if List.getD w p 0=-z then some p else none) else if (List.getD w p 0).natAbs+1=z.natAbs then none else hb w z p
theorem zU2 {w:List Int}{z:Int}:∀ {p k:Nat},hb w z p=some k→k<p∧List.getD w k 0=-z
 | 0,k,h=>by simp[hb] at h
 | p+1,k,h=>by
  unfold hb at h
  split at h
  · split at h
    · simp only[Option.some.injEq] at h;subst h;exact⟨by omega,by assumption⟩
    · simp at h
  · split at h
    · simp at h
    · have:=zU2 h;exact⟨by omega,this.2⟩
def fhk (w:List Int):Nat→Option (Nat×Nat)
 | 0=>none
 | k+1=>match hb w (List.getD w (w.length-(k+1)) 0) (w.length-(k+1)) with
  | some p=>some (p,w.length-(k+1))
  | none=>fhk w k
def fh (w:List Int):Option (Nat×Nat):=fhk w w.length
theorem zS1 {w:List Int}:∀ {k:Nat}{r:Nat×Nat},k≤w.length→fhk w k=some r→r.1<r.2∧r.2<w.length∧List.getD w r.1 0=-List.getD w r.2 0
 | 0,r,hk,h=>by simp[fhk] at h
 | k+1,r,hk,h=>by
  unfold fhk at h
  split at h
  · rename_i p hp;have:=zU2 hp;simp only[Option.some.injEq] at h;subst h;exact⟨this.1,by simp only;omega,this.2⟩
  · exact zS1 (by omega) h
theorem zRx {w:List Int}{r:Nat×Nat}(h:fh w=some r):r.1<r.2∧r.2<w.length∧List.getD w r.1 0=-List.getD w r.2 0:=zS1 (Nat.le_refl _) h
theorem zMY (w:List Int) (hw:Lt w) (hl:w.length<1000000000) (q:Nat) (hq:q<w.length):∀ p,p≤q →
  ∃ o,R zBd [tLI w,tI (q:Int),tI (w[q].natAbs:Int),tI ((p:Int)-1)]=some o ∧
   (match hb w w[q] p with
   | some k=>o=[tI 1,tI (k:Int),tB true]
   | none=>o=[tI 0]∨∃ x,o=[tI 1,tI x,tB false]):=by
 intro p hp
 induction p with
 | zero=>
  refine⟨[tI 0],?_,by simp[hb]⟩;apply zBM;simp[jR]
 | succ p ih=>
  have hp':p<w.length:=by omega
  have b1:=hw.at hp';have b2:=hw.at hq;rw[show ((p+1:Nat):Int)-1=(p:Int) by omega];unfold hb;rw[zV hp']
  by_cases h2:w[p].natAbs=w[q].natAbs
  · have e2:((w[p].natAbs:Int)==(w[q].natAbs:Int))=true:=by simp;omega
    refine⟨[tI 1,tI (p:Int),tB (w[p]==0-w[q])],?_,?_⟩
    · apply zBM;simp (disch:=omega) only[jR,decide_eq_true,cond_true,Bool.and_true,Int.toNat_natCast,zD,zV hp',zV hq,zFR,Option.bind_some,getTV_here,e2]
    · rw[if_pos h2]
      by_cases h1:w[p]=-w[q]
      · simp[h1]
      · have e1:(w[p]==0-w[q])=false:=by simp;omega
        simp[h1,e1]
  · have e2:((w[p].natAbs:Int)==(w[q].natAbs:Int))=false:=by simp;omega
    rw[if_neg h2]
    by_cases h3:w[p].natAbs+1=w[q].natAbs
    · have e3:((w[p].natAbs:Int)==(w[q].natAbs:Int)-1)=true:=by simp;omega
      refine⟨[tI 1,tI 0,tB false],?_,by simp[h3]⟩;apply zBM;simp (disch:=omega) only[jR,decide_eq_true,cond_true,cond_false,Bool.and_true,Int.toNat_natCast,zD,zV hp',zV hq,zFR,Option.bind_some,getTV_here,e2,e3]
    · have e3:((w[p].natAbs:Int)==(w[q].natAbs:Int)-1)=false:=by simp;omega
      obtain⟨o,h4,h5⟩:=ih (by omega);refine⟨o,?_,by rw[if_neg h3];exact h5⟩;apply zBM;simp (disch:=omega) only[jR,decide_eq_true,cond_true,cond_false,Bool.and_true,Int.toNat_natCast,zD,zV hp',zV hq,zFR,Option.bind_some,getTV_here,e2,e3,h4]
theorem zQp (w:List Int) (hw:Lt w) (hl:w.length<1000000000) (q:Nat) (hq:q<w.length):
  ∃ x:Int,R zFx [tLI w,tI (q:Int)]=some [tI x,tB (hb w w[q] q).isSome]∧∀ k,hb w w[q] q=some k→x=k:=by
 have b2:=hw.at hq;obtain⟨o,h1,h2⟩:=zMY w hw hl q hq q (Nat.le_refl _)
 cases h3:hb w w[q] q with
 | some k=>
  simp only[h3] at h2;subst h2;refine⟨k,?_,by simp⟩;apply zFc;simp (disch:=omega) only[zCO,decide_eq_true,cond_true,cond_false,Bool.and_true,Int.toNat_natCast,zD,zV hq,zFR,Option.bind_some,getTV_here,h1];simp
 | none=>
  simp only[h3] at h2
  rcases h2 with rfl | ⟨x,rfl⟩
  · refine⟨0,?_,by simp⟩;apply zFc;simp (disch:=omega) only[zCO,decide_eq_true,cond_true,cond_false,Bool.and_true,Int.toNat_natCast,zD,zV hq,zFR,Option.bind_some,getTV_here,h1];simp
  · refine⟨x,?_,by simp⟩;apply zFc;simp (disch:=omega) only[zCO,decide_eq_true,cond_true,cond_false,Bool.and_true,Int.toNat_natCast,zD,zV hq,zFR,Option.bind_some,getTV_here,h1];simp
theorem zH1 (w:List Int) (hw:Lt w) (hl:w.length<1000000000):∀ k,k≤w.length→R jG [tLI w,tI (w.length:Int),tI ((w.length-k:Nat):Int)]=some (match fhk w k with
  | some r=>[tI 1,tI (r.1:Int),tI (r.2:Int),tB true]
  | none=>[tI 0]):=by
 intro k hk
 induction k with
 | zero=>
  apply zCw;simp[jH,fhk]
 | succ k ih=>
  have hq:w.length-(k+1)<w.length:=by omega
  generalize e:w.length-(k+1)=q at *;have e':w.length-k=q+1:=by omega
  have b2:=hw.at hq;obtain⟨x,h1,h2⟩:=zQp w hw hl q hq;apply zCw;simp (disch:=omega) only[jH,decide_eq_true,cond_true,Bool.and_true,Int.toNat_natCast,zD,zV hq,h1,Option.bind_some,getTV_here,getTV_next,fhk,e]
  cases h3:hb w w[q] q with
  | some p=>simp[h2 p h3]
  | none=>
   simp only[Option.isSome_none,cond_false];rw[show (q:Int)+1=((w.length-k:Nat):Int) by omega];exact ih (by omega)
theorem zFS (w:List Int) (hw:Lt w) (hl:w.length<1000000000):R zB1 [tLI w]=some (match fh w with
  | some r=>[tI (r.1:Int),tI (r.2:Int),tB true]
  | none=>[tI 0,tI 0,tB false]):=by
 apply zID;have:=zH1 w hw hl w.length (Nat.le_refl _);simp only[Nat.sub_self,Int.natCast_zero] at this;simp only[zB5,this,fh]
 cases fhk w w.length<;>simp
end Go.Ev.YtlkmkabnbegfdaaGreat
namespace Go.Ev.YtlkmkabnbegfdaaGreat
open Go.Ev
def rd1 (i:Nat) (y x:Int):List Int:=if x.natAbs=i+1 then [y,if 0<x then (i:Int) else -(i:Int),-y] else [x]
def yOf (z:Int):Int:=if 0<z then (z.natAbs:Int)+1 else -((z.natAbs:Int)+1)
def rdl (w:List Int) (p q:Nat):List Int:=
 w.take p++((w.take q).drop (p+1)).flatMap (rd1 (List.getD w q 0).natAbs (yOf (List.getD w q 0)))++w.drop (q+1)
theorem Lt.sub {w v:List Int}(h:Lt w) (hv:∀ x∈v,x∈w):Lt v:=fun x hx=>h x (hv x hx)
theorem zMG (w seg:List Int) (q:Int) (i:Nat) (y:Int) (hi:i≤8) (hy:-9≤y) (hy':y≤9) (hs:Lt seg) (hl:seg.length<100000):
  ∀ j,j≤seg.length→∀ out:List Int,out.length<100000+3*j→R zAE [tLI w,tLI out,tLI seg,tI q,tI (i:Int),tI y,tI (seg.length:Int),tI (j:Int)]=
   some [tI 0,tLI w,tLI (out++(seg.drop j).flatMap (rd1 i y)),tI q]:=by
 refine kX _ (fun out ho=>?_) (fun j hj ih out ho=>?_)
 · apply zGP;simp[zBs]
 · apply zGP;have b1:=hs.at hj;rw[List.drop_eq_getElem_cons hj];simp (disch:=omega) only[zBs,decide_eq_true,cond_true,Bool.and_true,Int.toNat_natCast,zD,zV hj,zFR,zS6,Option.bind_some,getTV_here,zDp,zVr,List.flatMap_cons];rw[show (j:Int)+1=((j+1:Nat):Int) by omega]
   by_cases h:seg[j].natAbs=i+1
   · have e:((seg[j].natAbs:Int)==(i:Int)+1)=true:=by simp;omega
     rw[e,cond_true,ih _ (by simp;omega)];have e2:wi64 ((i:Int)*(if 0<seg[j] then 1 else -1))=(if 0<seg[j] then (i:Int) else -(i:Int)):=by
      split
      · rw[zD]<;>omega
      · rw[zD]<;>omega
     simp[rd1,h,e2]
   · have e:((seg[j].natAbs:Int)==(i:Int)+1)=false:=by simp;omega
     rw[e,cond_false,ih _ (by simp;omega)];simp[rd1,h]
theorem zPv {w:List Int}{p q:Nat}{x:Int}(h:x∈(w.take q).drop p):x∈w:=List.mem_of_mem_take (List.mem_of_mem_drop h)
theorem zQX (w:List Int) (hw:Lt w) (hl:w.length<50000) (p q:Nat) (hp:p<q) (hq:q<w.length):R zFv [tLI w,tI (p:Int),tI (q:Int)]=some [tLI (rdl w p q)]:=by
 have b2:=hw.at hq;have e1:wi64 (wi64 ((w[q].natAbs:Int)+1)*(if 0<w[q] then 1 else -1))=yOf w[q]:=by
  rw[zD (x:=(w[q].natAbs:Int)+1) (by omega) (by omega)];unfold yOf
  split
  · rw[zD]<;>omega
  · rw[zD]<;>omega
 have hy:-9≤yOf w[q]∧yOf w[q]≤9:=by unfold yOf;split<;>omega
 have h:=zMG w ((w.take q).drop (p+1)) q w[q].natAbs (yOf w[q]) (by omega) hy.1 hy.2 (hw.sub fun x hx=>zPv hx) (by simp;omega) 0 (Nat.zero_le _) (w.take p) (by simp;omega);simp only[Int.natCast_zero,List.drop_zero] at h;apply zN5;have e2:wi64 ((p:Int)+1)=((p+1:Nat):Int):=by rw[zD]<;>omega
 have e3:wi64 ((q:Int)+1)=((q+1:Nat):Int):=by rw[zD]<;>omega
 have e4:apOk [] (List.take p w)=true:=zOo (by simp;omega);have hlen:(w.take p++((w.take q).drop (p+1)).flatMap (rd1 w[q].natAbs (yOf w[q]))).length+(w.drop (q+1)).length<100000000000:=by
  have:(((w.take q).drop (p+1)).flatMap (rd1 w[q].natAbs (yOf w[q]))).length≤3*((w.take q).drop (p+1)).length:=by
   generalize (w.take q).drop (p+1)=l
   induction l with
   | nil=>simp
   | cons a l ih=>
    simp only[List.flatMap_cons,List.length_append,List.length_cons];have:(rd1 w[q].natAbs (yOf w[q]) a).length≤3:=by unfold rd1;split<;>simp
    omega
  simp only[List.length_append,List.length_take,List.length_drop] at this ⊢;omega
 simp (disch:=omega) only[zGA,decide_eq_true,cond_true,Bool.and_true,Int.toNat_natCast,zV hq,zFR,zS6,Option.bind_some,getTV_here,getTV_next,e2,e3,e4,e1,h,zIR hlen];simp[rdl,List.getElem?_eq_getElem hq]
theorem zTh {w:List Int}{p q:Nat}{i:Nat}{y:Int}(hq:q<w.length) (hp:p<q):(w.take p++((w.take q).drop (p+1)).flatMap (rd1 i y)).length+(w.drop (q+1)).length≤3*w.length:=by
 have:(((w.take q).drop (p+1)).flatMap (rd1 i y)).length≤3*((w.take q).drop (p+1)).length:=by
  generalize (w.take q).drop (p+1)=l
  induction l with
  | nil=>simp
  | cons a l ih=>
   simp only[List.flatMap_cons,List.length_append,List.length_cons];have:(rd1 i y a).length≤3:=by unfold rd1;split<;>simp
   omega
 simp only[List.length_append,List.length_take,List.length_drop] at this ⊢;omega
theorem zTi {w:List Int}{p q:Nat}(hq:q<w.length) (hp:p<q):(rdl w p q).length≤3*w.length:=by
 have:=zTh (i:=(List.getD w q 0).natAbs) (y:=yOf (List.getD w q 0)) hq hp;rw[rdl,List.length_append];exact this
theorem zSe {w:List Int}(hw:Lt w) {p q:Nat}(hq:q<w.length) (hp:p<q):Lt (rdl w p q):=by
 intro x hx;have b2:=hw.at hq;simp only[rdl,zV hq,List.mem_append,List.mem_flatMap] at hx
 rcases hx with (hx | ⟨z,hz,hx⟩) | hx
 · exact hw x (List.mem_of_mem_take hx)
 · have hz':=hw z (zPv hz);unfold rd1 at hx
   split at hx
   · rename_i h;simp only[List.mem_cons,List.not_mem_nil,or_false] at hx;have:(yOf w[q]).natAbs=w[q].natAbs+1:=by unfold yOf;split<;>omega
     rcases hx with rfl | rfl | rfl
     · omega
     · split<;>omega
     · omega
   · simp only[List.mem_cons,List.not_mem_nil,or_false] at hx;subst hx;exact hz'
 · exact hw x (List.mem_of_mem_drop hx)
def rdc:Nat→List Int→Option (List Int)
 | 0,w=>if 2000<w.length then none else match fh w with
  | none=>some w
  | some _=>none
 | k+1,w=>if 2000<w.length then none else match fh w with
  | none=>some w
  | some r=>rdc k (rdl w r.1 r.2)
theorem zSf:∀ {k:Nat}{w v:List Int},rdc k w=some v→Lt w→Lt v∧v.length≤2000
 | 0,w,v,h,hw=>by
  unfold rdc at h
  split at h
  · simp at h
  · split at h
    · simp only[Option.some.injEq] at h;subst h;exact⟨hw,by omega⟩
    · simp at h
 | k+1,w,v,h,hw=>by
  unfold rdc at h
  split at h
  · simp at h
  · split at h
    · simp only[Option.some.injEq] at h;subst h;exact⟨hw,by omega⟩
    · rename_i r hr;have:=zRx hr;exact zSf h (zSe hw this.2.1 this.1)
theorem zJe:∀ k,k≤3000→∀ w:List Int,Lt w→w.length<10000→R jr [tLI w,tI ((3000-k:Nat):Int)]=some (match rdc k w with
  | some v=>[tI 0,tLI v,tI 0]
  | none=>[tI 0,tLI [],tI 3]):=by
 intro k
 induction k with
 | zero=>
  intro _ w hw hl;apply zDs
  by_cases h:2000<w.length
  · have h':(2000:Int)<w.length:=by omega
    simp[kk,rdc,h,h']
  · have h':¬ (2000:Int)<w.length:=by omega
    simp only[kk,rdc,h,h',decide_false,cond_false,if_false,zFS w hw (by omega),Option.bind_some]
    cases fh w<;>simp
 | succ k ih=>
  intro hk w hw hl;apply zDs
  by_cases h:2000<w.length
  · have h':(2000:Int)<w.length:=by omega
    simp[kk,rdc,h,h']
  · have h':¬ (2000:Int)<w.length:=by omega
    simp only[kk,rdc,h,h',decide_false,cond_false,if_false,zFS w hw (by omega),Option.bind_some]
    cases hf:fh w with
    | none=>simp
    | some r=>
     have hr:=zRx hf;have e:(((3000-(k+1):Nat):Int)==3000)=false:=by simp;omega
     have e2:wi64 (((3000-(k+1):Nat):Int)+1)=((3000-k:Nat):Int):=by rw[zD]<;>omega
     simp only[getTV_here,getTV_next,Bool.not_true,cond_false,e,zQX w hw (by omega) r.1 r.2 hr.1 hr.2.1,Option.bind_some,e2];have:=zTi hr.2.1 hr.1;exact ih (by omega) _ (zSe hw hr.2.1 hr.1) (by omega)
theorem zMF (w:List Int) (hw:Lt w) (hl:w.length<10000):R zDI [tLI w]=some (match rdc 3000 w with
  | some v=>[tLI v,tI 0]
  | none=>[tLI [],tI 3]):=by
 apply zJz;have:=zJe 3000 (Nat.le_refl _) w hw hl;simp only[Nat.sub_self,Int.natCast_zero] at this;simp only[zDX,this]
 cases rdc 3000 w<;>simp
end Go.Ev.YtlkmkabnbegfdaaGreat
namespace Go.Ev.YtlkmkabnbegfdaaGreat
open Go.Ev
def stp (s:Int×Bool) (x:Int):Int×Bool:=
 if s.1=0∨x.natAbs<s.1.natAbs then (x,false) else if x=-s.1 then (s.1,true) else s
def mainL (w:List Int):Int:=if (w.foldl stp (0,false)).2 then 0 else (w.foldl stp (0,false)).1
structure SInv (u:List Int) (s:Int×Bool):Prop where
 mem:s.1∈u
 le:∀ x∈u,s.1.natAbs≤x.natAbs
 both:s.2=true↔-s.1∈u
theorem zPL {u:List Int}{s:Int×Bool}{x:Int}(h:SInv u s) (hu:Lt u) (hx:x≠0):SInv (u++[x]) (stp s x):=by
 have h0:=hu _ h.mem;unfold stp
 split
 · rename_i h1;have h1:x.natAbs<s.1.natAbs:=by omega
   refine⟨by simp,fun y hy=>?_,?_⟩
   · rcases List.mem_append.1 hy with hy | hy
     · have:=h.le y hy;simp only;omega
     · simp only[List.mem_cons,List.not_mem_nil,or_false] at hy;subst hy;simp only;omega
   · simp only[Bool.false_eq_true,false_iff,List.mem_append,List.mem_cons,List.not_mem_nil,or_false];intro hm
     rcases hm with hm | hm
     · have:=h.le _ hm;omega
     · omega
 · rename_i h1
   split
   · rename_i h2;refine⟨by simp[h.mem],fun y hy=>?_,by simp[h2]⟩
     rcases List.mem_append.1 hy with hy | hy
     · exact h.le y hy
     · simp only[List.mem_cons,List.not_mem_nil,or_false] at hy;subst hy;simp only;omega
   · rename_i h2
     refine⟨by simp[h.mem],fun y hy=>?_,?_⟩
     · rcases List.mem_append.1 hy with hy | hy
       · exact h.le y hy
       · simp only[List.mem_cons,List.not_mem_nil,or_false] at hy;subst hy;omega
     · rw[h.both];simp only[List.mem_append,List.mem_cons,List.not_mem_nil,or_false]
       constructor
       · exact .inl
       · rintro (h3 | h3)
         · exact h3
         · exact (h2 h3.symm).elim
theorem zKF:∀ (v u:List Int) (s:Int×Bool),SInv u s→Lt (u++v)→SInv (u++v) (v.foldl stp s)
 | [],u,s,h,_=>by simpa using h
 | x::v,u,s,h,hl=>by
  have:=zKF v (u++[x]) (stp s x) (zPL h (hl.sub fun y hy=>by simp[hy]) (hl x (by simp)).1) (by simpa using hl);simpa using this
theorem sinv {w:List Int}(hw:Lt w) (hn:w≠[]):SInv w (w.foldl stp (0,false)):=by
 cases w with
 | nil=>exact (hn rfl).elim
 | cons x v=>
  have h0:=hw x (by simp);have:=zKF v [x] (x,false) ⟨by simp,by simp,by simp;omega⟩ (by simpa using hw);simpa[stp] using this
theorem zUm {s:Int×Bool}{x:Int}(h:-8≤s.1∧s.1≤8) (hx:-8≤x∧x≤8):-8≤(stp s x).1∧(stp s x).1≤8:=by
 unfold stp
 split
 · exact hx
 · split<;>exact h
theorem zOg (w:List Int) (hw:Lt w) (hl:w.length<1000000000):∀ i,i≤w.length→∀ s:Int×Bool,-8≤s.1∧s.1≤8 →
  R jJ [tLI w,tI s.1,tB s.2,tI (w.length:Int),tI (i:Int)]=some [tI 0,tI ((w.drop i).foldl stp s).1,tB ((w.drop i).foldl stp s).2]:=by
 refine kX _ (fun s hs=>?_) (fun i hi ih s hs=>?_)
 · apply zHD;simp[zCr]
 · apply zHD;have b1:=hw.at hi;have hb:=zUm hs ⟨b1.2.1,b1.2.2⟩;rw[List.drop_eq_getElem_cons hi,List.foldl_cons];have ih':=ih _ hb;rw[← ih'];simp (disch:=omega) only[zCr,decide_eq_true,cond_true,Bool.and_true,Int.toNat_natCast,zD,zV hi,zFR,Option.bind_some,getTV_here];rw[show (i:Int)+1=((i+1:Nat):Int) by omega];unfold stp
   by_cases h1:s.1=0
   · simp[h1]
   · have e1:(s.1==0)=false:=by simp[h1]
     rw[e1,cond_false]
     by_cases h2:w[i].natAbs<s.1.natAbs
     · have e2:((w[i].natAbs:Int)<(s.1.natAbs:Int)):=by omega
       rw[decide_eq_true e2,cond_true,if_pos (.inr h2)]
     · have e2:¬ ((w[i].natAbs:Int)<(s.1.natAbs:Int)):=by omega
       rw[decide_eq_false e2,cond_false,if_neg (by omega)]
       by_cases h3:w[i]=-s.1
       · simp[h3]
       · have e3:(w[i]==0-s.1)=false:=by simp;omega
         rw[e3,cond_false,if_neg h3]
theorem zNj (w:List Int) (hw:Lt w) (hl:w.length<1000000000):R zHk [tLI w]=some [tI (mainL w)]:=by
 apply zO5;have h:=zOg w hw hl 0 (Nat.zero_le _) (0,false) (by decide);simp only[Int.natCast_zero,List.drop_zero] at h;simp only[zH7,h,Option.bind_some,getTV_here,getTV_next,mainL]
 cases (w.foldl stp (0,false)).2<;>simp
end Go.Ev.YtlkmkabnbegfdaaGreat
namespace Go.Ev.YtlkmkabnbegfdaaGreat
open Go.Ev
theorem zP9 {b:Int×List Int}(h:isBr b=true):Lt b.2:=by
 have:=zHi h;intro x hx;have:=this.2.2.2 x hx;omega
theorem zRq {b:Int×List Int}(h:isBr b=true):b.2.length≤200:=(zHi h).2.2.1
theorem zKu (n a c:Int) (u l:List Int) (hl:l.length<1000000000):∀ k,k≤l.length→∀ out:List Int,out.length+k<10000000000 →
  R zAd [tI n,tLI l,tI a,tLI u,tI c,tLI out,tI ((k:Int)-1)]=some [tI 0,tI a,tLI u,tI c,tLI (out++(l.take k).reverse)]:=by
 intro k
 induction k with
 | zero=>
  intro _ out _;apply zEp;simp[zAl]
 | succ k ih=>
  intro hk out ho;have hk':k<l.length:=by omega
  apply zEp;rw[show ((k+1:Nat):Int)-1=(k:Int) by omega];simp (disch:=omega) only[zAl,decide_eq_true,cond_true,Bool.and_true,Int.toNat_natCast,zD,zV hk',zDp];rw[ih (by omega) _ (by simp;omega),zRI hk'];simp only[List.map_cons,List.append_assoc,List.cons_append,List.nil_append]
theorem zOe (a:Int×List Int) (hl:a.2.length<1000000000):R zEO [zH a]=some [zH (a.1,a.2.reverse)]:=by
 apply zLR;have h:=zKu a.1 0 a.1 [] a.2 hl a.2.length (Nat.le_refl _) [] (by simp;omega);simp (disch:=omega) only[zEd,zD,h,Option.bind_some,getTV_here,getTV_next,List.nil_append,List.take_length]
theorem zOf (x:Int) (h:-1000000000≤x) (h':x≤1000000000):R zEP [tI x]=some [tI (-x)]:=by
 apply zLS;rw[zEe,zD (by omega) (by omega),Int.zero_sub]
theorem zK1 (a c:Int) (u l:List Int) (hw:Lt l) (hl:l.length<1000000000):∀ i,i≤l.length→∀ out:List Int,out.length+l.length<10000000000+i →
  R zAe [tI a,tLI u,tI c,tLI out,tLI l,tI (l.length:Int),tI (i:Int)]=some [tI 0,tI a,tLI u,tI c,tLI (out++(l.drop i).map fun x=>-x)]:=by
 refine kX _ (fun out ho=>?_) (fun i hi ih out ho=>?_)
 · apply zEq;simp[zAm]
 · have b1:=hw.at hi;apply zEq;rw[List.drop_eq_getElem_cons hi];simp (disch:=omega) only[zAm,decide_eq_true,cond_true,Bool.and_true,Int.toNat_natCast,zD,zV hi,zOf,Option.bind_some,getTV_here,zDp];rw[show (i:Int)+1=((i+1:Nat):Int) by omega,ih _ (by simp;omega)];simp only[List.map_cons,List.append_assoc,List.cons_append,List.nil_append]
theorem zOj (a:Int×List Int) (hw:Lt a.2) (hl:a.2.length<1000000000):R zEQ [zH a]=some [zH (a.1,a.2.map fun x=>-x)]:=by
 apply zLU;have h:=zK1 0 a.1 [] a.2 hw hl 0 (Nat.zero_le _) [] (by simp;omega);simp only[Int.natCast_zero,List.drop_zero,List.nil_append] at h;simp only[zEf,h,Option.bind_some,getTV_here,getTV_next]
theorem zSE (a b:Int×List Int) (ha:a.2.length<1000000000) (hb:b.2.length<1000000000):R zHl [zH a,zH b]=some [zH (a.1,a.2++b.2)]:=by
 apply zO6;rw[zH8,zOo (by omega),zIR (by omega),cond_true,cond_true]
def letterOf (w:List Int):Int×Int:=match rdc 3000 w with
 | some v=>(mainL v,0)
 | none=>(0,3)
theorem zPx:mainL []=0:=rfl
theorem zKy (w:List Int) (hw:Lt w) (hl:w.length<10000):R zCd [tLI w]=some [tI (letterOf w).1,tI (letterOf w).2]:=by
 apply zI7;simp only[zCs,zMF w hw hl,Option.bind_some,letterOf]
 cases hf:rdc 3000 w with
 | none=>simp[zNj [] (fun x hx=>by simp at hx) (by simp),zPx]
 | some v=>
  have hr:=zSf hf hw;simp[zNj v hr.1 (by omega)]
def vMainLetter (a:Int×List Int):Int×Int:=if isBr a then letterOf a.2 else (0,1)
theorem zIQ (a:Int×List Int) (hl:a.2.length<1000000000):R zCj [zH a]=some [tI (vMainLetter a).1,tI (vMainLetter a).2]:=by
 apply zJA;simp only[zCv,zBG a hl,Option.bind_some,getTV_here,vMainLetter]
 cases h:isBr a with
 | false=>simp
 | true=>
  have:=zRq h;simp[zKy a.2 (zP9 h) (by omega)]
def vIsTrivial (a:Int×List Int):Bool×Int:=((vMainLetter a).1==0&&(vMainLetter a).2==0,(vMainLetter a).2)
theorem zJj (a:Int×List Int) (hl:a.2.length<1000000000):R zDL [zH a]=some [tB (vIsTrivial a).1,tI (vIsTrivial a).2]:=by
 apply zJ4;simp only[zDZ,zIQ a hl,Option.bind_some,getTV_here,getTV_next,vIsTrivial]
 cases h:(vMainLetter a).1==0<;>simp
end Go.Ev.YtlkmkabnbegfdaaGreat
namespace Go.Ev.YtlkmkabnbegfdaaGreat
open Go.Ev
theorem BE.rd1 {n:Nat}{z x:Int}(hz:Lr n z) (hx:Lr n x) (h1:x.natAbs≠z.natAbs) (h2:x.natAbs+1≠z.natAbs):BE n [-z,x,z] (rd1 z.natAbs (yOf z) x):=by
 unfold Go.Ev.YtlkmkabnbegfdaaGreat.rd1
 by_cases h:x.natAbs=z.natAbs+1
 · rw[if_pos h];have hz0:=hz;have hx0:=hx;unfold Lr at hz0 hx0;obtain⟨i,hi⟩:∃ i:Nat,z.natAbs=i+1:=⟨z.natAbs-1,by omega⟩;have hn:i+2<n:=by omega
   have ha:Lr n ((i+1:Nat):Int):=by unfold Lr;omega
   have hb:Lr n ((i+2:Nat):Int):=by unfold Lr;omega
   have c1:=BE.con1 hn;have c2:=BE.con2 hn;unfold yOf
   by_cases hzp:0<z
   · rw[if_pos hzp];have ez:z=((i+1:Nat):Int):=by omega
     have ey:((z.natAbs:Nat):Int)+1=((i+2:Nat):Int):=by omega
     have ei:((z.natAbs:Nat):Int)=((i+1:Nat):Int):=by omega
     rw[ey,ei]
     by_cases hxp:0<x
     · have exx:x=((i+2:Nat):Int):=by omega
       rw[if_pos hxp,ez,exx];exact c2.sy
     · have exx:x=-((i+2:Nat):Int):=by omega
       rw[if_neg hxp,ez,exx];have c3:=c2.inv (lr3 hb ha hb.neg) (lr3 ha.neg hb ha);simp only[invL,List.reverse_cons,List.reverse_nil,List.nil_append,List.cons_append,List.map_cons,List.map_nil,Int.neg_neg] at c3;exact c3.sy
   · rw[if_neg hzp];have ez:z=-((i+1:Nat):Int):=by omega
     have ey:-(((z.natAbs:Nat):Int)+1)=-((i+2:Nat):Int):=by omega
     have ei:((z.natAbs:Nat):Int)=((i+1:Nat):Int):=by omega
     rw[ey,ei]
     by_cases hxp:0<x
     · have exx:x=((i+2:Nat):Int):=by omega
       rw[if_pos hxp,ez,exx,Int.neg_neg,Int.neg_neg];exact c1
     · have exx:x=-((i+2:Nat):Int):=by omega
       rw[if_neg hxp,ez,exx,Int.neg_neg,Int.neg_neg];have c3:=c1.inv (lr3 ha hb ha.neg) (lr3 hb.neg ha hb);simp only[invL,List.reverse_cons,List.reverse_nil,List.nil_append,List.cons_append,List.map_cons,List.map_nil,Int.neg_neg] at c3;exact c3
 · rw[if_neg h];have hc:=BE.com hz.neg hx (by rw[Int.natAbs_neg];omega);have s1:BE n [-z,x,z] [x,-z,z]:=hc.right [z];have s2:BE n [x,-z,z] [x]:=(BE.frL' hz []).left [x];exact s1.tr s2
theorem BE.seg {n:Nat}{z:Int}(hz:Lr n z):∀ (s:List Int),(∀ x∈s,Lr n x∧x.natAbs≠z.natAbs∧x.natAbs+1≠z.natAbs)→BE n (-z::(s++[z])) (s.flatMap (Go.Ev.YtlkmkabnbegfdaaGreat.rd1 z.natAbs (yOf z)))
 | [],_=>BE.frL' hz []
 | x::s,h=>by
  obtain⟨hx,h1,h2⟩:=h x List.mem_cons_self;have ih:=BE.seg hz s (fun y hy=>h y (List.mem_cons_of_mem _ hy));have s1:BE n (-z::(x::s++[z])) ([-z,x,z]++(-z::(s++[z]))):=by
   have:=(BE.fr [-z,x] (s++[z]) z hz).sy;simpa using this
  have s2:=(BE.rd1 hz hx h1 h2).right (-z::(s++[z]));have s3:=ih.left (Go.Ev.YtlkmkabnbegfdaaGreat.rd1 z.natAbs (yOf z) x);rw[List.flatMap_cons];exact s1.tr (s2.tr s3)
theorem zNP {w:List Int}{z:Int}:∀ {p k:Nat},hb w z p=some k→∀ i,k<i→i<p→(List.getD w i 0).natAbs≠z.natAbs∧(List.getD w i 0).natAbs+1≠z.natAbs
 | 0,k,h=>by simp[hb] at h
 | p+1,k,h=>by
  intro i hi hip;unfold hb at h
  split at h
  · split at h
    · simp only[Option.some.injEq] at h;omega
    · simp at h
  · rename_i n1
    split at h
    · simp at h
    · rename_i n2
      by_cases e:i=p
      · subst e;exact⟨n1,n2⟩
      · exact zNP h i hi (by omega)
theorem zS2 {w:List Int}:∀ {k:Nat}{r:Nat×Nat},fhk w k=some r→hb w (List.getD w r.2 0) r.2=some r.1
 | 0,r,h=>by simp[fhk] at h
 | k+1,r,h=>by
  unfold fhk at h
  split at h
  · rename_i p hp;simp only[Option.some.injEq] at h;subst h;exact hp
  · exact zS2 h
theorem zNY {w:List Int}:∀ {k:Nat},k≤w.length→fhk w k=none→∀ q,w.length-k≤q→q<w.length→hb w (List.getD w q 0) q=none
 | 0,_,_=>fun q h1 h2=>by omega
 | k+1,hk,h=>by
  intro q h1 h2;unfold fhk at h
  split at h
  · simp at h
  · rename_i hn
    by_cases e:q=w.length-(k+1)
    · subst e;exact hn
    · exact zNY (by omega) h q (by omega) h2
theorem BE.step {n:Nat}{w:List Int}(hw:∀ x∈w,Lr n x) {r:Nat×Nat}(h:fh w=some r):BE n w (rdl w r.1 r.2):=by
 obtain⟨h1,h2,h3⟩:=zRx h;have hb:=zNP (zS2 h);obtain⟨p,q⟩:=r;simp only at h1 h2 h3 hb;have hp:p<w.length:=by omega
 rw[zV h2] at h3 hb;rw[zV hp] at h3;unfold rdl;rw[zV h2];have hz:Lr n w[q]:=hw _ (List.getElem_mem h2);have e:w=w.take p++(-w[q]::((w.take q).drop (p+1)++[w[q]]))++w.drop (q+1):=by
  have e1:w=w.take q++(w[q]::w.drop (q+1)):=by rw[← List.drop_eq_getElem_cons h2,List.take_append_drop]
  have e2:w.take q=w.take p++(w[p]::(w.take q).drop (p+1)):=by
   have hpq:p<(w.take q).length:=by rw[List.length_take];omega
   have e3:w[p]=(w.take q)[p]:=by rw[List.getElem_take]
   have e4:w.take p=(w.take q).take p:=by rw[List.take_take,show min p q=p by omega]
   rw[e3,e4,← List.drop_eq_getElem_cons hpq,List.take_append_drop]
  rw[h3] at e2;have e5:w.take p++(-w[q]::((w.take q).drop (p+1)++[w[q]]))++w.drop (q+1)=(w.take p++(-w[q]::(w.take q).drop (p+1)))++(w[q]::w.drop (q+1)):=by simp
  rw[e5,← e2];exact e1
 have hs:=BE.seg hz ((w.take q).drop (p+1)) (fun x hx=>by
  obtain⟨k,hk,rfl⟩:=List.getElem_of_mem hx;have hk':=hk;rw[List.length_drop,List.length_take] at hk';have e6:((w.take q).drop (p+1))[k]=w[p+1+k]'(by omega):=by rw[List.getElem_drop,List.getElem_take]
  rw[e6];have:=hb (p+1+k) (by omega) (by omega);rw[zV (show p+1+k<w.length by omega)] at this;exact⟨hw _ (List.getElem_mem _),this.1,this.2⟩)
 have:=hs.ctx (w.take p) (w.drop (q+1));rw[← List.append_assoc,← List.append_assoc] at this;rw[← e] at this;exact this
theorem zUp {n:Nat}{w:List Int}(hw:∀ x∈w,Lr n x) {p q:Nat}(hq:q<w.length):∀ x∈rdl w p q,Lr n x:=by
 intro x hx;unfold rdl at hx;rw[zV hq] at hx;have hz:=hw _ (List.getElem_mem hq);simp only[List.mem_append,List.mem_flatMap] at hx
 rcases hx with (hx | ⟨a,ha,hx⟩) | hx
 · exact hw x (List.mem_of_mem_take hx)
 · have hla:=hw a (List.mem_of_mem_take (List.mem_of_mem_drop ha));unfold rd1 at hx
   split at hx
   · rename_i e;unfold Lr yOf at *;simp only[List.mem_cons,List.not_mem_nil,or_false] at hx
     rcases hx with rfl | rfl | rfl
     · split<;>omega
     · split<;>omega
     · split<;>omega
   · rw[List.mem_singleton.1 hx];exact hla
 · exact hw x (List.mem_of_mem_drop hx)
theorem BE.rdc {n:Nat}:∀ {k:Nat}{w v:List Int},Go.Ev.YtlkmkabnbegfdaaGreat.rdc k w=some v→(∀ x∈w,Lr n x)→BE n w v∧(∀ x∈v,Lr n x)∧fh v=none
 | 0,w,v,h,hw=>by
  unfold Go.Ev.YtlkmkabnbegfdaaGreat.rdc at h
  split at h
  · simp at h
  · split at h
    · rename_i hf;simp only[Option.some.injEq] at h;subst h;exact⟨.re _,hw,hf⟩
    · simp at h
 | k+1,w,v,h,hw=>by
  unfold Go.Ev.YtlkmkabnbegfdaaGreat.rdc at h
  split at h
  · simp at h
  · split at h
    · rename_i hf;simp only[Option.some.injEq] at h;subst h;exact⟨.re _,hw,hf⟩
    · rename_i r hr;have h1:=BE.step hw hr;have h2:=zUp hw (p:=r.1) (zRx hr).2.1;obtain⟨a,b,c⟩:=BE.rdc h h2;exact⟨h1.tr a,b,c⟩
theorem zQB {w:List Int}{z:Int}:∀ {p:Nat},(∀ i,i<p→z.natAbs≤(List.getD w i 0).natAbs)→hb w z p=none →
  (∀ i,i<p→(List.getD w i 0).natAbs≠z.natAbs)∨(∃ i,i<p∧List.getD w i 0=z∧∀ j,i<j→j<p→(List.getD w j 0).natAbs≠z.natAbs)
 | 0,_,_=>.inl (fun i h=>by omega)
 | p+1,hm,h=>by
  unfold hb at h
  split at h
  · rename_i e
    split at h
    · simp at h
    · rename_i e2;exact .inr ⟨p,by omega,by omega,fun j h1 h2=>by omega⟩
  · rename_i e
    split at h
    · rename_i e2;have:=hm p (by omega);omega
    · rcases zQB (fun i hi=>hm i (by omega)) h with h1 | ⟨i,h1,h2,h3⟩
      · refine .inl (fun i hi=>?_)
        by_cases e4:i=p
        · subst e4;exact e
        · exact h1 i (by omega)
      · refine .inr ⟨i,by omega,h2,fun j h4 h5=>?_⟩
        by_cases e4:j=p
        · subst e4;exact e
        · exact h3 j h4 (by omega)
theorem zGw {w:List Int}(hf:fh w=none) {m:Nat}(hm:∀ i,i<w.length→m≤(List.getD w i 0).natAbs):∀ (q:Nat),q<w.length→(List.getD w q 0).natAbs=m→∀ i,i≤q→(List.getD w i 0).natAbs=m→List.getD w i 0=List.getD w q 0:=by
 intro q
 induction q using Nat.strongRecOn with
 | _ q ih=>
  intro hq hqm i hi him
  by_cases e:i=q
  · rw[e]
  · have hn:=zNY (Nat.le_refl _) hf q (by omega) hq
    rcases zQB (fun j hj=>by rw[hqm];exact hm j (by omega)) hn with h1 | ⟨j,h1,h2,h3⟩
    · exact absurd (him.trans hqm.symm) (h1 i (by omega))
    · have hij:i≤j:=by
       by_cases h4:i≤j
       · exact h4
       · exact absurd (him.trans hqm.symm) (h3 i (by omega) (by omega))
      rw[ih j h1 (by omega) (by rw[h2];exact hqm) i hij him,h2]
theorem zPw {w:List Int}(hw:Lt w) (hf:fh w=none) (hn:w≠[]):mainL w≠0:=by
 have S:=sinv hw hn;unfold mainL;have h0:=(hw _ S.mem).1
 cases hb:(w.foldl stp (0,false)).2 with
 | false=>simpa using h0
 | true=>
  exfalso;have h1:=S.both.1 hb;obtain⟨i,hi,ei⟩:=List.getElem_of_mem S.mem;obtain⟨j,hj,ej⟩:=List.getElem_of_mem h1;have hm:∀ k,k<w.length→(w.foldl stp (0,false)).1.natAbs≤(List.getD w k 0).natAbs:=fun k hk=>by
   rw[zV hk];exact S.le _ (List.getElem_mem hk)
  have gi:=zV hi;have gj:=zV hj;rw[ei] at gi;rw[ej] at gj
  rcases Nat.le_total i j with h | h
  · have:=zGw hf hm j hj (by rw[gj];omega) i h (by rw[gi]);rw[gi,gj] at this;omega
  · have:=zGw hf hm i hi (by rw[gi]) j h (by rw[gj];omega);rw[gi,gj] at this;omega
theorem zOP {w:List Int}(hw:Lt w) (hf:fh w=none):mainL w=0↔w=[]:=by
 constructor
 · intro h
   by_cases hn:w=[]
   · exact hn
   · exact absurd h (zPw hw hf hn)
 · rintro rfl
   rfl
end Go.Ev.YtlkmkabnbegfdaaGreat
namespace Go.Ev.YtlkmkabnbegfdaaGreat
def psh (st:List Int) (x:Int):List Int:=match st with
 | []=>[x]
 | y::t=>if y=-x then t else x::y::t
def rd (w:List Int):List Int:=w.foldl psh []
def Rd:List Int→Prop
 | []=>True
 | a::t=>(∀ b,t.head?=some b→a≠-b)∧Rd t
theorem zUt {st:List Int}{x:Int}(h:Rd st):Rd (psh st x):=by
 match st,h with
 | [],_=>exact⟨fun b hb=>by simp at hb,trivial⟩
 | y::t,h=>
  simp only[psh]
  split
  · exact h.2
  · rename_i e;exact⟨fun b hb=>by simp at hb;omega,h⟩
theorem zTo {st:List Int}{x:Int}(h:Rd st):psh (psh st x) (-x)=st:=by
 match st,h with
 | [],_=>simp[psh]
 | y::t,h=>
  by_cases e:y=-x
  · have e1:psh (y::t) x=t:=if_pos e;rw[e1];subst e
    match t,h with
    | [],_=>rfl
    | z::t,h=>
     have:=h.1 z rfl;exact if_neg (by omega)
  · have e1:psh (y::t) x=x::y::t:=if_neg e;rw[e1];exact if_pos (by omega)
theorem zLk {P:List Int→Prop}(h0:P []) (h1:∀ w x,P w→P (w++[x])) (w:List Int):P w:=by
 have:∀ u:List Int,P u.reverse:=by
  intro u
  induction u with
  | nil=>exact h0
  | cons x u ih=>rw[List.reverse_cons];exact h1 _ x ih
 have h:=this w.reverse;rwa [List.reverse_reverse] at h
theorem zQD:∀ (w:List Int) {st:List Int},Rd st→Rd (w.foldl psh st)
 | [],_,h=>h
 | x::w,_,h=>zQD w (zUt h)
def FE (a b:List Int):Prop:=∀ st,Rd st→a.foldl psh st=b.foldl psh st
theorem FE.re (a:List Int):FE a a:=fun _ _=>rfl
theorem FE.sy {a b:List Int}(h:FE a b):FE b a:=fun st hs=>(h st hs).symm
theorem FE.tr {a b c:List Int}(h:FE a b) (h':FE b c):FE a c:=fun st hs=>(h st hs).trans (h' st hs)
theorem FE.app {a b c d:List Int}(h:FE a b) (h':FE c d):FE (a++c) (b++d):=fun st hs=>by
 rw[List.foldl_append,List.foldl_append,h st hs];exact h' _ (zQD b hs)
theorem FE.rd {a b:List Int}(h:FE a b):Go.Ev.YtlkmkabnbegfdaaGreat.rd a=Go.Ev.YtlkmkabnbegfdaaGreat.rd b:=h [] trivial
theorem FE.can (x:Int) (w:List Int):FE (x::-x::w) w:=fun st hs=>by
 show w.foldl psh (psh (psh st x) (-x))=_;rw[zTo hs]
theorem FE.can' (x:Int) (w:List Int):FE (-x::x::w) w:=by
 have:=FE.can (-x) w;rwa [Int.neg_neg] at this
theorem FE.inv:∀ (w:List Int),FE (w++invL w) []
 | []=>.re _
 | x::w=>by
  rw[zFH];have h:=((FE.re [x]).app (FE.inv w)).app (FE.re [-x]);have e:x::w++(invL w++[-x])=[x]++(w++invL w)++[-x]:=by simp
  rw[e];exact h.tr (FE.can x [])
theorem FE.inv' (w:List Int):FE (invL w++w) []:=by
 have:=FE.inv (invL w);rwa [zKb] at this
theorem zFK (w:List Int) (x:Int):rd (w++[x])=psh (rd w) x:=by simp[rd]
theorem zT3 (w:List Int):FE w (rd w).reverse:=by
 induction w using zLk with
 | h0=>exact .re _
 | h1 w x ih=>
  rw[zFK];have h:=ih.app (FE.re [x]);revert h
  cases hr:rd w with
  | nil=>intro h;exact h
  | cons y t=>
   intro h;simp only[psh]
   split
   · rename_i e;subst e;refine h.tr ?_;rw[List.reverse_cons,List.append_assoc];have:=(FE.re t.reverse).app (FE.can' x []);simpa using this
   · simpa using h
theorem zUn (w:List Int):∀ (p:List Int) (x:Int) (t:List Int),rd w=p++x::t→∃ A B,w=A++x::B∧FE B p.reverse:=by
 induction w using zLk with
 | h0=>intro p x t h;simp[rd] at h
 | h1 w y ih=>
  intro p x t h;rw[zFK] at h;have go:∀ r,rd w=r→psh r y=p++x::t→∃ A B,w++[y]=A++x::B∧FE B p.reverse:=by
   intro r hr h;have hpush:∀ s,y::s=p++x::t→rd w=s→∃ A B,w++[y]=A++x::B∧FE B p.reverse:=by
    intro s h hs
    cases p with
    | nil=>
     simp only[List.nil_append,List.cons.injEq] at h;obtain⟨rfl,rfl⟩:=h;exact⟨w,[],rfl,.re _⟩
    | cons z p=>
     simp only[List.cons_append,List.cons.injEq] at h;obtain⟨rfl,rfl⟩:=h;obtain⟨A,B,rfl,hB⟩:=ih p x t hs;exact⟨A,B++[y],by simp,by rw[List.reverse_cons];exact hB.app (.re _)⟩
   cases r with
   | nil=>exact hpush [] h hr
   | cons z s=>
    simp only[psh] at h
    split at h
    · rename_i e;subst e;obtain⟨A,B,rfl,hB⟩:=ih (-y::p) x t (by rw[hr,h];rfl);refine⟨A,B++[y],by simp,?_⟩;have:=hB.app (.re [y]);rw[List.reverse_cons,List.append_assoc] at this;refine this.tr ?_;have:=(FE.re p.reverse).app (FE.can' y []);simpa using this
    · exact hpush _ h hr
  exact go _ rfl h
def Re (w:List Int):Prop:=rd w=w.reverse
theorem zVW (w:List Int):Re (rd w).reverse:=by
 unfold Re;rw[List.reverse_reverse];exact (zT3 w).rd.symm
theorem zNU (w:List Int):∀ st:List Int,(w.foldl psh st).length≤st.length+w.length:=by
 induction w with
 | nil=>intro st;simp
 | cons x w ih=>
  intro st;have h1:=ih (psh st x);have h2:(psh st x).length≤st.length+1:=by
   cases st with
   | nil=>simp[psh]
   | cons y t=>
    simp only[psh];split<;>simp<;>omega
  show (w.foldl psh (psh st x)).length≤_;simp only[List.length_cons];omega
theorem zUq (w:List Int):(rd w).length≤w.length:=by
 have:=zNU w [];simpa[rd] using this
theorem Re.min {w u:List Int}(h:Re w) (e:FE w u):w.length≤u.length:=by
 have h1:=e.rd;rw[h] at h1;have:=zUq u;rw[← h1] at this;simpa using this
theorem Re.of_min {w:List Int}(h:∀ u,FE w u→w.length≤u.length):Re w:=by
 have h1:=h _ (zT3 w);rw[List.length_reverse] at h1;have key:∀ (w st:List Int),st.length+w.length≤(w.foldl psh st).length→w.foldl psh st=w.reverse++st:=by
  intro w
  induction w with
  | nil=>intro st _;rfl
  | cons x w ih=>
   intro st h;have h2:=zNU w (psh st x);have h3:psh st x=x::st:=by
    cases st with
    | nil=>rfl
    | cons y t=>
     simp only[psh]
     split
     · rename_i e;exfalso;have h4:(w.foldl psh (psh (y::t) x)).length≤(psh (y::t) x).length+w.length:=h2;have h5:psh (y::t) x=t:=by simp only[psh];rw[if_pos e]
       rw[h5] at h4;have h6:((x::w).foldl psh (y::t)).length=(w.foldl psh t).length:=by show (w.foldl psh (psh (y::t) x)).length=_;rw[h5]
       simp only[List.length_cons] at h h4;omega
     · rfl
   have h4:(x::w).foldl psh st=w.foldl psh (x::st):=by show w.foldl psh (psh st x)=_;rw[h3]
   rw[h4] at h ⊢;rw[ih (x::st) (by simp only[List.length_cons] at h ⊢;omega),List.reverse_cons,List.append_assoc]
   rfl
 have:=key w [] (by simpa[rd] using h1);unfold Re;simpa[rd] using this
theorem Re.mid {a b c:List Int}(h:Re (a++(b++c))):Re b:=Re.of_min fun u hu=>by
 have:=h.min ((FE.re a).app (hu.app (FE.re c)));simp only[List.length_append] at this;omega
theorem Re.nil {w:List Int}(h:Re w) (e:FE w []):w=[]:=by
 have:=h.min e;exact List.eq_nil_of_length_eq_zero (by simpa using this)
theorem Re.eq {w u:List Int}(h:Re w) (h':Re u) (e:FE w u):w=u:=by
 have:=e.rd;rw[h,h'] at this;exact List.reverse_inj.1 this
theorem zPq (x:Int) (a c:List Int):¬ Re (a++(x::-x::c)):=fun h=>by
 have:=h.min ((FE.re a).app (FE.can x c));simp only[List.length_append,List.length_cons] at this;omega
def tp (i x:Int):List Int:=if x=i then [i,i+1,-i] else if x=-i then [i,-(i+1),-i] else if x=i+1 then [i] else if x=-(i+1) then [-i] else [x]
def tn (i x:Int):List Int:=if x=i then [i+1] else if x=-i then [-(i+1)] else if x=i+1 then [-(i+1),i,i+1] else if x=-(i+1) then [-(i+1),-i,i+1] else [x]
def tau' (k x:Int):List Int:=if 0<k then tp k x else tn (-k) x
def ap (k:Int) (w:List Int):List Int:=w.flatMap (tau' k)
theorem zI3 (k:Int) (a b:List Int):ap k (a++b)=ap k a++ap k b:=by simp[ap]
theorem zP (k x:Int) (b:List Int):ap k (x::b)=tau' k x++ap k b:=by simp[ap]
theorem kK (k:Int):ap k []=[]:=rfl
theorem zUe {i:Int}(hi:1≤i) (x:Int):tp i (-x)=invL (tp i x):=by
 unfold tp
 by_cases h1:x=i
 · subst h1;rw[if_neg (by omega),if_pos rfl,if_pos rfl];simp[invL]
 · by_cases h2:x=-i
   · subst h2;rw[if_pos (by omega),if_neg (by omega),if_pos rfl];simp[invL]
   · by_cases h3:x=i+1
     · subst h3;rw[if_neg (by omega),if_neg (by omega),if_neg (by omega),if_pos rfl,if_neg (by omega),if_neg (by omega),if_pos rfl];simp[invL]
     · by_cases h4:x=-(i+1)
       · subst h4;rw[if_neg (by omega),if_neg (by omega),if_pos (by omega),if_neg (by omega),if_neg (by omega),if_neg (by omega),if_pos rfl];simp[invL]
       · rw[if_neg (by omega),if_neg (by omega),if_neg (by omega),if_neg (by omega),if_neg h1,if_neg h2,if_neg h3,if_neg h4];simp[invL]
theorem zUf {i:Int}(hi:1≤i) (x:Int):tn i (-x)=invL (tn i x):=by
 unfold tn
 by_cases h1:x=i
 · subst h1;rw[if_neg (by omega),if_pos rfl,if_pos rfl];simp[invL]
 · by_cases h2:x=-i
   · subst h2;rw[if_pos (by omega),if_neg (by omega),if_pos rfl];simp[invL]
   · by_cases h3:x=i+1
     · subst h3;rw[if_neg (by omega),if_neg (by omega),if_neg (by omega),if_pos rfl,if_neg (by omega),if_neg (by omega),if_pos rfl];simp[invL]
     · by_cases h4:x=-(i+1)
       · subst h4;rw[if_neg (by omega),if_neg (by omega),if_pos (by omega),if_neg (by omega),if_neg (by omega),if_neg (by omega),if_pos rfl];simp[invL]
       · rw[if_neg (by omega),if_neg (by omega),if_neg (by omega),if_neg (by omega),if_neg h1,if_neg h2,if_neg h3,if_neg h4];simp[invL]
theorem zC5 {k:Int}(hk:k≠0) (x:Int):tau' k (-x)=invL (tau' k x):=by
 unfold tau'
 by_cases h:0<k
 · rw[if_pos h,if_pos h,zUe (by omega)]
 · rw[if_neg h,if_neg h,zUf (by omega)]
theorem zSK {k:Int}(hk:k≠0) {a b:List Int}(h:FE a b):FE (ap k a) (ap k b):=by
 have key:∀ w:List Int,FE (ap k w) (ap k (rd w).reverse):=by
  intro w
  induction w using zLk with
  | h0=>exact .re _
  | h1 w x ih=>
   rw[zFK,zI3];have h:=ih.app (FE.re (ap k [x]));revert h
   cases hr:rd w with
   | nil=>intro h;exact h
   | cons y t=>
    intro h;simp only[psh]
    split
    · rename_i e;subst e;refine h.tr ?_;rw[List.reverse_cons,zI3,List.append_assoc,zP,kK,List.append_nil,zP,kK,List.append_nil,zC5 hk];have:=(FE.re (ap k t.reverse)).app (FE.inv' (tau' k x));simpa using this
    · rw[List.reverse_cons,zI3];exact h
 exact (key a).tr (h.rd ▸ (key b).sy)
theorem zNZ {f g:Int→List Int}(h:∀ x,FE (f x) (g x)):∀ w:List Int,FE (w.flatMap f) (w.flatMap g)
 | []=>.re _
 | x::w=>by
  rw[List.flatMap_cons,List.flatMap_cons];exact (h x).app (zNZ h w)
theorem zSJ (j k:Int) (w:List Int):ap j (ap k w)=w.flatMap (fun x=>ap j (tau' k x)):=by
 unfold ap;rw[List.flatMap_assoc]
end Go.Ev.YtlkmkabnbegfdaaGreat
namespace Go.Ev.YtlkmkabnbegfdaaGreat
theorem zRs (a b:List Int):invL (a++b)=invL b++invL a:=by simp[invL]
theorem FE.invc {a b:List Int}(h:FE a b):FE (invL a) (invL b):=by
 have h1:FE (invL a) (invL a++(b++invL b)):=by
  have:=(FE.re (invL a)).app (FE.inv b).sy;simpa using this
 have h2:FE (invL a++(b++invL b)) (invL a++(a++invL b)):=(FE.re _).app (h.sy.app (.re _));have h3:FE (invL a++(a++invL b)) (invL b):=by
  rw[← List.append_assoc];have:=(FE.inv' a).app (FE.re (invL b));simpa using this
 exact (h1.tr h2).tr h3
theorem zNn {k:Int}(hk:k≠0):∀ w:List Int,ap k (invL w)=invL (ap k w)
 | []=>rfl
 | x::w=>by
  rw[zFH,zI3,zNn hk w,zP,kK,List.append_nil,zC5 hk,zP,zRs]
section
variable {i:Int}(hi:1≤i)
include hi
theorem t_i:tau' i i=[i,i+1,-i]:=by unfold tau';rw[if_pos (by omega)];exact if_pos rfl
theorem t_s:tau' i (i+1)=[i]:=by unfold tau' tp;rw[if_pos (by omega),if_neg (by omega),if_neg (by omega),if_pos rfl]
theorem t_ni:tau' i (-i)=[i,-(i+1),-i]:=by rw[zC5 (by omega),t_i hi];simp[invL]
theorem t_ns:tau' i (-(i+1))=[-i]:=by rw[zC5 (by omega),t_s hi];simp[invL]
theorem t_o {x:Int}(h1:x≠i) (h2:x≠-i) (h3:x≠i+1) (h4:x≠-(i+1)):tau' i x=[x]:=by
 unfold tau' tp;rw[if_pos (by omega),if_neg h1,if_neg h2,if_neg h3,if_neg h4]
theorem n_i:tau' (-i) i=[i+1]:=by unfold tau' tn;rw[if_neg (by omega),Int.neg_neg];exact if_pos rfl
theorem n_s:tau' (-i) (i+1)=[-(i+1),i,i+1]:=by unfold tau' tn;rw[if_neg (by omega),Int.neg_neg,if_neg (by omega),if_neg (by omega),if_pos rfl]
theorem n_ni:tau' (-i) (-i)=[-(i+1)]:=by rw[zC5 (by omega),n_i hi];simp[invL]
theorem n_ns:tau' (-i) (-(i+1))=[-(i+1),-i,i+1]:=by rw[zC5 (by omega),n_s hi];simp[invL]
theorem n_o {x:Int}(h1:x≠i) (h2:x≠-i) (h3:x≠i+1) (h4:x≠-(i+1)):tau' (-i) x=[x]:=by
 unfold tau' tn;rw[if_neg (by omega),Int.neg_neg,if_neg h1,if_neg h2,if_neg h3,if_neg h4]
end
theorem zDP (x:Int) (a b:List Int):FE (a++(x::-x::b)) (a++b):=(FE.re a).app (FE.can x b)
theorem jt (x:Int) (a b:List Int):FE (a++(-x::x::b)) (a++b):=(FE.re a).app (FE.can' x b)
theorem zJl {f g:Int→List Int}(hf:∀ x,f (-x)=invL (f x)) (hg:∀ x,g (-x)=invL (g x)) {x:Int}(h:FE (f x) (g x)):FE (f (-x)) (g (-x)):=by
 rw[hf,hg];exact h.invc
theorem zDm {j k:Int}(hj:j≠0) (hk:k≠0) (x:Int):ap j (tau' k (-x))=invL (ap j (tau' k x)):=by rw[zC5 hk,zNn hj]
theorem pn {i:Int}(hi:1≤i) (x:Int):FE (ap i (tau' (-i) x)) [x]:=by
 have base:∀ x,(x=i∨x=i+1∨(x≠i∧x≠-i∧x≠i+1∧x≠-(i+1)))→FE (ap i (tau' (-i) x)) [x]:=by
  rintro x (rfl | rfl | ⟨h1,h2,h3,h4⟩)
  · rw[n_i hi,zP,kK,List.append_nil,t_s hi];exact .re _
  · rw[n_s hi,zP,zP,zP,kK,t_ns hi,t_i hi,t_s hi];have h1:FE [-i,i,i+1,-i,i] [i+1,-i,i]:=FE.can' i _;exact h1.tr (jt i [i+1] [])
  · rw[n_o hi h1 h2 h3 h4,zP,kK,t_o hi h1 h2 h3 h4];exact .re _
 by_cases h:x=i∨x=i+1∨(x≠i∧x≠-i∧x≠i+1∧x≠-(i+1))
 · exact base x h
 · have:=zJl (f:=fun x=>ap i (tau' (-i) x)) (g:=fun x=>[x]) (zDm (by omega) (by omega)) (fun x=>by simp[invL]) (base (-x) (by omega));simpa using this
theorem np {i:Int}(hi:1≤i) (x:Int):FE (ap (-i) (tau' i x)) [x]:=by
 have base:∀ x,(x=i∨x=i+1∨(x≠i∧x≠-i∧x≠i+1∧x≠-(i+1)))→FE (ap (-i) (tau' i x)) [x]:=by
  rintro x (rfl | rfl | ⟨h1,h2,h3,h4⟩)
  · rw[t_i hi,zP,zP,zP,kK,n_i hi,n_s hi,n_ni hi];have h1:FE [x+1,-(x+1),x,x+1,-(x+1)] [x,x+1,-(x+1)]:=FE.can (x+1) _;exact h1.tr (zDP (x+1) [x] [])
  · rw[t_s hi,zP,kK,n_i hi];exact .re _
  · rw[t_o hi h1 h2 h3 h4,zP,kK,n_o hi h1 h2 h3 h4];exact .re _
 by_cases h:x=i∨x=i+1∨(x≠i∧x≠-i∧x≠i+1∧x≠-(i+1))
 · exact base x h
 · have:=zJl (f:=fun x=>ap (-i) (tau' i x)) (g:=fun x=>[x]) (zDm (by omega) (by omega)) (fun x=>by simp[invL]) (base (-x) (by omega));simpa using this
theorem zVe (w:List Int):w.flatMap (fun x=>[x])=w:=by simp
theorem zMl {k:Int}(hk:k≠0) (w:List Int):FE (ap k (ap (-k) w)) w:=by
 rw[zSJ];have h:∀ x,FE (ap k (tau' (-k) x)) [x]:=fun x=>by
  by_cases h0:0<k
  · exact pn (by omega) x
  · have:=np (i:=-k) (by omega) x;rwa [Int.neg_neg] at this
 have:=zNZ h w;rwa [zVe] at this
theorem far {i j:Int}(hi:1≤i) (hj:i+2≤j) (x:Int):FE (ap i (tau' j x)) (ap j (tau' i x)):=by
 have hj1:1≤j:=by omega
 have base:∀ x,(x=i∨x=i+1∨x=j∨x=j+1∨(x≠i∧x≠-i∧x≠i+1∧x≠-(i+1)∧x≠j∧x≠-j∧x≠j+1∧x≠-(j+1)))→FE (ap i (tau' j x)) (ap j (tau' i x)):=by
  rintro x (rfl | rfl | rfl | rfl | ⟨h1,h2,h3,h4,h5,h6,h7,h8⟩)
  · rw[t_o hj1 (by omega) (by omega) (by omega) (by omega),t_i hi,zP,kK,zP,zP,zP,kK,t_i hi,t_o hj1 (by omega) (by omega) (by omega) (by omega),t_o hj1 (by omega) (by omega) (by omega) (by omega),t_o hj1 (by omega) (by omega) (by omega) (by omega)];exact .re _
  · rw[t_o hj1 (by omega) (by omega) (by omega) (by omega),t_s hi,zP,kK,zP,kK,t_s hi,t_o hj1 (by omega) (by omega) (by omega) (by omega)];exact .re _
  · rw[t_i hj1,t_o hi (by omega) (by omega) (by omega) (by omega),zP,zP,zP,kK,zP,kK,t_i hj1,t_o hi (by omega) (by omega) (by omega) (by omega),t_o hi (by omega) (by omega) (by omega) (by omega),t_o hi (by omega) (by omega) (by omega) (by omega)];exact .re _
  · rw[t_s hj1,t_o hi (by omega) (by omega) (by omega) (by omega),zP,kK,zP,kK,t_s hj1,t_o hi (by omega) (by omega) (by omega) (by omega)];exact .re _
  · rw[t_o hj1 h5 h6 h7 h8,t_o hi h1 h2 h3 h4,zP,kK,zP,kK,t_o hj1 h5 h6 h7 h8,t_o hi h1 h2 h3 h4];exact .re _
 by_cases h:x=i∨x=i+1∨x=j∨x=j+1∨(x≠i∧x≠-i∧x≠i+1∧x≠-(i+1)∧x≠j∧x≠-j∧x≠j+1∧x≠-(j+1))
 · exact base x h
 · have:=zJl (f:=fun x=>ap i (tau' j x)) (g:=fun x=>ap j (tau' i x)) (zDm (by omega) (by omega)) (zDm (by omega) (by omega)) (base (-x) (by omega));simpa using this
theorem brd {i:Int}(hi:1≤i) (x:Int):FE (ap i (ap (i+1) (tau' i x))) (ap (i+1) (ap i (tau' (i+1) x))):=by
 have hj:1≤i+1:=by omega
 have e2:(i+1:Int)+1=i+2:=by omega
 have base:∀ x,(x=i∨x=i+1∨x=i+2∨(x≠i∧x≠-i∧x≠i+1∧x≠-(i+1)∧x≠i+2∧x≠-(i+2)))→FE (ap i (ap (i+1) (tau' i x))) (ap (i+1) (ap i (tau' (i+1) x))):=by
  have o1:tau' (i+1) i=[i]:=t_o hj (by omega) (by omega) (by omega) (by omega);have o2:tau' (i+1) (-i)=[-i]:=t_o hj (by omega) (by omega) (by omega) (by omega);have o3:tau' i (i+2)=[i+2]:=t_o hi (by omega) (by omega) (by omega) (by omega);have a1:tau' (i+1) (i+1)=[i+1,i+2,-(i+1)]:=by rw[t_i hj,e2]
  have a2:tau' (i+1) (i+2)=[i+1]:=by have:=t_s hj;rwa [e2] at this
  rintro x (rfl | rfl | rfl | ⟨h1,h2,h3,h4,h5,h6⟩)
  · rw[t_i hi,o1];simp only[zP,kK,o1,o2,a1,t_i hi,t_s hi,t_ni hi,t_ns hi,o3,List.append_nil,List.cons_append,List.nil_append];have h1:FE ([x,x+1]++(-x::x::[x+2,-x,x,-(x+1),-x])) ([x,x+1]++[x+2,-x,x,-(x+1),-x]):=jt x _ _;have h2:FE ([x,x+1,x+2]++(-x::x::[-(x+1),-x])) ([x,x+1,x+2]++[-(x+1),-x]):=jt x _ _;exact h1.tr h2
  · rw[t_s hi,a1];simp only[zP,kK,o1,o2,a2,t_i hi,t_s hi,t_ns hi,o3,List.append_nil,List.cons_append,List.nil_append];exact .re _
  · rw[o3,a2];simp only[zP,kK,o1,o2,a2,t_i hi,t_s hi,t_ns hi,o3,List.append_nil,List.cons_append,List.nil_append];exact .re _
  · have q:tau' (i+1) x=[x]:=t_o hj (by omega) (by omega) (by omega) (by omega);have q':tau' i x=[x]:=t_o hi h1 h2 h3 h4;simp only[q,q',zP,kK,List.append_nil];exact .re _
 by_cases h:x=i∨x=i+1∨x=i+2∨(x≠i∧x≠-i∧x≠i+1∧x≠-(i+1)∧x≠i+2∧x≠-(i+2))
 · exact base x h
 · have hn:∀ a b c:Int,a≠0→b≠0→c≠0→∀ x,ap a (ap b (tau' c (-x)))=invL (ap a (ap b (tau' c x))):=fun a b c ha hb hc x=>by rw[zC5 hc,zNn hb,zNn ha]
   have:=zJl (f:=fun x=>ap i (ap (i+1) (tau' i x))) (g:=fun x=>ap (i+1) (ap i (tau' (i+1) x))) (hn _ _ _ (by omega) (by omega) (by omega)) (hn _ _ _ (by omega) (by omega) (by omega)) (base (-x) (by omega));simpa using this
theorem ap3 (a b c:Int) (w:List Int):ap a (ap b (ap c w))=w.flatMap (fun x=>ap a (ap b (tau' c x))):=by
 have h:ap b (ap c w)=w.flatMap (fun x=>ap b (tau' c x)):=zSJ b c w;rw[h];unfold ap;rw[List.flatMap_assoc]
def actF (s:List Int→List Int) (x:Int):List Int→List Int:=if x=0 then s else fun w=>s (ap x w)
theorem zVF {n:Nat}{a b:List Int}(h:BE n a b):a.foldl actF rd=b.foldl actF rd:=by
 refine h.fold (P:=fun s=>∀ A B,FE A B→s A=s B) (f:=actF) ?_ ?_ ?_ ?_ rd (fun A B h=>h.rd)
 · intro s x hs A B hAB;unfold actF
   split
   · exact hs A B hAB
   · rename_i hx;exact hs _ _ (zSK hx hAB)
 · intro s x hs hx;unfold Lr at hx;unfold actF;rw[if_neg hx.1,if_neg (by omega)];funext w;exact hs _ _ (zMl hx.1 w)
 · intro s i j hs hij _;unfold actF;rw[if_neg (by omega),if_neg (by omega),if_neg (by omega),if_neg (by omega)];funext w;refine hs _ _ ?_;rw[zSJ,zSJ];exact zNZ (fun x=>far (by omega) (by omega) x) w
 · intro s i hs _;unfold actF;rw[if_neg (by omega),if_neg (by omega),if_neg (by omega),if_neg (by omega),if_neg (by omega),if_neg (by omega)];funext w;refine hs _ _ ?_;have e:(((i+2:Nat):Int))=((i+1:Nat):Int)+1:=by omega
   rw[e,ap3,ap3];exact zNZ (fun x=>brd (by omega) x) w
theorem zNq:∀ (w:List Int),(∀ x∈w,x≠0)→∀ (s:List Int→List Int) (u:List Int),(w.foldl actF s) u=s (w.foldr ap u)
 | [],_,_,_=>rfl
 | x::w,h,s,u=>by
  have hx:=h x List.mem_cons_self;rw[List.foldl_cons,zNq w (fun y hy=>h y (List.mem_cons_of_mem _ hy)),List.foldr_cons];unfold actF;rw[if_neg hx]
theorem zDe {f:Int→List Int}:∀ (l:List Int) (A:List Int) (x:Int) (B:List Int),l.flatMap f=A++x::B→∃ l1 y l2 p q,l=l1++y::l2∧f y=p++x::q∧B=q++l2.flatMap f
 | [],A,x,B,h=>by simp at h
 | z::l,A,x,B,h=>by
  rw[List.flatMap_cons,List.append_eq_append_iff] at h
  rcases h with ⟨a',_,h2⟩ | ⟨c',h1,h2⟩
  · obtain⟨l1,y,l2,p,q,rfl,h4,h5⟩:=zDe l a' x B h2;exact⟨z::l1,y,l2,p,q,rfl,h4,h5⟩
  · match c',h1,h2 with
    | [],h1,h2=>
     obtain⟨l1,y,l2,p,q,rfl,h4,h5⟩:=zDe l [] x B h2.symm;exact⟨z::l1,y,l2,p,q,rfl,h4,h5⟩
    | c::q,h1,h2=>
     simp only[List.cons_append,List.cons.injEq] at h2;obtain⟨rfl,rfl⟩:=h2;exact⟨[],z,l,A,q,rfl,h1,rfl⟩
def Ends (i:Int) (u:List Int):Prop:=∃ t,rd u=-i::t
theorem Ends.word {i:Int}{u:List Int}(h:Ends i u):∃ v,FE u (v++[-i])∧Re (v++[-i]):=by
 obtain⟨t,ht⟩:=h
 refine⟨t.reverse,?_,?_⟩
 · have:=zT3 u;rw[ht,List.reverse_cons] at this;exact this
 · have:=zVW u;rw[ht,List.reverse_cons] at this;exact this
theorem zL9 {i:Int}{u:List Int}(hne:∀ s,rd u≠i::s):Ends i (u++[-i]):=by
 unfold Ends;rw[zFK]
 cases hr:rd u with
 | nil=>exact⟨[],rfl⟩
 | cons y t=>
  have hy:y≠i:=fun e=>hne t (by rw[hr,e])
  exact⟨y::t,if_neg (by omega)⟩
theorem Ends.fe {i:Int}{u v:List Int}(h:FE u v) (e:Ends i v):Ends i u:=by
 obtain⟨t,ht⟩:=e;exact⟨t,h.rd.trans ht⟩
theorem zG3 {k:Int}(hk:k≠0) {l:List Int}{m:List Int}(h:FE (ap k l) (ap k m)):FE l m:=by
 have hb:=zMl (k:=-k) (by omega) l;have hb':=zMl (k:=-k) (by omega) m;rw[Int.neg_neg] at hb hb';exact (hb.sy.tr (zSK (by omega) h)).tr hb'
theorem Re.last {v:List Int}{i:Int}(h:Re (v++[-i])) {l1:List Int}(e:v=l1++[i]):False:=by
 subst e;have e:l1++[i]++[-i]=l1++(i::-i::[]):=by simp
 rw[e] at h;exact zPq i l1 [] h
theorem Re.pre {v w:List Int}(h:Re (v++w)):Re v:=by
 have:Re ([]++(v++w)):=h;exact this.mid
theorem Re.suf {v w:List Int}(h:Re (v++w)):Re w:=by
 have:Re (v++(w++[])):=by rw[List.append_nil];exact h
 exact this.mid
theorem zOZ {i:Int}(hi:1≤i) {k:Int}(hk:i<k∨k < -i) {u:List Int}(h:Ends i u):Ends i (ap k u):=by
 have hk0:k≠0:=by omega
 obtain⟨v,h1,h2⟩:=h.word;refine Ends.fe (zSK hk0 h1) ?_;have only:∀ y p q,tau' k y=p++i::q→y=i∧q=[]:=by
  intro y p q e;have hm:i∈tau' k y:=by rw[e];simp
  have key:∀ j,i<j→(i∈tau' j y∨i∈tau' (-j) y)→y=i:=by
   intro j hj hm;have hj1:1≤j:=by omega
   by_cases c1:y=j
   · subst c1;rw[t_i hj1,n_i hj1] at hm;simp at hm;omega
   · by_cases c2:y=-j
     · subst c2;rw[t_ni hj1,n_ni hj1] at hm;simp at hm;omega
     · by_cases c3:y=j+1
       · subst c3;rw[t_s hj1,n_s hj1] at hm;simp at hm;omega
       · by_cases c4:y=-(j+1)
         · subst c4;rw[t_ns hj1,n_ns hj1] at hm;simp at hm;omega
         · rw[t_o hj1 c1 c2 c3 c4,n_o hj1 c1 c2 c3 c4] at hm;simp at hm;exact hm.symm
  have hy:y=i:=by
   rcases hk with hk | hk
   · exact key k hk (.inl hm)
   · exact key (-k) (by omega) (.inr (by rwa [Int.neg_neg]))
  subst hy;have hs:tau' k y=[y]:=by
   rcases hk with hk | hk
   · exact t_o (by omega) (by omega) (by omega) (by omega) (by omega)
   · have:=n_o (i:=-k) (by omega) (x:=y) (by omega) (by omega) (by omega) (by omega);rwa [Int.neg_neg] at this
  rw[hs] at e;have hl:=congrArg List.length e;simp only[List.length_cons,List.length_nil,List.length_append] at hl;exact⟨rfl,List.eq_nil_of_length_eq_zero (by omega)⟩
 have hl:tau' k (-i)=[-i]:=by
  rcases hk with hk | hk
  · exact t_o (by omega) (by omega) (by omega) (by omega) (by omega)
  · have:=n_o (i:=-k) (by omega) (x:=-i) (by omega) (by omega) (by omega) (by omega);rwa [Int.neg_neg] at this
 rw[zI3,zP,kK,List.append_nil,hl];refine zL9 fun s hs=>?_;obtain⟨A,B,h3,h4⟩:=zUn (ap k v) [] i s hs;obtain⟨l1,y,l2,p,q,e1,e2,e3⟩:=zDe v A i B h3;obtain⟨rfl,rfl⟩:=only y p q e2;rw[List.nil_append] at e3;subst e3;have h5:FE l2 []:=zG3 hk0 h4;have h6:Re l2:=by
  have:=h2.pre;rw[e1] at this;exact (this.suf (w:=y::l2)).suf (v:=[y])
 have:=h6.nil h5;subst this;exact h2.last e1
theorem zQM {i:Int}(hi:1≤i) {u:List Int}(h:Ends i u):Ends i (ap i u):=by
 have hk0:i≠0:=by omega
 obtain⟨v,h1,h2⟩:=h.word;refine Ends.fe (zSK hk0 h1) ?_;have ew:ap i (v++[-i])=(ap i v++[i,-(i+1)])++[-i]:=by rw[zI3,zP,kK,t_ni hi];simp
 rw[ew];refine zL9 fun s hs=>?_;obtain⟨A,B,h3,h4⟩:=zUn _ [] i s hs;rw[List.reverse_nil] at h4;have bad:¬ FE [-(i+1)] []:=fun h=>by have:=h.rd;simp[rd,psh] at this
 rw[List.append_eq_append_iff] at h3;have fin:∀ B',ap i v=A++i::B'→B=B'++[i,-(i+1)]→False:=by
  intro B' h5 h6;obtain⟨l1,y,l2,p,q,e1,e2,e3⟩:=zDe v A i B' h5;have hv:=h2.pre;have hR:Re (y::l2):=by rw[e1] at hv;exact hv.suf
  have hR2:Re l2:=hR.suf (v:=[y]);have hB:FE (q++ap i l2++[i,-(i+1)]) []:=by rw[h6,e3] at h4;exact h4
  by_cases c1:y=i
  · subst c1;rw[t_i hi] at e2;have hq:q=[y+1,-y]:=by
     match p,e2 with
     | [],e2=>simpa using e2.symm
     | [a],e2=>simp at e2;omega
     | [a,b],e2=>simp at e2<;>omega
     | a::b::c::p,e2=>
      have:=congrArg List.length e2;simp at this<;>omega
    subst hq;have h7:FE (ap y l2) []:=by
     have a1:=((FE.re [y,-(y+1)]).app hB).app (FE.re [y+1,-y]);have a2:FE ([y,-(y+1)]++([y+1,-y]++ap y l2++[y,-(y+1)])++[y+1,-y]) (ap y l2):=by
      have b1:=jt (y+1) [y] (-y::(ap y l2++[y,-(y+1),y+1,-y]));have b2:=zDP y [] (ap y l2++[y,-(y+1),y+1,-y]);have b3:=jt (y+1) (ap y l2++[y]) [-y];have b4:=zDP y (ap y l2) [];simp only[List.append_assoc,List.cons_append,List.nil_append,List.append_nil] at b1 b2 b3 b4 ⊢;exact ((b1.tr b2).tr b3).tr b4
     have a3:FE ([y,-(y+1)]++[]++[y+1,-y]) []:=by
      have b1:=jt (y+1) [y] [-y];have b2:=zDP y [] [];simp only[List.append_assoc,List.cons_append,List.nil_append,List.append_nil] at b1 b2 ⊢;exact b1.tr b2
     exact (a2.sy.tr a1).tr a3
    have:=hR2.nil (zG3 hk0 (m:=[]) h7);subst this;exact h2.last e1
  · by_cases c2:y=-i
    · subst c2;rw[t_ni hi] at e2;have hq:q=[-(i+1),-i]:=by
       match p,e2 with
       | [],e2=>simpa using e2.symm
       | [a],e2=>simp at e2;omega
       | [a,b],e2=>simp at e2<;>omega
       | a::b::c::p,e2=>
        have:=congrArg List.length e2;simp at this<;>omega
      subst hq;have h7:FE (ap i l2) (ap i [i,i]):=by
       have a1:=((FE.re [i,i+1]).app hB).app (FE.re [i+1,-i]);have a2:FE ([i,i+1]++([-(i+1),-i]++ap i l2++[i,-(i+1)])++[i+1,-i]) (ap i l2):=by
        have b1:=zDP (i+1) [i] (-i::(ap i l2++[i,-(i+1),i+1,-i]));have b2:=zDP i [] (ap i l2++[i,-(i+1),i+1,-i]);have b3:=jt (i+1) (ap i l2++[i]) [-i];have b4:=zDP i (ap i l2) [];simp only[List.append_assoc,List.cons_append,List.nil_append,List.append_nil] at b1 b2 b3 b4 ⊢;exact ((b1.tr b2).tr b3).tr b4
       have a3:FE ([i,i+1]++[]++[i+1,-i]) (ap i [i,i]):=by
        rw[zP,zP,kK,t_i hi];have:=jt i [i,i+1] [i+1,-i];simp only[List.append_assoc,List.cons_append,List.nil_append,List.append_nil] at this ⊢;exact this.sy
       exact (a2.sy.tr a1).tr a3
      have h8:=zG3 hk0 h7;have hii:Re [i,i]:=by unfold Re rd;simp[psh];omega
      have:=hR2.eq hii h8;subst this;have:=zPq (-i) [] [i];rw[Int.neg_neg] at this;exact this hR
    · by_cases c3:y=i+1
      · subst c3;rw[t_s hi] at e2;have hq:q=[]:=by
         have:=congrArg List.length e2;simp at this;exact List.eq_nil_of_length_eq_zero (by omega)
        subst hq;have h7:FE (ap i l2) (ap i [-(i+1),i]):=by
         have a1:=hB.app (FE.re [i+1,-i]);have a2:FE (([]++ap i l2++[i,-(i+1)])++[i+1,-i]) (ap i l2):=by
          have b3:=jt (i+1) (ap i l2++[i]) [-i];have b4:=zDP i (ap i l2) [];simp only[List.append_assoc,List.cons_append,List.nil_append,List.append_nil] at b3 b4 ⊢;exact b3.tr b4
         have a3:FE ([]++[i+1,-i]) (ap i [-(i+1),i]):=by
          rw[zP,zP,kK,t_i hi,t_ns hi];have:=jt i [] [i+1,-i];simp only[List.append_assoc,List.cons_append,List.nil_append,List.append_nil] at this ⊢;exact this.sy
         exact (a2.sy.tr a1).tr a3
        have h8:=zG3 hk0 h7;have hii:Re [-(i+1),i]:=by
         unfold Re rd;have:¬ (-(i+1)=-i):=by omega
         simp[psh];omega
        have:=hR2.eq hii h8;subst this;exact zPq (i+1) [] [i] hR
      · by_cases c4:y=-(i+1)
        · subst c4;rw[t_ns hi] at e2;have hm:i∈[-i]:=by rw[e2];simp
          simp at hm;omega
        · rw[t_o hi c1 c2 c3 c4] at e2;have hm:i∈[y]:=by rw[e2];simp
          simp at hm;exact c1 hm.symm
 rcases h3 with ⟨a',h5,h6⟩ | ⟨c',h5,h6⟩
 · match a',h6 with
   | [],h6=>
    simp only[List.nil_append,List.cons.injEq] at h6;exact bad (h6.2 ▸ h4)
   | [a],h6=>simp at h6;omega
   | a::b::r,h6=>
    have:=congrArg List.length h6;simp at this
 · match c',h5,h6 with
   | [],h5,h6=>
    simp only[List.nil_append,List.cons.injEq] at h6;exact bad (h6.2 ▸ h4)
   | c::B',h5,h6=>
    simp only[List.cons_append,List.cons.injEq] at h6;obtain⟨rfl,h6⟩:=h6;exact fin B' h5 h6
theorem zNH {n:Nat}{i:Int}(hi:1≤i) {w:List Int}(h1:∀ x∈w,i≤x∨x < -i) (h2:i∈w):¬ BE n w []:=fun hb=>by
 have hz:∀ x∈w,x≠0:=fun x hx=>by have:=h1 x hx;omega
 have e:=congrFun (zVF hb) [i];rw[zNq w hz] at e;have e2:rd (w.foldr ap [i])=[i]:=e;have hone:∀ k:Int,(i<k∨k < -i)→ap k [i]=[i]:=fun k hk=>by
  rw[zP,kK,List.append_nil]
  rcases hk with hk | hk
  · exact t_o (by omega) (by omega) (by omega) (by omega) (by omega)
  · have:=n_o (i:=-k) (by omega) (x:=i) (by omega) (by omega) (by omega) (by omega);rwa [Int.neg_neg] at this
 have key:∀ w:List Int,(∀ x∈w,i≤x∨x < -i)→(i∈w→Ends i (w.foldr ap [i]))∧(i∉w→w.foldr ap [i]=[i]):=by
  intro w
  induction w with
  | nil=>intro _;exact⟨fun h=>by simp at h,fun _=>rfl⟩
  | cons x w ih=>
   intro h;obtain⟨a,b⟩:=ih (fun y hy=>h y (List.mem_cons_of_mem _ hy));have hx:=h x List.mem_cons_self;rw[List.foldr_cons]
   by_cases c:x=i
   · subst c;refine⟨fun _=>?_,fun hn=>absurd List.mem_cons_self hn⟩
     by_cases d:x∈w
     · exact zQM hi (a d)
     · rw[b d,zP,kK,t_i hi];have h0:¬ (x+1=-x):=by omega
       have h3:¬ (-(x+1)=x):=by omega
       refine zL9 (u:=[x,x+1]) fun s hs=>?_;have h4:rd [x,x+1]=[x+1,x]:=by
        show psh (psh [] x) (x+1)=_;simp only[psh];rw[if_neg (by omega)]
       rw[h4] at hs;simp only[List.cons.injEq] at hs;omega
   · have hx':i<x∨x < -i:=by omega
     constructor
     · intro hm
       rcases List.mem_cons.1 hm with e | e
       · exact absurd e.symm c
       · exact zOZ hi hx' (a e)
     · intro hn;rw[b (fun e=>hn (List.mem_cons_of_mem _ e)),hone x hx']
 obtain⟨t,ht⟩:=(key w h1).1 h2;rw[ht] at e2;simp only[List.cons.injEq] at e2;omega
theorem zRo {n:Nat}{i:Int}(hi:1≤i) {w:List Int}(hw:∀ x∈w,Lr n x) (h1:∀ x∈w,x≤-i∨i<x) (h2:-i∈w):¬ BE n w []:=fun hb=>by
 have:=hb.inv hw (fun x hx=>by simp at hx)
 refine zNH hi (w:=invL w) (fun x hx=>?_) ?_ this
 · simp only[invL,List.mem_map,List.mem_reverse] at hx;obtain⟨y,hy,rfl⟩:=hx;have:=h1 y hy;omega
 · simp only[invL,List.mem_map,List.mem_reverse];exact⟨-i,h2,by omega⟩
end Go.Ev.YtlkmkabnbegfdaaGreat
namespace Go.Ev.YtlkmkabnbegfdaaGreat
open Go.Ev Go.Gar
theorem zNK (v:List Int):∀ k,0<k→k≤v.length→∃ q,q<k∧∀ i,i<k→(List.getD v q 0).natAbs≤(List.getD v i 0).natAbs
 | 0,h,_=>absurd h (by omega)
 | 1,_,_=>⟨0,by omega,fun i hi=>by
  have e:i=0:=by omega
  rw[e];exact Nat.le_refl _⟩
 | k+2,_,hk=>by
  obtain⟨q,hq,h⟩:=zNK v (k+1) (by omega) (by omega)
  by_cases c:(List.getD v q 0).natAbs≤(List.getD v (k+1) 0).natAbs
  · refine⟨q,by omega,fun i hi=>?_⟩
    by_cases e:i=k+1
    · rw[e];exact c
    · exact h i (by omega)
  · refine⟨k+1,by omega,fun i hi=>?_⟩
    by_cases e:i=k+1
    · rw[e];exact Nat.le_refl _
    · have:=h i (by omega);omega
theorem zRw {n:Nat}{v:List Int}(hv:∀ x∈v,Lr n x) (hf:fh v=none) (hn:v≠[]):¬ BE n v []:=by
 obtain⟨q,hq,hmin⟩:=zNK v v.length (List.length_pos_iff.mpr hn) (Nat.le_refl _);have same:∀ i,i<v.length→(List.getD v i 0).natAbs=(List.getD v q 0).natAbs→List.getD v i 0=List.getD v q 0:=fun i hi e=>by
  rcases Nat.le_total i q with h | h
  · exact zGw hf hmin q hq rfl i h e
  · exact (zGw hf hmin i hi e q h rfl).symm
 have hzm:List.getD v q 0∈v:=by rw[zV hq];exact List.getElem_mem hq
 have all:∀ x∈v,x=List.getD v q 0∨(List.getD v q 0).natAbs<x.natAbs:=fun x hx=>by
  obtain⟨i,hi,rfl⟩:=List.mem_iff_getElem.mp hx;have h1:=hmin i hi;have h2:=same i hi;rw[zV hi] at h1 h2
  by_cases e:v[i].natAbs=(List.getD v q 0).natAbs
  · exact .inl (h2 e)
  · exact .inr (by omega)
 generalize List.getD v q 0=z at *;have hz:=(hv z hzm).1
 rcases Int.lt_or_lt_of_ne hz with h | h
 · exact zRo (i:=-z) (by omega) hv (fun x hx=>by rcases all x hx with e | e<;>omega) (by rw[Int.neg_neg];exact hzm)
 · exact zNH (i:=z) (by omega) (fun x hx=>by rcases all x hx with e | e<;>omega) hzm
theorem zTD {n:Nat}{u w:List Int}(hu:∀ x∈u,Lr n x):BE n (invL u++w) []↔BE n u w:=by
 constructor
 · intro h;have h1:=h.left u;rw[List.append_nil,← List.append_assoc] at h1;have h2:=(BE.inv_r u hu).right w;exact h1.sy.tr h2
 · intro h;exact (h.left (invL u)).sy.tr (BE.inv_l u hu)
theorem zKA {n:Nat}(h1:1≤n) (hn:n≤8) {u w:List Int}(hu:Lw n u) (hw:Lw n w) (hc:(letterOf (invL u++w)).2=0):
  ((letterOf (invL u++w)).1==0)=decide (nOf n u=nOf n w):=by
 have hX:∀ x∈invL u++w,Lr n x:=fun x hx=>(List.mem_append.1 hx).elim (zJZ (n:=n) (fun y hy=>hu y hy) x) (fun h=>hw x h);unfold letterOf at hc ⊢
 cases hr:rdc 3000 (invL u++w) with
 | none=>
  rw[hr] at hc;simp at hc
 | some v=>
  obtain⟨hb,hv,hf⟩:=BE.rdc hr hX;have hz:=zOP (w:=v) (fun x hx=>by have:=hv x hx;unfold Lr at this;omega) hf;simp only;rw[Bool.eq_iff_iff,beq_iff_eq,decide_eq_true_eq,hz]
  by_cases h2:2≤n
  · constructor
    · intro e;subst e;exact zUy h2 ((zTD (fun y hy=>hu y hy)).1 hb)
    · intro e;have h3:=zQ5 h2 (fun y hy=>hu y hy) (fun y hy=>hw y hy) e;have h4:=hb.sy.tr ((zTD (fun y hy=>hu y hy)).2 h3)
      by_cases c:v=[]
      · exact c
      · exact absurd h4 (zRw hv hf c)
  · obtain rfl:n=1:=by omega
    constructor
    · intro _;rw[zIB hu,zIB hw]
    · intro _
      cases v with
      | nil=>rfl
      | cons x t=>
       have:=hv x List.mem_cons_self;unfold Lr at this;omega
end Go.Ev.YtlkmkabnbegfdaaGreat
namespace Go.Ev.YtlkmkabnbegfdaaGreat
open Go.Ev
theorem zR7 (x:Int):∃ y,R zBB [tI x]=some [tAw4 y]:=by
 by_cases h:x<0
 · exact⟨_,zEo x (by simp only[zAJ,decide_eq_true h,cond_true];rfl)⟩
 · exact⟨_,zEo x (by simp only[zAJ,decide_eq_false h,cond_false];rfl)⟩
theorem zUB (x:List Int):∃ (n:Int) (b:Bool),R i_i_wide__small [tAw4 x]=some [tI n,tB b]:=by
 obtain⟨y,h⟩:=zR7 (wi64 (List.getD x 0 0));exact⟨_,_,zHG x (by simp only[b_i_wide__small,h,Option.bind_some];rfl)⟩
theorem zHx (x0 x2:Int) (x1:List Int) (l:List (List Int)) (hl:l.length<1000000000):∀ (d i:Nat) (x3:List Int),i+d=l.length→x3.length+d<10000000000 →
  (∃ out:List Int,R i_i_poly__laurent_3 [tI x0,tLI x1,tI x2,tLI x3,zJ l,tI ((l.length:Nat):Int),tI (i:Int)]=some [tI 0,tI x0,tLI x1,tI x2,tLI out]∧out.length=x3.length+d) ∨
  R i_i_poly__laurent_3 [tI x0,tLI x1,tI x2,tLI x3,zJ l,tI ((l.length:Nat):Int),tI (i:Int)]=some [tI 1,tI 0,tLI [],tI 3]
 | 0,i,x3,h,h3=>.inl ⟨x3,by
   apply kW;simp only[b_i_poly__laurent_3,decide_eq_false (show ¬ (i:Int)<(l.length:Int) by omega),cond_false],rfl⟩
 | d+1,i,x3,h,h3=>by
  obtain⟨n,b,e⟩:=zUB (List.getD l i (List.replicate 4 0));have p0:decide ((i:Int)<(l.length:Int))=true:=decide_eq_true (by omega);have p1:decide (0≤(i:Int))=true:=decide_eq_true (by omega);have c:=zFQ n (-1000000000000) 1000000000000;have w':wi64 ((i:Int)+1)=((i+1:Nat):Int):=by rw[zD]<;>omega
  have ap:apOk x3 [n]=true:=zDp (by omega)
  cases b with
  | false=>
   right;apply kW;simp only[b_i_poly__laurent_3,p0,p1,Bool.and_self,cond_true,Int.toNat_natCast,e,Option.bind_some,getTV_here,getTV_next,Bool.not_false]
  | true=>
   cases hw:(decide (-1000000000000≤n)&&decide (n≤1000000000000)) with
   | false=>
    rw[hw] at c;right;apply kW;simp only[b_i_poly__laurent_3,p0,p1,Bool.and_self,cond_true,Int.toNat_natCast,e,c,Option.bind_some,getTV_here,getTV_next,Bool.not_false,Bool.not_true,cond_false]
   | true=>
    rw[hw] at c;have ih:=zHx x0 x2 x1 l hl d (i+1) (x3++[n]) (by omega) (by simp;omega);have st:∀ o,R i_i_poly__laurent_3 [tI x0,tLI x1,tI x2,tLI (x3++[n]),zJ l,tI ((l.length:Nat):Int),tI ((i+1:Nat):Int)]=some o→R i_i_poly__laurent_3 [tI x0,tLI x1,tI x2,tLI x3,zJ l,tI ((l.length:Nat):Int),tI (i:Int)]=some o:=fun o ho=>by
     apply kW;simp only[b_i_poly__laurent_3,p0,p1,Bool.and_self,cond_true,Int.toNat_natCast,e,c,Option.bind_some,getTV_here,getTV_next,Bool.not_true,cond_false,ap,w',ho]
    rcases ih with ⟨out,h1,h2⟩ | h1
    · exact .inl ⟨out,st _ h1,by rw[h2];simp;omega⟩
    · exact .inr (st _ h1)
theorem zJk (x:Int):∃ b,R zB2 [tI x]=some [tB b]:=⟨_,zIE x (by
 simp only[zB6,zFQ,Option.bind_some,getTV_here];rfl)⟩
theorem zQl (l:List Int) (hl:l.length<1000000000):∀ (d i:Nat),i+d=l.length →
  (∃ k:Int,R zL [tLI l,tI ((l.length:Nat):Int),tI (i:Int)]=some [tI 1,tI k])∨R zL [tLI l,tI ((l.length:Nat):Int),tI (i:Int)]=some [tI 0]
 | 0,i,h=>.inr (by
   apply zx;simp only[zQ,decide_eq_false (show ¬ (i:Int)<(l.length:Int) by omega),cond_false])
 | d+1,i,h=>by
  obtain⟨b,e⟩:=zJk (List.getD l i 0);have p0:decide ((i:Int)<(l.length:Int))=true:=decide_eq_true (by omega);have p1:decide (0≤(i:Int))=true:=decide_eq_true (by omega);have w':wi64 ((i:Int)+1)=((i+1:Nat):Int):=by rw[zD]<;>omega
  cases b with
  | true=>
   refine .inl ⟨(i:Int),?_⟩;apply zx;simp only[zQ,p0,p1,Bool.and_self,cond_true,Int.toNat_natCast,e,Option.bind_some,getTV_here]
  | false=>
   have st:∀ o,R zL [tLI l,tI ((l.length:Nat):Int),tI ((i+1:Nat):Int)]=some o→R zL [tLI l,tI ((l.length:Nat):Int),tI (i:Int)]=some o:=fun o ho=>by
    apply zx;simp only[zQ,p0,p1,Bool.and_self,cond_true,cond_false,Int.toNat_natCast,e,Option.bind_some,getTV_here,w',ho]
   rcases zQl l hl d (i+1) (by omega) with ⟨k,h1⟩ | h1
   · exact .inl ⟨k,st _ h1⟩
   · exact .inr (st _ h1)
theorem zOl (l:List Int) (hl:l.length<1000000000):∃ b,R zv [tLI l]=some [tB b]:=by
 have h:∃ k:Int,R kD [tLI l]=some [tI k]:=by
  rcases zQl l hl l.length 0 (by omega) with ⟨k,h1⟩ | h1
  · refine⟨k,km l ?_⟩;simp only[Int.natCast_zero] at h1;simp only[zn,h1,Option.bind_some,getTV_here,getTV_next]
    rfl
  · refine⟨-1,km l ?_⟩;simp only[Int.natCast_zero] at h1;simp only[zn,h1,Option.bind_some,getTV_here,beq_self_eq_true,cond_true]
 obtain⟨k,h⟩:=h;exact⟨_,jx l (by simp only[zw,h,Option.bind_some];rfl)⟩
theorem zMb (a:Int×List Int) (hl:a.2.length<1000000000):∃ b,R zDM [zH a]=some [tB b]:=by
 suffices h:∃ b,zBu R a=some [tB b] by
  obtain⟨b,h⟩:=h;exact⟨b,zJ5 a h⟩
 obtain⟨c,hc⟩:=zOl a.2 hl;unfold zBu
 by_cases h0:((a.2.length:Nat):Int)=0
 · simp only[h0,beq_self_eq_true,cond_true];exact⟨_,rfl⟩
 · have q0:(((a.2.length:Nat):Int)==0)=false:=beq_eq_false_iff_ne.mpr h0;have q1:decide (0<((a.2.length:Nat):Int))=true:=decide_eq_true (by omega);have q2:wi64 (((a.2.length:Nat):Int)-1)=((a.2.length:Nat):Int)-1:=by rw[zD]<;>omega
   have q3:decide (0≤((a.2.length:Nat):Int)-1)=true:=decide_eq_true (by omega);have q4:decide (((a.2.length:Nat):Int)-1<((a.2.length:Nat):Int))=true:=decide_eq_true (by omega);simp only[q0,cond_false,zFQ,Option.bind_some,getTV_here,q1,q2,q3,q4,cond_true,Bool.and_self,hc]
   cases decide (2001<((a.2.length:Nat):Int)) with
   | true=>exact⟨_,rfl⟩
   | false=>
    simp only[cond_false]
    cases (!(decide (-1000≤a.1)&&decide (a.1≤1000))) with
    | true=>exact⟨_,rfl⟩
    | false=>
     simp only[cond_false]
     cases decide (1000<wi64 (wi64 (a.1+((a.2.length:Nat):Int))-1)) with
     | true=>exact⟨_,rfl⟩
     | false=>
      simp only[cond_false]
      cases (List.getD a.2 0 0==0) with
      | true=>exact⟨_,rfl⟩
      | false=>
       simp only[cond_false]
       cases (List.getD a.2 (((a.2.length:Nat):Int)-1).toNat 0==0) with
       | true=>exact⟨_,rfl⟩
       | false=>exact⟨_,rfl⟩
theorem zQb (p:Int×List (List Int)) (hl:p.2.length<1000000000):∃ (r:Int×List Int) (e:Int),R i_i_poly__laurent [zI p]=some [zH r,tI e]∧r.2.length<1000000000:=by
 suffices h:∃ (r:Int×List Int) (e:Int),b_i_poly__laurent R p=some [zH r,tI e]∧r.2.length<1000000000 by
  obtain⟨r,e,h,h2⟩:=h;exact⟨r,e,zFd p h,h2⟩
 have h:=zHx 0 p.1 [] p.2 hl p.2.length 0 [] (by omega) (by simp;omega);simp only[Int.natCast_zero,List.length_nil,Nat.zero_add] at h;unfold b_i_poly__laurent
 rcases h with ⟨out,h1,h2⟩ | h1
 · obtain⟨b,h3⟩:=zMb (p.1,out) (by simp only;omega);simp only[h1,Option.bind_some,getTV_here,getTV_next,beq_self_eq_true,cond_true,h3]
   cases b with
   | true=>exact⟨(p.1,out),0,rfl,by simp only;omega⟩
   | false=>exact⟨(0,[]),3,rfl,by simp⟩
 · simp only[h1,Option.bind_some,getTV_here,getTV_next];exact⟨(0,[]),3,rfl,by simp⟩
end Go.Ev.YtlkmkabnbegfdaaGreat
