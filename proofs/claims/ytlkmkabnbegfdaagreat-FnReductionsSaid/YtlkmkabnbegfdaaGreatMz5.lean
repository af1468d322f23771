/- Sameness, handle reduction and the polynomials of conjugate braids: the law. -/
import Derived.Test.YtlkmkabnbegfdaaGreatWb
import Derived.Test.YtlkmkabnbegfdaaGreatPXc
set_option linter.unusedVariables false
set_option linter.unusedSimpArgs false
namespace Go.Ev.YtlkmkabnbegfdaaGreat
open Go.Ev Go.Gar
def vProd (a b:Int×List Int):(Int×List Int)×Int:=if isBr a&&isBr b then (if a.1=b.1 then (if 200<a.2.length+b.2.length then ((0,[]),3) else ((a.1,a.2++b.2),0)) else ((0,[]),2)) else ((0,[]),1)
theorem zEX (a b:Int×List Int) (ha:a.2.length<1000000000) (hb:b.2.length<1000000000):R zAF [zH a,zH b]=some [zH (vProd a b).1,tI (vProd a b).2]:=by
 apply zJ3;have e1:=zBG a ha;have e2:=zBG b hb;have e3:=zSE a b ha hb;have w:wi64 (((a.2.length:Nat):Int)+((b.2.length:Nat):Int))=((a.2.length+b.2.length:Nat):Int):=by rw[zD]<;>omega
 unfold vProd
 cases h1:isBr a with
 | false=>
  rw[h1] at e1;simp[kr,e1]
 | true=>
  rw[h1] at e1
  cases h2:isBr b with
  | false=>
   rw[h2] at e2;simp[kr,e1,e2]
  | true=>
   rw[h2] at e2
   by_cases h3:a.1=b.1
   · have q:(a.1 != b.1)=false:=by simp[h3]
     by_cases h4:200<a.2.length+b.2.length
     · have p:decide ((200:Int)<((a.2.length+b.2.length:Nat):Int))=true:=decide_eq_true (by omega);simp only[kr,e1,e2,w,p,q,Option.bind_some,getTV_here,Bool.not_true,cond_false,cond_true,Bool.and_self,if_true,if_pos h3,if_pos h4]
     · have p:decide ((200:Int)<((a.2.length+b.2.length:Nat):Int))=false:=decide_eq_false (by omega);simp only[kr,e1,e2,e3,w,p,q,Option.bind_some,getTV_here,Bool.not_true,cond_false,cond_true,Bool.and_self,if_true,if_pos h3,if_neg h4]
   · have q:(a.1 != b.1)=true:=by simp[h3]
     simp only[kr,e1,e2,q,Option.bind_some,getTV_here,Bool.not_true,cond_false,cond_true,Bool.and_self,if_true,if_neg h3]
def vInv (a:Int×List Int):(Int×List Int)×Int:=if isBr a then ((a.1,invL a.2),0) else ((0,[]),1)
theorem zH2 (a:Int×List Int) (ha:a.2.length<1000000000):R zBf [zH a]=some [zH (vInv a).1,tI (vInv a).2]:=by
 apply zJ6;have e1:=zBG a ha;unfold vInv
 cases h1:isBr a with
 | false=>
  rw[h1] at e1;simp[zBw,e1]
 | true=>
  rw[h1] at e1;have e2:=zOe a ha;have e3:=zOj (a.1,a.2.reverse) (fun x hx=>zP9 h1 x (List.mem_reverse.1 hx)) (by simpa using ha);simp only[zBw,e1,e2,e3,Option.bind_some,getTV_here,Bool.not_true,cond_false,if_true]
  rfl
theorem zLD (a:Int×List Int) (ha:a.2.length<1000000000):R zCh [zH a]=some [tI (if isBr a then if 60<a.2.length then 3 else 0 else 1)]:=by
 apply zI9;have e1:=zBG a ha
 cases h1:isBr a with
 | false=>
  rw[h1] at e1;simp[jh,e1]
 | true=>
  rw[h1] at e1
  by_cases h4:60<a.2.length
  · have p:decide ((60:Int)<((a.2.length:Nat):Int))=true:=decide_eq_true (by omega);simp only[jh,e1,p,Option.bind_some,getTV_here,Bool.not_true,cond_false,cond_true,if_true,if_pos h4]
  · have p:decide ((60:Int)<((a.2.length:Nat):Int))=false:=decide_eq_false (by omega);simp only[jh,e1,p,Option.bind_some,getTV_here,Bool.not_true,cond_false,if_true,if_neg h4]
theorem zNp {a:Int×List Int}(h:isBr a=true):Go.Ev.YtlkmkabnbegfdaaGreatP.alexG a=true:=by
 obtain⟨h1,h2,h3,h4⟩:=zHi h;unfold Go.Ev.YtlkmkabnbegfdaaGreatP.alexG;simp only[Bool.and_eq_true,decide_eq_true_eq,List.all_eq_true]
 refine⟨⟨⟨h1,?_⟩,by omega⟩,fun x hx=>?_⟩
 · show a.1≤50;omega
 · have:=h4 x hx;exact⟨this.1,by omega⟩
theorem zMZ (a:Int×List Int) (h:isBr a=true):R zDJ [zH a]=some [zI (Go.Ev.YtlkmkabnbegfdaaGreatP.alexP a)]:=by
 apply zJ1;have h1:=zNp h;show Go.Ev.YtlkmkabnbegfdaaGreatP.alexF [zH a]=_;unfold Go.Ev.YtlkmkabnbegfdaaGreatP.alexF;rw[getTV_here,if_pos h1]
theorem zFT (a:Int×List Int) (ha:a.2.length<1000000000):∃ (r:Int×List Int) (e:Int),R js [zH a]=some [zH r,tI e]∧r.2.length<1000000000∧(e=0→R i_i_poly__laurent [zI (Go.Ev.YtlkmkabnbegfdaaGreatP.alexP a)]=some [zH r,tI e]):=by
 suffices h:∃ (r:Int×List Int) (e:Int),jv R a=some [zH r,tI e]∧r.2.length<1000000000∧(e=0→R i_i_poly__laurent [zI (Go.Ev.YtlkmkabnbegfdaaGreatP.alexP a)]=some [zH r,tI e]) by
  obtain⟨r,e,h,h2⟩:=h;exact⟨r,e,zIF a h,h2⟩
 have e1:=zLD a ha;unfold jv
 by_cases hc:(if isBr a then if 60<a.2.length then (3:Int) else 0 else 1)=0
 · have hB:isBr a=true:=by
    cases h:isBr a with
    | true=>rfl
    | false=>rw[h] at hc;simp at hc
   rw[hc] at e1;obtain⟨r,e,h1,h2⟩:=zQb (Go.Ev.YtlkmkabnbegfdaaGreatP.alexP a) (Go.Ev.YtlkmkabnbegfdaaGreatP.alexP_len (zNp hB));simp only[e1,zMZ a hB,Option.bind_some,getTV_here,bne_self_eq_false,cond_false,h1,getTV_next];exact⟨r,e,rfl,h2,fun _=>rfl⟩
 · have q:((if isBr a then if 60<a.2.length then (3:Int) else 0 else 1) != 0)=true:=by simp only[bne_iff_ne];exact hc
   simp only[e1,Option.bind_some,getTV_here,q,cond_true];exact⟨(0,[]),_,rfl,by simp,fun h=>absurd h hc⟩
theorem zPp {m:Nat}{u:List Int}:∀ {w:List Int},(∀ x∈w,x≠0∧x.natAbs-1<m)→Go.Lau.det m (Go.Lau.Nw m (w++u++invL w))=Go.Lau.det m (Go.Lau.Nw m u)
 | [],_=>by simp[invL]
 | x::w,h=>by
  obtain⟨h1,h2⟩:=h x List.mem_cons_self;have e:x::w++u++invL (x::w)=x::(w++u++invL w)++[-x]:=by rw[zFH];simp
  rw[e,Go.Lau.det_conj h1 h2];exact zPp fun y hy=>h y (List.mem_cons_of_mem _ hy)
theorem zOq {n:Nat}{u w:List Int}(hw:Lw n w):Go.Ev.YtlkmkabnbegfdaaGreatP.alexP ((n:Int),w++u++invL w)=Go.Ev.YtlkmkabnbegfdaaGreatP.alexP ((n:Int),u):=by
 unfold Go.Ev.YtlkmkabnbegfdaaGreatP.alexP;simp only[Int.toNat_natCast];rw[zPp fun x hx=>by have:=hw x hx;exact⟨this.1,by omega⟩]
theorem zVq (a:List Int) (ha:Bytes a) (n:Nat) (u:List Int) (hB:isBr ((n:Int),u)=true):R kC [tLU8 a,tI (n:Int),tLI u]=some [tI 0,tB true]:=by
 obtain⟨h1,h2,h3,h4⟩:=zHi hB;simp only at h1 h2 h3;obtain⟨s,d1,hs⟩:=zVA a ha.1 ha.2 9912;obtain⟨w,s2,d2,_,hw,hl⟩:=zOi s hs n (by omega) 3 (by omega);have hBw:=zT0 (n:=n) (by omega) (by omega) hw (by omega);have e18:=zEX ((n:Int),w) ((n:Int),u) (by simp only;omega) (by simp only;omega);have e19:=zH2 ((n:Int),w) (by simp only;omega);have v19:vInv ((n:Int),w)=(((n:Int),invL w),0):=by unfold vInv;rw[hBw];rfl
 have v18:vProd ((n:Int),w) ((n:Int),u)=if 200<w.length+u.length then ((0,[]),3) else (((n:Int),w++u),0):=by unfold vProd;rw[hBw,hB];simp only[Bool.and_self,if_true]
 rw[v19] at e19;rw[v18] at e18;have hil:(invL w).length=w.length:=zNN w;apply zD8;have d2':R zCa [zE s,tI (n:Int),tI 3]=some [tLI w,zE s2]:=d2
 by_cases hc:200<w.length+u.length
 · rw[if_pos hc] at e18;simp only[kE,d1,d2',e18,e19,Option.bind_some,getTV_here,getTV_next]
   rfl
 · rw[if_neg hc] at e18;have e20:=zEX ((n:Int),w++u) ((n:Int),invL w) (by simp only[List.length_append];omega) (by simp only;omega);have v20:(vProd ((n:Int),w++u) ((n:Int),invL w)).2≠0∨vProd ((n:Int),w++u) ((n:Int),invL w)=(((n:Int),w++u++invL w),0):=by
    unfold vProd
    split
    · rw[if_pos rfl]
      split
      · left;simp
      · right;rfl
    · left;simp
   rcases v20 with v20 | v20
   · have q:((vProd ((n:Int),w++u) ((n:Int),invL w)).2 != 0)=true:=by simp only[bne_iff_ne];exact v20
     simp only[kE,d1,d2',e18,e19,e20,Option.bind_some,getTV_here,getTV_next,bne_self_eq_false,cond_false,q,cond_true]
   · rw[v20] at e20;obtain⟨r1,c1,e21,l1,k1⟩:=zFT ((n:Int),u) (by simp only;omega);obtain⟨r2,c2,e22,l2,k2⟩:=zFT ((n:Int),w++u++invL w) (by simp only[List.length_append];omega);simp only[kE,d1,d2',e18,e19,e20,e21,e22,Option.bind_some,getTV_here,getTV_next,bne_self_eq_false,cond_false]
     by_cases z1:c1=0
     · by_cases z2:c2=0
       · have g1:=k1 z1;have g2:=k2 z2;rw[zOq hw,g1] at g2;simp only[Option.some.injEq,List.cons.injEq,TV.mk.injEq,heq_eq_eq,true_and,and_true] at g2;obtain⟨g3,g4⟩:=g2;subst g3;have e23:=zOh r1.2 r1.2 l1;simp only[z1,z2,bne_self_eq_false,cond_false,beq_self_eq_true,cond_true,e23,Option.bind_some,getTV_here,decide_true]
       · have q:(c2 != 0)=true:=by simp only[bne_iff_ne];exact z2
         simp only[z1,q,bne_self_eq_false,cond_false,cond_true]
     · have q:(c1 != 0)=true:=by simp only[bne_iff_ne];exact z1
       simp only[q,cond_true]
theorem law_FnReductions (a:List Int) (h:Fit (.slice (.int .u8)) a):R iw_FnReductions [tLU8 a]=some [tB true]:=by
 obtain⟨hl,hb⟩:=zQG h;apply zG8
 by_cases hB:4096<((a.length:Nat):Int)
 · simp[kF,zQn,hB]
 · have hy:Bytes a:=⟨hb,by omega⟩;obtain⟨b,c,d1,hbd,hcd⟩:=zH3 a hy;have s1:=zJh b c hbd.l hbd.i64 hcd.l hcd.i64;have s2:=zJi b c hbd.l hcd.l;have hbig:decide (4096<((a.length:Nat):Int))=false:=decide_eq_false hB
   by_cases hz:(vSame b c).2=0
   · have hv:isBr b=true∧isBr c=true∧b.1=c.1:=by
      unfold vSame at hz
      cases h1:isBr b<;>cases h2:isBr c<;>simp[h1,h2] at hz ⊢
      by_cases h3:b.1=c.1
      · exact h3
      · simp[h3] at hz
     obtain⟨hb1,hc1,hbc⟩:=hv;obtain⟨w1,w2,w3,w4,w5⟩:=zDG hb1;obtain⟨x1,x2,x3,x4,x5⟩:=zDG hc1;obtain⟨bn,bl⟩:=b;obtain⟨cn,cl⟩:=c;simp only at *;obtain⟨n,rfl⟩:∃ n:Nat,bn=n:=⟨bn.toNat,w2⟩;subst hbc;simp only[Int.toNat_natCast] at w1 w3 w4 x1 x3 x4;have hs:(vSame ((n:Int),bl) ((n:Int),cl))=(decide (nOf n bl=nOf n cl),0):=by
      unfold vSame;rw[hb1,hc1];simp only[Bool.and_self,if_true,Int.toNat_natCast,Prod.mk.injEq,and_true];rw[decide_eq_decide];refine⟨fun h=>?_,fun h=>by rw[h]⟩;simp only[enc,Prod.mk.injEq] at h;exact Prod.ext h.2.1 (zSa w4 h.2.2)
     have e5:=zH2 ((n:Int),bl) (by simp only;omega);have v5:vInv ((n:Int),bl)=(((n:Int),invL bl),0):=by unfold vInv;rw[hb1];rfl
     rw[v5] at e5;have hil:(invL bl).length=bl.length:=zNN bl;have e6:=zEX ((n:Int),invL bl) ((n:Int),cl) (by simp only;omega) (by simp only;omega);have J:=zVq a hy n bl hb1;rw[hs] at s1 s2;have v6:(vProd ((n:Int),invL bl) ((n:Int),cl)).2≠0∨vProd ((n:Int),invL bl) ((n:Int),cl)=(((n:Int),invL bl++cl),0):=by
      unfold vProd
      split
      · rw[if_pos rfl]
        split
        · left;simp
        · right;rfl
      · left;simp
     rcases v6 with v6 | v6
     · have q:((vProd ((n:Int),invL bl) ((n:Int),cl)).2==0)=false:=by simp only[beq_eq_false_iff_ne];exact v6
       simp only[kF,zQn,hbig,d1,s1,s2,e5,e6,J,q,Option.bind_some,getTV_here,getTV_next,bne_self_eq_false,cond_false]
     · rw[v6] at e6;have e7:=zJj ((n:Int),invL bl++cl) (by simp only[List.length_append];omega)
       by_cases ht:(vIsTrivial ((n:Int),invL bl++cl)).2=0
       · have hq:isBr ((n:Int),invL bl++cl)=true:=by
          cases hq:isBr ((n:Int),invL bl++cl) with
          | true=>rfl
          | false=>unfold vIsTrivial vMainLetter at ht;rw[hq] at ht;simp at ht
         have hlc:(letterOf (invL bl++cl)).2=0:=by
          unfold vIsTrivial vMainLetter at ht;rw[hq] at ht;exact ht
         have hv7:(vIsTrivial ((n:Int),invL bl++cl)).1=decide (nOf n bl=nOf n cl):=by
          rw[← zKA w3 w4 w1 x1 hlc];unfold vIsTrivial vMainLetter;rw[hq];simp[hlc]
         have q:((vIsTrivial ((n:Int),invL bl++cl)).2==0)=true:=by simp only[beq_iff_eq];exact ht
         simp only[kF,zQn,hbig,d1,s1,s2,e5,e6,e7,hv7,J,q,Option.bind_some,getTV_here,getTV_next,bne_self_eq_false,cond_false,beq_self_eq_true,cond_true]
       · have q:((vIsTrivial ((n:Int),invL bl++cl)).2==0)=false:=by simp only[beq_eq_false_iff_ne];exact ht
         simp only[kF,zQn,hbig,d1,s1,s2,e5,e6,e7,J,q,Option.bind_some,getTV_here,getTV_next,bne_self_eq_false,cond_false,beq_self_eq_true,cond_true]
   · have q:((vSame b c).2 != 0)=true:=by simp only[bne_iff_ne];exact hz
     simp only[kF,zQn,hbig,d1,s1,s2,q,Option.bind_some,getTV_here,getTV_next,bne_self_eq_false,cond_false,cond_true]
end Go.Ev.YtlkmkabnbegfdaaGreat
