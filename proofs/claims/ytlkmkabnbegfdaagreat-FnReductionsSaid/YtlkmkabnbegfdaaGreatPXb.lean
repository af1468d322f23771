/- Texts merged: PPc1 PPc2 PPc3 PPc4 PPc5 PPc6. -/
import Derived.KernelRfl
import Derived.Test.YtlkmkabnbegfdaaGreatPXa
import Derived.Test.YtlkmkabnbegfdaaGreatPFacts
import Derived.Test.YtlkmkabnbegfdaaGreatV5
import Derived.Test.YtlkmkabnbegfdaaGreatProg
import Derived.Maps.RangeRun
import Derived.OrdersHeld
set_option linter.unusedVariables false
set_option linter.unusedSimpArgs false
namespace Go.Ev.YtlkmkabnbegfdaaGreatP
open Go.Ev Go.Lau
abbrev PolT:Ty:=.pair (.int .i64) (.slice (.arr .u64 4))
abbrev LPT:Ty:=.slice PolT
abbrev W4T:Ty:=.arr .u64 4
section
variable {Pg:Program}{En:Env}{w:World}
theorem zRf {w0:World}{G:Nat→Prop}{fix:List (Nat×Value)}{s:St}{ρ:Locs}{col:Col}{a:Act}(hi:Inv w0 Non G fix s ρ col a w) {o:Nat}{m:Mode}{u:Ty}{xs:List u.den}(ho:s.ob o=some (.row m u xs)):
  RowR w (fun b=>G b∨w0.heap.size≤b) (ρ o) u xs:=by
 obtain⟨e1,e2,e3⟩:=hi.objs o _ ho;have hc:∀ b c,col b=some (o,c)→(G b∨w0.heap.size≤b):=fun b c hb=>(hi.cold b o c hb).1.elim .inr (fun h=>absurd h id);have hro:∀ b,RO col (fun b=>G b∨w0.heap.size≤b∨Non b) b→(G b∨w0.heap.size≤b):=fun b hb=>hb.2.elim .inl (fun h=>h.elim .inr (fun h=>absurd h id))
 refine⟨e1,e2.frame (by simp) (Nat.le_refl _) (fun b _ hb=>⟨?_,rfl⟩),e3.frame (by simp) (Nat.le_refl _) (fun i _ b _ hb=>⟨?_,rfl⟩) (fun _ _ _=>rfl)⟩
 · cases m with
   | ro=>exact hro b hb
   | own=>exact hc b 0 hb
   | sh=>exact hc b 0 hb
 · cases m with
   | own=>exact hc b _ hb
   | ro=>exact hro b hb
   | sh=>exact hro b hb
def ArgG (P:Program) (w:World) (G:Nat→Prop) (t:Ty) (T:TypeId) (x:t.den) (v:Value):Prop:=
 TyOK P t T∧∃ ys,TRep w false G t x ys∧(t.scalar=true→ys=[v])∧(t.scalar=false→v=.agg ys.toArray)
inductive ArgsG (P:Program) (w:World) (G:Nat→Prop):List PK→List TypeId→List TV→List Value→Prop where
 | nil:ArgsG P w G [] [] [] []
 | cons {t:Ty}{T:TypeId}{x:t.den}{v:Value}{ks:List PK}{Ts:List TypeId}{tvs:List TV}{vs:List Value}(h:ArgG P w G t T x v) (hs:ArgsG P w G ks Ts tvs vs):ArgsG P w G (.ro t::ks) (T::Ts) (⟨t,x⟩::tvs) (v::vs)
theorem ArgsG.len {G:Nat→Prop}{ks:List PK}{Ts:List TypeId}{tvs:List TV}{vs:List Value}(h:ArgsG Pg w G ks Ts tvs vs):ks.length=vs.length∧∀ i,fixedGo ks i=[]:=by
 induction h with
 | nil=>exact⟨rfl,fun _=>rfl⟩
 | cons _ _ ih=>exact⟨by simp[ih.1],fun i=>by simp[fixedGo,PK.isFixed,ih.2]⟩
variable {G:Nat→Prop}
theorem zOR {ks:List PK}{Ts:List TypeId}{tvs:List TV}{vs:List Value}(h:ArgsG Pg w G ks Ts tvs vs):∀ (l:List TV) (i:Nat),
  ∃ vs' objs,initPs (l++tvs) ks i l.length=(vs',objs)∧vs'.length=vs.length∧((objs.map (·.1)).Nodup→∃ L:Nat→Loc,(∀ q∈objs,RoRow w (RO noCol G) (L q.1) q.2) ∧
   ∀ (ob:Objs) (ρ:Locs),(∀ q∈objs,ρ q.1=L q.1∧ob q.1≠none)→∀ (j:Nat) (u:V) (v:Value),vs'[j]?=some u→vs[j]?=some v→VRel ob ρ u v):=by
 induction h with
 | nil=>exact fun l i=>⟨[],[],rfl,rfl,fun _=>⟨fun _=>⟨none,0,0⟩,fun q h=>by simp at h,fun ob ρ _ j u v h=>by simp at h⟩⟩
 | @cons t T x v ks Ts tvs vs h hs ih=>
  intro l i;obtain⟨vs',objs,e,hl,hr⟩:=ih (l++[⟨t,x⟩]) (i+1);have e1:l++(⟨t,x⟩::tvs)=l++[(⟨t,x⟩:TV)]++tvs:=by simp
  have e2:getTV t (l++(⟨t,x⟩::tvs)) l.length=x:=by rw[e1];exact zd
  have e3:l.length+1=(l++[(⟨t,x⟩:TV)]).length:=by simp
  refine⟨.w (unpackW .ro t x (idOf i)).1::vs',(unpackW .ro t x (idOf i)).2++objs,?_,by simp[hl],fun hn=>?_⟩
  · simp only[initPs,PK.init,e2];rw[e3,e1,e]
  · rw[List.map_append,List.nodup_append] at hn;obtain⟨hn1,hn2,hn3⟩:=hn;obtain⟨L2,g1,g2⟩:=hr hn2;obtain⟨hT,ys,hrep,hsc,hag⟩:=h;have hrep':TRep w false (RO noCol G) t x ys:=hrep.frame id (Nat.le_refl _) (fun b _ hb=>⟨⟨.inl rfl,hb⟩,rfl⟩);obtain⟨L1,f,k⟩:=zEB hT (idOf i) hrep';rw[← zt .ro t x (idOf i)] at f k
    refine⟨fun o=>if o∈(unpackW .ro t x (idOf i)).2.map (·.1) then L1 o else L2 o,fun q hq=>?_,fun ob ρ hρ j u v' hu hv=>?_⟩
    · rcases List.mem_append.1 hq with hq | hq
      · simp only[if_pos (List.mem_map_of_mem hq)];exact k q hq
      · have:q.1∉(unpackW .ro t x (idOf i)).2.map (·.1):=fun hm=>hn3 q.1 hm q.1 (List.mem_map_of_mem hq) rfl;simp only[if_neg this];exact g1 q hq
    · cases j with
      | zero=>
       simp only[List.getElem?_cons_zero,Option.some.injEq] at hu hv;subst hu;subst hv;obtain⟨f1,f2,f3,f4⟩:=f ob ρ (fun o h1 h2=>by
        have:o∈(unpackW .ro t x (idOf i)).2.map (·.1):=by
         rw[zt,kM,List.mem_range'_1];rw[zt] at h2;exact⟨h1,h2⟩
        obtain⟨q,hq,rfl⟩:=List.mem_map.1 this;have:=hρ q (List.mem_append.2 (.inl hq));have hm:q.1∈(unpackW .ro t x (idOf i)).2.map (·.1):=List.mem_map_of_mem hq;simp only[if_pos hm] at this;exact this)
       refine .inr ⟨f2,?_⟩
       cases hs':t.scalar with
       | true=>
        obtain⟨v1,h1,h2⟩:=f3 hs';have:=hsc hs';rw[h1] at this;simp only[List.cons.injEq,and_true] at this;rw[← this];exact h2.symm
       | false=>rw[hag hs'];exact (f4 hs').symm
      | succ j=>
       refine g2 ob ρ (fun q hq=>?_) j u v' (by simpa using hu) (by simpa using hv);have:=hρ q (List.mem_append.2 (.inr hq));have hne:q.1∉(unpackW .ro t x (idOf i)).2.map (·.1):=fun hm=>hn3 q.1 hm q.1 (List.mem_map_of_mem hq) rfl;simp only[if_neg hne] at this;exact this
theorem zOU {fd:FD}(q4:((initPs [] fd.sig.params 0 0).2.map (·.1)).Nodup) (q5:fd.sig.params.length≤fd.fn.ntmps) {Ts:List TypeId}{tvs:List TV}{vs:List Value}(h:ArgsG Pg w G fd.sig.params Ts tvs vs):
  ∃ ρ,Inv w Non G (fixOf fd vs) (fd.init tvs) ρ noCol ⟨vs.toArray++Array.replicate (fd.fn.ntmps-vs.length) undef,[]⟩ w:=by
 obtain⟨vs',objs,e,hl,hr⟩:=zOR h [] 0;simp only[List.nil_append,List.length_nil] at e;have hnd:(objs.map (·.1)).Nodup:=by
  have:=zCE fd.sig.params tvs [] 0 0 0;rw[e] at this;simp only at this;rw[this];exact q4
 obtain⟨L,g1,g2⟩:=hr hnd;obtain⟨hlen,hfix⟩:=h.len;have hinit:fd.init tvs=⟨vs'++List.replicate (fd.fn.ntmps-vs'.length) .undef,Objs.none.upds objs⟩:=by simp only[FD.init,e]
 rw[hinit]
 refine⟨L,rfl,by simp;omega,fun i u hi=>?_,fun o y hy=>?_,fun b o c hb=>by simp at hb,fun b _ _=>rfl,Nat.le_refl _,fun q hq=>?_,Like.refl w⟩
 · rw[List.getElem?_append] at hi
   split at hi
   · rename_i hil;have hiv:i<vs.length:=by omega
     have:=g2 (Objs.none.upds objs) L (fun q hq=>⟨rfl,zEA (List.mem_map_of_mem hq)⟩) i u _ hi (List.getElem?_eq_getElem hiv);have e2:(vs.toArray++Array.replicate (fd.fn.ntmps-vs.length) undef).getD i Go.undef=vs[i]:=by
      simp[Array.getD_eq_getD_getElem?,Array.getElem?_append,hiv]
     simp only[e2];exact this
   · rw[List.getElem?_replicate] at hi
     split at hi
     · simp only[Option.some.injEq] at hi;exact .inl hi.symm
     · simp at hi
 · rcases jj hy with hm | ⟨hm,_⟩
   · refine RoRow.rel ?_ rfl;have:=g1 _ hm;simp only at this
     cases y with
     | row m u xs=>
      cases m with
      | ro=>
       obtain⟨k1,k2,k3⟩:=this;exact⟨k1,k2.frame id (Nat.le_refl _) (fun b _ hb=>⟨⟨hb.1,.inl hb.2⟩,rfl⟩),k3.frame id (Nat.le_refl _) (fun _ _ b _ hb=>⟨⟨hb.1,.inl hb.2⟩,rfl⟩) (fun _ _ _=>rfl)⟩
      | own=>exact this.elim
      | sh=>exact this.elim
     | box _ _=>exact this.elim
     | dead=>exact this.elim
   · simp[Objs.none] at hm
 · simp[fixOf,hfix 0] at hq
theorem zRd {ob:Objs}{ρ:Locs}{T:Ty}(hT:T.scalar=false) {v:W}{x:T.den}{us:List (Nat×Mode)}(h:packW ob T v=some (x,us)):wval ρ v=.agg (wcells ρ v).toArray:=by
 cases v with
 | c c=>cases T<;>cases c<;>simp_all [packW,Ty.scalar]
 | _=>rfl
theorem zGr {fd:FD}{G:Nat→Prop}(hok:FdOk Pg fd) {T:Ty}{m:Mode}(hns:T.scalar=false) (hres:fd.sig.res=[(m,false,T)]) {Ts:List TypeId}{tvs:List TV}{vs:List Value}
  (h:ArgsG Pg w G fd.sig.params Ts tvs vs) {x:T.den}(hspec:FnSpec Pg En fd tvs [⟨T,x⟩]):Calls Pg fd.id vs.toArray w fun e w'=>∃ ys,e=.returned (.agg ys.toArray)∧KeepA w w'∧TRep w' false (fun b=>G b∨w.heap.size≤b) T x ys:=by
 obtain⟨_,_,_,q4,q5⟩:=hok;obtain⟨ρ,hi⟩:=zOU q4 q5 h;obtain⟨hlen,hfix⟩:=h.len;refine Calls.mono (hspec w Non G ρ noCol vs hlen.symm hi) ?_;rintro e w' ⟨s',ρ',col',a',ws,rfl,hi',hfin,hws,hwf⟩;obtain⟨ws2,xs,us,ro,ys,vs2,_,r1,r2,r3,r4,r5,r6⟩:=zCH hfin;rw[hws] at r1;simp only[Option.some.injEq] at r1;subst r1;rw[hres] at r2;obtain⟨z,v,us0,rfl,rfl,hpk⟩:∃ (z:T.den) (v:W) (us:List (Nat×Mode)),ws=[v]∧xs=[⟨T,z⟩]∧packW s'.ob T v=some (z,us):=by
  match ws,r2 with
  | [v],r2=>
   simp only[packRes] at r2
   split at r2
   · rename_i x1 u1 v1 x2 u2 v2 k1 k2;simp only[Option.some.injEq,Prod.mk.injEq] at k2 r2;obtain⟨rfl,rfl,rfl⟩:=k2;obtain⟨rfl,_,_⟩:=r2;simp only[packRes1] at k1
     split at k1
     · rename_i xx us' hpk
       split at k1
       · simp only[Option.some.injEq,Prod.mk.injEq] at k1;obtain⟨rfl,_,_⟩:=k1;exact⟨xx,v,us',rfl,by simp,hpk⟩
       · simp at k1
     · simp at k1
   · simp at r2
  | [],r2=>simp[packRes] at r2
  | _::_::_,r2=>
   simp only[packRes] at r2
   split at r2
   · rename_i k2;simp at k2
   · simp at r2
 simp only[List.cons_append,List.nil_append,List.cons.injEq,TV.mk.injEq,heq_eq_eq,true_and] at r6;rw[r6.1];refine⟨wcells ρ' v,?_,⟨hi'.mono,hi'.same,fun k hk=>hi'.low k hk (fun h=>h)⟩,zNA (hwf v (by simp)) hpk fun o m u xs _ ho=>zRf hi' ho⟩;show Ending.returned (wval ρ' v)=_;rw[zRd hns hpk]
end
def PolAt (w:World) (G:Nat→Prop) (p:Pol) (ys:List Value):Prop:=TRep w false G PolT p ys
structure RowAt (w:World) (G:Nat→Prop) (rb:Nat) (l:List Pol):Prop where
 blk:∃ m,2*l.length≤m∧Row w rb m
 els:∀ i p,l[i]?=some p→∃ ys,PolAt w G p ys∧At w rb 0 2 i ys
theorem PolAt.split {w:World}{G:Nat→Prop}{p:Pol}{ys:List Value}(h:PolAt w G p ys):∃ ad cp,ys=[.int .i64 p.1,.slice ad p.2.length cp]∧RowW w false G 4 p.2.length ad cp∧Elems w false (fun _=>G) W4T p.2 ad:=by
 unfold PolAt at h;simp only[TRep] at h;obtain⟨c1,c2,rfl,rfl,ad,cp,rfl,h1,h2⟩:=h;exact⟨ad,cp,rfl,h1,h2⟩
theorem PolAt.len {w:World}{G:Nat→Prop}{p:Pol}{ys:List Value}(h:PolAt w G p ys):ys.length=2:=by
 obtain⟨ad,cp,rfl,_⟩:=h.split
 rfl
theorem PolAt.zero (w:World) (G:Nat→Prop):PolAt w G (0,[]) [.int .i64 0,.slice none 0 0]:=by
 unfold PolAt;simp only[TRep];exact⟨[.int .i64 0],[.slice none 0 0],rfl,rfl,none,0,rfl,⟨Nat.le_refl _,fun _=>⟨rfl,fun _=>rfl⟩,fun a ha=>by simp at ha⟩,fun i x hx=>by simp at hx⟩
def Gn (G:Nat→Prop) (w w':World) (b:Nat):Prop:=G b∨(w.heap.size≤b∧b<w'.heap.size)
theorem PolAt.up {w:World}{G G':Nat→Prop}{p:Pol}{ys:List Value}(h:PolAt w G p ys) (hg:∀ b,b<w.heap.size→G b→G' b):PolAt w G' p ys:=TRep.frame id (Nat.le_refl _) (fun b hb hG=>⟨hg b hb hG,rfl⟩) h
theorem PolAt.keepA {w w':World}{G:Nat→Prop}{p:Pol}{ys:List Value}(h:PolAt w G p ys) (k:KeepA w w'):PolAt w' G p ys:=TRep.frame id k.1 (fun b hb hg=>⟨hg,k.2.2 b hb⟩) h
theorem PolAt.keepB {w w':World}{G:Nat→Prop}{p:Pol}{ys:List Value}(h:PolAt w G p ys) {rb:Nat}(hr:¬ G rb) (k:KeepB rb w w'):PolAt w' G p ys:=TRep.frame id k.1 (fun b hb hg=>⟨hg,k.2.2 b hb fun e=>hr (e ▸ hg)⟩) h
theorem PolAt.gn {w w':World}{G:Nat→Prop}{q:Pol}{ys:List Value}(h:TRep w' false (fun b=>G b∨w.heap.size≤b) PolT q ys):PolAt w' (Gn G w w') q ys:=PolAt.up h fun b hb hg=>hg.imp id fun e=>⟨e,hb⟩
theorem RowAt.lt {w:World}{G:Nat→Prop}{rb:Nat}{l:List Pol}(h:RowAt w G rb l):rb<w.heap.size:=by
 obtain⟨m,_,cs,T,h1,_⟩:=h.blk;exact (Array.getElem?_eq_some_iff.1 h1).1
theorem RowAt.up {w:World}{G G':Nat→Prop}{rb:Nat}{l:List Pol}(h:RowAt w G rb l) (hg:∀ b,b<w.heap.size→G b→G' b):RowAt w G' rb l:=⟨h.blk,fun i p hp=>by
 obtain⟨ys,g1,g2⟩:=h.els i p hp;exact⟨ys,g1.up hg,g2⟩⟩
theorem RowAt.keepA {w w':World}{G:Nat→Prop}{rb:Nat}{l:List Pol}(h:RowAt w G rb l) (k:KeepA w w'):RowAt w' G rb l:=by
 obtain⟨m,h1,h2⟩:=h.blk;refine⟨⟨m,h1,h2.keep (k.2.2 _ h.lt)⟩,fun i p hp=>?_⟩;obtain⟨ys,g1,g2⟩:=h.els i p hp;exact⟨ys,g1.keepA k,g2.keep (k.2.2 _ h.lt)⟩
theorem RowAt.keepB {w w':World}{G:Nat→Prop}{rb ro:Nat}{l:List Pol}(h:RowAt w G rb l) (hr:¬ G ro) (hne:rb≠ro) (k:KeepB ro w w'):RowAt w' G rb l:=by
 obtain⟨m,h1,h2⟩:=h.blk;refine⟨⟨m,h1,h2.keep (k.2.2 _ h.lt hne)⟩,fun i p hp=>?_⟩;obtain⟨ys,g1,g2⟩:=h.els i p hp;exact⟨ys,g1.keepB hr k,g2.keep (k.2.2 _ h.lt hne)⟩
theorem RowAt.stored {w w':World}{G:Nat→Prop}{rb:Nat}{l:List Pol}(h:RowAt w G rb l) (hn:¬ G rb) {i:Nat}(hi:i<l.length) {p:Pol}{ys:List Value}(hp:PolAt w G p ys) (k:KeepB rb w w') {m:Nat}(hm:2*l.length≤m) (hb:Row w' rb m)
  (h1:∀ j v,ys[j]?=some v→w'.cell? ⟨rb,2*i+j,none⟩=some v) (h2:∀ q,q<2*i∨2*i+2≤q→w'.cell? ⟨rb,q,none⟩=w.cell? ⟨rb,q,none⟩):RowAt w' G rb (l.set i p):=by
 refine⟨⟨m,by rw[List.length_set];exact hm,hb⟩,fun j q hq=>?_⟩
 by_cases hji:j=i
 · subst hji;rw[List.getElem?_set_self hi,Option.some.injEq] at hq;subst hq;exact⟨ys,hp.keepB hn k,fun t v hv=>by rw[show 0+(j*2+t)=2*j+t by omega];exact h1 t v hv⟩
 · rw[List.getElem?_set_ne (fun e=>hji e.symm)] at hq;obtain⟨zs,g1,g2⟩:=h.els j q hq;refine⟨zs,g1.keepB hn k,fun t v hv=>?_⟩;have ht:t<2:=by
    have:=(List.getElem?_eq_some_iff.1 hv).1;rw[g1.len] at this;exact this
   rw[h2 _ (by omega)];exact g2 t v hv
structure Mat (w:World) (G:Nat→Prop) (rs:List Nat) (M:List (List Pol)):Prop where
 len:rs.length=M.length
 nd:rs.Nodup
 ng:∀ r∈rs,¬ G r
 lt:∀ b,G b→b<w.heap.size
 row:∀ (i r:Nat) (l:List Pol),rs[i]?=some r→M[i]?=some l→RowAt w G r l
theorem Mat.keepA {w w':World}{G:Nat→Prop}{rs:List Nat}{M:List (List Pol)}(h:Mat w G rs M) (k:KeepA w w'):Mat w' G rs M:=
 ⟨h.len,h.nd,h.ng,fun b hb=>Nat.lt_of_lt_of_le (h.lt b hb) k.1,fun i r l h1 h2=>(h.row i r l h1 h2).keepA k⟩
theorem Mat.rlt {w:World}{G:Nat→Prop}{rs:List Nat}{M:List (List Pol)}(h:Mat w G rs M) {r:Nat}(hr:r∈rs):r<w.heap.size:=by
 obtain⟨i,hi,rfl⟩:=List.mem_iff_getElem.mp hr;exact (h.row i _ _ (List.getElem?_eq_getElem hi) (List.getElem?_eq_getElem (by rw[← h.len];exact hi))).lt
theorem Mat.setGn {w w':World}{G:Nat→Prop}{rs:List Nat}{M:List (List Pol)}(h:Mat w G rs M) {i r:Nat}(hi:rs[i]?=some r) (k:KeepB r w w') {l:List Pol}(hl:RowAt w' (Gn G w w') r l):Mat w' (Gn G w w') rs (M.set i l):=by
 refine⟨by rw[List.length_set];exact h.len,h.nd,fun q hq hg=>hg.elim (h.ng q hq) (fun e=>by have:=h.rlt hq;omega),fun b hb=>hb.elim (fun e=>Nat.lt_of_lt_of_le (h.lt b e) k.1) (·.2),fun j r' l' h1 h2=>?_⟩
 by_cases hji:j=i
 · subst hji;rw[hi,Option.some.injEq] at h1;subst h1;have hj:j<M.length:=by rw[← h.len];exact (List.getElem?_eq_some_iff.1 hi).1
   rw[List.getElem?_set_self hj,Option.some.injEq] at h2;subst h2;exact hl
 · rw[List.getElem?_set_ne (fun e=>hji e.symm)] at h2;refine ((h.row j r' l' h1 h2).keepB (h.ng r (List.mem_of_getElem? hi)) (fun e=>hji ?_) k).up fun b _ hb=>.inl hb;subst e;exact (zSy h.nd h1).symm.trans (zSy h.nd hi)
theorem Mat.add {w:World}{G:Nat→Prop}{rs:List Nat}{M:List (List Pol)}(h:Mat w G rs M) {r:Nat}(hn:r∉rs) (hg:¬ G r) {l:List Pol}(hl:RowAt w G r l):Mat w G (rs++[r]) (M++[l]):=by
 refine⟨by simp[h.len],?_,fun q hq=>?_,h.lt,fun j r' l' h1 h2=>?_⟩
 · rw[List.nodup_append];exact⟨h.nd,by simp,fun a ha b hb e=>by rw[List.mem_singleton.mp hb] at e;exact hn (e ▸ ha)⟩
 · rcases List.mem_append.mp hq with hq | hq
   · exact h.ng q hq
   · rw[List.mem_singleton.mp hq];exact hg
 · by_cases hj:j<rs.length
   · rw[List.getElem?_append_left hj] at h1;rw[List.getElem?_append_left (by rw[← h.len];exact hj)] at h2;exact h.row j r' l' h1 h2
   · rw[List.getElem?_append_right (by omega)] at h1;rw[List.getElem?_append_right (by rw[← h.len];omega),← h.len] at h2
     match hk:j-rs.length with
     | 0=>
      rw[hk] at h1 h2;simp only[List.getElem?_cons_zero,Option.some.injEq] at h1 h2;subst h1 h2;exact hl
     | k+1=>
      rw[hk] at h1;simp at h1
end Go.Ev.YtlkmkabnbegfdaaGreatP
namespace Go.Ev.YtlkmkabnbegfdaaGreatP
open Go.Ev Go.Lau
noncomputable abbrev Pg:Program:=Go.Proofs.Tryz.prog
theorem zFf {f:Nat}{fd:FD}(hfd:E.fd f=some fd) {tvs outs:List TV}(h:R f tvs=some outs):FnSpec Pg E fd tvs outs:=by
 obtain⟨N,hN⟩:=zJd h;exact (zPU envOk N).1 _ _ _ _ hfd (hN N (Nat.le_refl _))
theorem ty69:TyOK Pg PolT 69:=envOk.ty 69 PolT (by kernel_rfl)
theorem ty98:TyOK Pg W4T 98:=envOk.ty 98 W4T (by kernel_rfl)
theorem argP {w:World}{p:Pol}{ys:List Value}{G:Nat→Prop}(h:PolAt w G p ys):ArgG Pg w G PolT 69 p (.agg ys.toArray):=⟨ty69,ys,h,fun e=>absurd e (by simp[Ty.scalar]),fun _=>rfl⟩
theorem argW {w:World}{x:List Int}{G:Nat→Prop}(h:W4 x):ArgG Pg w G W4T 98 x (.agg (x.map (Value.int .u64)).toArray):=⟨ty98,x.map (Value.int .u64),(show x.length=4∧x.map (Value.int .u64)=x.map (Value.int .u64) from ⟨h.len,rfl⟩),fun e=>absurd e (by simp[Ty.scalar]),fun _=>rfl⟩
theorem fdo {f:Nat}{fd:FD}(h:E.fd f=some fd):FdOk Pg fd:=envOk.fn _ _ h
theorem zId {f:Nat}{fd:FD}(hfd:E.fd f=some fd) (hid:fd.id=f) (hp:fd.sig.params=[.ro PolT,.ro PolT]) {m:Mode}(hr:fd.sig.res=[(m,false,PolT)]) {w:World}{G:Nat→Prop}{a b q:Pol}{ya yb:List Value}(ha:PolAt w G a ya) (hb:PolAt w G b yb)
  (h:R f [zI a,zI b]=some [zI q]):Calls Pg f #[.agg ya.toArray,.agg yb.toArray] w fun e w'=>∃ ys,e=.returned (.agg ys.toArray)∧KeepA w w'∧PolAt w' (Gn G w w') q ys:=by
 have:=zGr (w:=w) (G:=G) (En:=E) (fdo hfd) (T:=PolT) (by simp[Ty.scalar]) hr (Ts:=[69,69]) (tvs:=[zI a,zI b]) (vs:=[.agg ya.toArray,.agg yb.toArray]) (by rw[hp];exact .cons (argP ha) (.cons (argP hb) .nil)) (x:=q) (zFf hfd h);rw[hid] at this;refine this.mono ?_;rintro e w' ⟨ys,rfl,k1,k2⟩;exact⟨ys,rfl,k1,PolAt.gn k2⟩
theorem zFk {f:Nat}{fd:FD}(hfd:E.fd f=some fd) (hid:fd.id=f) (hp:fd.sig.params=[.ro PolT]) {m:Mode}(hr:fd.sig.res=[(m,false,PolT)]) {w:World}{G:Nat→Prop}{a q:Pol}{ya:List Value}(ha:PolAt w G a ya)
  (h:R f [zI a]=some [zI q]):Calls Pg f #[.agg ya.toArray] w fun e w'=>∃ ys,e=.returned (.agg ys.toArray)∧KeepA w w'∧PolAt w' (Gn G w w') q ys:=by
 have:=zGr (w:=w) (G:=G) (En:=E) (fdo hfd) (T:=PolT) (by simp[Ty.scalar]) hr (Ts:=[69]) (tvs:=[zI a]) (vs:=[.agg ya.toArray]) (by rw[hp];exact .cons (argP ha) .nil) (x:=q) (zFf hfd h);rw[hid] at this;refine this.mono ?_;rintro e w' ⟨ys,rfl,k1,k2⟩;exact⟨ys,rfl,k1,PolAt.gn k2⟩
theorem zLH {w:World}{G:Nat→Prop}{a b:Pol}{ya yb:List Value}{K:Int}(ha:PolAt w G a ya) (hb:PolAt w G b yb) (pa:Pk K a) (pb:Pk K b) (hK:K<100000000):
  Calls Pg 53 #[.agg ya.toArray,.agg yb.toArray] w fun e w'=>∃ q ys,e=.returned (.agg ys.toArray)∧KeepA w w'∧PolAt w' (Gn G w w') q ys∧Pk K q∧pv q=pv a+pv b:=by
 obtain⟨q,h1,h2,h3⟩:=zMa pa pb hK;refine (zId (f:=53) (fd:=fd53) (by kernel_rfl) rfl rfl rfl ha hb h1).mono ?_;rintro e w' ⟨ys,rfl,k1,k2⟩;exact⟨q,ys,rfl,k1,k2,h2,h3⟩
theorem zPs {w:World}{G:Nat→Prop}{a b:Pol}{ya yb:List Value}{K M:Int}(ha:PolAt w G a ya) (hb:PolAt w G b yb) (pa:Pk K a) (pb:Pk M b) (hK:K+M<100000000):
  Calls Pg 85 #[.agg ya.toArray,.agg yb.toArray] w fun e w'=>∃ q ys,e=.returned (.agg ys.toArray)∧KeepA w w'∧PolAt w' (Gn G w w') q ys∧Pk (K+M) q∧pv q=pv a*pv b:=by
 obtain⟨q,h1,h2,h3⟩:=zVp pa pb hK;refine (zId (f:=85) (fd:=fd85) (by kernel_rfl) rfl rfl rfl ha hb h1).mono ?_;rintro e w' ⟨ys,rfl,k1,k2⟩;exact⟨q,ys,rfl,k1,k2,h2,h3⟩
theorem zKW {w:World}{G:Nat→Prop}{a:Pol}{ya:List Value}{K:Int}(ha:PolAt w G a ya) (pa:Pk K a) (hK:K<100000000):
  Calls Pg 54 #[.agg ya.toArray] w fun e w'=>∃ q ys,e=.returned (.agg ys.toArray)∧KeepA w w'∧PolAt w' (Gn G w w') q ys∧Pk K q∧pv q=-pv a:=by
 obtain⟨q,h1,h2,h3⟩:=zQZ pa hK;refine (zFk (f:=54) (fd:=fd54) (by kernel_rfl) rfl rfl rfl ha h1).mono ?_;rintro e w' ⟨ys,rfl,k1,k2⟩;exact⟨q,ys,rfl,k1,k2,h2,h3⟩
theorem zKV {w:World}{G:Nat→Prop}{nb:Nat}(hn:nb<w.heap.size) (hG:G nb) (hc:w.cell? ⟨nb,0,none⟩=some (.int .i64 1)):Calls Pg 80 #[.agg #[.int .i64 0,.slice (some ⟨nb,0,none⟩) 1 1]] w fun e w'=>∃ q ys,e=.returned (.agg ys.toArray)∧KeepA w w'∧PolAt w' (Gn G w w') q ys∧Pk 1 q∧pv q=1:=by
 obtain⟨q,h1,h2,h3⟩:=zVo;have hfd:E.fd 80=some fd80:=by kernel_rfl
 have ha:ArgG Pg w G (.pair (.int .i64) (.slice (.int .i64))) 40 ((0,[1]):Int×List Int) (.agg #[.int .i64 0,.slice (some ⟨nb,0,none⟩) 1 1]):=by
  refine⟨envOk.ty 40 _ (by kernel_rfl),[.int .i64 0,.slice (some ⟨nb,0,none⟩) 1 1],?_,fun e=>absurd e (by simp[Ty.scalar]),fun _=>rfl⟩;simp only[TRep]
  refine⟨[.int .i64 0],[.slice (some ⟨nb,0,none⟩) 1 1],rfl,rfl,some ⟨nb,0,none⟩,1,rfl,⟨Nat.le_refl _,fun e=>by simp at e,fun a ha _=>?_⟩,fun i x hx=>?_⟩
  · simp only[Option.some.injEq] at ha;subst ha;exact⟨rfl,hn,hG,fun e=>by simp at e⟩
  · match i,hx with
    | 0,hx=>
     simp only[List.getElem?_cons_zero,Option.some.injEq] at hx;subst hx;refine⟨[.int .i64 1],rfl,fun j v hv=>?_⟩
     match j,hv with
     | 0,hv=>
      simp only[List.getElem?_cons_zero,Option.some.injEq] at hv;subst hv;simpa[cellAt,Ty.cells] using hc
 have:=zGr (w:=w) (G:=G) (En:=E) (fdo hfd) (T:=PolT) (m:=.own) (by simp[Ty.scalar]) rfl (Ts:=[40]) (tvs:=[zH (0,[1])]) (vs:=[.agg #[.int .i64 0,.slice (some ⟨nb,0,none⟩) 1 1]]) (.cons ha .nil) (x:=q) (zFf hfd h1);refine Calls.mono (show Calls Pg 80 _ w _ from this) ?_;rintro e w' ⟨ys,rfl,k1,k2⟩;exact⟨q,ys,rfl,k1,PolAt.gn k2,h2,h3⟩
theorem zLy {w:World}{x y:List Int}(hx:W4 x) (hy:W4 y):∃ z,R i_i_wide__minus [tAw4 x,tAw4 y]=some [tAw4 z]∧W4 z ∧
  Calls Pg 57 #[.agg (x.map (Value.int .u64)).toArray,.agg (y.map (Value.int .u64)).toArray] w fun e w'=>e=.returned (.agg (z.map (Value.int .u64)).toArray)∧KeepA w w':=by
 obtain⟨z,h1,h2,_⟩:=zQa hx hy;have hfd:E.fd 57=some fd57:=by kernel_rfl
 have:=zGr (w:=w) (G:=fun _=>True) (En:=E) (fdo hfd) (T:=W4T) (m:=.own) (by simp[Ty.scalar]) rfl (Ts:=[98,98]) (tvs:=[tAw4 x,tAw4 y]) (vs:=[.agg (x.map (Value.int .u64)).toArray,.agg (y.map (Value.int .u64)).toArray]) (.cons (argW hx) (.cons (argW hy) .nil)) (x:=z) (zFf hfd h1);refine⟨z,h1,h2,Calls.mono (show Calls Pg 57 _ w _ from this) ?_⟩;rintro e w' ⟨ys,rfl,k1,k2⟩;simp only[TRep] at k2;exact⟨by rw[k2.2],k1⟩
theorem zL1 {w:World}{x:List Int}(hx:W4 x):∃ b,R i_i_wide__isNegative [tAw4 x]=some [⟨.bool,b⟩]∧Calls Pg 59 #[.agg (x.map (Value.int .u64)).toArray] w fun e w'=>e=.returned (.bool b)∧KeepA w w':=by
 have h1:R i_i_wide__isNegative [tAw4 x]=some [tB ((shr .u64 (List.getD x 3 0) 63)==1)]:=by
  apply zDn
  rfl
 have hfd:E.fd 59=some fd59:=by kernel_rfl
 refine⟨_,h1,?_⟩;obtain⟨_,_,_,q4,q5⟩:=fdo hfd;exact zOK q4 q5 rfl (Ts:=[98]) (.cons ⟨ty98,x.map (Value.int .u64),(show x.length=4∧x.map (Value.int .u64)=x.map (Value.int .u64) from ⟨hx.len,rfl⟩),fun e=>absurd e (by simp[Ty.scalar]),fun _=>rfl⟩ .nil) (zFf hfd h1)
theorem zOA {w:World}{G:Nat→Prop}{rb cap:Nat}{l l':List Pol}{x:Int}(hr:RowAt w G rb l) (hn:¬ G rb) (hc:cap=l.length) (h:R zB0 [kY l,tI x]=some [kY l']) (hl:l'.length=l.length):
  Calls Pg 52 #[.slice (some ⟨rb,0,none⟩) l.length cap,.int .i64 x] w fun e w'=>e=.returned (.tuple #[])∧KeepB rb w w'∧RowAt w' (Gn G w w') rb l':=by
 subst hc;have hfd:E.fd 52=some fd52:=by kernel_rfl
 have hspec:=zFf hfd h;obtain⟨m,hm,cs,T,hb1,hb2⟩:=hr.blk;have hinit:fd52.init [kY l,tI x]=⟨[.w (.c (.sl 1000)),.w (.c (.int .i64 x))]++List.replicate (fd52.fn.ntmps-2) .undef,Objs.none.upds [(1000,.row .sh PolT l)]⟩:=by
  simp[FD.init,fd52,initPs,PK.init,unpackW,unpackC,idOf,getTV]
 have hnt:2≤fd52.fn.ntmps:=(fdo hfd).2.2.2.2
 let col:Col:=fun b=>if b=rb then some (1000,0) else none
 have hin:Inv w (fun b=>b=rb) G (fixOf fd52 [.slice (some ⟨rb,0,none⟩) l.length l.length,.int .i64 x]) (fd52.init [kY l,tI x])
   (fun o=>if o=1000 then ⟨some ⟨rb,0,none⟩,l.length,l.length⟩ else ⟨none,0,0⟩) col
   ⟨[.slice (some ⟨rb,0,none⟩) l.length l.length,.int .i64 x].toArray++Array.replicate (fd52.fn.ntmps-[Value.slice (some ⟨rb,0,none⟩) l.length l.length,.int .i64 x].length) undef,[]⟩ w:=by
  rw[hinit]
  refine⟨rfl,by simp;omega,fun i v hi=>?_,fun o z hz=>?_,fun b o c hb=>?_,fun _ _ _=>rfl,Nat.le_refl _,fun q hq=>?_,Like.refl w⟩
  · match i with
    | 0=>
     simp only[List.cons_append,List.getElem?_cons_zero,Option.some.injEq] at hi;subst hi;exact .inr ⟨by simp[wfV,wfW,wfC,Objs.upds,Objs.upd],by simp[vval,wval,cval,Array.getElem?_append]⟩
    | 1=>
     simp only[List.cons_append,List.getElem?_cons_succ,List.getElem?_cons_zero,Option.some.injEq] at hi;subst hi;exact .inr ⟨by simp[wfV,wfW,wfC,Objs.upds,Objs.upd],by simp[vval,wval,cval,Array.getElem?_append]⟩
    | i+2=>
     simp only[List.cons_append,List.nil_append,List.getElem?_cons_succ,List.getElem?_replicate] at hi
     split at hi
     · simp only[Option.some.injEq] at hi;exact .inl hi.symm
     · simp at hi
  · rcases jj hz with hm | ⟨hm,_⟩
    · simp only[List.mem_cons,List.not_mem_nil,or_false,Prod.mk.injEq] at hm;obtain⟨rfl,rfl⟩:=hm
      refine⟨rfl,⟨Nat.le_refl _,fun e=>by simp at e,fun a ha _=>?_⟩,fun i p hp=>?_⟩
      · simp only[if_true,Option.some.injEq] at ha;subst ha;exact⟨rfl,hr.lt,by simp[okO,col],fun _=>⟨cs,T,hb1,by rw[hb2];simp[Ty.cells];omega⟩⟩
      · obtain⟨ys,g1,g2⟩:=hr.els i p hp
        refine⟨ys,TRep.frame (w:=w) id (Nat.le_refl _) (fun b _ hb=>⟨?_,rfl⟩) g1,fun j v hv=>?_⟩
        · have hbn:b≠rb:=fun e=>hn (e ▸ hb);have hcb:col b=none:=if_neg hbn;exact⟨.inl hcb,.inl hb⟩
        · simpa[cellAt,Ty.cells] using g2 j v hv
    · simp[Objs.none] at hm
  · simp only[col] at hb
    split at hb
    · rename_i e;simp only[Option.some.injEq,Prod.mk.injEq] at hb;obtain⟨rfl,rfl⟩:=hb;exact⟨.inr e,by rw[e];exact hr.lt,by simp[Objs.upds,Objs.upd]⟩
    · simp at hb
  · simp only[fixOf,fd52,fixedGo,PK.isFixed,if_true,Bool.false_eq_true,if_false,List.map_cons,List.map_nil,List.mem_singleton] at hq;subst hq;exact⟨by simp;omega,by simp[Array.getD_eq_getD_getElem?,Array.getElem?_append]⟩
 refine Calls.mono (hspec w _ _ _ _ [.slice (some ⟨rb,0,none⟩) l.length l.length,.int .i64 x] rfl hin) ?_;rintro e w' ⟨s',ρ',col',a',ws,rfl,hi',hfin,hws,hwf⟩;obtain⟨ws2,xs,us,ro,zs,vs,ro',r1,r2,r3,r4,r5,r6⟩:=zCH hfin;rw[hws] at r1;simp only[Option.some.injEq] at r1;subst r1;have hres:fd52.sig.res=[]:=rfl;rw[hres] at r2;have hw0:ws=[]∧xs=[]:=by
  match ws,r2 with
  | [],r2=>simp only[packRes,Option.some.injEq,Prod.mk.injEq] at r2;exact⟨rfl,r2.1.symm⟩
  | _::_,r2=>simp[packRes] at r2
 obtain⟨rfl,rfl⟩:=hw0;refine⟨rfl,⟨hi'.mono,hi'.same,fun b hb hn=>hi'.low b hb hn⟩,?_⟩;have hpar:fd52.sig.params=[.muts LPT,.ro (.int .i64)]:=rfl;rw[hpar] at r3;simp only[backPs] at r3
 split at r3
 · rename_i x1 u1 v1 x2 u2 v2 k1 k2;simp only[PK.back,Option.some.injEq,Prod.mk.injEq,List.append_nil] at k2;obtain⟨rfl,rfl,rfl⟩:=k2;simp only[Option.some.injEq,Prod.mk.injEq,List.append_nil] at r3;obtain⟨rfl,_,_⟩:=r3;simp only[PK.back] at k1
   split at k1
   · rename_i v hv
     split at k1
     · rename_i z us' hpk
       split at k1
       · rename_i hall;simp only[Option.some.injEq,Prod.mk.injEq] at k1;obtain⟨rfl,_,_⟩:=k1;simp only[List.nil_append,List.cons.injEq,TV.mk.injEq,heq_eq_eq,true_and,and_true] at r6;subst r6;obtain⟨f1,f2⟩:=hi'.fixed (0,.slice (some ⟨rb,0,none⟩) l.length l.length) (by simp[fixOf,fd52,fixedGo,PK.isFixed]);simp only at f1 f2;obtain⟨m1,m2⟩:=hi'.getD (t:=0) (v:=.w v) hv (by simp);rw[Array.getD_eq_getD_getElem?,m1] at f2
         cases v with
         | c c=>
          cases c with
          | nil=>simp[vval,wval,cval] at f2
          | sl o=>
           simp only[packW] at hpk
           split at hpk
           · rename_i mm ys hrow;simp only[Option.some.injEq,Prod.mk.injEq] at hpk;obtain⟨rfl,rfl⟩:=hpk;simp only[List.all_cons,List.all_nil,Bool.and_true,decide_eq_true_eq] at hall;subst hall;have ho:s'.ob o=some (.row .sh PolT ys):=zX hrow;obtain⟨e1,e2,e3⟩:=hi'.objs o _ ho;simp only[vval,wval,cval,Option.getD_some,Value.slice.injEq] at f2;obtain⟨fa,fl,fc⟩:=f2;obtain⟨_,_,k3,k4⟩:=e2.2.2 _ fa (.inr rfl);obtain⟨cs',T',c1,c2⟩:=k4 rfl;have k3':col' rb=some (o,0):=k3
             refine⟨⟨cs'.size,?_,cs',T',c1,rfl⟩,fun i p hp=>?_⟩
             · rw[fc] at c2;simp only[Ty.cells] at c2;omega
             · obtain⟨zs,g1,g2⟩:=e3 i p hp
               refine⟨zs,TRep.frame (w:=w') id (Nat.le_refl _) (fun b hb hbb=>⟨?_,rfl⟩) g1,fun j v hv=>?_⟩
               · have hbb':RO col' (fun b=>G b∨w.heap.size≤b∨b=rb) b:=hbb
                 rcases hbb'.2 with g | g | g
                 · exact .inl g
                 · exact .inr ⟨g,hb⟩
                 · subst g;rcases hbb'.1 with e | ⟨_,_,e⟩<;>rw[k3'] at e<;>simp at e
               · have:=g2 j v hv;rw[fa] at this;simpa[cellAt,Ty.cells] using this
           · simp at hpk
          | _=>simp[packW] at hpk
         | _=>simp[packW] at hpk
       · simp at k1
     · simp at k1
   · simp at k1
 · simp at r3
end Go.Ev.YtlkmkabnbegfdaaGreatP
namespace Go.Ev.YtlkmkabnbegfdaaGreatP
open Go.Ev Go.Lau
section
variable {P:Program}{E:Env}{a:Act}{w:World}{o:Oper}
theorem zUZ {ops:Array Oper}{Q:Exit→Act→World→Prop}{i:Nat}{rest:List Nat}{d:Nat}(hE:EnvTy P E) {T:TypeId}{t:Ty}(ht:E.ty T=some (.slice t)) (ho:ops[i]?=some o) (hg:o.guard=none) (hd:o.dst=some d)
  {x y:Operand}{k k':IntKind}{n:Nat}(hop:o.op=.makeSlice T x y) (hx:a.eval x=.int k (n:Int)) (hy:a.eval y=.int k' (n:Int)) (hn:n≤lim)
  (h:∀ w',KeepA w w'→w'.heap.size=w.heap.size+1→Row w' w.heap.size (n*t.cells)→(∀ q j v,q<n→(wcells (fun _=>⟨none,0,0⟩) t.zeroW)[j]?=some v→w'.cell? ⟨w.heap.size,q*t.cells+j,none⟩=some v) →
   wpOps P ops Q rest (a.put (some d) (.slice (some ⟨w.heap.size,0,none⟩) n n)) w'):wpOps P ops Q (i::rest) a w:=by
 obtain⟨_,e,hT,hte⟩:=hE.ty T _ ht;obtain⟨i',hi,hz,hs,hb,hc1,_⟩:=hte.base;have hzc:(wval (fun _=>⟨none,0,0⟩) t.zeroW).cells=(wcells (fun _=>⟨none,0,0⟩) t.zeroW).toArray:=zR _ _;have hzl:(wcells (fun _=>⟨none,0,0⟩) t.zeroW).length=t.cells:=(jS _ hte w false (fun _=>True)).len;have hbn:(i'.bytes:Int)*n≤281474976710656:=by
  unfold lim at hn;have h128:(i'.bytes:Int)≤128:=by omega
  have:=Int.mul_le_mul h128 (show (n:Int)≤549755813888 by omega) (by omega) (by omega);omega
 have hm:=run_make (P:=P) w T e i' _ hT hi hz k k' n n (by omega) (Int.le_refl _) hbn (by unfold lim at hn;omega);rw[hzc,hs,Int.toNat_natCast] at hm;have hr:(execOp a.eval o).run P w=.ok (.value (.slice (some ⟨w.heap.size,0,none⟩) n n)) (w.alloc (.cells (madeCells (wcells (fun _=>⟨none,0,0⟩) t.zeroW).toArray (n*t.cells)) e)):=by
  simp[execOp,hop,hx,hy,hm]
 refine zF ho hg hd hr (h _ (kv w _) (zi w _) ⟨_,e,heap_alloc_new w _,size_madeCells _ _⟩ fun q j v hq hv=>?_);have e1:madeCells (wcells (fun _=>⟨none,0,0⟩) t.zeroW).toArray (n*t.cells)=(madeCells (wcells (fun _=>⟨none,0,0⟩) t.zeroW).toArray (n*t.cells)).toList.toArray:=by simp
 rw[e1,kN];have hj:j<(wcells (fun _=>⟨none,0,0⟩) t.zeroW).length:=(List.getElem?_eq_some_iff.1 hv).1;have hlt:q*(wcells (fun _=>⟨none,0,0⟩) t.zeroW).length+j<n*t.cells:=by
  rw[hzl] at hj ⊢;have:(q+1)*t.cells≤n*t.cells:=Nat.mul_le_mul_right _ hq;rw[Nat.add_mul] at this;omega
 have:=zFD (wcells (fun _=>⟨none,0,0⟩) t.zeroW) (n*t.cells) j q hj hlt;rw[hzl] at this;rw[this];exact hv
theorem zLo {T:TypeId}{parts:Array (Nat×Operand)}{v:Value}(hop:o.op=.build T parts) (hb:(Instr.build T (parts.map fun p=>(p.1,a.eval p.2))).run P w=.ok v w):
  (execOp a.eval o).run P w=.ok (.value v) w:=by
 simp[execOp,hop,hb]
theorem zUs {T:TypeId}{x:Operand}{v:Value}(hop:o.op=.box T x) (hx:a.eval x=v):(execOp a.eval o).run P w=.ok (.value (.pointer (some ⟨w.heap.size,0,none⟩))) (w.alloc (.cells v.cells T)):=by
 simp[execOp,hop,hx,Instr.box,newVar,newRow]
end
theorem zQt (ad:Option Addr) (n c:Nat) (w:World):(Instr.build 40 #[(1,.slice ad n c)]).run Pg w=.ok (.agg #[.int .i64 0,.slice ad n c]) w:=run_build w 40 _ _ (by kernel_rfl)
structure MatV (w:World) (G:Nat→Prop) (ad:Option Addr) (n:Nat) (rs:List Nat) (M:List (List Pol)):Prop where
 mat:Mat w G rs M
 cell:∀ (i r:Nat),rs[i]?=some r→cellAt w ad i=some (.slice (some ⟨r,0,none⟩) n n)
 out:∀ a,ad=some a→0<rs.length→a.spot=none∧a.block<w.heap.size∧a.block∉rs∧¬ G a.block
def Units (n:Nat) (M:List (List Pol)):Prop:=∀ (i:Nat) (l:List Pol),M[i]?=some l→l.length=n∧Pl 1 l∧rv l=unit i
theorem RowAt.keep {w w':World}{G:Nat→Prop}{rb:Nat}{l:List Pol}(h:RowAt w G rb l) (hs:w.heap.size≤w'.heap.size) (hG:∀ b,b<w.heap.size→G b→w'.heap[b]?=w.heap[b]?) (hr:w'.heap[rb]?=w.heap[rb]?):RowAt w' G rb l:=by
 obtain⟨m,h1,h2⟩:=h.blk;refine⟨⟨m,h1,h2.keep hr⟩,fun i p hp=>?_⟩;obtain⟨ys,g1,g2⟩:=h.els i p hp;exact⟨ys,TRep.frame id hs (fun b hb hg=>⟨hg,hG b hb hg⟩) g1,g2.keep hr⟩
theorem Mat.keep {w w':World}{G:Nat→Prop}{rs:List Nat}{M:List (List Pol)}(h:Mat w G rs M) (hs:w.heap.size≤w'.heap.size) (hb:∀ b,b<w.heap.size→(b∈rs∨G b)→w'.heap[b]?=w.heap[b]?):Mat w' G rs M:=
 ⟨h.len,h.nd,h.ng,fun b hg=>Nat.lt_of_lt_of_le (h.lt b hg) hs,fun i r l h1 h2=>(h.row i r l h1 h2).keep hs (fun b hl hg=>hb b hl (.inr hg)) (hb r (h.rlt (List.mem_of_getElem? h1)) (.inl (List.mem_of_getElem? h1)))⟩
theorem Mat.up {w:World}{G G':Nat→Prop}{rs:List Nat}{M:List (List Pol)}(h:Mat w G rs M) (hg:∀ b,G b→G' b) (hn:∀ r∈rs,¬ G' r) (hl:∀ b,G' b→b<w.heap.size):Mat w G' rs M:=
 ⟨h.len,h.nd,hn,hl,fun i r l h1 h2=>(h.row i r l h1 h2).up fun b _ hb=>hg b hb⟩
theorem zrow {w:World}{n r:Nat}(h1:Row w r (n*PolT.cells)) (h2:∀ q j v,q<n→(wcells (fun _=>⟨none,0,0⟩) PolT.zeroW)[j]?=some v→w.cell? ⟨r,q*PolT.cells+j,none⟩=some v) (G:Nat→Prop):RowAt w G r (List.replicate n (0,[])):=by
 have hc:PolT.cells=2:=rfl;rw[hc] at h1 h2;refine⟨⟨n*2,by rw[List.length_replicate];omega,h1⟩,fun i p hp=>?_⟩;rw[List.getElem?_replicate] at hp
 split at hp
 · rename_i hi;simp only[Option.some.injEq] at hp;subst hp;exact⟨_,PolAt.zero w G,fun j v hv=>by rw[Nat.zero_add];exact h2 i j v hi hv⟩
 · simp at hp
set_option maxHeartbeats 1000000 in
theorem zIW {w:World}{n:Nat}(hn:n≤1000):Calls Pg 51 #[.int .i64 (n:Int)] w fun e w'=>∃ ad cp rs M G,e=.returned (.slice ad n cp)∧KeepA w w'∧(∀ b,G b→w.heap.size≤b)∧(∀ r∈rs,w.heap.size≤r)∧rs.length=n ∧
  MatV w' G ad n rs M∧Units n M∧(∀ a,ad=some a→w.heap.size≤a.block):=by
 have hE:EnvTy Pg E:=envOk.ty;have h89:E.ty 89=some (.slice LPT):=by kernel_rfl
 have h91:E.ty 91=some LPT:=by kernel_rfl
 have h69:E.ty 69=some PolT:=by kernel_rfl
 have h24:E.ty 24=some (.slice (.int .i64)):=by kernel_rfl
 obtain⟨_,e91,hT91,hte91⟩:=hE.ty _ _ h91;obtain⟨i91,hi91,_,hs91,_,_,_⟩:=hte91.base;have hs91':i91.size=2:=hs91;refine zCl Go.Proofs.Tryz.func51 rfl Go.Proofs.Tryz.ntmps51 (by omega) fun a hsz hdf h0=>?_;refine wp_seq (wp_region ?_);refine zF (d:=2) (v:=.slice none 0 0) rfl rfl rfl (r_mv (.inr rfl) rfl) (zU ?_);refine wp_seq (wp_region ?_);refine zRB (d:=6) hE h89 rfl rfl rfl rfl rfl [] rfl (by simp) rfl (by simp) fun w1 hk1 hsz1 hrow1 _=>?_;refine zF (d:=3) (v:=.slice (some ⟨w.heap.size,0,none⟩) 0 0) rfl rfl rfl (r_mv (.inr rfl) (by simp[zB,zA,hsz])) (zU ?_);refine wp_seq (wp_seq (wp_region ?_));refine zF (d:=7) (v:=.int .i64 n) rfl rfl rfl (r_mv (.inl rfl) (by simp[zB,zA,hsz,h0])) ?_;refine zF (d:=8) (v:=.int .i64 0) rfl rfl rfl (r_mv (.inl rfl) rfl) (zU ?_)
 refine wp_block (wp_loop (I:=fun a W=>a.tmps.size=25∧a.defers=[]∧a.eval (.tmp 0)=.int .i64 n∧a.eval (.tmp 7)=.int .i64 n ∧
  ∃ (i:Nat) (ad:Option Addr) (cp:Nat) (rs:List Nat) (M:List (List Pol)) (G:Nat→Prop),i≤n∧rs.length=i∧a.eval (.tmp 8)=.int .i64 i∧a.eval (.tmp 3)=.slice ad i cp∧KeepA w W∧(∀ b,G b→w.heap.size≤b)∧(∀ r∈rs,w.heap.size≤r) ∧
   Mat W G rs M∧(∀ (j r:Nat),rs[j]?=some r→cellAt W ad j=some (.slice (some ⟨r,0,none⟩) n n))∧RowW W true (fun b=>w.heap.size≤b∧b∉rs∧¬ G b) 1 i ad cp∧Units n M) (fun a W=>n-natOf (a.eval (.tmp 8))) ?_ ?_)
 · refine⟨by simp[zA,hsz],by simp[zT,hdf],by simp[zB,zA,hsz,h0],by simp[zB,zA,hsz],0,some ⟨w.heap.size,0,none⟩,0,[],[],fun _=>False,by omega,rfl,by simp[zB,zA,hsz],by simp[zB,zA,hsz],hk1,fun b h=>h.elim,by simp,⟨rfl,List.nodup_nil,by simp,fun b h=>h.elim,by simp⟩,by simp,?_,fun i l h=>by simp at h⟩;refine⟨Nat.le_refl _,fun e=>by simp at e,fun a ha _=>?_⟩;simp only[Option.some.injEq] at ha;subst ha;obtain⟨cs,T,g1,g2⟩:=hrow1;exact⟨rfl,by simp only;omega,⟨Nat.le_refl _,by simp,fun h=>h⟩,fun _=>⟨cs,T,g1,by simp⟩⟩
 · rintro a W ⟨hsz,hdf,h0,h7,i,ad,cp,rs,M,G,hin,hrl,h8,h3,hkW,hGw,hrw,hM,hcell,hrow,hU⟩;refine wp_seq (wp_region ?_);refine zF (d:=9) (v:=.bool (decide ((i:Int)<n))) rfl rfl rfl (kU (k:=.i64) (m:=(i:Int)) (m':=(n:Int)) (u:=.bool _) hE rfl (by simp[h8]) (by simp[h7]) rfl) (zU ?_);have h8o:=h8
   by_cases hlt:i<n
   · refine wp_seq (wp_cond_true (by simp[zB,zA,hsz];omega) (wp_skip ?_));refine wp_seq (wp_block (wp_seq (wp_region ?_)));refine zF (d:=10) (v:=.int .i64 i) rfl rfl rfl (r_mv (.inl rfl) (by simp[zB,zA,hsz,h8])) ?_;refine zF (d:=4) (v:=.int .i64 i) rfl rfl rfl (r_mv (.inr rfl) (by simp[zB,zA,hsz])) (zU ?_);refine wp_seq (wp_region ?_);refine zF (d:=11) (v:=.int .i64 n) rfl rfl rfl (r_mv (.inl rfl) (by simp[zB,zA,hsz,h0])) ?_;refine zUZ (d:=12) (k:=.i64) (k':=.i64) (n:=n) hE h91 rfl rfl rfl rfl (by simp[zB,zA,hsz]) (by simp[zB,zA,hsz]) (by unfold lim;omega) fun W1 hk1 hz1 hr1 hc1=>?_;have hr0:=zrow hr1 hc1 (fun _=>False);generalize hrr:W.heap.size=r at *;refine zF (d:=5) (v:=.slice (some ⟨r,0,none⟩) n n) rfl rfl rfl (r_mv (.inr rfl) (by simp[zB,zA,hsz])) (zU ?_);refine wp_seq (wp_region ?_);refine zF (d:=13) (v:=.slice (some ⟨r,0,none⟩) n n) rfl rfl rfl (r_mv (.inl rfl) (by simp[zB,zA,hsz])) ?_;refine zF (d:=14) (v:=.int .i64 i) rfl rfl rfl (r_mv (.inl rfl) (by simp[zB,zA,hsz])) ?_;refine zRB (d:=15) hE h24 rfl rfl rfl rfl rfl [.int .i64 1] rfl (by simp) (by simp[enumL];rfl) (by simp[Value.cells]) fun W2 hk2 hz2 hr2 hc2=>?_;refine zF (d:=16) (v:=.agg #[.int .i64 0,.slice (some ⟨W1.heap.size,0,none⟩) 1 1]) rfl rfl rfl (zLo (T:=40) rfl (by simpa[zB,zA,hsz] using zQt _ _ _ _)) ?_;refine zCz (f:=80) (args:=#[.agg #[.int .i64 0,.slice (some ⟨W1.heap.size,0,none⟩) 1 1]]) (d:=17) rfl rfl rfl (by rw[r_fn (g:=80) rfl rfl (zAV Go.Proofs.Tryz.func80 (by kernel_rfl))];simp[zB,zA,hsz]) ?_;refine (zKV (G:=fun b=>G b∨b=W1.heap.size) (by omega) (.inr rfl) (hc2 0 _ rfl)).mono ?_;rintro e W3 ⟨q,ys,rfl,hk3,hp3,hq,hqv⟩;refine⟨_,rfl,?_⟩;refine zF (d:=18) (v:=.pointer (some ⟨r,i*2,none⟩)) rfl rfl rfl (by rw[zIL (b:=r) (off:=0) (n:=i) (k:=.i64) (len:=n) (cap:=n) hT91 hi91 rfl (by simp[zB,zA,hsz]) (by simp[zB,zA,hsz]) hlt,hs91',Nat.zero_add]) ?_;have hA3:KeepA W1 W3:=hk2.trans hk3;have hr3:Row W3 r (n*2):=Row.keep hr1 (hA3.2.2 r (by omega));refine ji (blk:=r) (off:=i*2) (m:=n*2) (ys:=ys) hE h69 rfl rfl rfl rfl (by simp[zB,zA,hsz]) (by simp[zB,zA,hsz]) (by rw[hp3.len];rfl) (TRep.oneCell hp3) hr3 (by rw[hp3.len];omega) fun W4 hk4 hr4 hc4 hd4=>?_;have hrW:r<W1.heap.size:=by omega
     have hnG:¬ G r:=fun h=>by have:=hM.lt r h;omega
     have hnr:r∉rs:=fun h=>by have:=hM.rlt h;omega
     have hWr:w.heap.size≤r:=hrr ▸ hkW.1;have hkA:KeepA W W3:=hk1.trans hA3;have hold:∀ b,b<W.heap.size→W4.heap[b]?=W.heap[b]?:=fun b hb=>(hk4.2.2 b (Nat.lt_of_lt_of_le hb hkA.1) (by omega)).trans (hkA.2.2 b hb)
     have hs4:W.heap.size≤W4.heap.size:=Nat.le_trans hkA.1 hk4.1;have hG':∀ b,Gn (fun b=>G b∨b=W1.heap.size) W2 W3 b→G b∨(W1.heap.size≤b∧b<W3.heap.size):=fun b hb=>by
      rcases hb with (hb | hb) | hb
      · exact .inl hb
      · exact .inr (by have:=hk3.1;omega)
      · exact .inr (by omega)
     have hrow3:RowAt W3 (Gn (fun b=>G b∨b=W1.heap.size) W2 W3) r (List.replicate n (0,[])):=(hr0.keepA hA3).up fun b _ h=>h.elim;have hgr:¬ Gn (fun b=>G b∨b=W1.heap.size) W2 W3 r:=fun h=>(hG' r h).elim hnG (fun h=>by omega)
     have hrow4:RowAt W4 (Gn (fun b=>G b∨b=W1.heap.size) W2 W3) r ((List.replicate n (0,[])).set i q):=hrow3.stored hgr (by rw[List.length_replicate];exact hlt) hp3 hk4 (m:=n*2) (by rw[List.length_replicate];omega) hr4 (fun j v hv=>by rw[Nat.mul_comm 2 i];exact hc4 j v hv) (fun q' hq'=>hd4 q' (by rw[hp3.len];omega));have hM4:Mat W4 (Gn (fun b=>G b∨b=W1.heap.size) W2 W3) rs M:=by
      refine (hM.keep hs4 fun b hb _=>hold b hb).up (fun b hb=>.inl (.inl hb)) (fun r' hr' hg=>?_) (fun b hb=>?_)
      · have:=hM.rlt hr';exact (hG' r' hg).elim (hM.ng r' hr') (fun h=>by omega)
      · have:=hk4.1
        rcases hG' b hb with h | h
        · have:=hM.lt b h;omega
        · omega
     have hM5:=hM4.add hnr hgr hrow4;have hU5:Units n (M++[(List.replicate n (0,[])).set i q]):=by
      intro j l hl
      by_cases hj:j<M.length
      · rw[List.getElem?_append_left hj] at hl;exact hU j l hl
      · rw[List.getElem?_append_right (by omega)] at hl;have hj0:j-M.length=0:=by
         have:=(List.getElem?_eq_some_iff.1 hl).1;simp at this;omega
        rw[hj0] at hl;simp only[List.getElem?_cons_zero,Option.some.injEq] at hl;subst hl;have hji:j=i:=by have:=hM.len;omega
        refine⟨by simp,fun p hp=>?_,?_⟩
        · rcases List.mem_or_eq_of_mem_set hp with h | h
          · rw[List.eq_of_mem_replicate h];exact Pk.zero.up (by omega)
          · rw[h];exact hq
        · funext c;rw[zA4 (by simpa using hlt),hqv,hji];unfold unit
          by_cases hc:c=i
          · rw[if_pos hc,if_pos hc]
          · rw[if_neg hc,if_neg hc];unfold rv;rw[List.getD_eq_getElem?_getD,List.getElem?_replicate];split<;>rfl
     have hrow4':RowW W4 true (fun b=>w.heap.size≤b∧b∉rs++[r]∧¬ Gn (fun b=>G b∨b=W1.heap.size) W2 W3 b) 1 i ad cp:=by
      refine hrow.frame id hs4 fun b hb ⟨k1,k2,k3⟩=>⟨⟨k1,fun h=>?_,fun h=>(hG' b h).elim k3 (fun h=>by omega)⟩,hold b hb⟩
      rcases List.mem_append.mp h with h | h
      · exact k2 h
      · rw[List.mem_singleton.mp h] at hb;omega
     have hcell4:∀ (j r':Nat),rs[j]?=some r'→cellAt W4 ad j=some (.slice (some ⟨r',0,none⟩) n n):=fun j r' hj=>by
      rw[ke (w:=W) (fun a ha=>?_)]
      · exact hcell j r' hj
      · obtain⟨_,k2,_,_⟩:=hrow.2.2 a ha (.inr rfl);exact hold _ k2
     have hkw4:KeepA w W4:=⟨Nat.le_trans hkW.1 hs4,(hkW.2.1.trans hkA.2.1).trans hk4.2.1,fun b hb=>(hold b (Nat.lt_of_lt_of_le hb hkW.1)).trans (hkW.2.2 b hb)⟩;refine zU (wp_region ?_);refine zF (d:=19) (v:=.slice ad i cp) rfl rfl rfl (r_mv (.inl rfl) (by simp[zB,zA,hsz,h3])) ?_;refine zF (d:=20) (v:=.slice (some ⟨r,0,none⟩) n n) rfl rfl rfl (r_mv (.inl rfl) (by simp[zB,zA,hsz])) ?_;refine zRB (d:=21) hE h89 rfl rfl rfl rfl rfl [.slice (some ⟨r,0,none⟩) n n] rfl (by simp) (by simp[enumL,zB,zA,hsz]) (by simp[Value.cells]) fun W5 hk5 hz5 hr5 hc5=>?_
     refine zRD (d:=22) (addr:=ad) (n:=i) (cap:=cp) (b2:=W4.heap.size) (cap2:=1) (olds:=rs.map fun r'=>.slice (some ⟨r',0,none⟩) n n) (v:=.slice (some ⟨r,0,none⟩) n n) hE h89 rfl rfl rfl rfl rfl (by simp[zB,zA,hsz]) (by simp[zB,zA,hsz])
      (hrow4'.frame id hk5.1 fun b hb h=>⟨h,hk5.2.2 b hb⟩) (by simp[hrl]) (fun j v hv=>?_) (hc5 0 _ rfl) rfl (by unfold lim;omega) fun W6 ad6 cp6 q1 q2 q3 q4 q5=>?_
     · rw[List.getElem?_map,Option.map_eq_some_iff] at hv;obtain⟨r',hr',rfl⟩:=hv
       rw[ke (w:=W4) (fun a ha=>?_)]
       · exact hcell4 j r' hr'
       · obtain⟨_,k2,_,_⟩:=hrow4'.2.2 a ha (.inr rfl);exact hk5.2.2 _ k2
     refine zF (d:=3) (v:=.slice ad6 (i+1) cp6) rfl rfl rfl (r_mv (.inr rfl) (by simp[zB,zA,hsz])) (zMu (wp_region ?_));refine zF (d:=23) (v:=.int .i64 (i+1:Nat)) rfl rfl rfl (kU (k:=.i64) (m:=(i:Int)) (m':=1) (u:=.int .i64 _) hE rfl (by simp[zB,zA,hsz,h8]) rfl (jc (by omega))) ?_;refine zF (d:=8) (v:=.int .i64 (i+1:Nat)) rfl rfl rfl (r_mv (.inl rfl) (by simp[zB,zA,hsz])) (zU ?_);have hq3:∀ b,b<W5.heap.size→(b∈rs++[r]∨Gn (fun b=>G b∨b=W1.heap.size) W2 W3 b)→W6.heap[b]?=W5.heap[b]?:=fun b hb h=>q3 b hb fun a ha e=>by
      obtain⟨_,_,k3,_⟩:=hrow4'.2.2 a ha (.inr rfl);rw[e] at h;exact h.elim k3.2.1 k3.2.2
     refine⟨⟨by simp[zA,hsz],by simp[zT,hdf],by simp[zB,zA,hsz,h0],by simp[zB,zA,hsz,h7],i+1,ad6,cp6,rs++[r],M++[(List.replicate n (0,[])).set i q],Gn (fun b=>G b∨b=W1.heap.size) W2 W3,by omega,by simp[hrl],
      by simp[zB,zA,hsz],by simp[zB,zA,hsz],⟨Nat.le_trans hkw4.1 (Nat.le_trans hk5.1 q1),(hkw4.2.1.trans hk5.2.1).trans q2,fun b hb=>?_⟩,fun b hb=>?_,fun r' hr'=>?_,(hM5.keepA hk5).keep q1 hq3,fun j r' hj=>?_,?_,hU5⟩,?_⟩
     · rw[q3 b (Nat.lt_of_lt_of_le hb (Nat.le_trans hkw4.1 hk5.1)) fun a ha e=>?_,hk5.2.2 b (Nat.lt_of_lt_of_le hb hkw4.1),hkw4.2.2 b hb];obtain⟨_,_,k3,_⟩:=hrow4'.2.2 a ha (.inr rfl);rw[← e] at k3;omega
     · rcases hG' b hb with h | h
       · exact hGw b h
       · omega
     · rcases List.mem_append.mp hr' with h | h
       · exact hrw r' h
       · rw[List.mem_singleton.mp h];exact hWr
     · refine q4 j _ ?_;have:(rs.map fun r'=>Value.slice (some ⟨r',0,none⟩) n n)++[.slice (some ⟨r,0,none⟩) n n]=(rs++[r]).map fun r'=>.slice (some ⟨r',0,none⟩) n n:=by simp
       rw[this,List.getElem?_map,hj]
       rfl
     · refine q5.frame id (Nat.le_refl _) fun b hb h=>⟨h.elim (fun h=>?_) id,rfl⟩;have h45:=hk5.1;have h34:=hk4.1
       refine⟨Nat.le_trans (Nat.le_trans hkw4.1 hk5.1) h,fun hm=>?_,fun hg=>?_⟩
       · rcases List.mem_append.mp hm with hm | hm
         · have:=hM.rlt hm;omega
         · rw[List.mem_singleton.mp hm] at h;have:=hkA.1;omega
       · rcases hG' b hg with g | g
         · have:=hM.lt b g;omega
         · omega
     · simp[zB,zA,hsz,h8o,natOf];omega
   · refine wp_seq (wp_cond_false (by simp[zB,zA,hsz];omega) (wp_exit ?_));have hie:i=n:=by omega
     subst hie;refine wp_seq (wp_region ?_);refine zF (d:=24) (v:=.slice ad i cp) rfl rfl rfl (r_mv (.inl rfl) (by simp[zB,zA,hsz,h3])) ?_;refine zF (d:=2) (v:=.slice ad i cp) rfl rfl rfl (r_mv (.inr rfl) (by simp[zB,zA,hsz])) (zU (wp_ret ?_))
     refine⟨by simp[zT,hdf],_,zJJ rfl (by simp[zB,zA,hsz]),ad,cp,rs,M,G,rfl,hkW,hGw,hrw,hrl,⟨hM,hcell,fun a ha _=>?_⟩,hU,fun a ha=>?_⟩
     · obtain⟨k1,k2,k3,_⟩:=hrow.2.2 a ha (.inr rfl);exact⟨k1,k2,k3.2⟩
     · obtain⟨_,_,k3,_⟩:=hrow.2.2 a ha (.inr rfl);exact k3.1
end Go.Ev.YtlkmkabnbegfdaaGreatP
namespace Go.Ev.YtlkmkabnbegfdaaGreatP
open Go.Ev Go.Lau
structure Ents (w:World) (G:Nat→Prop) (es:List MapEntry) (ks:List (Int×Pol)):Prop where
 len:es.length=ks.length
 ent:∀ (i:Nat) (e:MapEntry) (k:Int) (p:Pol),es[i]?=some e→ks[i]?=some (k,p)→e.key=.int .i64 k∧∃ ys,e.val=.agg ys.toArray∧PolAt w G p ys
structure MapAt (w:World) (G:Nat→Prop) (bm:Nat) (ks:List (Int×Pol)) (es:Array MapEntry) (clock:Nat):Prop where
 blk:w.heap[bm]?=some (.map es clock)
 ents:Ents w G es.toList ks
 old:∀ e∈es.toList,e.born<clock
 nd:(es.toList.map (·.born)).Nodup
 keys:(ks.map (·.1)).Nodup
theorem zKY:∃ z,Pg.underlying 118=some (.map 3 69)∧Pg.underlying 3=some (.int .i64)∧z=():=⟨(),by kernel_rfl,by kernel_rfl,rfl⟩
theorem Ents.cons {w:World}{G:Nat→Prop}{e:MapEntry}{es:List MapEntry}{q:Int×Pol}{ks:List (Int×Pol)}(h:Ents w G (e::es) (q::ks)):(e.key=.int .i64 q.1∧∃ ys,e.val=.agg ys.toArray∧PolAt w G q.2 ys)∧Ents w G es ks:=
 ⟨h.ent 0 e q.1 q.2 rfl rfl,⟨by simpa using h.len,fun i e' k p h1 h2=>h.ent (i+1) e' k p (by simpa using h1) (by simpa using h2)⟩⟩
theorem zHo {w:World}{G:Nat→Prop}{k:Int}:∀ {es:List MapEntry}{ks:List (Int×Pol)}(i:Nat),Ents w G es ks→k∉ks.map (·.1)→Instr.findNow (.int .i64) (.int .i64 k) es i=some none
 | [],_,i,_,_=>rfl
 | e::es,[],i,h,_=>by simp[Ents.len h] at *;exact absurd h.len (by simp)
 | e::es,q::ks,i,h,hk=>by
  obtain⟨⟨h1,_⟩,h2⟩:=h.cons;simp only[List.map_cons,List.mem_cons,not_or] at hk;have hne:(k==q.1)=false:=beq_eq_false_iff_ne.mpr hk.1;simp only[Instr.findNow,h1,Instr.sameNow,if_true,hne];exact zHo (i+1) h2 hk.2
theorem zHn {w:World}{G:Nat→Prop}{k:Int}{p:Pol}:∀ {es:List MapEntry}{ks:List (Int×Pol)}(i j:Nat),Ents w G es ks→(ks.map (·.1)).Nodup→ks[j]?=some (k,p)→∃ e ys,es[j]?=some e∧e.key=.int .i64 k∧e.val=.agg ys.toArray∧PolAt w G p ys∧Instr.findNow (.int .i64) (.int .i64 k) es i=some (some (i+j,.agg ys.toArray))
 | _,[],i,j,h,_,hj=>by simp at hj
 | [],q::ks,i,j,h,_,hj=>absurd h.len (by simp)
 | e::es,q::ks,i,0,h,hn,hj=>by
  obtain⟨⟨h1,ys,h2,h3⟩,h4⟩:=h.cons;simp only[List.getElem?_cons_zero,Option.some.injEq] at hj;subst hj;refine⟨e,ys,rfl,h1,h2,h3,?_⟩;simp only[Instr.findNow,h1,Instr.sameNow,if_true,beq_self_eq_true,h2,Nat.add_zero]
 | e::es,q::ks,i,j+1,h,hn,hj=>by
  obtain⟨⟨h1,_⟩,h4⟩:=h.cons;simp only[List.getElem?_cons_succ] at hj;simp only[List.map_cons,List.nodup_cons] at hn;obtain⟨e',ys,g1,g2,g3,g4,g5⟩:=zHn (i+1) j h4 hn.2 hj;have hne:(k==q.1)=false:=beq_eq_false_iff_ne.mpr fun e=>hn.1 (e ▸ List.mem_map_of_mem (List.mem_of_getElem? hj));refine⟨e',ys,by simpa using g1,g2,g3,g4,?_⟩;simp only[Instr.findNow,h1,Instr.sameNow,if_true,hne];rw[g5];congr 3;omega
section
variable {w:World}{G:Nat→Prop}{bm:Nat}{ks:List (Int×Pol)}{es:Array MapEntry}{clock:Nat}
theorem zE1 (k:Int) (b:Bool):(Instr.checkKey b 10000 3 (.int .i64 k)).run Pg w=.ok () w:=by
 obtain⟨_,_,h3,_⟩:=zKY;rw[show (10000:Nat)=9999+1 from rfl,Instr.checkKey];simp[run_underlying h3]
theorem zOH:(zeroValue 69).run Pg w=.ok (.agg #[.int .i64 0,.slice none 0 0]) w:=by
 obtain⟨i,hi,hz,_⟩:=ty69.base;have:=kI (P:=Pg) (w:=w) hi hz;rw[this]
 rfl
theorem zJL (h:MapAt w G bm ks es clock) {k:Int}(hk:k∉ks.map (·.1)):(Instr.lookup 118 (.map (some bm)) (.int .i64 k) false).run Pg w=.ok (.agg #[.int .i64 0,.slice none 0 0]) w:=by
 obtain⟨_,h1,h3,_⟩:=zKY;simp[Instr.lookup,run_underlying h1,MapKept.run_getObj_map h.blk,zE1,Instr.findKey,run_underlying h3,zHo 0 h.ents hk,zOH]
theorem zJK (h:MapAt w G bm ks es clock) {k:Int}{p:Pol}{j:Nat}(hj:ks[j]?=some (k,p)):∃ ys,PolAt w G p ys∧(Instr.lookup 118 (.map (some bm)) (.int .i64 k) false).run Pg w=.ok (.agg ys.toArray) w:=by
 obtain⟨_,h1,h3,_⟩:=zKY;obtain⟨e,ys,g1,g2,g3,g4,g5⟩:=zHn 0 j h.ents h.keys hj;exact⟨ys,g4,by simp[Instr.lookup,run_underlying h1,MapKept.run_getObj_map h.blk,zE1,Instr.findKey,run_underlying h3,g5]⟩
open Go.ChangeMaps (setBlock)
theorem zIZ (h:w.heap[bm]?=some (.map es clock)) (o:Go.Obj):(setObj bm o).run Pg w=.ok () (setBlock w bm o):=by
 simp[setObj,Sem.run,h,setBlock]
theorem zDb {o:Go.Obj}:KeepB bm w (setBlock w bm o):=by
 refine⟨by simp[setBlock],⟨rfl,rfl,rfl,Nat.le_refl _⟩,fun b hb hn=>?_⟩;simp only[setBlock];rw[Array.getElem?_setIfInBounds,if_neg (fun e=>hn e.symm)]
theorem zEx {o o':Go.Obj}(h:w.heap[bm]?=some o'):(setBlock w bm o).heap[bm]?=some o:=by
 have hlt:bm<w.heap.size:=(Array.getElem?_eq_some_iff.1 h).1;simp only[setBlock];rw[Array.getElem?_setIfInBounds,if_pos rfl,if_pos hlt]
theorem Ents.keep {w':World}{l:List MapEntry}(h:Ents w G l ks) (hs:w.heap.size≤w'.heap.size) (hG:∀ b,b<w.heap.size→G b→w'.heap[b]?=w.heap[b]?):Ents w' G l ks:=
 ⟨h.len,fun i e k p h1 h2=>by
  obtain⟨g1,ys,g2,g3⟩:=h.ent i e k p h1 h2;exact⟨g1,ys,g2,TRep.frame id hs (fun b hb hg=>⟨hg,hG b hb hg⟩) g3⟩⟩
theorem MapAt.keep {w':World}(h:MapAt w G bm ks es clock) (hs:w.heap.size≤w'.heap.size) (hG:∀ b,b<w.heap.size→G b→w'.heap[b]?=w.heap[b]?) (hb:w'.heap[bm]?=w.heap[bm]?):MapAt w' G bm ks es clock:=
 ⟨hb.trans h.blk,h.ents.keep hs hG,h.old,h.nd,h.keys⟩
theorem MapAt.up {G':Nat→Prop}(h:MapAt w G bm ks es clock) (hG:∀ b,b<w.heap.size→G b→G' b):MapAt w G' bm ks es clock:=
 ⟨h.blk,⟨h.ents.len,fun i e k p h1 h2=>by
  obtain⟨g1,ys,g2,g3⟩:=h.ents.ent i e k p h1 h2;exact⟨g1,ys,g2,g3.up hG⟩⟩,h.old,h.nd,h.keys⟩
theorem MapAt.lt (h:MapAt w G bm ks es clock):bm<w.heap.size:=(Array.getElem?_eq_some_iff.1 h.blk).1
theorem zHQ (h:MapAt w G bm ks es clock) (hn:¬ G bm) {k:Int}(hk:k∉ks.map (·.1)) {p:Pol}{ys:List Value}(hp:PolAt w G p ys):∃ w',(Instr.mapUpdate 118 (.map (some bm)) (.int .i64 k) (.agg ys.toArray)).run Pg w=.ok () w'∧KeepB bm w w'∧∃ es' clock',MapAt w' G bm (ks++[(k,p)]) es' clock':=by
 obtain⟨_,h1,h3,_⟩:=zKY;have hkb:KeepB bm w (setBlock w bm (.map (es.push { key:=.int .i64 k,val:=.agg ys.toArray,born:=clock }) (clock+1))):=zDb
 refine⟨_,by simp[Instr.mapUpdate,run_underlying h1,MapKept.run_getObj_map h.blk,zE1,Instr.findKey,run_underlying h3,zHo 0 h.ents hk,zIZ h.blk],hkb,es.push { key:=.int .i64 k,val:=.agg ys.toArray,born:=clock },clock+1,zEx h.blk,?_,fun e he=>?_,?_,?_⟩
 · rw[Array.toList_push];refine⟨by simp[h.ents.len],fun i e k' p' g1 g2=>?_⟩
   by_cases hi:i<es.toList.length
   · rw[List.getElem?_append_left hi] at g1;rw[List.getElem?_append_left (by rw[← h.ents.len];exact hi)] at g2;obtain⟨q1,ys',q2,q3⟩:=h.ents.ent i e k' p' g1 g2;exact⟨q1,ys',q2,q3.keepB hn hkb⟩
   · rw[List.getElem?_append_right (by omega)] at g1;rw[List.getElem?_append_right (by rw[← h.ents.len];omega),← h.ents.len] at g2
     match hj:i-es.toList.length with
     | 0=>
      rw[hj] at g1 g2;simp only[List.getElem?_cons_zero,Option.some.injEq,Prod.mk.injEq] at g1 g2;obtain⟨rfl,rfl⟩:=g2;subst g1;exact⟨rfl,ys,rfl,hp.keepB hn hkb⟩
     | j+1=>
      rw[hj] at g1;simp at g1
 · rw[Array.toList_push] at he
   rcases List.mem_append.mp he with he | he
   · have:=h.old e he;omega
   · rw[List.mem_singleton.mp he];simp
 · rw[Array.toList_push,List.map_append,List.nodup_append];refine⟨h.nd,by simp,fun a ha b hb e=>?_⟩;obtain⟨x,hx,rfl⟩:=List.mem_map.mp ha;simp only[List.map_cons,List.map_nil,List.mem_singleton] at hb;have:=h.old x hx;omega
 · rw[List.map_append,List.nodup_append];refine⟨h.keys,by simp,fun a ha b hb e=>?_⟩;simp only[List.map_cons,List.map_nil,List.mem_singleton] at hb;subst hb;exact hk (e ▸ ha)
theorem zLl (h:MapAt w G bm ks es clock) (hn:¬ G bm) {k:Int}{p0 p:Pol}{j:Nat}(hj:ks[j]?=some (k,p0)) {ys:List Value}(hp:PolAt w G p ys):∃ w',(Instr.mapUpdate 118 (.map (some bm)) (.int .i64 k) (.agg ys.toArray)).run Pg w=.ok () w'∧KeepB bm w w'∧∃ es' clock',MapAt w' G bm (ks.set j (k,p)) es' clock':=by
 obtain⟨_,h1,h3,_⟩:=zKY;obtain⟨e0,ys0,g1,g2,g3,g4,g5⟩:=zHn 0 j h.ents h.keys hj;rw[Nat.zero_add] at g5;have g1':es[j]?=some e0:=by simpa using g1
 have hkb:KeepB bm w (setBlock w bm (.map (es.modify j fun e=>{ e with key:=.int .i64 k,val:=.agg ys.toArray }) clock)):=zDb;have hsb:Instr.sameBits 10000 (.int .i64 k) (.int .i64 k)=true:=by simp[Instr.sameBits]
 have hjl:j<es.size:=(Array.getElem?_eq_some_iff.1 g1').1;have hget:∀ i,(es.modify j fun e=>{ e with key:=.int .i64 k,val:=.agg ys.toArray }).toList[i]?=if i=j then some { e0 with key:=.int .i64 k,val:=.agg ys.toArray } else es.toList[i]?:=fun i=>by
  rw[Array.getElem?_toList,Array.getElem?_modify]
  by_cases hi:j=i
  · subst hi;rw[if_pos rfl,if_pos rfl,g1']
    rfl
  · rw[if_neg hi,if_neg (fun e=>hi e.symm),Array.getElem?_toList]
 have hborn:(es.modify j fun e=>{ e with key:=.int .i64 k,val:=.agg ys.toArray }).toList.map (·.born)=es.toList.map (·.born):=by
  apply List.ext_getElem?;intro i;rw[List.getElem?_map,List.getElem?_map,hget]
  by_cases hi:i=j
  · rw[if_pos hi,hi,g1]
    rfl
  · rw[if_neg hi]
 refine⟨_,by simp[Instr.mapUpdate,run_underlying h1,MapKept.run_getObj_map h.blk,zE1,Instr.findKey,run_underlying h3,g5,g1',g2,Instr.keyThatStays,hsb,zIZ h.blk],hkb,_,clock,zEx h.blk,?_,fun e he=>?_,by rw[hborn];exact h.nd,?_⟩
 · refine⟨by simp[h.ents.len],fun i e k' p' q1 q2=>?_⟩;rw[hget] at q1
   by_cases hi:i=j
   · subst hi;rw[if_pos rfl,Option.some.injEq] at q1;rw[List.getElem?_set_self (by rw[← h.ents.len];simpa using hjl),Option.some.injEq,Prod.mk.injEq] at q2;obtain⟨rfl,rfl⟩:=q2;subst q1;exact⟨rfl,ys,rfl,hp.keepB hn hkb⟩
   · rw[if_neg hi] at q1;rw[List.getElem?_set_ne (fun e=>hi e.symm)] at q2;obtain⟨r1,ys',r2,r3⟩:=h.ents.ent i e k' p' q1 q2;exact⟨r1,ys',r2,r3.keepB hn hkb⟩
 · have:e.born∈es.toList.map (·.born):=by rw[← hborn];exact List.mem_map_of_mem he
   obtain⟨x,hx,hxe⟩:=List.mem_map.mp this;rw[← hxe];exact h.old x hx
 · have:(ks.set j (k,p)).map (·.1)=ks.map (·.1):=by
    apply List.ext_getElem?;intro i;rw[List.getElem?_map,List.getElem?_map]
    by_cases hi:i=j
    · subst hi;rw[List.getElem?_set_self (by rw[← h.ents.len];simpa using hjl),hj]
      rfl
    · rw[List.getElem?_set_ne (fun e=>hi e.symm)]
   rw[this];exact h.keys
end
end Go.Ev.YtlkmkabnbegfdaaGreatP
namespace Go.Ev.YtlkmkabnbegfdaaGreatP
open Go.Ev Go.Lau
open Go.ChangeMaps (setBlock)
theorem zQv {T:Option Ty}{u j:Nat}(hj:j≤60):binW .shr T (.c (.int .i64 (u:Int))) (.c (.int .i64 (j:Int)))=some (true,.c (.int .i64 ((u / 2^j:Nat):Int))):=by
 have e1:decide (0≤(j:Int))=true:=decide_eq_true (by omega);have e2:min ((j:Int)).toNat (IntKind.bits .i64)=j:=by
  show min ((j:Int)).toNat 64=j;omega
 simp only[binW,e1,e2];congr 3;rw[Int.fdiv_eq_ediv_of_nonneg _ (by exact Int.le_of_lt (Int.pow_pos (by omega)))];have:((2:Int)^j)=((2^j:Nat):Int):=by simp
 rw[this];simp
theorem zQw {T:Option Ty}{u:Nat}(hu:u<2^60):binW .and T (.c (.int .i64 (u:Int))) (.c (.int .i64 1))=some (true,.c (.int .i64 ((u % 2:Nat):Int))):=by
 have e1:(BitVec.ofInt (IntKind.bits .i64) (u:Int)).toNat=u:=by
  show (BitVec.ofInt 64 (u:Int)).toNat=u;rw[BitVec.toNat_ofInt];omega
 have e2:(BitVec.ofInt (IntKind.bits .i64) 1).toNat=1:=by decide
 simp only[binW,if_true,intOp,BitVec.toNat_and,e1,e2];have e3:u &&& 1=u % 2:=Nat.and_one_is_mod u;rw[e3];have hw:IntKind.wrap .i64 ((u % 2:Nat):Int)=((u % 2:Nat):Int):=zD (by omega) (by omega);rw[hw]
theorem zTB {T:Option Ty}{u v:Nat}(hu:u<2^60) (hv:v<2^60):binW .or T (.c (.int .i64 (u:Int))) (.c (.int .i64 (v:Int)))=some (true,.c (.int .i64 ((u ||| v:Nat):Int))):=by
 have e1:∀ x:Nat,x<2^60→(BitVec.ofInt (IntKind.bits .i64) (x:Int)).toNat=x:=fun x hx=>by
  show (BitVec.ofInt 64 (x:Int)).toNat=x;rw[BitVec.toNat_ofInt];omega
 have hor:=Nat.or_lt_two_pow hu hv;simp only[binW,if_true,intOp,BitVec.toNat_or,e1 u hu,e1 v hv];have hw:IntKind.wrap .i64 ((u ||| v:Nat):Int)=((u ||| v:Nat):Int):=zD (by omega) (by omega);rw[hw]
theorem zMf {T:Option Ty}{j:Nat}(hj:j<60):binW .shl T (.c (.int .i64 1)) (.c (.int .i64 (j:Int)))=some (true,.c (.int .i64 ((2^j:Nat):Int))):=by
 have e1:decide (0≤(j:Int))=true:=decide_eq_true (by omega);have e2:min ((j:Int)).toNat (IntKind.bits .i64)=j:=by
  show min ((j:Int)).toNat 64=j;omega
 simp only[binW,e1,e2,Int.one_mul];have h1:(2:Nat)^j<2^60:=Nat.pow_lt_pow_right (by omega) hj;have h2:((2:Int)^j)=((2^j:Nat):Int):=by simp
 have hw:IntKind.wrap .i64 ((2^j:Nat):Int)=((2^j:Nat):Int):=by
  generalize (2:Nat)^j=q at h1;exact zD (by omega) (by omega)
 rw[h2,hw]
theorem zNl (u j:Nat):(((u / 2^j % 2:Nat):Int)==1)=u.testBit j:=by
 rw[Nat.testBit_eq_decide_div_mod_eq,Bool.eq_iff_iff,beq_iff_eq,decide_eq_true_eq];omega
section
variable {a:Act}{w:World}{o:Oper}
theorem zPZ {T:TypeId}(hop:o.op=.makeMap T none):(execOp a.eval o).run Pg w=.ok (.value (.map (some w.heap.size))) (w.alloc (.map #[] 0)):=by
 simp[execOp,hop,Instr.makeMap,newObj,Sem.run]
theorem zRX {x:Operand}{vs:Array Value}{i:Nat}{v:Value}(hop:o.op=.extract x i) (hx:a.eval x=.tuple vs) (hv:vs[i]?=some v):(execOp a.eval o).run Pg w=.ok (.value v) w:=by
 simp[execOp,hop,hx,Instr.extract,hv]
theorem zJY (w:World) (G:Nat→Prop):MapAt (w.alloc (.map #[] 0)) G w.heap.size [] #[] 0:=
 ⟨heap_alloc_new w _,⟨rfl,fun i e k p h=>by simp at h⟩,fun e h=>by simp at h,List.nodup_nil,List.nodup_nil⟩
end
def mv:List (Int×Pol)→Nat→A
 | [],_=>0
 | q::ks,s=>if q.1=(s:Int) then pv q.2 else mv ks s
theorem zLw:∀ {ks:List (Int×Pol)}{s:Nat},(s:Int)∉ks.map (·.1)→mv ks s=0
 | [],s,_=>rfl
 | q::ks,s,h=>by
  simp only[List.map_cons,List.mem_cons,not_or] at h;show (if q.1=(s:Int) then pv q.2 else mv ks s)=0;rw[if_neg fun e=>h.1 e.symm,zLw h.2]
theorem zLv:∀ {ks:List (Int×Pol)}{s j:Nat}{p:Pol},(ks.map (·.1)).Nodup→ks[j]?=some ((s:Int),p)→mv ks s=pv p
 | [],s,j,p,_,h=>by simp at h
 | q::ks,s,0,p,_,h=>by
  simp only[List.getElem?_cons_zero,Option.some.injEq] at h;subst h;exact if_pos rfl
 | q::ks,s,j+1,p,hn,h=>by
  simp only[List.getElem?_cons_succ] at h;simp only[List.map_cons,List.nodup_cons] at hn;show (if q.1=(s:Int) then pv q.2 else mv ks s)=pv p;rw[if_neg fun e=>hn.1 (by rw[e];exact List.mem_map_of_mem (f:=(·.1)) (List.mem_of_getElem? h)),zLv hn.2 h]
theorem zSs:∀ {ks:List (Int×Pol)}{s t:Nat}{p:Pol},(t:Int)∉ks.map (·.1)→mv (ks++[((t:Int),p)]) s=if s=t then pv p else mv ks s
 | [],s,t,p,_=>by
  show (if (t:Int)=(s:Int) then pv p else 0)=if s=t then pv p else 0
  by_cases h:s=t
  · rw[if_pos h,if_pos (by omega)]
  · rw[if_neg h,if_neg (by omega)]
 | q::ks,s,t,p,h=>by
  simp only[List.map_cons,List.mem_cons,not_or] at h;show (if q.1=(s:Int) then pv q.2 else mv (ks++[((t:Int),p)]) s)=if s=t then pv p else (if q.1=(s:Int) then pv q.2 else mv ks s)
  rw[zSs h.2]
  by_cases hs:s=t
  · rw[if_pos hs,if_pos hs,if_neg (by rw[hs];exact fun e=>h.1 e.symm)]
  · rw[if_neg hs,if_neg hs]
theorem zSr:∀ {ks:List (Int×Pol)}{s t j:Nat}{p0 p:Pol},(ks.map (·.1)).Nodup→ks[j]?=some ((t:Int),p0)→mv (ks.set j ((t:Int),p)) s=if s=t then pv p else mv ks s
 | [],s,t,j,p0,p,_,h=>by simp at h
 | q::ks,s,t,0,p0,p,hn,h=>by
  simp only[List.getElem?_cons_zero,Option.some.injEq] at h;subst h;show (if (t:Int)=(s:Int) then pv p else mv ks s)=if s=t then pv p else (if (t:Int)=(s:Int) then pv p0 else mv ks s)
  by_cases hs:s=t
  · rw[if_pos hs,if_pos (by omega)]
  · rw[if_neg hs,if_neg (by omega),if_neg (by omega)]
 | q::ks,s,t,j+1,p0,p,hn,h=>by
  simp only[List.getElem?_cons_succ] at h;simp only[List.map_cons,List.nodup_cons] at hn;show (if q.1=(s:Int) then pv q.2 else mv (ks.set j ((t:Int),p)) s)=if s=t then pv p else (if q.1=(s:Int) then pv q.2 else mv ks s)
  rw[zSr hn.2 h]
  by_cases hs:s=t
  · rw[if_pos hs,if_pos hs,if_neg fun e=>hn.1 (by rw[e,hs];exact List.mem_map_of_mem (f:=(·.1)) (List.mem_of_getElem? h))]
  · rw[if_neg hs,if_neg hs]
def Msk (m:Nat) (K:Int) (ks:List (Int×Pol)):Prop:=∀ q∈ks,(∃ s:Nat,s<2^m∧q.1=(s:Int))∧Pk K q.2
theorem zNI {w:World}{G:Nat→Prop}{bm:Nat}{ks:List (Int×Pol)}{es:Array MapEntry}{clock:Nat}(h:MapAt w G bm ks es clock) {m:Nat}{K:Int}(hm:Msk m K ks) (hK:0≤K) (s:Nat):
  ∃ p ys,PolAt w G p ys∧Pk K p∧pv p=mv ks s∧(Instr.lookup 118 (.map (some bm)) (.int .i64 (s:Int)) false).run Pg w=.ok (.agg ys.toArray) w:=by
 by_cases hs:(s:Int)∈ks.map (·.1)
 · obtain⟨q,hq,hqs⟩:=List.mem_map.mp hs;obtain⟨j,hj,rfl⟩:=List.mem_iff_getElem.mp hq;have hj':ks[j]?=some ((s:Int),ks[j].2):=by rw[List.getElem?_eq_getElem hj,← hqs]
   obtain⟨ys,h1,h2⟩:=zJK h hj';exact⟨ks[j].2,ys,h1,(hm _ hq).2,(zLv h.keys hj').symm,h2⟩
 · exact⟨(0,[]),_,PolAt.zero w G,Pk.zero.up hK,(zLw hs).symm,zJL h hs⟩
theorem zTn {w:World}{G:Nat→Prop}{bm:Nat}{ks:List (Int×Pol)}{es:Array MapEntry}{clock:Nat}(h:MapAt w G bm ks es clock) (hn:¬ G bm) {m:Nat}{K:Int}(hm:Msk m K ks) {s:Nat}(hs:s<2^m) {p:Pol}{ys:List Value}(hp:PolAt w G p ys) (hpk:Pk K p):
  ∃ w' ks' es' clock',(Instr.mapUpdate 118 (.map (some bm)) (.int .i64 (s:Int)) (.agg ys.toArray)).run Pg w=.ok () w'∧KeepB bm w w'∧MapAt w' G bm ks' es' clock'∧Msk m K ks'∧∀ t:Nat,mv ks' t=if t=s then pv p else mv ks t:=by
 by_cases hk:(s:Int)∈ks.map (·.1)
 · obtain⟨q,hq,hqs⟩:=List.mem_map.mp hk;obtain⟨j,hj,rfl⟩:=List.mem_iff_getElem.mp hq;have hj':ks[j]?=some ((s:Int),ks[j].2):=by rw[List.getElem?_eq_getElem hj,← hqs]
   obtain⟨w',h1,h2,es',clock',h3⟩:=zLl h hn hj' hp;refine⟨w',_,es',clock',h1,h2,h3,fun q hq=>?_,fun t=>zSr h.keys hj'⟩
   rcases List.mem_or_eq_of_mem_set hq with hq | hq
   · exact hm q hq
   · rw[hq];exact⟨⟨s,hs,rfl⟩,hpk⟩
 · obtain⟨w',h1,h2,es',clock',h3⟩:=zHQ h hn hk hp;refine⟨w',_,es',clock',h1,h2,h3,fun q hq=>?_,fun t=>zSs hk⟩
   rcases List.mem_append.mp hq with hq | hq
   · exact hm q hq
   · rw[List.mem_singleton.mp hq];exact⟨⟨s,hs,rfl⟩,hpk⟩
end Go.Ev.YtlkmkabnbegfdaaGreatP
namespace Go.Ev.YtlkmkabnbegfdaaGreatP
open Go.Ev Go.Lau
open Go.ChangeMaps (setBlock)
section
variable {a:Act}{w w':World}{o:Oper}
theorem zTj {T:TypeId}{x:Operand}{v u:Value}(hop:o.op=.range T x) (hx:a.eval x=v) (h:(Instr.range T v).run Pg w=.ok u w'):(execOp a.eval o).run Pg w=.ok (.value u) w':=by simp[execOp,hop,hx,h]
theorem zSh {x:Operand}{v u:Value}(hop:o.op=.next x false) (hx:a.eval x=v) (h:(Instr.next v false o.type).run Pg w=.ok u w'):(execOp a.eval o).run Pg w=.ok (.value u) w':=by simp[execOp,hop,hx,h]
theorem zTl {x:Operand}{v u:Value}(hop:o.op=.entry x) (hx:a.eval x=v) (h:(Instr.entry v).run Pg w=.ok u w'):(execOp a.eval o).run Pg w=.ok (.value u) w':=by simp[execOp,hop,hx,h]
theorem zPa {T:TypeId}{x y:Operand}{v u k:Value}(hop:o.op=.lookup T x y false) (hx:a.eval x=v) (hy:a.eval y=k) (h:(Instr.lookup T v k false).run Pg w=.ok u w'):(execOp a.eval o).run Pg w=.ok (.value u) w':=by simp[execOp,hop,hx,hy,h]
theorem zUr {T:TypeId}{x y z:Operand}{v u k:Value}(hop:o.op=.mapUpdate T x y z∨o.op=.insert T x y z) (hx:a.eval x=v) (hy:a.eval y=k) (hz:a.eval z=u) (h:(Instr.mapUpdate T v k u).run Pg w=.ok () w'):(execOp a.eval o).run Pg w=.ok .skip w':=by
 rcases hop with hop | hop<;>simp[execOp,hop,hx,hy,hz,h]
end
section
variable {ops:Array Oper}{Q:Exit→Act→World→Prop}{K:Act→World→Prop}{i d:Nat}{o:Oper}{a:Act}{w w':World}{v:Value}
theorem zD7 (ho:o.guard=none):Region.wanted o (yielded ops a.tmps)=true:=by simp[Region.wanted,ho]
theorem zLt (ho:ops[i]?=some o) (hg:o.guard=none) (hd:o.dst=some d) (hr:(execOp a.eval o).run Pg w=.ok (.value v) w') (h:K (a.put (some d) v) w'):wpOp Pg ops Q i K a w:=by
 unfold wpOp;simp only[ho,zD7 hg,if_true];refine .inl ?_;unfold Oper.wp;rw[hr,Oper.upon_value,hd];exact h
theorem zSq (ho:ops[i]?=some o) (hg:o.guard=none) (hd:o.dst=none) (hr:(execOp a.eval o).run Pg w=.ok .skip w') (h:K a w'):wpOp Pg ops Q i K a w:=by
 unfold wpOp;simp only[ho,zD7 hg,if_true];refine .inl ?_;unfold Oper.wp;rw[hr,Oper.upon_skip,hd];exact h
theorem zNC {f:FuncId}{args:Array Value}(ho:ops[i]?=some o) (hg:o.guard=none) (hd:o.dst=some d) (hr:(execOp a.eval o).run Pg w=.ok (.enter f args) w) (h:Calls Pg f args w fun e w'=>∃ v,e=.returned v∧K (a.put (some d) v) w'):wpOp Pg ops Q i K a w:=by
 unfold wpOp;simp only[ho,zD7 hg,if_true];refine .inl ?_;unfold Oper.wp;rw[hr,Oper.upon_enter,hd];refine h.mono ?_;rintro e w' ⟨v,rfl,h⟩;exact h
theorem zAu (w:World):KeepA w { w with drawn:=w.drawn+1 }:=⟨Nat.le_refl _,⟨rfl,rfl,rfl,Nat.le_succ _⟩,fun _ _=>rfl⟩
end
structure Dw (w:World) (G G':Nat→Prop) (b2 bm nb ri:Nat) (ks nx:List (Int×Pol)) (es:Array MapEntry) (clock since:Nat) (seen:Array Nat) (c0:Nat) (W:World):Prop where
 keep:KeepA w W
 lt:∀ b,G' b→b<W.heap.size
 up:∀ b,G b→G' b
 gn:∀ b,G' b→G b∨w.heap.size≤b
 m:MapAt W G' bm ks es clock
 n:∃ es2 clock2,MapAt W G' nb nx es2 clock2
 it:W.heap[ri]?=some (.mapIter (some bm) since seen c0)
 box:Row W b2 2
 nw:w.heap.size≤bm∧w.heap.size≤nb∧w.heap.size≤ri∧bm≠nb∧bm≠ri∧nb≠ri∧b2≠bm∧b2≠nb∧b2≠ri
 ng:¬ G' bm∧¬ G' nb∧¬ G' ri∧¬ G' b2
section
variable {w:World}{G G':Nat→Prop}{b2 bm nb ri:Nat}{ks nx:List (Int×Pol)}{es:Array MapEntry}{clock since:Nat}{seen:Array Nat}{c0:Nat}{W W':World}
theorem Dw.blts (h:Dw w G G' b2 bm nb ri ks nx es clock since seen c0 W):bm<W.heap.size∧nb<W.heap.size∧ri<W.heap.size∧b2<W.heap.size:=by
 obtain⟨es2,c2,hn⟩:=h.n;obtain⟨cs,T,g,_⟩:=h.box;exact⟨h.m.lt,hn.lt,(Array.getElem?_eq_some_iff.1 h.it).1,(Array.getElem?_eq_some_iff.1 g).1⟩
theorem Dw.frame (h:Dw w G G' b2 bm nb ri ks nx es clock since seen c0 W) (hs:W.heap.size≤W'.heap.size) (hl:Like W W') (hb:∀ b,b<W.heap.size→(b<w.heap.size∨G' b∨b=bm∨b=nb∨b=ri∨b=b2)→W'.heap[b]?=W.heap[b]?):Dw w G G' b2 bm nb ri ks nx es clock since seen c0 W':=by
 obtain⟨l1,l2,l3,l4⟩:=h.blts;obtain⟨es2,c2,hn⟩:=h.n;have hG:∀ b,b<W.heap.size→G' b→W'.heap[b]?=W.heap[b]?:=fun b h1 h2=>hb b h1 (.inr (.inl h2));exact⟨⟨Nat.le_trans h.keep.1 hs,h.keep.2.1.trans hl,fun b h1=>(hb b (Nat.lt_of_lt_of_le h1 h.keep.1) (.inl h1)).trans (h.keep.2.2 b h1)⟩,fun b h1=>Nat.lt_of_lt_of_le (h.lt b h1) hs,h.up,h.gn,h.m.keep hs hG (hb _ l1 (by simp)),⟨es2,c2,hn.keep hs hG (hb _ l2 (by simp))⟩,(hb _ l3 (by simp)).trans h.it,h.box.keep (hb _ l4 (by simp)),h.nw,h.ng⟩
theorem Dw.keepA (h:Dw w G G' b2 bm nb ri ks nx es clock since seen c0 W) (k:KeepA W W'):Dw w G G' b2 bm nb ri ks nx es clock since seen c0 W':=h.frame k.1 k.2.1 fun b hb _=>k.2.2 b hb
theorem Dw.keepB (h:Dw w G G' b2 bm nb ri ks nx es clock since seen c0 W) {x:Nat}(k:KeepB x W W') (hx:w.heap.size≤x∧¬ G' x∧x≠bm∧x≠nb∧x≠ri∧x≠b2):Dw w G G' b2 bm nb ri ks nx es clock since seen c0 W':=h.frame k.1 k.2.1 fun b hb hc=>k.2.2 b hb fun e=>by
 subst e;obtain⟨x1,x2,x3,x4,x5,x6⟩:=hx
 rcases hc with hc | hc | hc | hc | hc | hc
 · omega
 · exact x2 hc
 · exact x3 hc
 · exact x4 hc
 · exact x5 hc
 · exact x6 hc
theorem Dw.grow (h:Dw w G G' b2 bm nb ri ks nx es clock since seen c0 W) (k:KeepA W W'):Dw w G (Gn G' W W') b2 bm nb ri ks nx es clock since seen c0 W':=by
 obtain⟨l1,l2,l3,l4⟩:=h.blts;have h':=h.keepA k;obtain⟨es2,c2,hn⟩:=h'.n;obtain⟨n1,n2,n3,n4⟩:=h.ng;refine⟨h'.keep,fun b hb=>hb.elim (fun e=>Nat.lt_of_lt_of_le (h.lt b e) k.1) (·.2),fun b hb=>.inl (h.up b hb),fun b hb=>hb.elim (h.gn b) (fun e=>.inr (Nat.le_trans h.keep.1 e.1)),h'.m.up fun b _ hb=>.inl hb,⟨es2,c2,hn.up fun b _ hb=>.inl hb⟩,h'.it,h'.box,h.nw,?_⟩;exact⟨fun e=>e.elim n1 (fun e=>by omega),fun e=>e.elim n2 (fun e=>by omega),fun e=>e.elim n3 (fun e=>by omega),fun e=>e.elim n4 (fun e=>by omega)⟩
theorem Dw.iter (h:Dw w G G' b2 bm nb ri ks nx es clock since seen c0 W) (k:KeepB ri W W') {seen':Array Nat}{c0':Nat}(hi:W'.heap[ri]?=some (.mapIter (some bm) since seen' c0')):Dw w G G' b2 bm nb ri ks nx es clock since seen' c0' W':=by
 obtain⟨l1,l2,l3,l4⟩:=h.blts;obtain⟨es2,c2,hn⟩:=h.n;obtain⟨n1,n2,n3,n4⟩:=h.ng;obtain⟨m1,m2,m3,m4,m5,m6,m7,m8,m9⟩:=h.nw;have hG:∀ b,b<W.heap.size→G' b→W'.heap[b]?=W.heap[b]?:=fun b h1 h2=>k.2.2 b h1 fun e=>n3 (e ▸ h2);exact⟨⟨Nat.le_trans h.keep.1 k.1,h.keep.2.1.trans k.2.1,fun b h1=>(k.2.2 b (Nat.lt_of_lt_of_le h1 h.keep.1) (by omega)).trans (h.keep.2.2 b h1)⟩,fun b h1=>Nat.lt_of_lt_of_le (h.lt b h1) k.1,h.up,h.gn,h.m.keep k.1 hG (k.2.2 _ l1 m5),⟨es2,c2,hn.keep k.1 hG (k.2.2 _ l2 m6)⟩,hi,h.box.keep (k.2.2 _ l4 m9),h.nw,h.ng⟩
theorem Dw.put (h:Dw w G G' b2 bm nb ri ks nx es clock since seen c0 W) (k:KeepB nb W W') {nx':List (Int×Pol)}{es2:Array MapEntry}{c2:Nat}(hn:MapAt W' G' nb nx' es2 c2):Dw w G G' b2 bm nb ri ks nx' es clock since seen c0 W':=by
 obtain⟨l1,l2,l3,l4⟩:=h.blts;obtain⟨n1,n2,n3,n4⟩:=h.ng;obtain⟨m1,m2,m3,m4,m5,m6,m7,m8,m9⟩:=h.nw;have hG:∀ b,b<W.heap.size→G' b→W'.heap[b]?=W.heap[b]?:=fun b h1 h2=>k.2.2 b h1 fun e=>n2 (e ▸ h2);exact⟨⟨Nat.le_trans h.keep.1 k.1,h.keep.2.1.trans k.2.1,fun b h1=>(k.2.2 b (Nat.lt_of_lt_of_le h1 h.keep.1) (by omega)).trans (h.keep.2.2 b h1)⟩,fun b h1=>Nat.lt_of_lt_of_le (h.lt b h1) k.1,h.up,h.gn,h.m.keep k.1 hG (k.2.2 _ l1 m4),⟨es2,c2,hn⟩,(k.2.2 _ l3 fun e=>m6 e.symm).trans h.it,h.box.keep (k.2.2 _ l4 m8),h.nw,h.ng⟩
theorem zP7 {w1:World}{o:Go.Obj}(h:w1=W∨w1=W.drew):KeepB ri W (setBlock w1 ri o):=by
 have hd:KeepA W W.drew:=⟨Nat.le_refl _,⟨rfl,rfl,rfl,Nat.le_succ _⟩,fun _ _=>rfl⟩
 rcases h with rfl | rfl
 · exact zDb
 · have:=zDb (w:=W.drew) (bm:=ri) (o:=o);exact⟨this.1,hd.2.1.trans this.2.1,this.2.2⟩
theorem zRO {w1:World}{o o':Go.Obj}(h:w1=W∨w1=W.drew) (hr:W.heap[ri]?=some o'):(setBlock w1 ri o).heap[ri]?=some o:=by
 rcases h with rfl | rfl
 · exact zEx hr
 · exact zEx (w:=W.drew) hr
theorem Dw.freeze (h:Dw w G G' b2 bm nb ri ks nx es clock since seen c0 W) {x:Nat}(hx:x<W.heap.size) (hxw:w.heap.size≤x) (hn:x≠bm∧x≠nb∧x≠ri∧x≠b2):Dw w G (fun b=>G' b∨b=x) b2 bm nb ri ks nx es clock since seen c0 W:=by
 obtain⟨es2,c2,hn'⟩:=h.n;obtain⟨n1,n2,n3,n4⟩:=h.ng;obtain⟨x1,x2,x3,x4⟩:=hn;exact⟨h.keep,fun b hb=>hb.elim (h.lt b) (fun e=>e ▸ hx),fun b hb=>.inl (h.up b hb),fun b hb=>hb.elim (h.gn b) (fun e=>.inr (e ▸ hxw)),h.m.up fun b _ hb=>.inl hb,⟨es2,c2,hn'.up fun b _ hb=>.inl hb⟩,h.it,h.box,h.nw,fun e=>e.elim n1 fun e=>x1 e.symm,fun e=>e.elim n2 fun e=>x2 e.symm,fun e=>e.elim n3 fun e=>x3 e.symm,fun e=>e.elim n4 fun e=>x4 e.symm⟩
end
structure Lw (w:World) (G G':Nat→Prop) (b2 bm n:Nat) (K:Int) (M:List (List Pol)) (t:Nat) (ks:List (Int×Pol)) (es:Array MapEntry) (clock:Nat) (W:World):Prop where
 keep:KeepA w W
 lt:∀ b,G' b→b<W.heap.size
 up:∀ b,G b→G' b
 gn:∀ b,G' b→G b∨w.heap.size≤b
 m:MapAt W G' bm ks es clock
 box:Row W b2 2
 nw:w.heap.size≤bm∧w.heap.size≤b2∧b2≠bm
 ng:¬ G' bm∧¬ G' b2
 msk:Msk n (t*K+1) ks
 val:∀ s,s<2^n→mv ks s=wl n (w0 n) ((List.range t).map fun k=>rv (M.getD k [])) (stOf s)
theorem zVT {n s:Nat}(hs:s<2^n):w0 n (stOf s)=if s=0 then 1 else 0:=by
 by_cases h:s=0
 · subst h;rw[if_pos rfl];unfold w0;rw[if_pos];rw[List.all_eq_true];intro j _;simp[stOf]
 · rw[if_neg h];obtain⟨j,hj⟩:=Nat.exists_testBit_of_ne_zero h;exact zO0 (zTC hs hj) hj
theorem zSF {T:Option Ty}{n:Nat}(hn:n≤50):binW .sub T (.c (.int .i64 ((2^n:Nat):Int))) (.c (.int .i64 1))=some (true,.c (.int .i64 ((2^n-1:Nat):Int))):=by
 have h1:(2:Nat)^n≤2^50:=Nat.pow_le_pow_right (by omega) hn;have h2:0<(2:Nat)^n:=Nat.pow_pos (by omega);have hw:IntKind.wrap .i64 (((2^n:Nat):Int)-1)=((2^n-1:Nat):Int):=by
  generalize (2:Nat)^n=q at h1 h2;have:((q:Int)-1)=((q-1:Nat):Int):=by omega
  rw[this];exact zD (by omega) (by omega)
 simp only[binW,if_true,intOp,hw]
theorem zM5 {a:Act}{w:World}{fn:Func}{d b:Nat}{T:TypeId}{t:Ty}{vs:List Value}(hT:TyOK Pg t T) (hts:t.scalar=false) (h:fn.results=#[.cell d T]) (hx:a.eval (.tmp d)=.pointer (some ⟨b,0,none⟩)) (hl:vs.length=t.cells) (hc:∀ j v,vs[j]?=some v→w.cell? ⟨b,0+j,none⟩=some v):
  (results fn a.tmps).run Pg w=.ok (.agg vs.toArray) w:=by
 rw[zFh,h];have e1:a.tmps.getD d undef=.pointer (some ⟨b,0,none⟩):=hx;have:=zA5 (P:=Pg) (w:=w) hT hts (a:=⟨b,0,none⟩) hl (fun j v hv=>by rw[zCP];exact hc j v hv);simp[resF,e1,asAddr,this]
def Dn (es:Array MapEntry) (seen:Array Nat) (u:Nat):Prop:=∃ e∈es.toList,e.key=.int .i64 (u:Int)∧seen.contains e.born=true
attribute [local instance] Classical.propDecidable
theorem zQO {W:World}{G':Nat→Prop}{bm:Nat}{ks:List (Int×Pol)}{es:Array MapEntry}{clock:Nat}(hm:MapAt W G' bm ks es clock) {seen:Array Nat}(hall:∀ x∈es.toList,seen.contains x.born=true) {u:Nat}(hu:(u:Int)∈ks.map (·.1)):Dn es seen u:=by
 obtain⟨q,hq,hqu⟩:=List.mem_map.mp hu;obtain⟨j,hj,rfl⟩:=List.mem_iff_getElem.mp hq;have hje:j<es.toList.length:=by rw[hm.ents.len];exact hj
 obtain⟨h1,_⟩:=hm.ents.ent j _ ks[j].1 ks[j].2 (List.getElem?_eq_getElem hje) (List.getElem?_eq_getElem hj);exact⟨_,List.getElem_mem hje,by rw[h1,hqu],hall _ (List.getElem_mem hje)⟩
theorem zOY {W:World}{G':Nat→Prop}{bm:Nat}{ks:List (Int×Pol)}{es:Array MapEntry}{clock:Nat}(hm:MapAt W G' bm ks es clock) {m:Nat}{K:Int}(hk:Msk m K ks) {e:MapEntry}(he:e∈es.toList):
  ∃ (u:Nat) (p:Pol) (ys:List Value),u<2^m∧e.key=.int .i64 (u:Int)∧e.val=.agg ys.toArray∧PolAt W G' p ys∧Pk K p∧pv p=mv ks u:=by
 obtain⟨j,hj,rfl⟩:=List.mem_iff_getElem.mp he;have hjk:j<ks.length:=by rw[← hm.ents.len];exact hj
 obtain⟨h1,ys,h2,h3⟩:=hm.ents.ent j _ ks[j].1 ks[j].2 (List.getElem?_eq_getElem hj) (List.getElem?_eq_getElem hjk);obtain⟨⟨u,hu,hku⟩,hp⟩:=hk _ (List.getElem_mem hjk);exact⟨u,ks[j].2,ys,hu,by rw[h1,hku],h2,h3,hp,(zLv hm.keys (by rw[List.getElem?_eq_getElem hjk,← hku])).symm⟩
set_option maxHeartbeats 4000000 in
theorem zQP {w:World}{G:Nat→Prop}{ad:Option Addr}{n cp:Nat}{rs:List Nat}{M:List (List Pol)}(hV:MatV w G ad n rs M) (hrn:rs.length=n) (hn:n≤50) {K:Int}(hK:(n:Int)*K+1<100000000) (hK0:0≤K)
  (hM:∀ l∈M,l.length=n∧Pl K l):
  Calls Pg 55 #[.slice ad n cp] w fun e w'=>∃ q ys,e=.returned (.agg ys.toArray)∧KeepA w w'∧PolAt w' (Gn G w w') q ys∧Pk (n*K+1) q∧pv q=det n (fun k=>rv (M.getD k [])):=by
 have hE:EnvTy Pg E:=envOk.ty;have h89:E.ty 89=some (.slice LPT):=by kernel_rfl
 have h91:E.ty 91=some LPT:=by kernel_rfl
 have h69:E.ty 69=some PolT:=by kernel_rfl
 have h24:E.ty 24=some (.slice (.int .i64)):=by kernel_rfl
 obtain⟨_,e91,hT91,hte91⟩:=hE.ty _ _ h91;obtain⟨i91,hi91,_,hs91,_,_,_⟩:=hte91.base;have hs91':i91.size=2:=hs91;obtain⟨_,e89,hT89,hte89⟩:=hE.ty _ _ h89;obtain⟨i89,hi89,_,hs89,_,_,_⟩:=hte89.base;have hs89':i89.size=1:=hs89;have hMl:M.length=n:=by rw[← hV.mat.len];exact hrn
 refine zCl Go.Proofs.Tryz.func55 rfl Go.Proofs.Tryz.ntmps55 (by omega) fun a hsz hdf h0=>?_;refine wp_seq (wp_region ?_);refine zCR (d:=2) hE h69 rfl rfl rfl rfl fun wa hk0 hr0=>?_;refine zU ?_;generalize hb2:w.heap.size=b2 at *;have hz0:b2<wa.heap.size:=by obtain⟨cs,T,g,_⟩:=hr0;exact (Array.getElem?_eq_some_iff.1 g).1
 refine wp_seq (wp_region ?_);refine zF (d:=13) (v:=.map (some wa.heap.size)) rfl rfl rfl (zPZ rfl) ?_;have hk1:=kv wa (.map #[] 0);have hsz1:=zi wa (.map #[] 0);have hm1:=zJY wa (Gn (Gn G w wa) (wa.alloc (.map #[] 0)) (wa.alloc (.map #[] 0)));generalize hw1:wa.alloc (.map #[] 0)=w1 at *;refine zRB (d:=14) hE h24 rfl rfl rfl rfl rfl [.int .i64 1] rfl (by simp) (by simp[enumL];rfl) (by simp[Value.cells]) fun w2 hk2 hz2 hr2 hc2=>?_;refine zF (d:=15) (v:=.agg #[.int .i64 0,.slice (some ⟨w1.heap.size,0,none⟩) 1 1]) rfl rfl rfl (zLo (T:=40) rfl (by simpa[zB,zA,hsz] using zQt _ _ _ _)) ?_;refine zCz (f:=80) (args:=#[.agg #[.int .i64 0,.slice (some ⟨w1.heap.size,0,none⟩) 1 1]]) (d:=16) rfl rfl rfl (by rw[r_fn (g:=80) rfl rfl (zAV Go.Proofs.Tryz.func80 (by kernel_rfl))];simp[zB,zA,hsz]) ?_;refine (zKV (G:=fun b=>G b∨b=w1.heap.size) (by omega) (.inr rfl) (hc2 0 _ rfl)).mono ?_;rintro e w3 ⟨q,ys,rfl,hk3,hp3,hq,hqv⟩;refine⟨_,rfl,?_⟩;have hz2':w1.heap.size=wa.heap.size+1:=hsz1;have hG1:∀ b,Gn (fun b=>G b∨b=w1.heap.size) w2 w3 b→G b∨(w1.heap.size≤b∧b<w3.heap.size):=fun b hb=>by
  have:=hk3.1
  rcases hb with (hb | hb) | hb
  · exact .inl hb
  · exact .inr (by omega)
  · exact .inr (by omega)
 have hkw3:KeepA w w3:=((hk0.trans hk1).trans hk2).trans hk3;have hA13:KeepA w1 w3:=hk2.trans hk3;have hlt1:∀ b,Gn (fun b=>G b∨b=w1.heap.size) w2 w3 b→b<w3.heap.size:=fun b hb=>(hG1 b hb).elim (fun h=>Nat.lt_of_lt_of_le (hV.mat.lt b h) hkw3.1) (·.2);have hwb2:w.heap.size≤b2:=by omega
 have hm1':MapAt w1 (Gn (fun b=>G b∨b=w1.heap.size) w2 w3) wa.heap.size [] #[] 0:=by rw[← hw1];exact zJY wa _
 have hm3:MapAt w3 (Gn (fun b=>G b∨b=w1.heap.size) w2 w3) wa.heap.size [] #[] 0:=
  ⟨(hA13.2.2 _ (by omega)).trans hm1'.blk,⟨rfl,fun i e k p h=>by simp at h⟩,hm1'.old,hm1'.nd,hm1'.keys⟩
 have hng3:¬ Gn (fun b=>G b∨b=w1.heap.size) w2 w3 wa.heap.size:=fun h=>(hG1 _ h).elim (fun h=>by have:=hV.mat.lt _ h;have:=hk0.1;omega) (fun h=>by omega)
 have hnb2:¬ Gn (fun b=>G b∨b=w1.heap.size) w2 w3 b2:=fun h=>(hG1 _ h).elim (fun h=>by have:=hV.mat.lt _ h;omega) (fun h=>by omega)
 obtain⟨w4,hrun4,hk4,es4,cl4,hm4⟩:=zHQ hm3 hng3 (k:=0) (by simp) hp3;refine zOx (w':=w4) rfl rfl rfl (zUr (.inr rfl) (v:=.map (some wa.heap.size)) (k:=.int .i64 0) (u:=.agg ys.toArray) (by simp[zB,zA,hsz]) rfl (by simp[zB,zA,hsz]) hrun4) ?_;refine zF (d:=17) (v:=.map (some wa.heap.size)) rfl rfl rfl (r_mv (.inl rfl) (by simp[zB,zA,hsz])) ?_;refine zF (d:=3) (v:=.map (some wa.heap.size)) rfl rfl rfl (r_mv (.inr rfl) (by simp[zB,zA,hsz])) (zU ?_);rw[List.nil_append] at hm4;have hL0:Lw w G (Gn (fun b=>G b∨b=w1.heap.size) w2 w3) b2 wa.heap.size n K M 0 [(0,q)] es4 cl4 w4:=by
  have hkw4:∀ b,b<w.heap.size→w4.heap[b]?=w.heap[b]?:=fun b hb=>(hk4.2.2 b (Nat.lt_of_lt_of_le hb hkw3.1) (by have:=hk0.1;omega)).trans (hkw3.2.2 b hb)
  refine⟨⟨Nat.le_trans hkw3.1 hk4.1,hkw3.2.1.trans hk4.2.1,hkw4⟩,fun b hb=>Nat.lt_of_lt_of_le (hlt1 b hb) hk4.1,fun b hb=>.inl (.inl hb),fun b hb=>(hG1 b hb).imp id fun h=>by have:=hk0.1;omega,hm4,?_,⟨hk0.1,hwb2,by omega⟩,⟨hng3,hnb2⟩,fun p hp=>?_,fun s hs=>?_⟩
  · exact Row.keep (Row.keep hr0 ((hA13.2.2 _ (by omega)).trans (hk1.2.2 _ hz0))) (hk4.2.2 _ (by have:=hA13.1;omega) (by omega))
  · rw[List.mem_singleton.mp hp];exact⟨⟨0,Nat.pow_pos (by omega),rfl⟩,hq.up (by simp)⟩
  · show (if (0:Int)=(s:Int) then pv q else 0)=w0 n (stOf s);rw[zVT hs,hqv]
    by_cases h:s=0
    · rw[if_pos h,if_pos (by omega)]
    · rw[if_neg h,if_neg (by omega)]
 clear hm1 hm1' hm3 hm4;refine wp_seq (wp_seq (wp_region ?_));refine zF (d:=18) (v:=.slice ad n cp) rfl rfl rfl (r_mv (.inl rfl) (by simp[zB,zA,hsz,h0])) ?_;refine zF (d:=19) (v:=.int .i64 n) rfl rfl rfl (zIK (addr:=ad) (cap:=cp) hT89 rfl (by simp[zB,zA,hsz])) ?_;refine zF (d:=20) (v:=.int .i64 0) rfl rfl rfl (r_mv (.inl rfl) rfl) (zU ?_)
 refine wp_block (wp_loop (I:=fun a W=>a.tmps.size=84∧a.defers=[]∧a.eval (.tmp 0)=.slice ad n cp∧a.eval (.tmp 2)=.pointer (some ⟨b2,0,none⟩)∧a.eval (.tmp 18)=.slice ad n cp∧a.eval (.tmp 19)=.int .i64 n ∧
  ∃ (t:Nat) (G':Nat→Prop) (bm:Nat) (ks:List (Int×Pol)) (es:Array MapEntry) (clock:Nat),t≤n∧a.eval (.tmp 20)=.int .i64 t∧a.eval (.tmp 3)=.map (some bm)∧Lw w G G' b2 bm n K M t ks es clock W) (fun a W=>n-natOf (a.eval (.tmp 20))) ?_ ?_)
 · exact⟨by simp[zA,hsz],by simp[zT,hdf],by simp[zB,zA,hsz,h0],by simp[zB,zA,hsz],by simp[zB,zA,hsz],by simp[zB,zA,hsz],0,_,_,_,_,_,by omega,by simp[zB,zA,hsz],by simp[zB,zA,hsz],hL0⟩
 · rintro a W ⟨hsz,hdf,h0,h2,h18,h19,t,G',bm,ks,es,clock,htn,h20,h3,hL⟩;refine wp_seq (wp_region ?_);refine zF (d:=21) (v:=.bool (decide ((t:Int)<n))) rfl rfl rfl (kU (k:=.i64) (m:=(t:Int)) (m':=(n:Int)) (u:=.bool _) hE rfl (by simp[h20]) (by simp[h19]) rfl) (zU ?_);have h20o:=h20
   by_cases hlt:t<n
   · refine wp_seq (wp_cond_true (by simp[zB,zA,hsz];omega) (wp_skip ?_));refine wp_seq (wp_block ?_);obtain⟨r,hr⟩:∃ r,rs[t]?=some r:=⟨rs[t]'(by omega),List.getElem?_eq_getElem (by omega)⟩;obtain⟨l,hl⟩:∃ l,M[t]?=some l:=⟨M[t]'(by omega),List.getElem?_eq_getElem (by omega)⟩;have hrow:=hV.mat.row t r l hr hl;obtain⟨hll,hlP⟩:=hM l (List.mem_of_getElem? hl);have hcw:=hV.cell t r hr;obtain⟨ob,oo,rfl⟩:∃ ob oo,ad=some ⟨ob,oo,none⟩:=by
      cases hq:ad with
      | none=>rw[hq] at hcw;simp[cellAt] at hcw
      | some x=>
       obtain⟨e,_⟩:=hV.out x hq (by omega);exact⟨x.block,x.off,by cases x;simp only at e;subst e;rfl⟩
     have hob:ob<w.heap.size:=(hV.out _ rfl (by omega)).2.1;simp only[cellAt,Option.bind_some] at hcw;have hcW:W.cell? ⟨ob,oo+t,none⟩=some (.slice (some ⟨r,0,none⟩) n n):=by
      simp only[World.cell?,hL.keep.2.2 _ hob] at hcw ⊢;exact hcw
     refine wp_seq (wp_region ?_);refine zF (d:=22) (v:=.pointer (some ⟨ob,oo+t,none⟩)) rfl rfl rfl (zIb hT89 hi89 hs89' (b:=ob) (off:=oo) (n:=t) (k:=.i64) (len:=n) (cap:=cp) rfl (by simp[zB,zA,hsz,h18]) (by simp[zB,zA,hsz,h20]) hlt) ?_;refine zF (d:=23) (v:=.slice (some ⟨r,0,none⟩) n n) rfl rfl rfl (zDo hE h91 rfl (b:=ob) (off:=oo+t) rfl (by simp[zB,zA,hsz]) hcW) ?_;refine zF (d:=5) (v:=.slice (some ⟨r,0,none⟩) n n) rfl rfl rfl (r_mv (.inr rfl) (by simp[zB,zA,hsz])) (zU ?_);refine wp_seq (wp_region ?_);refine zF (d:=24) (v:=.map (some W.heap.size)) rfl rfl rfl (zPZ rfl) ?_;refine zF (d:=6) (v:=.map (some W.heap.size)) rfl rfl rfl (r_mv (.inr rfl) (by simp[zB,zA,hsz])) (zU ?_);refine wp_seq (wp_seq (wp_region ?_));refine zF (d:=25) (v:=.map (some bm)) rfl rfl rfl (r_mv (.inl rfl) (by simp[zB,zA,hsz,h3])) ?_;have hkn:KeepA W (W.alloc (.map #[] 0)):=kv W _;have hzn:=zi W (.map #[] 0);have hmn:=zJY W (fun _=>False);generalize hW1:W.alloc (.map #[] 0)=W1 at *;generalize hnb:W.heap.size=nb at *;have hbm:bm<nb:=hnb ▸ hL.m.lt;have hG1:∀ b,b<W.heap.size→G' b→W1.heap[b]?=W.heap[b]?:=fun b hb _=>hkn.2.2 b hb;have hm1:=hL.m.keep hkn.1 hG1 (hkn.2.2 _ hL.m.lt);refine zF (d:=26) (v:=.pointer (some ⟨W1.heap.size,0,none⟩)) (w':=W1.alloc (.mapIter (some bm) clock #[] clock)) rfl rfl rfl (zTj rfl (by simp[zB,zA,hsz]) (run_range_map W1 118 3 69 bm es clock (by kernel_rfl) hm1.blk)) (zU ?_);have hki:KeepA W1 (W1.alloc (.mapIter (some bm) clock #[] clock)):=kv W1 _;have hit:=heap_alloc_new W1 (.mapIter (some bm) clock #[] clock);have hzi:=zi W1 (.mapIter (some bm) clock #[] clock);generalize hW2:W1.alloc (.mapIter (some bm) clock #[] clock)=W2 at *;generalize hri:W1.heap.size=ri at *;have hmW2:=hL.m.keep (w':=W2) (Nat.le_trans hkn.1 hki.1) (fun b hb _=>((hkn.trans hki).2.2 b hb)) ((hkn.trans hki).2.2 _ hL.m.lt);have hD0:Dw w G G' b2 bm nb ri ks [] es clock clock #[] clock W2:=by
      obtain⟨g1,g2,g3⟩:=hL.nw;obtain⟨g4,g5⟩:=hL.ng;have hb2W:b2<nb:=by obtain⟨cs,T,g,_⟩:=hL.box;exact hnb ▸ (Array.getElem?_eq_some_iff.1 g).1
      have hwn:w.heap.size≤nb:=by rw[← hnb];exact hL.keep.1
      have hGnb:∀ b,G' b→b<nb:=fun b hb=>hnb ▸ hL.lt b hb;refine⟨(hL.keep.trans hkn).trans hki,fun b hb=>by have:=hGnb b hb;omega,hL.up,hL.gn,hmW2,⟨#[],0,⟨(hki.2.2 _ (by omega)).trans hmn.blk,⟨rfl,fun i e k p h=>by simp at h⟩,hmn.old,hmn.nd,hmn.keys⟩⟩,hit,hL.box.keep ((hkn.trans hki).2.2 _ (by omega)),⟨g1,hwn,by omega,by omega,by omega,by omega,g3,by omega,by omega⟩,g4,fun h=>by have:=hGnb _ h;omega,fun h=>by have:=hGnb _ h;omega,g5⟩
     generalize hwt:wl n (w0 n) ((List.range t).map fun k=>rv (M.getD k []))=wt at *;have hLv:=hL.val;rw[hwt] at hLv
     refine wp_block (wp_loop (I:=fun a W=>a.tmps.size=84∧a.defers=[]∧a.eval (.tmp 0)=.slice (some ⟨ob,oo,none⟩) n cp∧a.eval (.tmp 2)=.pointer (some ⟨b2,0,none⟩)∧a.eval (.tmp 18)=.slice (some ⟨ob,oo,none⟩) n cp∧a.eval (.tmp 19)=.int .i64 n ∧
      a.eval (.tmp 20)=.int .i64 t∧a.eval (.tmp 5)=.slice (some ⟨r,0,none⟩) n n∧a.eval (.tmp 6)=.map (some nb)∧a.eval (.tmp 26)=.pointer (some ⟨ri,0,none⟩) ∧
      ∃ (G':Nat→Prop) (nx:List (Int×Pol)) (seen:Array Nat) (c0:Nat),Dw w G G' b2 bm nb ri ks nx es clock clock seen c0 W∧clock≤c0∧Msk n ((t+1:Nat)*K+1) nx∧∀ s,s<2^n→mv nx s=acc n (rv l) wt (fun u _=>Dn es seen u) s) (fun a W=>(leftOf es (W.iterSeen ri)).size) ?_ ?_)
     · refine⟨by simp[zA,hsz],by simp[zT,hdf],by simp[zB,zA,hsz,h0],by simp[zB,zA,hsz,h2],by simp[zB,zA,hsz,h18],by simp[zB,zA,hsz,h19],by simp[zB,zA,hsz,h20],by simp[zB,zA,hsz],by simp[zB,zA,hsz],by simp[zB,zA,hsz],G',[],#[],clock,hD0,Nat.le_refl _,fun q hq=>by simp at hq,fun s hs=>?_⟩
       rw[zSP]
       · rfl
       · rintro u c ⟨e,_,_,he⟩;simp at he
     · have hmsk:=hL.msk;clear hD0 hmW2 hm1;rintro a W ⟨hsz,hdf,h0,h2,h18,h19,h20,h5,h6,h26,G',nx,seen,c0,hD,hcc,hMsk,hval⟩;have hNext:=run_next_at (P:=Pg) W 0 ri bm clock c0 seen es clock hD.it hD.m.blk hD.m.old hcc;have hiS:W.iterSeen ri=seen:=by unfold World.iterSeen;rw[hD.it]
       rcases hNext with ⟨hleft,hrun⟩ | ⟨e,he,w1,hw1,hrun⟩
       ·
        refine wp_seq (wp_region ?_);refine zF (d:=27) (v:=.tuple #[.bool false]) (w':=W) rfl rfl rfl (zSh rfl h26 hrun) ?_;refine zF (d:=28) (v:=.bool false) rfl rfl rfl (zRX (vs:=#[.bool false]) rfl (by simp[zB,zA,hsz]) rfl) (zU ?_);refine wp_seq (wp_cond_false (by simp[zB,zA,hsz]) (wp_exit (wp_region ?_)));refine zF (d:=76) (v:=.map (some nb)) rfl rfl rfl (r_mv (.inl rfl) (by simp[zB,zA,hsz,h6])) ?_;refine zF (d:=3) (v:=.map (some nb)) rfl rfl rfl (r_mv (.inr rfl) (by simp[zB,zA,hsz])) (zMu (wp_region ?_));refine zF (d:=77) (v:=.int .i64 (t+1:Nat)) rfl rfl rfl (kU (k:=.i64) (m:=(t:Int)) (m':=1) (u:=.int .i64 _) hE rfl (by simp[zB,zA,hsz,h20]) rfl (jc (by omega))) ?_;refine zF (d:=20) (v:=.int .i64 (t+1:Nat)) rfl rfl rfl (r_mv (.inl rfl) (by simp[zB,zA,hsz])) (zU ?_);obtain⟨es2,cl2,hn2⟩:=hD.n
        refine⟨⟨by simp[zA,hsz],by simp[zT,hdf],by simp[zB,zA,hsz,h0],by simp[zB,zA,hsz,h2],by simp[zB,zA,hsz,h18],by simp[zB,zA,hsz,h19],t+1,G',nb,nx,es2,cl2,by omega,by simp[zB,zA,hsz],by simp[zB,zA,hsz],⟨hD.keep,hD.lt,hD.up,hD.gn,hn2,hD.box,⟨hD.nw.2.1,hwb2,hD.nw.2.2.2.2.2.2.2.1⟩,⟨hD.ng.2.1,hD.ng.2.2.2⟩,hMsk,fun s hs=>?_⟩⟩,?_⟩
        · have hgd:M.getD t []=l:=by rw[List.getD_eq_getElem?_getD,hl];rfl
          rw[hval s hs,List.range_succ,List.map_append,zMr,hwt,List.map_cons,List.map_nil,zD6,hgd];refine zUN fun c hc hb=>?_
          by_cases hk:((wo s c:Nat):Int)∈ks.map (·.1)
          · exact .inl (zQO hD.m (all_seen es seen hleft) hk)
          · exact .inr ((hLv _ (zVP hs hb)).symm.trans (zLw hk))
        · simp[zB,zA,hsz,h20o,natOf];omega
       · have hW':=zP7 (W:=W) (ri:=ri) (o:=.mapIter (some bm) clock (seen.push e.born) clock) hw1;have hit':=zRO (W:=W) (ri:=ri) (o:=.mapIter (some bm) clock (seen.push e.born) clock) hw1 hD.it;generalize hWn:setBlock w1 ri (.mapIter (some bm) clock (seen.push e.born) clock)=W1 at *;have hD1:=hD.iter hW' hit';obtain⟨heL,hnew⟩:=mem_left he;obtain⟨u,p,ys,hu,hek,hev,hp,hpk,hpv⟩:=zOY hD1.m hmsk heL;refine wp_seq (wp_region ?_);refine zF (d:=27) (v:=.tuple #[.bool true,e.key,e.val]) (w':=W1) rfl rfl rfl (zSh rfl h26 hrun) ?_;refine zF (d:=28) (v:=.bool true) rfl rfl rfl (zRX (vs:=#[.bool true,e.key,e.val]) rfl (by simp[zB,zA,hsz]) rfl) (zU ?_);refine wp_seq (wp_cond_true (by simp[zB,zA,hsz]) (wp_skip ?_));refine wp_block ?_;refine wp_seq (wp_region ?_);refine zF (d:=29) (v:=.tuple #[.int .i64 (u:Int),.agg ys.toArray]) rfl rfl rfl (zTl (v:=.pointer (some ⟨ri,0,none⟩)) rfl (by simp[zB,zA,hsz,h26]) (by rw[← hek,← hev];exact run_entry_at W1 ri bm clock seen es clock e hit' hD1.m.blk heL hD1.m.nd)) ?_;refine zF (d:=30) (v:=.int .i64 (u:Int)) rfl rfl rfl (zRX (vs:=#[.int .i64 (u:Int),.agg ys.toArray]) rfl (by simp[zB,zA,hsz]) rfl) ?_;refine zF (d:=31) (v:=.agg ys.toArray) rfl rfl rfl (zRX (vs:=#[.int .i64 (u:Int),.agg ys.toArray]) rfl (by simp[zB,zA,hsz]) rfl) ?_;refine zCR (d:=8) hE h69 rfl rfl rfl rfl fun W2 hk2 hr2=>?_;generalize hb8:W1.heap.size=b8 at *;refine zF (d:=7) (v:=.int .i64 (u:Int)) rfl rfl rfl (r_mv (.inr rfl) (by simp[zB,zA,hsz])) ?_;refine ji (blk:=b8) (off:=0) (m:=2) (ys:=ys) hE h69 rfl rfl rfl rfl (by simp[zB,zA,hsz]) (by simp[zB,zA,hsz]) (by rw[hp.len];rfl) (TRep.oneCell hp) hr2 (by rw[hp.len];omega) fun W3 hk3 hr3 hc3 _=>?_;refine zU ?_;have hD2:=hD1.keepA hk2;have hb8W:b8<W2.heap.size:=by obtain⟨cs,T,g,_⟩:=hr2;exact (Array.getElem?_eq_some_iff.1 g).1
         obtain⟨l1,l2,l3,l4⟩:=hD1.blts;have hb8n:w.heap.size≤b8∧¬ G' b8∧b8≠bm∧b8≠nb∧b8≠ri∧b8≠b2:=⟨by rw[← hb8];exact hD1.keep.1,fun h=>by have:=hD1.lt _ h;omega,by omega,by omega,by omega,by omega⟩;have hD3:=(hD2.keepB hk3 hb8n).freeze (x:=b8) (Nat.lt_of_lt_of_le hb8W hk3.1) hb8n.1 ⟨hb8n.2.2.1,hb8n.2.2.2.1,hb8n.2.2.2.2.1,hb8n.2.2.2.2.2⟩;have hp3:PolAt W3 (fun b=>G' b∨b=b8) p ys:=((hp.keepA hk2).keepB hb8n.2.1 hk3).up fun b _ hb=>.inl hb;clear hD2 hp hD1;refine wp_seq (wp_region ?_);refine zF (d:=32) (v:=.slice (some ⟨r,0,none⟩) n n) rfl rfl rfl (r_mv (.inl rfl) (by simp[zB,zA,hsz,h5])) ?_;refine zF (d:=33) (v:=.int .i64 n) rfl rfl rfl (zIK (addr:=some ⟨r,0,none⟩) (cap:=n) hT91 rfl (by simp[zB,zA,hsz])) ?_;refine zF (d:=34) (v:=.int .i64 0) rfl rfl rfl (r_mv (.inl rfl) rfl) (zU ?_);have hnt:¬ Dn es seen u:=by
          rintro ⟨e',he',hk',hs'⟩;have:e'=e:=by
           obtain⟨i1,h1,rfl⟩:=List.mem_iff_getElem.mp he';obtain⟨i2,h2,rfl⟩:=List.mem_iff_getElem.mp heL;have k1:i1<ks.length:=by rw[← hD.m.ents.len];exact h1
           have k2:i2<ks.length:=by rw[← hD.m.ents.len];exact h2
           obtain⟨q1,_⟩:=hD.m.ents.ent i1 _ ks[i1].1 ks[i1].2 (List.getElem?_eq_getElem h1) (List.getElem?_eq_getElem k1);obtain⟨q2,_⟩:=hD.m.ents.ent i2 _ ks[i2].1 ks[i2].2 (List.getElem?_eq_getElem h2) (List.getElem?_eq_getElem k2);have e1:ks[i1].1=ks[i2].1:=by
            have:=q1.symm.trans (hk'.trans (hek.symm.trans q2));simpa using this
           have r1:(ks.map (·.1))[i1]?=some ks[i1].1:=by rw[List.getElem?_map,List.getElem?_eq_getElem k1];rfl
           have r2:(ks.map (·.1))[i2]?=some ks[i1].1:=by rw[List.getElem?_map,List.getElem?_eq_getElem k2,e1];rfl
           have:i1=i2:=(List.getElem?_inj (by rw[List.length_map];exact k1) hD.m.keys).mp (r1.trans r2.symm);subst this
           rfl
          rw[this,hnew] at hs';simp at hs'
         refine wp_block (wp_loop (I:=fun a W=>a.tmps.size=84∧a.defers=[]∧a.eval (.tmp 0)=.slice (some ⟨ob,oo,none⟩) n cp∧a.eval (.tmp 2)=.pointer (some ⟨b2,0,none⟩)∧a.eval (.tmp 18)=.slice (some ⟨ob,oo,none⟩) n cp∧a.eval (.tmp 19)=.int .i64 n ∧
          a.eval (.tmp 20)=.int .i64 t∧a.eval (.tmp 5)=.slice (some ⟨r,0,none⟩) n n∧a.eval (.tmp 6)=.map (some nb)∧a.eval (.tmp 26)=.pointer (some ⟨ri,0,none⟩) ∧
          a.eval (.tmp 7)=.int .i64 (u:Int)∧a.eval (.tmp 8)=.pointer (some ⟨b8,0,none⟩)∧a.eval (.tmp 32)=.slice (some ⟨r,0,none⟩) n n∧a.eval (.tmp 33)=.int .i64 n ∧
          ∃ (G':Nat→Prop) (nx:List (Int×Pol)) (j:Nat),j≤n∧a.eval (.tmp 34)=.int .i64 j∧Dw w G G' b2 bm nb ri ks nx es clock clock (seen.push e.born) clock W∧G' b8∧(∀ i v,ys[i]?=some v→W.cell? ⟨b8,0+i,none⟩=some v)∧PolAt W G' p ys ∧
           Msk n ((t+1:Nat)*K+1) nx∧∀ s,s<2^n→mv nx s=acc n (rv l) wt (fun v c=>Dn es seen v∨(v=u∧c<j)) s) (fun a W=>n-natOf (a.eval (.tmp 34))) ?_ ?_)
         · refine⟨by simp[zA,hsz],by simp[zT,hdf],by simp[zB,zA,hsz,h0],by simp[zB,zA,hsz,h2],by simp[zB,zA,hsz,h18],by simp[zB,zA,hsz,h19],by simp[zB,zA,hsz,h20],by simp[zB,zA,hsz,h5],by simp[zB,zA,hsz,h6],by simp[zB,zA,hsz,h26],
            by simp[zB,zA,hsz],by simp[zB,zA,hsz],by simp[zB,zA,hsz],by simp[zB,zA,hsz],_,nx,0,by omega,by simp[zB,zA,hsz],hD3,.inr rfl,hc3,hp3,hMsk,fun s hs=>?_⟩
           rw[hval s hs];refine zFX fun c _ _=>?_;exact⟨.inl,fun h=>h.elim id fun h=>absurd h.2 (by omega)⟩
         · have hWm:W.iterSeen ri=seen:=hiS;clear hD3 hc3 hp3 hval hMsk hD;rintro a W ⟨hsz,hdf,h0,h2,h18,h19,h20,h5,h6,h26,h7,h8,h32,h33,G',nx,j,hjn,h34,hD,hg8,hc8,hp,hMsk,hval⟩;refine wp_seq (wp_region ?_);refine zF (d:=35) (v:=.bool (decide ((j:Int)<n))) rfl rfl rfl (kU (k:=.i64) (m:=(j:Int)) (m':=(n:Int)) (u:=.bool _) hE rfl (by simp[h34]) (by simp[h33]) rfl) (zU ?_);have h34o:=h34
           by_cases hjl:j<n
           · refine wp_seq (wp_cond_true (by simp[zB,zA,hsz];omega) (wp_skip ?_));have hrW:=hrow.keepA hD.keep;obtain⟨pj,hpj⟩:∃ pj,l[j]?=some pj:=⟨l[j]'(by omega),List.getElem?_eq_getElem (by omega)⟩;obtain⟨yj,hyj,haj⟩:=hrW.els j pj hpj;have hPj:Pk K pj:=hlP pj (List.mem_of_getElem? hpj);refine wp_seq_k fun K6 hK6=>?_
             have key6:∀ (a:Act) (W:World) (G':Nat→Prop) (nx:List (Int×Pol)),a.tmps.size=84→a.defers=[]→a.eval (.tmp 0)=.slice (some ⟨ob,oo,none⟩) n cp→a.eval (.tmp 2)=.pointer (some ⟨b2,0,none⟩)→a.eval (.tmp 18)=.slice (some ⟨ob,oo,none⟩) n cp→a.eval (.tmp 19)=.int .i64 n →
               a.eval (.tmp 20)=.int .i64 t→a.eval (.tmp 5)=.slice (some ⟨r,0,none⟩) n n→a.eval (.tmp 6)=.map (some nb)→a.eval (.tmp 26)=.pointer (some ⟨ri,0,none⟩)→a.eval (.tmp 7)=.int .i64 (u:Int)→a.eval (.tmp 8)=.pointer (some ⟨b8,0,none⟩)→a.eval (.tmp 32)=.slice (some ⟨r,0,none⟩) n n→a.eval (.tmp 33)=.int .i64 n→a.eval (.tmp 34)=.int .i64 j →
               Dw w G G' b2 bm nb ri ks nx es clock clock (seen.push e.born) clock W→G' b8→(∀ i v,ys[i]?=some v→W.cell? ⟨b8,0+i,none⟩=some v)→PolAt W G' p ys→Msk n ((t+1:Nat)*K+1) nx→(∀ s,s<2^n→mv nx s=acc n (rv l) wt (fun v c=>Dn es seen v∨(v=u∧c<j+1)) s)→K6 a W:=by
              intro a W G' nx hsz hdf h0 h2 h18 h19 h20 h5 h6 h26 h7 h8 h32 h33 h34 hD hg8 hc8 hp hMsk hval;refine hK6 _ _ (wp_region ?_);refine zF (d:=75) (v:=.int .i64 (j+1:Nat)) rfl rfl rfl (kU (k:=.i64) (m:=(j:Int)) (m':=1) (u:=.int .i64 _) hE rfl (by simp[zB,zA,hsz,h34]) rfl (jc (by omega))) ?_;refine zF (d:=34) (v:=.int .i64 (j+1:Nat)) rfl rfl rfl (r_mv (.inl rfl) (by simp[zB,zA,hsz])) (zU ?_)
              refine⟨⟨by simp[zA,hsz],by simp[zT,hdf],by simp[zB,zA,hsz,h0],by simp[zB,zA,hsz,h2],by simp[zB,zA,hsz,h18],by simp[zB,zA,hsz,h19],by simp[zB,zA,hsz,h20],by simp[zB,zA,hsz,h5],by simp[zB,zA,hsz,h6],by simp[zB,zA,hsz,h26],
               by simp[zB,zA,hsz,h7],by simp[zB,zA,hsz,h8],by simp[zB,zA,hsz,h32],by simp[zB,zA,hsz,h33],G',nx,j+1,by omega,by simp[zB,zA,hsz],hD,hg8,hc8,hp,hMsk,hval⟩,?_⟩
              simp[zB,zA,hsz,h34o,natOf];omega
             refine wp_block (wp_seq (wp_region ?_));refine zF (d:=36) (v:=.int .i64 j) rfl rfl rfl (r_mv (.inl rfl) (by simp[zB,zA,hsz,h34])) ?_;refine zF (d:=37) (v:=.pointer (some ⟨r,j*2,none⟩)) rfl rfl rfl (by rw[zIL (b:=r) (off:=0) (n:=j) (k:=.i64) (len:=n) (cap:=n) hT91 hi91 rfl (by simp[zB,zA,hsz,h32]) (by simp[zB,zA,hsz,h34]) hjl,hs91',Nat.zero_add]) ?_;refine zF (d:=38) (v:=.agg yj.toArray) rfl rfl rfl (r_ld hE h69 rfl (b:=r) (off:=j*2) rfl (by simp[zB,zA,hsz]) (by rw[hyj.len];rfl) (fun i v hv=>by have:=haj i v hv;rwa [Nat.zero_add] at this)) ?_;refine zCR (d:=10) hE h69 rfl rfl rfl rfl fun W2 hk2 hr2=>?_;generalize hb10:W.heap.size=b10 at *;refine zF (d:=9) (v:=.int .i64 j) rfl rfl rfl (r_mv (.inr rfl) (by simp[zB,zA,hsz])) ?_;refine ji (blk:=b10) (off:=0) (m:=2) (ys:=yj) hE h69 rfl rfl rfl rfl (by simp[zB,zA,hsz]) (by simp[zB,zA,hsz]) (by rw[hyj.len];rfl) (TRep.oneCell hyj) hr2 (by rw[hyj.len];omega) fun W3 hk3 hr3 hc3 _=>?_;refine zU ?_;obtain⟨l1,l2,l3,l4⟩:=hD.blts;have hb10W:b10<W2.heap.size:=by obtain⟨cs,T,g,_⟩:=hr2;exact (Array.getElem?_eq_some_iff.1 g).1
             have hb10n:w.heap.size≤b10∧¬ G' b10∧b10≠bm∧b10≠nb∧b10≠ri∧b10≠b2:=⟨by rw[← hb10];exact hD.keep.1,fun h=>by have:=hD.lt _ h;omega,by omega,by omega,by omega,by omega⟩;have hD3:=((hD.keepA hk2).keepB hk3 hb10n).freeze (x:=b10) (Nat.lt_of_lt_of_le hb10W hk3.1) hb10n.1 ⟨hb10n.2.2.1,hb10n.2.2.2.1,hb10n.2.2.2.2.1,hb10n.2.2.2.2.2⟩;have hp3:PolAt W3 (fun b=>G' b∨b=b10) p ys:=((hp.keepA hk2).keepB hb10n.2.1 hk3).up fun b _ hb=>.inl hb;have hpj3:PolAt W3 (fun b=>G' b∨b=b10) pj yj:=((hyj.keepA hk2).keepB (fun h=>hb10n.2.1 (hD.up _ h)) hk3).up fun b _ hb=>.inl (hD.up b hb);have hb8l:b8<b10:=by have:=hD.lt b8 hg8;omega
             have hc8':∀ i v,ys[i]?=some v→W3.cell? ⟨b8,0+i,none⟩=some v:=fun i v hv=>by
              have:=hc8 i v hv;simp only[World.cell?,hk3.2.2 b8 (by omega) (by omega),hk2.2.2 b8 (by omega)] at this ⊢;exact this
             clear hD hp hc8;refine wp_seq (wp_seq (wp_region ?_));refine zF (d:=39) (v:=.int .i64 (u:Int)) rfl rfl rfl (r_mv (.inl rfl) (by simp[zB,zA,hsz,h7])) ?_;refine zF (d:=40) (v:=.int .i64 j) rfl rfl rfl (r_mv (.inl rfl) (by simp[zB,zA,hsz])) ?_;refine zF (d:=41) (v:=.int .i64 ((u / 2^j:Nat):Int)) rfl rfl rfl (kU (k:=.i64) (m:=(u:Int)) (m':=(j:Int)) (u:=.int .i64 _) hE rfl (by simp[zB,zA,hsz]) (by simp[zB,zA,hsz]) (zQv (by omega))) ?_;refine zF (d:=42) (v:=.int .i64 ((u / 2^j % 2:Nat):Int)) rfl rfl rfl (kU (k:=.i64) (m:=((u / 2^j:Nat):Int)) (m':=1) (u:=.int .i64 _) hE rfl (by simp[zB,zA,hsz]) rfl (zQw (Nat.lt_of_le_of_lt (Nat.div_le_self _ _) (Nat.lt_of_lt_of_le hu (Nat.pow_le_pow_right (by omega) (by omega)))))) ?_;refine zF (d:=43) (v:=.bool (u.testBit j)) rfl rfl rfl (by rw[← zNl u j];exact kU (k:=.i64) (m:=((u / 2^j % 2:Nat):Int)) (m':=1) (u:=.bool _) hE rfl (by simp[zB,zA,hsz]) rfl rfl) (zU ?_)
             by_cases hbit:u.testBit j=true
             · refine wp_cond_true (by simp[zB,zA,hsz,hbit]) (wp_exit ?_)
               refine key6 _ W3 _ nx (by simp[zA,hsz]) (by simp[zT,hdf]) (by simp[zB,zA,hsz,h0]) (by simp[zB,zA,hsz,h2]) (by simp[zB,zA,hsz,h18]) (by simp[zB,zA,hsz,h19]) (by simp[zB,zA,hsz,h20]) (by simp[zB,zA,hsz,h5]) (by simp[zB,zA,hsz,h6]) (by simp[zB,zA,hsz,h26])
                (by simp[zB,zA,hsz,h7]) (by simp[zB,zA,hsz,h8]) (by simp[zB,zA,hsz,h32]) (by simp[zB,zA,hsz,h33]) (by simp[zB,zA,hsz,h34]) hD3 (.inl hg8) hc8' hp3 hMsk fun s hs=>?_
               rw[hval s hs];refine zFX fun c _ hb=>?_;refine⟨fun h=>h.imp id fun h=>⟨h.1,by omega⟩,fun h=>h.imp id fun h=>⟨h.1,?_⟩⟩;refine Nat.lt_of_le_of_ne (by omega) fun hc=>?_;have:=zUV hb;rw[h.1,hc,hbit] at this;simp at this
             · have hbf:u.testBit j=false:=by simpa using hbit
               refine wp_cond_false (by simp[zB,zA,hsz,hbf]) (wp_skip ?_);refine wp_seq (wp_region ?_);refine zF (d:=44) (v:=.agg yj.toArray) rfl rfl rfl (r_ld hE h69 rfl (b:=b10) (off:=0) rfl (by simp[zB,zA,hsz]) (by rw[hyj.len];rfl) hc3) ?_;refine zF (d:=45) (v:=.agg ys.toArray) rfl rfl rfl (r_ld hE h69 rfl (b:=b8) (off:=0) rfl (by simp[zB,zA,hsz,h8]) (by rw[hp3.len];rfl) hc8') ?_;refine zCz (f:=85) (args:=#[.agg yj.toArray,.agg ys.toArray]) (d:=46) rfl rfl rfl (by rw[r_fn (g:=85) rfl rfl (zAV Go.Proofs.Tryz.func85 (by kernel_rfl))];simp[zB,zA,hsz]) ?_;have hKt:K+((t:Int)*K+1)=((t+1:Nat):Int)*K+1:=by rw[Int.natCast_add,Int.add_mul];simp;omega
               have hKn:((t+1:Nat):Int)*K+1<100000000:=by
                have:((t+1:Nat):Int)*K≤(n:Int)*K:=Int.mul_le_mul_of_nonneg_right (by omega) hK0;omega
               refine (zPs hpj3 hp3 hPj hpk (by rw[hKt];exact hKn)).mono ?_;rintro x W4 ⟨q,yq,rfl,hk4,hq4,hqP,hqv⟩;refine⟨_,rfl,?_⟩;rw[hKt] at hqP;have hD4:=hD3.grow hk4;refine zCR (d:=11) hE h69 rfl rfl rfl rfl fun W5 hk5 hr5=>?_;generalize hb11:W4.heap.size=b11 at *;refine ji (blk:=b11) (off:=0) (m:=2) (ys:=yq) hE h69 rfl rfl rfl rfl (by simp[zB,zA,hsz]) (by simp[zB,zA,hsz]) (by rw[hq4.len];rfl) (TRep.oneCell hq4) hr5 (by rw[hq4.len];omega) fun W6 hk6 hr6 hc6 _=>?_;refine zU ?_;have hp4:PolAt W4 (Gn (fun b=>G' b∨b=b10) W3 W4) p ys:=(hp3.keepA hk4).up fun b _ hb=>.inl hb;generalize hG4:Gn (fun b=>G' b∨b=b10) W3 W4=G4 at *;have hg84:G4 b8:=by rw[← hG4];exact .inl (.inl hg8)
               obtain⟨m1,m2,m3,m4⟩:=hD4.blts;have hb11n:w.heap.size≤b11∧¬ G4 b11∧b11≠bm∧b11≠nb∧b11≠ri∧b11≠b2:=⟨by rw[← hb11];exact hD4.keep.1,fun h=>by have:=hD4.lt _ h;omega,by omega,by omega,by omega,by omega⟩;have hD6:=(hD4.keepA hk5).keepB hk6 hb11n;have hp6:=(hp4.keepA hk5).keepB hb11n.2.1 hk6;have hq6:=(hq4.keepA hk5).keepB hb11n.2.1 hk6;have hc86:∀ i v,ys[i]?=some v→W6.cell? ⟨b8,0+i,none⟩=some v:=fun i v hv=>by
                have:=hc8' i v hv;have e84:b8<W4.heap.size:=hD4.lt _ hg84;have e83:b8<W3.heap.size:=hD3.lt _ (.inl hg8);simp only[World.cell?,hk6.2.2 b8 (Nat.lt_of_lt_of_le e84 hk5.1) (fun e=>hb11n.2.1 (e ▸ hg84)),hk5.2.2 b8 e84,hk4.2.2 b8 e83] at this ⊢;exact this
               have hpu:pv p=wt (stOf u):=by rw[hpv];exact hLv u hu
               clear hD3 hD4 hp3 hp4 hpj3 hq4 hc8' hc3;refine wp_seq (wp_seq (wp_region ?_));refine zF (d:=47) (v:=.int .i64 j) rfl rfl rfl (r_mv (.inl rfl) (by simp[zB,zA,hsz])) ?_;refine zF (d:=48) (v:=.int .i64 (j+1:Nat)) rfl rfl rfl (kU (k:=.i64) (m:=(j:Int)) (m':=1) (u:=.int .i64 _) hE rfl (by simp[zB,zA,hsz]) rfl (jc (by omega))) ?_;refine zF (d:=12) (v:=.int .i64 (j+1:Nat)) rfl rfl rfl (r_mv (.inr rfl) (by simp[zB,zA,hsz])) (zU ?_)
               refine wp_block (wp_loop (I:=fun a W=>a.tmps.size=84∧a.defers=[]∧a.eval (.tmp 0)=.slice (some ⟨ob,oo,none⟩) n cp∧a.eval (.tmp 2)=.pointer (some ⟨b2,0,none⟩)∧a.eval (.tmp 18)=.slice (some ⟨ob,oo,none⟩) n cp∧a.eval (.tmp 19)=.int .i64 n ∧
                a.eval (.tmp 20)=.int .i64 t∧a.eval (.tmp 5)=.slice (some ⟨r,0,none⟩) n n∧a.eval (.tmp 6)=.map (some nb)∧a.eval (.tmp 26)=.pointer (some ⟨ri,0,none⟩) ∧
                a.eval (.tmp 7)=.int .i64 (u:Int)∧a.eval (.tmp 8)=.pointer (some ⟨b8,0,none⟩)∧a.eval (.tmp 32)=.slice (some ⟨r,0,none⟩) n n∧a.eval (.tmp 33)=.int .i64 n∧a.eval (.tmp 34)=.int .i64 j∧a.eval (.tmp 9)=.int .i64 j∧a.eval (.tmp 11)=.pointer (some ⟨b11,0,none⟩) ∧
                ∃ (G':Nat→Prop) (k:Nat) (q:Pol) (yq:List Value),j<k∧k≤n∧a.eval (.tmp 12)=.int .i64 k∧Dw w G G' b2 bm nb ri ks nx es clock clock (seen.push e.born) clock W∧G' b8∧¬ G' b11∧b11<W.heap.size∧(∀ i v,ys[i]?=some v→W.cell? ⟨b8,0+i,none⟩=some v)∧PolAt W G' p ys∧Row W b11 2 ∧
                 (∀ i v,yq[i]?=some v→W.cell? ⟨b11,0+i,none⟩=some v)∧PolAt W G' q yq∧Pk ((t+1:Nat)*K+1) q∧pv q=sg (par (stOf u) j k) (rv l j*wt (stOf u))) (fun a W=>n-natOf (a.eval (.tmp 12))) ?_ ?_)
               · refine⟨by simp[zA,hsz],by simp[zT,hdf],by simp[zB,zA,hsz,h0],by simp[zB,zA,hsz,h2],by simp[zB,zA,hsz,h18],by simp[zB,zA,hsz,h19],by simp[zB,zA,hsz,h20],by simp[zB,zA,hsz,h5],by simp[zB,zA,hsz,h6],by simp[zB,zA,hsz,h26],
                  by simp[zB,zA,hsz,h7],by simp[zB,zA,hsz,h8],by simp[zB,zA,hsz,h32],by simp[zB,zA,hsz,h33],by simp[zB,zA,hsz,h34],by simp[zB,zA,hsz],by simp[zB,zA,hsz],
                  G4,j+1,q,yq,by omega,by omega,by simp[zB,zA,hsz],hD6,hg84,hb11n.2.1,Nat.lt_of_lt_of_le (by obtain⟨cs,T,g,_⟩:=hr5;exact (Array.getElem?_eq_some_iff.1 g).1) hk6.1,hc86,hp6,hr6,hc6,hq6,hqP,?_⟩
                 rw[zPg _ _ _ (Nat.le_refl _),hqv,hpu];have:pv pj=rv l j:=by
                  unfold rv;rw[List.getD_eq_getElem?_getD,hpj]
                  rfl
                 rw[this]
                 rfl
               · clear hD6 hp6 hq6 hc86 hr6 hc6 hqv hqP;rintro a W ⟨hsz,hdf,h0,h2,h18,h19,h20,h5,h6,h26,h7,h8,h32,h33,h34,h9,h11,G',k,q,yq,hjk,hkn,h12,hD,hg8,hng,hbl,hc8,hp,hr11,hc11,hq,hqP,hqv⟩;refine wp_seq (wp_seq (wp_region ?_));refine zF (d:=49) (v:=.int .i64 k) rfl rfl rfl (r_mv (.inl rfl) (by simp[zB,zA,hsz,h12])) ?_;refine zF (d:=50) (v:=.slice (some ⟨r,0,none⟩) n n) rfl rfl rfl (r_mv (.inl rfl) (by simp[zB,zA,hsz,h5])) ?_;refine zF (d:=51) (v:=.int .i64 n) rfl rfl rfl (zIK (addr:=some ⟨r,0,none⟩) (cap:=n) hT91 rfl (by simp[zB,zA,hsz])) ?_;refine zF (d:=52) (v:=.bool (decide ((k:Int)<n))) rfl rfl rfl (kU (k:=.i64) (m:=(k:Int)) (m':=(n:Int)) (u:=.bool _) hE rfl (by simp[zB,zA,hsz]) (by simp[zB,zA,hsz]) rfl) (zU ?_);have h12o:=h12
                 by_cases hkl:k<n
                 · refine wp_cond_true (by simp[zB,zA,hsz];omega) (wp_skip ?_);refine wp_seq_k fun K7 hK7=>?_
                   have key7:∀ (a:Act) (W:World) (G':Nat→Prop) (q:Pol) (yq:List Value),a.tmps.size=84→a.defers=[]→a.eval (.tmp 0)=.slice (some ⟨ob,oo,none⟩) n cp→a.eval (.tmp 2)=.pointer (some ⟨b2,0,none⟩)→a.eval (.tmp 18)=.slice (some ⟨ob,oo,none⟩) n cp→a.eval (.tmp 19)=.int .i64 n →
                     a.eval (.tmp 20)=.int .i64 t→a.eval (.tmp 5)=.slice (some ⟨r,0,none⟩) n n→a.eval (.tmp 6)=.map (some nb)→a.eval (.tmp 26)=.pointer (some ⟨ri,0,none⟩)→a.eval (.tmp 7)=.int .i64 (u:Int)→a.eval (.tmp 8)=.pointer (some ⟨b8,0,none⟩)→a.eval (.tmp 32)=.slice (some ⟨r,0,none⟩) n n→a.eval (.tmp 33)=.int .i64 n→a.eval (.tmp 34)=.int .i64 j →
                     a.eval (.tmp 9)=.int .i64 j→a.eval (.tmp 11)=.pointer (some ⟨b11,0,none⟩)→a.eval (.tmp 12)=.int .i64 k→Dw w G G' b2 bm nb ri ks nx es clock clock (seen.push e.born) clock W→G' b8→¬ G' b11→b11<W.heap.size→(∀ i v,ys[i]?=some v→W.cell? ⟨b8,0+i,none⟩=some v)→PolAt W G' p ys→Row W b11 2 →
                     (∀ i v,yq[i]?=some v→W.cell? ⟨b11,0+i,none⟩=some v)→PolAt W G' q yq→Pk ((t+1:Nat)*K+1) q→pv q=sg (par (stOf u) j (k+1)) (rv l j*wt (stOf u))→K7 a W:=by
                    intro a W G' q yq hsz hdf h0 h2 h18 h19 h20 h5 h6 h26 h7 h8 h32 h33 h34 h9 h11 h12 hD hg8 hng hbl hc8 hp hr11 hc11 hq hqP hqv;refine hK7 _ _ (wp_region ?_);refine zF (d:=53) (v:=.int .i64 k) rfl rfl rfl (r_mv (.inl rfl) (by simp[zB,zA,hsz,h12])) ?_;refine zF (d:=54) (v:=.int .i64 (k+1:Nat)) rfl rfl rfl (kU (k:=.i64) (m:=(k:Int)) (m':=1) (u:=.int .i64 _) hE rfl (by simp[zB,zA,hsz]) rfl (jc (by omega))) ?_;refine zF (d:=12) (v:=.int .i64 (k+1:Nat)) rfl rfl rfl (r_mv (.inr rfl) (by simp[zB,zA,hsz])) (zU ?_)
                    refine⟨⟨by simp[zA,hsz],by simp[zT,hdf],by simp[zB,zA,hsz,h0],by simp[zB,zA,hsz,h2],by simp[zB,zA,hsz,h18],by simp[zB,zA,hsz,h19],by simp[zB,zA,hsz,h20],by simp[zB,zA,hsz,h5],by simp[zB,zA,hsz,h6],by simp[zB,zA,hsz,h26],
                     by simp[zB,zA,hsz,h7],by simp[zB,zA,hsz,h8],by simp[zB,zA,hsz,h32],by simp[zB,zA,hsz,h33],by simp[zB,zA,hsz,h34],by simp[zB,zA,hsz,h9],by simp[zB,zA,hsz,h11],
                     G',k+1,q,yq,by omega,by omega,by simp[zB,zA,hsz],hD,hg8,hng,hbl,hc8,hp,hr11,hc11,hq,hqP,hqv⟩,?_⟩
                    simp[zB,zA,hsz,h12o,natOf];omega
                   refine wp_block (wp_seq (wp_region ?_));refine zF (d:=55) (v:=.int .i64 (u:Int)) rfl rfl rfl (r_mv (.inl rfl) (by simp[zB,zA,hsz,h7])) ?_;refine zF (d:=56) (v:=.int .i64 k) rfl rfl rfl (r_mv (.inl rfl) (by simp[zB,zA,hsz,h12])) ?_;refine zF (d:=57) (v:=.int .i64 ((u / 2^k:Nat):Int)) rfl rfl rfl (kU (k:=.i64) (m:=(u:Int)) (m':=(k:Int)) (u:=.int .i64 _) hE rfl (by simp[zB,zA,hsz]) (by simp[zB,zA,hsz]) (zQv (by omega))) ?_;refine zF (d:=58) (v:=.int .i64 ((u / 2^k % 2:Nat):Int)) rfl rfl rfl (kU (k:=.i64) (m:=((u / 2^k:Nat):Int)) (m':=1) (u:=.int .i64 _) hE rfl (by simp[zB,zA,hsz]) rfl (zQw (Nat.lt_of_le_of_lt (Nat.div_le_self _ _) (Nat.lt_of_lt_of_le hu (Nat.pow_le_pow_right (by omega) (by omega)))))) ?_;refine zF (d:=59) (v:=.bool (u.testBit k)) rfl rfl rfl (by rw[← zNl u k];exact kU (k:=.i64) (m:=((u / 2^k % 2:Nat):Int)) (m':=1) (u:=.bool _) hE rfl (by simp[zB,zA,hsz]) rfl rfl) (zU ?_);have hstep:=zRb (stOf u) hjk
                   by_cases hbk:u.testBit k=true
                   · have hbk':stOf u k=true:=hbk;rw[if_pos hbk'] at hstep;refine wp_cond_true (by simp[zB,zA,hsz,hbk]) (wp_region ?_);refine zF (d:=60) (v:=.agg yq.toArray) rfl rfl rfl (r_ld hE h69 rfl (b:=b11) (off:=0) rfl (by simp[zB,zA,hsz,h11]) (by rw[hq.len];rfl) hc11) ?_;refine zCz (f:=54) (args:=#[.agg yq.toArray]) (d:=61) rfl rfl rfl (by rw[r_fn (g:=54) rfl rfl (zAV Go.Proofs.Tryz.func54 (by kernel_rfl))];simp[zB,zA,hsz]) ?_;refine (zKW hq hqP hKn).mono ?_;rintro x W2 ⟨q2,yq2,rfl,hk2,hq2,hqP2,hqv2⟩;refine⟨_,rfl,?_⟩;have hD2:=hD.grow hk2;have hng2:¬ Gn G' W W2 b11:=fun h=>h.elim hng fun h=>by omega
                     obtain⟨z1,z2,z3,z4⟩:=hD.nw;refine ji (blk:=b11) (off:=0) (m:=2) (ys:=yq2) hE h69 rfl rfl rfl rfl (by simp[zB,zA,hsz,h11]) (by simp[zB,zA,hsz]) (by rw[hq2.len];rfl) (TRep.oneCell hq2) (hr11.keep (hk2.2.2 _ hbl)) (by rw[hq2.len];omega) fun W3 hk3 hr3 hc3 _=>?_;refine zMu ?_;have hb8l:b8<W.heap.size:=hD.lt _ hg8
                     refine key7 _ W3 (Gn G' W W2) q2 yq2 (by simp[zA,hsz]) (by simp[zT,hdf]) (by simp[zB,zA,hsz,h0]) (by simp[zB,zA,hsz,h2]) (by simp[zB,zA,hsz,h18]) (by simp[zB,zA,hsz,h19]) (by simp[zB,zA,hsz,h20]) (by simp[zB,zA,hsz,h5]) (by simp[zB,zA,hsz,h6]) (by simp[zB,zA,hsz,h26])
                      (by simp[zB,zA,hsz,h7]) (by simp[zB,zA,hsz,h8]) (by simp[zB,zA,hsz,h32]) (by simp[zB,zA,hsz,h33]) (by simp[zB,zA,hsz,h34]) (by simp[zB,zA,hsz,h9]) (by simp[zB,zA,hsz,h11]) (by simp[zB,zA,hsz,h12])
                      (hD2.keepB hk3 ⟨hb11n.1,hng2,hb11n.2.2⟩) (.inl hg8) hng2 (Nat.lt_of_lt_of_le hbl (Nat.le_trans hk2.1 hk3.1)) (fun i v hv=>?_) (((hp.keepA hk2).up fun b _ hb=>.inl hb).keepB hng2 hk3) hr3 hc3 (hq2.keepB hng2 hk3) hqP2 ?_
                     · have:=hc8 i v hv;simp only[World.cell?,hk3.2.2 b8 (Nat.lt_of_lt_of_le hb8l hk2.1) (fun e=>hng (e ▸ hg8)),hk2.2.2 b8 hb8l] at this ⊢;exact this
                     · rw[hqv2,hqv,hstep,zPN]
                   · have hbk':¬ stOf u k=true:=hbk;rw[if_neg hbk'] at hstep;refine wp_cond_false (by simp[zB,zA,hsz,hbk]) (wp_skip ?_)
                     exact key7 _ W G' q yq (by simp[zA,hsz]) (by simp[zT,hdf]) (by simp[zB,zA,hsz,h0]) (by simp[zB,zA,hsz,h2]) (by simp[zB,zA,hsz,h18]) (by simp[zB,zA,hsz,h19]) (by simp[zB,zA,hsz,h20]) (by simp[zB,zA,hsz,h5]) (by simp[zB,zA,hsz,h6]) (by simp[zB,zA,hsz,h26])
                      (by simp[zB,zA,hsz,h7]) (by simp[zB,zA,hsz,h8]) (by simp[zB,zA,hsz,h32]) (by simp[zB,zA,hsz,h33]) (by simp[zB,zA,hsz,h34]) (by simp[zB,zA,hsz,h9]) (by simp[zB,zA,hsz,h11]) (by simp[zB,zA,hsz,h12])
                      hD hg8 hng hbl hc8 hp hr11 hc11 hq hqP (by rw[hqv,hstep])
                 · refine wp_cond_false (by simp[zB,zA,hsz];omega) (wp_exit ?_);have hken:k=n:=by omega
                   subst hken;refine wp_region_any envOk.mixed ?_;have hu60:u<2^60:=Nat.lt_of_lt_of_le hu (Nat.pow_le_pow_right (by omega) (by omega));have hj60:2^j<2^60:=Nat.pow_lt_pow_right (by omega) (by omega);refine wpAny_take (i:=0) (v:=.map (some nb)) (fuel:=13) rfl (by kernel_rfl) (by kernel_rfl) (by kernel_rfl) (fun _ _ _ h=>h) (.inl ⟨rfl,fun w=>r_mv (.inl rfl) (by simp[zB,zA,hsz,h6])⟩) ?_;refine wpAny_take (i:=1) (v:=.int .i64 (u:Int)) (fuel:=12) rfl (by kernel_rfl) (by kernel_rfl) (by kernel_rfl) (fun _ _ _ h=>h) (.inl ⟨rfl,fun w=>r_mv (.inl rfl) (by simp[zB,zA,hsz,h7])⟩) ?_;refine wpAny_take (i:=2) (v:=.int .i64 j) (fuel:=11) rfl (by kernel_rfl) (by kernel_rfl) (by kernel_rfl) (fun _ _ _ h=>h) (.inl ⟨rfl,fun w=>r_mv (.inl rfl) (by simp[zB,zA,hsz,h9])⟩) ?_;refine wpAny_take (i:=3) (v:=.int .i64 ((2^j:Nat):Int)) (fuel:=10) rfl (by kernel_rfl) (by kernel_rfl) (by kernel_rfl) (fun _ _ _ h=>h) (.inl ⟨rfl,fun w=>kU (k:=.i64) (m:=1) (m':=(j:Int)) (u:=.int .i64 _) hE rfl rfl (by simp[zB,zA,hsz]) (zMf (by omega))⟩) ?_;refine wpAny_take (i:=4) (v:=.int .i64 ((wi u j:Nat):Int)) (fuel:=9) rfl (by kernel_rfl) (by kernel_rfl) (by kernel_rfl) (fun _ _ _ h=>h) (.inl ⟨rfl,fun w=>kU (k:=.i64) (m:=(u:Int)) (m':=((2^j:Nat):Int)) (u:=.int .i64 _) hE rfl (by simp[zB,zA,hsz]) (by simp[zB,zA,hsz]) (zTB hu60 hj60)⟩) ?_;refine wpAny_take (i:=5) (v:=.map (some nb)) (fuel:=8) rfl (by kernel_rfl) (by kernel_rfl) (by kernel_rfl) (fun _ _ _ h=>h) (.inl ⟨rfl,fun w=>r_mv (.inl rfl) (by simp[zB,zA,hsz,h6])⟩) ?_;refine wpAny_take (i:=6) (v:=.int .i64 (u:Int)) (fuel:=7) rfl (by kernel_rfl) (by kernel_rfl) (by kernel_rfl) (fun _ _ _ h=>h) (.inl ⟨rfl,fun w=>r_mv (.inl rfl) (by simp[zB,zA,hsz,h7])⟩) ?_;refine wpAny_take (i:=7) (v:=.int .i64 j) (fuel:=6) rfl (by kernel_rfl) (by kernel_rfl) (by kernel_rfl) (fun _ _ _ h=>h) (.inl ⟨rfl,fun w=>r_mv (.inl rfl) (by simp[zB,zA,hsz,h9])⟩) ?_;refine wpAny_take (i:=8) (v:=.int .i64 ((2^j:Nat):Int)) (fuel:=5) rfl (by kernel_rfl) (by kernel_rfl) (by kernel_rfl) (fun _ _ _ h=>h) (.inl ⟨rfl,fun w=>kU (k:=.i64) (m:=1) (m':=(j:Int)) (u:=.int .i64 _) hE rfl rfl (by simp[zB,zA,hsz]) (zMf (by omega))⟩) ?_;refine wpAny_take (i:=9) (v:=.int .i64 ((wi u j:Nat):Int)) (fuel:=4) rfl (by kernel_rfl) (by kernel_rfl) (by kernel_rfl) (fun _ _ _ h=>h) (.inl ⟨rfl,fun w=>kU (k:=.i64) (m:=(u:Int)) (m':=((2^j:Nat):Int)) (u:=.int .i64 _) hE rfl (by simp[zB,zA,hsz]) (by simp[zB,zA,hsz]) (zTB hu60 hj60)⟩) ?_;have hDd:=hD.keepA (zAu W);obtain⟨es2,cl2,hnx⟩:=hDd.n;have hKp:(0:Int)≤((t+1:Nat):Int)*K+1:=by
                    have:=Int.mul_nonneg (show (0:Int)≤((t+1:Nat):Int) by omega) hK0;omega
                   obtain⟨p0,y0,hp0,hpk0,hpv0,hlook⟩:=zNI hnx hMsk hKp (wi u j);have hqd:=hq.keepA (zAu W);have hpd:=hp.keepA (zAu W);refine wpAny_all (rs:=[10,11]) (by kernel_rfl) (by simp) fun i hi=>?_;simp only[List.mem_cons,List.not_mem_nil,or_false] at hi;rcases hi with rfl | rfl
                   case' inl=>
                    refine zLt (d:=72) (v:=.agg y0.toArray) rfl rfl rfl (zPa (v:=.map (some nb)) (k:=.int .i64 ((wi u j:Nat):Int)) rfl (by simp[zB,zA,hsz]) (by simp[zB,zA,hsz]) hlook) ?_;refine wpAny_all (rs:=[11]) (by kernel_rfl) (by simp) fun i hi=>?_;obtain rfl:i=11:=by simpa using hi
                    refine zLt (d:=73) (v:=.agg yq.toArray) rfl rfl rfl (r_ld hE h69 rfl (b:=b11) (off:=0) rfl (by simp[zB,zA,hsz,h11]) (by rw[hq.len];rfl) hc11) ?_
                   case' inr=>
                    refine zLt (d:=73) (v:=.agg yq.toArray) rfl rfl rfl (r_ld hE h69 rfl (b:=b11) (off:=0) rfl (by simp[zB,zA,hsz,h11]) (by rw[hq.len];rfl) hc11) ?_;refine wpAny_all (rs:=[10]) (by kernel_rfl) (by simp) fun i hi=>?_;obtain rfl:i=10:=by simpa using hi
                    refine zLt (d:=72) (v:=.agg y0.toArray) rfl rfl rfl (zPa (v:=.map (some nb)) (k:=.int .i64 ((wi u j:Nat):Int)) rfl (by simp[zB,zA,hsz]) (by simp[zB,zA,hsz]) hlook) ?_
                   all_goals
                    refine wpAny_all (rs:=[12]) (by kernel_rfl) (by simp) fun i hi=>?_;obtain rfl:i=12:=by simpa using hi
                    refine zNC (f:=53) (args:=#[.agg y0.toArray,.agg yq.toArray]) (d:=74) rfl rfl rfl (by rw[r_fn (g:=53) rfl rfl (zAV Go.Proofs.Tryz.func53 (by kernel_rfl))];simp[zB,zA,hsz]) ?_;refine (zLH hp0 hqd hpk0 hqP hKn).mono ?_;rintro x W2 ⟨q2,yq2,rfl,hk2,hq2,hqP2,hqv2⟩;refine⟨_,rfl,?_⟩;have hD2:=hDd.grow hk2;obtain⟨es3,cl3,hnx2⟩:=hD2.n;obtain⟨W3,nx',es4,cl4,hrun3,hk3,hmap3,hMsk3,hval3⟩:=zTn hnx2 hD2.ng.2.1 hMsk (zVQ hu hjl) hq2 hqP2;refine wpAny_all (rs:=[13]) (by kernel_rfl) (by simp) fun i hi=>?_;obtain rfl:i=13:=by simpa using hi
                    refine zSq rfl rfl rfl (zUr (.inl rfl) (v:=.map (some nb)) (k:=.int .i64 ((wi u j:Nat):Int)) (u:=.agg yq2.toArray) (by simp[zB,zA,hsz]) (by simp[zB,zA,hsz]) (by simp[zB,zA,hsz]) hrun3) ?_;refine wpAny_done (by kernel_rfl) ?_ _
                    refine key6 _ W3 _ nx' (by simp[zA,hsz]) (by simp[zT,hdf]) (by simp[zB,zA,hsz,h0]) (by simp[zB,zA,hsz,h2]) (by simp[zB,zA,hsz,h18]) (by simp[zB,zA,hsz,h19]) (by simp[zB,zA,hsz,h20]) (by simp[zB,zA,hsz,h5]) (by simp[zB,zA,hsz,h6]) (by simp[zB,zA,hsz,h26]) (by simp[zB,zA,hsz,h7]) (by simp[zB,zA,hsz,h8]) (by simp[zB,zA,hsz,h32]) (by simp[zB,zA,hsz,h33]) (by simp[zB,zA,hsz,h34]) (hD2.put hk3 hmap3) (.inl hg8) (fun i v hv=>?_) (((hpd.keepA hk2).up fun b _ hb=>.inl hb).keepB hD2.ng.2.1 hk3) hMsk3 fun s hs=>?_
                    · have hb8l:b8<W.heap.size:=hD.lt _ hg8;have hb8n:b8≠nb:=fun e=>hD.ng.2.1 (e ▸ hg8);have h1:=hc8 i v hv;have e1:W2.heap[b8]?=W.heap[b8]?:=hk2.2.2 b8 hb8l;simp only[World.cell?,hk3.2.2 b8 (Nat.lt_of_lt_of_le hb8l hk2.1) hb8n,e1] at h1 ⊢;exact h1
                    · have hsame:par (stOf (wi u j)) j k=par (stOf u) j k:=zRc fun i hi _=>by
                       unfold stOf wi;rw[Nat.testBit_or,Nat.testBit_two_pow,decide_eq_false (show ¬ j=i by omega),Bool.or_false]
                      have htm:tm k (rv l) wt (wi u j) j=pv q:=by
                       unfold tm;rw[hsame,zTI (zSR u j),zTJ hbf,hqv]
                      rw[hval3 s,zUM (D:=fun v c=>Dn es seen v∨(v=u∧c<j)) hjl hbf (fun h=>h.elim hnt fun h=>by omega) (fun v c=>?_) s,← hval s hs]
                      · by_cases hsw:s=wi u j
                        · rw[if_pos hsw,if_pos hsw,hqv2,hpv0,hsw,htm]
                        · rw[if_neg hsw,if_neg hsw,add_zero]
                      · constructor
                        · rintro (h | ⟨h1,h2⟩)
                          · exact .inl (.inl h)
                          · rcases Nat.lt_or_ge c j with h3 | h3
                            · exact .inl (.inr ⟨h1,h3⟩)
                            · exact .inr ⟨h1,by omega⟩
                        · rintro ((h | ⟨h1,h2⟩) | ⟨h1,h2⟩)
                          · exact .inl h
                          · exact .inr ⟨h1,by omega⟩
                          · exact .inr ⟨h1,by omega⟩
           · refine wp_seq (wp_cond_false (by simp[zB,zA,hsz];omega) (wp_exit ?_));have hje:j=n:=by omega
             have h1:W.iterSeen ri=seen.push e.born:=by unfold World.iterSeen;rw[hD.it]
             refine⟨⟨by simp[zA,hsz],by simp[zT,hdf],by simp[zB,zA,hsz,h0],by simp[zB,zA,hsz,h2],by simp[zB,zA,hsz,h18],by simp[zB,zA,hsz,h19],by simp[zB,zA,hsz,h20],by simp[zB,zA,hsz,h5],by simp[zB,zA,hsz,h6],by simp[zB,zA,hsz,h26],G',nx,seen.push e.born,clock,hD,Nat.le_refl _,hMsk,fun s hs=>?_⟩,?_⟩
             · rw[hval s hs]
               refine zFX fun c hc _=>⟨?_,?_⟩
               · rintro (⟨e',q1,q2,q3⟩ | ⟨q1,_⟩)
                 · exact⟨e',q1,q2,by rw[contains_push,q3];rfl⟩
                 · exact⟨e,heL,by rw[q1];exact hek,by rw[contains_push];simp⟩
               · rintro ⟨e',q1,q2,q3⟩;rw[contains_push,Bool.or_eq_true] at q3
                 rcases q3 with q3 | q3
                 · exact .inl ⟨e',q1,q2,q3⟩
                 · have:e'=e:=born_inj hD.m.nd q1 heL (by simpa using q3);rw[this,hek] at q2;simp only[Value.int.injEq,true_and] at q2;exact .inr ⟨by omega,by omega⟩
             · rw[h1,hWm];exact left_shrinks es seen e he
   · refine wp_seq (wp_cond_false (by simp[zB,zA,hsz];omega) (wp_exit ?_));have htn':t=n:=by omega
     subst htn';have hKp:(0:Int)≤(t:Int)*K+1:=by
      have:=Int.mul_nonneg (show (0:Int)≤(t:Int) by omega) hK0;omega
     obtain⟨q,yq,hq,hqP,hqv,hlook⟩:=zNI hL.m hL.msk hKp (2^t-1);refine wp_seq (wp_region ?_);refine zF (d:=78) (v:=.map (some bm)) rfl rfl rfl (r_mv (.inl rfl) (by simp[zB,zA,hsz,h3])) ?_;refine zF (d:=79) (v:=.slice ad t cp) rfl rfl rfl (r_mv (.inl rfl) (by simp[zB,zA,hsz,h0])) ?_;refine zF (d:=80) (v:=.int .i64 t) rfl rfl rfl (zIK (addr:=ad) (cap:=cp) hT89 rfl (by simp[zB,zA,hsz])) ?_;refine zF (d:=81) (v:=.int .i64 ((2^t:Nat):Int)) rfl rfl rfl (kU (k:=.i64) (m:=1) (m':=(t:Int)) (u:=.int .i64 _) hE rfl rfl (by simp[zB,zA,hsz]) (zMf (by omega))) ?_;refine zF (d:=82) (v:=.int .i64 ((2^t-1:Nat):Int)) rfl rfl rfl (kU (k:=.i64) (m:=((2^t:Nat):Int)) (m':=1) (u:=.int .i64 _) hE rfl (by simp[zB,zA,hsz]) rfl (zSF hn)) ?_;refine zF (d:=83) (v:=.agg yq.toArray) rfl rfl rfl (zPa (v:=.map (some bm)) (k:=.int .i64 ((2^t-1:Nat):Int)) rfl (by simp[zB,zA,hsz]) (by simp[zB,zA,hsz]) hlook) ?_;refine ji (blk:=b2) (off:=0) (m:=2) (ys:=yq) hE h69 rfl rfl rfl rfl (by simp[zB,zA,hsz,h2]) (by simp[zB,zA,hsz]) (by rw[hq.len];rfl) (TRep.oneCell hq) hL.box (by rw[hq.len];omega) fun W' hk' hr' hc' _=>?_;refine zU (wp_ret ?_);have hqW:=hq.keepB hL.ng.2 hk';refine⟨by simp[zT,hdf],_,zM5 ty69 rfl rfl (by simp[zB,zA,hsz,h2]) (by rw[hq.len];rfl) hc',q,yq,rfl,⟨Nat.le_trans hL.keep.1 hk'.1,hL.keep.2.1.trans hk'.2.1,fun b hb=>(hk'.2.2 b (Nat.lt_of_lt_of_le hb hL.keep.1) (by omega)).trans (hL.keep.2.2 b hb)⟩,hqW.up fun b hb hg=>(hL.gn b hg).imp id fun h=>⟨h,hb⟩,hqP,?_⟩;rw[hqv,hL.val _ (by have:0<2^t:=Nat.pow_pos (by omega);omega)];exact zVL _ (zVv t) _ _ (zT1 t)
end Go.Ev.YtlkmkabnbegfdaaGreatP
