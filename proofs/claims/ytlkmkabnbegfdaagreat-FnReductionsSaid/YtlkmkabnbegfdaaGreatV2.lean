/- The evaluator's soundness, first part. -/
import Derived.Test.YtlkmkabnbegfdaaGreatV1
import Derived.Below
import Derived.Laws.CopyRow
import Derived.Laws.MakeOwn
import Derived.Laws.OwnMore
import Derived.Laws.Slices
import Derived.Laws.Tables
import Derived.Orders
namespace Go.Ev
structure Loc where
 addr:Option Addr
 len:Nat
 cap:Nat
abbrev Locs:=Nat→Loc
def Loc.at (L:Loc) (n:Nat):Option Addr:=L.addr.map fun a=>⟨a.block,a.off+n,none⟩
def cval (ρ:Locs):C→Value
 | .int k n=>.int k n
 | .bool b=>.bool b
 | .nil=>.slice none 0 0
 | .sl o=>.slice (ρ o).addr (ρ o).len (ρ o).cap
 | .ptr o i es j=>.pointer ((ρ o).at (i*es+j))
def wcells (ρ:Locs):W→List Value
 | .c x=>[cval ρ x]
 | .arr k _ xs=>xs.map (Value.int k)
 | .barr _ xs=>xs.map Value.bool
 | .st cs=>cs.map (cval ρ)
def wval (ρ:Locs):W→Value
 | .c x=>cval ρ x
 | w=>.agg (wcells ρ w).toArray
def vval (ρ:Locs):V→Value
 | .undef=>Go.undef
 | .w x=>wval ρ x
 | .fn f caps=>.func (.func f) #[] (caps.map (wval ρ)).toArray
 | .tup vs=>.tuple (vs.map (wval ρ)).toArray
def wfC (ob:Objs) (ρ:Locs):C→Prop
 | .sl o=>ob o≠none
 | .ptr o i es j=>ob o≠none∧(∃ b off,(ρ o).addr=some ⟨b,off,none⟩)∧(if es=0 then i=0∧j<(ρ o).len else i<(ρ o).len∧j<es)
 | _=>True
def wfW (ob:Objs) (ρ:Locs):W→Prop
 | .c x=>wfC ob ρ x
 | .arr _ m xs=>xs.length=m
 | .barr m xs=>xs.length=m
 | .st cs=>∀ c∈cs,wfC ob ρ c
def wfV (ob:Objs) (ρ:Locs):V→Prop
 | .undef=>True
 | .w x=>wfW ob ρ x
 | .fn _ caps=>∀ x∈caps,wfW ob ρ x
 | .tup vs=>∀ x∈vs,wfW ob ρ x
def VRel (ob:Objs) (ρ:Locs) (v:V) (x:Value):Prop:=v=.undef∨(wfV ob ρ v∧x=vval ρ v)
def cellAt (w:World) (addr:Option Addr) (n:Nat):Option Value:=addr.bind fun a=>w.cell? ⟨a.block,a.off+n,none⟩
def RowW (w:World) (own:Bool) (ok:Nat→Prop) (es len:Nat) (addr:Option Addr) (cap:Nat):Prop:=
 len≤cap∧(addr=none→len=0∧(own=true→cap=0)) ∧
 ∀ a,addr=some a→(0<len∨own=true)→a.spot=none∧a.block<w.heap.size∧ok a.block ∧
  (own=true→∃ cs T,w.heap[a.block]?=some (.cells cs T (0,0))∧a.off+cap*es≤cs.size)
def TRep (w:World) (own:Bool) (ok:Nat→Prop):(t:Ty)→t.den→List Value→Prop
 | .int k,x,cs=>cs=[.int k x]
 | .bool,x,cs=>cs=[.bool x]
 | .arr k m,x,cs=>x.length=m∧cs=x.map (Value.int k)
 | .barr m,x,cs=>x.length=m∧cs=x.map Value.bool
 | .pair a b,x,cs=>∃ c1 c2,cs=c1++c2∧TRep w own ok a x.1 c1∧TRep w own ok b x.2 c2
 | .slice u,xs,cs=>∃ addr cap,cs=[.slice addr xs.length cap]∧RowW w own ok u.cells xs.length addr cap ∧
   ∀ i x,xs[i]?=some x→∃ ys,TRep w own ok u x ys∧∀ j v,ys[j]?=some v→cellAt w addr (i*u.cells+j)=some v
def Elems (w:World) (ownE:Bool) (okE:Nat→Nat→Prop) (t:Ty) (xs:List t.den) (addr:Option Addr):Prop:=
 ∀ i x,xs[i]?=some x→∃ ys,TRep w ownE (okE i) t x ys∧∀ j v,ys[j]?=some v→cellAt w addr (i*t.cells+j)=some v
theorem TRep.len {w:World}{own:Bool}{ok:Nat→Prop}:∀ {t:Ty}{x:t.den}{cs:List Value},TRep w own ok t x cs→cs.length=t.cells
 | .int _,_,_,h=>by simp only[TRep] at h;subst h;rfl
 | .bool,_,_,h=>by simp only[TRep] at h;subst h;rfl
 | .arr _ _,_,_,h=>by simp only[TRep] at h;obtain⟨h,rfl⟩:=h;simp[Ty.cells,h]
 | .barr _,_,_,h=>by simp only[TRep] at h;obtain⟨h,rfl⟩:=h;simp[Ty.cells,h]
 | .pair a b,_,_,h=>by
  simp only[TRep] at h;obtain⟨c1,c2,rfl,h1,h2⟩:=h;simp[Ty.cells,h1.len,h2.len]
 | .slice _,_,_,h=>by simp only[TRep] at h;obtain⟨_,_,rfl,_⟩:=h;rfl
theorem ke {w w':World}{addr:Option Addr}{n:Nat}(h:∀ a,addr=some a→w'.heap[a.block]?=w.heap[a.block]?):cellAt w' addr n=cellAt w addr n:=by
 cases addr with
 | none=>rfl
 | some a=>simp only[cellAt,Option.bind_some,World.cell?,h a rfl]
theorem RowW.frame {w w':World}{own own':Bool}{ok ok':Nat→Prop}{es len:Nat}{addr:Option Addr}{cap:Nat}(h:RowW w own ok es len addr cap)
  (ho:own'=true→own=true) (hsz:w.heap.size≤w'.heap.size) (hok:∀ b,b<w.heap.size→ok b→ok' b∧w'.heap[b]?=w.heap[b]?):RowW w' own' ok' es len addr cap:=by
 refine⟨h.1,fun e=>⟨(h.2.1 e).1,fun o=>(h.2.1 e).2 (ho o)⟩,fun a e hl=>?_⟩;obtain⟨h1,h2,h3,h4⟩:=h.2.2 a e (hl.imp id ho);obtain⟨g1,g2⟩:=hok _ h2 h3;exact⟨h1,Nat.lt_of_lt_of_le h2 hsz,g1,fun o=>by rw[g2];exact h4 (ho o)⟩
theorem TRep.frame {w w':World}{own own':Bool}(ho:own'=true→own=true) (hsz:w.heap.size≤w'.heap.size):
  ∀ {t:Ty}{ok ok':Nat→Prop}{x:t.den}{cs:List Value},(∀ b,b<w.heap.size→ok b→ok' b∧w'.heap[b]?=w.heap[b]?)→TRep w own ok t x cs→TRep w' own' ok' t x cs
 | .int _,_,_,_,_,_,h=>by simpa only[TRep] using h
 | .bool,_,_,_,_,_,h=>by simpa only[TRep] using h
 | .arr _ _,_,_,_,_,_,h=>by simpa only[TRep] using h
 | .barr _,_,_,_,_,_,h=>by simpa only[TRep] using h
 | .pair a b,_,_,_,_,hok,h=>by
  simp only[TRep] at h ⊢;obtain⟨c1,c2,e,h1,h2⟩:=h;exact⟨c1,c2,e,h1.frame ho hsz hok,h2.frame ho hsz hok⟩
 | .slice u,_,_,xs,_,hok,h=>by
  simp only[TRep] at h ⊢;obtain⟨addr,cap,e,h1,h2⟩:=h;refine⟨addr,cap,e,h1.frame ho hsz hok,fun i x hx=>?_⟩;obtain⟨ys,g1,g2⟩:=h2 i x hx;refine⟨ys,g1.frame ho hsz hok,fun j v hv=>?_⟩
  rw[ke]
  · exact g2 j v hv
  · intro a ha;have hl:0<xs.length:=by
     have:=(List.getElem?_eq_some_iff.1 hx).1;omega
    obtain⟨_,k2,k3,_⟩:=h1.2.2 a ha (.inl hl);exact (hok _ k2 k3).2
theorem Elems.frame {w w':World}{own own':Bool}(ho:own'=true→own=true) (hsz:w.heap.size≤w'.heap.size) {t:Ty}{okE okE':Nat→Nat→Prop}{xs:List t.den}{addr:Option Addr}
  (hok:∀ i,i<xs.length→∀ b,b<w.heap.size→okE i b→okE' i b∧w'.heap[b]?=w.heap[b]?) (hm:0<xs.length→∀ a,addr=some a→w'.heap[a.block]?=w.heap[a.block]?)
  (h:Elems w own okE t xs addr):Elems w' own' okE' t xs addr:=by
 intro i x hx;have hl:=(List.getElem?_eq_some_iff.1 hx).1;obtain⟨ys,g1,g2⟩:=h i x hx;refine⟨ys,g1.frame ho hsz (hok i hl),fun j v hv=>?_⟩;rw[ke (hm (by omega))];exact g2 j v hv
abbrev Col:=Nat→Option (Nat×Nat)
def RO (col:Col) (Y:Nat→Prop) (b:Nat):Prop:=(col b=none∨∃ o i,col b=some (o,i+1))∧Y b
def okO (col:Col) (Y:Nat→Prop) (m:Mode) (o:Nat):Nat→Prop:=
 match m with
 | .ro=>RO col Y
 | _=>fun b=>col b=some (o,0)
def okE (col:Col) (Y:Nat→Prop) (m:Mode) (o:Nat):Nat→Nat→Prop:=
 match m with
 | .own=>fun i b=>col b=some (o,i+1)
 | _=>fun _=>RO col Y
def Mode.deep:Mode→Bool
 | .own=>true
 | _=>false
def ObjRel (ob:Objs) (ρ:Locs) (col:Col) (Y:Nat→Prop) (w:World) (o:Nat):Obj→Prop
 | .dead=>True
 | .box m x=>∃ b,(ρ o).addr=some ⟨b,0,none⟩∧b<w.heap.size∧wfW ob ρ x∧(ρ o).len=(wcells ρ x).length ∧
   (∀ j v,(wcells ρ x)[j]?=some v→w.cell? ⟨b,j,none⟩=some v)∧okO col Y m o b ∧
   (m.mine=true→∃ cs T,w.heap[b]?=some (.cells cs T (0,0))∧cs.size=(ρ o).len)
 | .row m t xs=>(ρ o).len=xs.length∧RowW w m.mine (okO col Y m o) t.cells xs.length (ρ o).addr (ρ o).cap∧Elems w m.deep (okE col Y m o) t xs (ρ o).addr
def Like (w w':World):Prop:=w'.os=w.os∧w'.tape=w.tape∧w'.output=w.output∧w.drawn≤w'.drawn
theorem Like.refl (w:World):Like w w:=⟨rfl,rfl,rfl,Nat.le_refl _⟩
theorem Like.trans {a b c:World}(h:Like a b) (g:Like b c):Like a c:=⟨g.1.trans h.1,g.2.1.trans h.2.1,g.2.2.1.trans h.2.2.1,Nat.le_trans h.2.2.2 g.2.2.2⟩
structure Inv (w0:World) (X Y0:Nat→Prop) (fix:List (Nat×Value)) (s:St) (ρ:Locs) (col:Col) (a:Act) (w:World):Prop where
 defers:a.defers=[]
 size:a.tmps.size=s.tm.length
 tmps:∀ i v,s.tm[i]?=some v→VRel s.ob ρ v (a.tmps.getD i Go.undef)
 objs:∀ o x,s.ob o=some x→ObjRel s.ob ρ col (fun b=>Y0 b∨w0.heap.size≤b∨X b) w o x
 cold:∀ b o c,col b=some (o,c)→(w0.heap.size≤b∨X b)∧b<w.heap.size∧s.ob o≠none
 low:∀ b,b<w0.heap.size→¬ X b→w.heap[b]?=w0.heap[b]?
 mono:w0.heap.size≤w.heap.size
 fixed:∀ p∈fix,p.1<a.tmps.size∧a.tmps.getD p.1 Go.undef=p.2
 same:Like w0 w
def Stays (ob ob':Objs) (ρ ρ':Locs):Prop:=∀ o,ob o≠none→ob' o≠none∧ρ' o=ρ o
theorem Stays.refl (ob:Objs) (ρ:Locs):Stays ob ob ρ ρ:=fun _ h=>⟨h,rfl⟩
section
variable {ob ob':Objs}{ρ ρ':Locs}(h:Stays ob ob' ρ ρ')
include h
theorem Stays.wfC {c:C}(hc:wfC ob ρ c):Ev.wfC ob' ρ' c:=by
 cases c with
 | sl o=>exact (h o hc).1
 | ptr o i es j=>
  obtain⟨h1,h2,h3⟩:=hc;obtain⟨g1,g2⟩:=h o h1;simp only[Ev.wfC,g2];exact⟨g1,h2,h3⟩
 | _=>trivial
theorem Stays.cval {c:C}(hc:Ev.wfC ob ρ c):cval ρ' c=cval ρ c:=by
 cases c with
 | sl o=>simp only[Ev.cval,(h o hc).2]
 | ptr o i es j=>simp only[Ev.cval,(h o hc.1).2]
 | _=>rfl
theorem Stays.wfW {x:W}(hx:wfW ob ρ x):Ev.wfW ob' ρ' x:=by
 cases x with
 | c x=>exact h.wfC hx
 | st cs=>exact fun c hc=>h.wfC (hx c hc)
 | arr _ _ _=>exact hx
 | barr _ _=>exact hx
theorem Stays.wcells {x:W}(hx:Ev.wfW ob ρ x):wcells ρ' x=wcells ρ x:=by
 cases x with
 | c x=>simp only[Ev.wcells,h.cval hx]
 | st cs=>exact List.map_congr_left fun c hc=>h.cval (hx c hc)
 | arr _ _ _=>rfl
 | barr _ _=>rfl
theorem Stays.wval {x:W}(hx:Ev.wfW ob ρ x):wval ρ' x=wval ρ x:=by
 cases x with
 | c x=>exact h.cval hx
 | st cs=>simp only[Ev.wval,h.wcells hx]
 | arr _ _ _=>rfl
 | barr _ _=>rfl
theorem Stays.wfV {v:V}(hv:wfV ob ρ v):Ev.wfV ob' ρ' v:=by
 cases v with
 | undef=>trivial
 | w x=>exact h.wfW hv
 | fn f caps=>exact fun x hx=>h.wfW (hv x hx)
 | tup vs=>exact fun x hx=>h.wfW (hv x hx)
theorem Stays.vval {v:V}(hv:Ev.wfV ob ρ v):vval ρ' v=vval ρ v:=by
 cases v with
 | undef=>rfl
 | w x=>exact h.wval hv
 | fn f caps=>simp only[Ev.vval];rw[List.map_congr_left fun x hx=>h.wval (hv x hx)]
 | tup vs=>simp only[Ev.vval];rw[List.map_congr_left fun x hx=>h.wval (hv x hx)]
theorem Stays.vrel {v:V}{x:Value}(hv:VRel ob ρ v x):VRel ob' ρ' v x:=by
 rcases hv with rfl | ⟨h1,h2⟩
 · exact .inl rfl
 · exact .inr ⟨h.wfV h1,by rw[h2,h.vval h1]⟩
end
theorem ObjRel.frame {ob ob':Objs}{ρ ρ':Locs}{col col':Col}{Y Y':Nat→Prop}{w w':World}{o:Nat}{x:Obj}(h:ObjRel ob ρ col Y w o x)
  (ho:ob o≠none) (hs:Stays ob ob' ρ ρ') (hsz:w.heap.size≤w'.heap.size) (hown:∀ b c,b<w.heap.size→col b=some (o,c)→col' b=some (o,c)∧w'.heap[b]?=w.heap[b]?)
  (hro:∀ b,b<w.heap.size→RO col Y b→RO col' Y' b∧w'.heap[b]?=w.heap[b]?):ObjRel ob' ρ' col' Y' w' o x:=by
 have hk:∀ m b,b<w.heap.size→okO col Y m o b→okO col' Y' m o b∧w'.heap[b]?=w.heap[b]?:=by
  intro m b hb hok
  cases m with
  | own=>exact hown b 0 hb hok
  | sh=>exact hown b 0 hb hok
  | ro=>exact hro b hb hok
 have hkE:∀ m i b,b<w.heap.size→okE col Y m o i b→okE col' Y' m o i b∧w'.heap[b]?=w.heap[b]?:=by
  intro m i b hb hok
  cases m with
  | own=>exact hown b (i+1) hb hok
  | sh=>exact hro b hb hok
  | ro=>exact hro b hb hok
 cases x with
 | dead=>trivial
 | box m x=>
  obtain⟨b,h1,h2,h3,h4,h5,h6,h7⟩:=h;obtain⟨g1,g2⟩:=hk m b h2 h6
  refine⟨b,by rw[(hs o ho).2];exact h1,Nat.lt_of_lt_of_le h2 hsz,hs.wfW h3,by rw[(hs o ho).2,hs.wcells h3];exact h4,?_,g1,?_⟩
  · intro j v hv;rw[hs.wcells h3] at hv;simpa only[World.cell?,g2] using h5 j v hv
  · intro hm;rw[(hs o ho).2,g2];exact h7 hm
 | row m t xs=>
  obtain⟨h1,h2,h3⟩:=h
  refine⟨by rw[(hs o ho).2];exact h1,?_,?_⟩
  · rw[(hs o ho).2];exact h2.frame id hsz (hk m)
  · rw[(hs o ho).2];refine Elems.frame id hsz (fun i _=>hkE m i) (fun hl a ha=>?_) h3;obtain⟨_,k2,k3,_⟩:=h2.2.2 a ha (.inl hl);exact (hk m _ k2 k3).2
end Go.Ev
namespace Go.Ev
def scalarDesc:TypeDesc→Bool
 | .bool | .int _ | .slice _=>true
 | _=>false
def Cell1 (P:Program) (T:TypeId):Prop:=(∃ i,P.info? T=some i∧i.size=1)∧∃ d,P.underlying T=some d∧scalarDesc d=true
def Base (P:Program) (T:TypeId) (t:Ty):Prop:=
 ∃ i,P.info? T=some i∧i.zero=some (wval (fun _=>⟨none,0,0⟩) t.zeroW)∧i.size=t.cells∧i.bytes≤128∧1≤t.cells∧t.cells≤65536
def TyOK (P:Program):Ty→TypeId→Prop
 | .int k,T=>Base P T (.int k)∧P.underlying T=some (.int k)
 | .bool,T=>Base P T .bool∧P.underlying T=some .bool
 | .arr k m,T=>Base P T (.arr k m)∧(∃ e,P.underlying T=some (.array m e)∧P.underlying e=some (.int k)∧Cell1 P e)∧P.eqGuardType P.depth T=false
 | .barr m,T=>Base P T (.barr m)∧∃ e,P.underlying T=some (.array m e)∧P.underlying e=some .bool∧Cell1 P e
 | .slice u,T=>Base P T (.slice u)∧∃ e,P.underlying T=some (.slice e)∧TyOK P u e
 | .pair a b,T=>Base P T (.pair a b)∧(Ty.pair a b).leafs=true∧∃ fs,P.underlying T=some (.struct fs)∧(∀ fld∈fs.toList,Cell1 P fld.type) ∧
   ∀ f o u,(Ty.pair a b).offs f=some (o,u)→u.scalar=true∧∃ fld,fs[f]?=some fld∧fld.offset=o
structure EnvTy (P:Program) (E:Env):Prop where
 ty:∀ T t,E.ty T=some t→TyOK P t T
 str:∀ T,E.str.contains T=true→P.underlying T=some .string
instance {P:Program}{E:Env}:CoeFun (EnvTy P E) (fun _=>∀ T t,E.ty T=some t→TyOK P t T):=⟨EnvTy.ty⟩
theorem TyOK.base {P:Program}{t:Ty}{T:TypeId}(h:TyOK P t T):Base P T t:=by
 cases t<;>exact h.1
section
variable {P:Program}
theorem zDA {T:TypeId}{i:TypeInfo}(h:P.info? T=some i) (w:World):(typeInfo T).run P w=.ok i w:=by simp[typeInfo,h]
theorem zN {T:TypeId}{i:TypeInfo}(h:P.info? T=some i) (w:World):(sizeOf T).run P w=.ok i.size w:=by simp[sizeOf,zDA h]
theorem kI {T:TypeId}{i:TypeInfo}{z:Value}(h:P.info? T=some i) (hz:i.zero=some z) (w:World):(zeroValue T).run P w=.ok z w:=by
 simp[zeroValue,zDA h,hz]
theorem zDw {T:TypeId}(h:Cell1 P T) (w:World):(isAgg T).run P w=.ok false w:=by
 obtain⟨_,d,h1,h2⟩:=h;simp only[isAgg,Sem.run_bind,run_underlying h1,Result.andThen_ok]
 cases d<;>first | rfl | (simp[scalarDesc] at h2)
theorem TyOK.cell1 {t:Ty}{T:TypeId}(h:TyOK P t T) (ht:t.scalar=true):Cell1 P T:=by
 obtain⟨i,h1,_,h2,_⟩:=h.base
 refine⟨⟨i,h1,?_⟩,?_⟩
 · cases t<;>simp_all [Ty.scalar,Ty.cells]
 · cases t with
   | int k=>exact⟨_,h.2,rfl⟩
   | bool=>exact⟨_,h.2,rfl⟩
   | slice u=>obtain⟨e,h3,_⟩:=h.2;exact⟨_,h3,rfl⟩
   | _=>simp[Ty.scalar] at ht
theorem TyOK.run_isAgg {t:Ty}{T:TypeId}(h:TyOK P t T) (ht:t.scalar=false) (w:World):(isAgg T).run P w=.ok true w:=by
 cases t with
 | arr k m=>obtain⟨e,h3,_⟩:=h.2.1;simp[isAgg,run_underlying h3]
 | barr m=>obtain⟨e,h3,_⟩:=h.2;simp[isAgg,run_underlying h3]
 | pair a b=>obtain⟨e,h3,_⟩:=h.2.2;simp[isAgg,run_underlying h3]
 | _=>simp[Ty.scalar] at ht
theorem zBP {T:TypeId}(h:Cell1 P T) {w:World}{a:Addr}{v:Value}(hc:w.cell? a=some v):(loadVar T a).run P w=.ok v w:=by
 simp[loadVar,zDw h,hc]
theorem zA5 {t:Ty}{T:TypeId}(h:TyOK P t T) (ht:t.scalar=false) {w:World}{a:Addr}{vs:List Value}(hl:vs.length=t.cells)
  (hc:∀ j v,vs[j]?=some v→w.cell? (a.add j)=some v):(loadVar T a).run P w=.ok (.agg vs.toArray) w:=by
 obtain⟨i,h1,_,h2,_⟩:=h.base;simp only[loadVar,Sem.run_bind,h.run_isAgg ht,Result.andThen_ok,if_true,zN h1,h2,← hl,run_loadCells_list w a vs hc]
 rfl
theorem zCP (b off n:Nat):(⟨b,off,none⟩:Addr).add n=⟨b,off+n,none⟩:=by
 unfold Addr.add;split<;>simp_all
end
section
variable {w0:World}{X Y0:Nat→Prop}{fix:List (Nat×Value)}{s:St}{ρ:Locs}{col:Col}{a:Act}{w:World}
abbrev Yof (w0:World) (X Y0:Nat→Prop):Nat→Prop:=fun b=>Y0 b∨w0.heap.size≤b∨X b
theorem Inv.eval (h:Inv w0 X Y0 fix s ρ col a w) (x:Operand) (hx:s.eval x≠.undef):wfV s.ob ρ (s.eval x)∧a.eval x=vval ρ (s.eval x):=by
 cases x with
 | tmp t=>
  simp only[St.eval] at hx ⊢
  cases ht:s.tm[t]? with
  | none=>rw[List.getD,ht] at hx;exact absurd rfl hx
  | some v=>
   have e:s.tm.getD t .undef=v:=by rw[List.getD,ht];rfl
   rw[e] at hx ⊢
   rcases h.tmps t v ht with g | g
   · exact absurd g hx
   · exact g
 | const v=>
  simp only[St.eval] at hx ⊢;unfold evalC at hx ⊢;split at hx<;>first | exact⟨trivial,rfl⟩ | exact absurd rfl hx
 | global g=>exact absurd rfl hx
 | func f=>exact⟨fun _ hx=>by simp at hx,rfl⟩
theorem Inv.evalW (h:Inv w0 X Y0 fix s ρ col a w) {x:Operand}{u:W}(hx:(s.eval x).one=some u):wfW s.ob ρ u∧a.eval x=wval ρ u:=by
 have e:s.eval x=.w u:=by
  cases hv:s.eval x with
  | w y=>rw[hv] at hx;simp only[V.one,Option.some.injEq] at hx;rw[hx]
  | _=>rw[hv] at hx;simp[V.one] at hx
 have:=h.eval x (by rw[e];simp);rw[e] at this;exact this
theorem Inv.evalInt (h:Inv w0 X Y0 fix s ρ col a w) {x:Operand}{k:IntKind}{n:Int}(hx:(s.eval x).int?=some (k,n)):a.eval x=.int k n:=by
 cases hu:(s.eval x).one with
 | none=>simp[V.int?,hu] at hx
 | some u=>
  have:=(h.evalW hu).2;rw[this]
  cases u with
  | c c=>
   cases c with
   | int k' n'=>
    simp only[V.int?,hu,Option.bind_some,W.int?,Option.some.injEq,Prod.mk.injEq] at hx;obtain⟨rfl,rfl⟩:=hx;rfl
   | _=>simp[V.int?,hu,W.int?] at hx
  | _=>simp[V.int?,hu,W.int?] at hx
theorem Inv.evalBool (h:Inv w0 X Y0 fix s ρ col a w) {x:Operand}{b:Bool}(hx:(s.eval x).bool?=some b):a.eval x=.bool b:=by
 cases hu:(s.eval x).one with
 | none=>simp[V.bool?,hu] at hx
 | some u=>
  have:=(h.evalW hu).2;rw[this]
  cases u with
  | c c=>
   cases c with
   | bool b'=>
    simp only[V.bool?,hu,Option.bind_some,W.bool?,Option.some.injEq] at hx;subst hx;rfl
   | _=>simp[V.bool?,hu,W.bool?] at hx
  | _=>simp[V.bool?,hu,W.bool?] at hx
theorem Inv.evalCell (h:Inv w0 X Y0 fix s ρ col a w) {x:Operand}{c:C}(hx:(s.eval x).one.bind W.cell?=some c):wfC s.ob ρ c∧a.eval x=cval ρ c:=by
 cases hu:(s.eval x).one with
 | none=>simp[hu] at hx
 | some u=>
  have:=h.evalW hu
  cases u with
  | c c'=>
   simp only[hu,Option.bind_some,W.cell?,Option.some.injEq] at hx;subst hx;exact this
  | _=>simp[hu,W.cell?] at hx
theorem Inv.step {dst:Option Nat}{ob':Objs}{ρ':Locs}{col':Col}{w':World}{v:V}{x:Value}(h:Inv w0 X Y0 fix s ρ col a w)
  (hf:apart dst.toList (fix.map (·.1))=true)
  (hst:Stays s.ob ob' ρ ρ') (hobjs:∀ o y,ob' o=some y→ObjRel ob' ρ' col' (Yof w0 X Y0) w' o y)
  (hcold:∀ b o c,col' b=some (o,c)→(w0.heap.size≤b∨X b)∧b<w'.heap.size∧ob' o≠none)
  (hlow:∀ b,b<w0.heap.size→¬ X b→w'.heap[b]?=w.heap[b]?) (hmono:w.heap.size≤w'.heap.size) (hv:VRel ob' ρ' v x) (hlike:Like w w'):
  Inv w0 X Y0 fix ⟨setO s.tm dst v,ob'⟩ ρ' col' (a.put dst x) w':=by
 refine⟨?_,?_,?_,hobjs,hcold,fun b hb hx=>(hlow b hb hx).trans (h.low b hb hx),Nat.le_trans h.mono hmono,?_,h.same.trans hlike⟩
 · cases dst<;>exact h.defers
 · cases dst with
   | none=>exact h.size
   | some d=>simpa[Act.put,setO] using h.size
 · intro i u hi
   cases dst with
   | none=>exact hst.vrel (h.tmps i u hi)
   | some d=>
    simp only[Act.put,setO] at hi ⊢;rw[List.getElem?_set] at hi;have hsz:=h.size
    by_cases hd:d=i
    · subst hd
      by_cases hl:d<s.tm.length
      · simp only[if_true,hl] at hi;injection hi with hi;subst hi
        have:(a.tmps.setIfInBounds d x).getD d Go.undef=x:=by simp[Array.getD,hsz,hl]
        rw[this];exact hv
      · simp[hl] at hi
    · rw[if_neg hd] at hi;have:(a.tmps.setIfInBounds d x).getD i Go.undef=a.tmps.getD i Go.undef:=by
       simp only[Array.getD_eq_getD_getElem?,Array.getElem?_setIfInBounds,if_neg hd]
      rw[this];exact hst.vrel (h.tmps i u hi)
 · intro p hp;obtain⟨h1,h2⟩:=h.fixed p hp
   cases dst with
   | none=>exact⟨h1,h2⟩
   | some d=>
    have hd:d≠p.1:=by
     intro e;simp only[apart,Option.toList,List.all_cons,List.all_nil,Bool.and_true,Bool.not_eq_true',List.contains_eq_mem,decide_eq_false_iff_not] at hf;exact hf (by rw[e];exact List.mem_map_of_mem hp)
    refine⟨by simpa[Act.put] using h1,?_⟩;simp only[Act.put,Array.getD_eq_getD_getElem?,Array.getElem?_setIfInBounds,if_neg hd];simpa[Array.getD_eq_getD_getElem?] using h2
theorem Inv.slot {dst:Option Nat}{v:V}{x:Value}(h:Inv w0 X Y0 fix s ρ col a w) (hf:apart dst.toList (fix.map (·.1))=true) (hv:VRel s.ob ρ v x):
  Inv w0 X Y0 fix ⟨setO s.tm dst v,s.ob⟩ ρ col (a.put dst x) w:=
 h.step hf (Stays.refl _ _) h.objs h.cold (fun _ _ _=>rfl) (Nat.le_refl _) hv (Like.refl w)
theorem Inv.world {w':World}(h:Inv w0 X Y0 fix s ρ col a w) (hw:w'.heap=w.heap) (hl:Like w w'):Inv w0 X Y0 fix s ρ col a w':=by
 have hs:Stays s.ob s.ob ρ ρ:=Stays.refl _ _;refine⟨h.defers,h.size,h.tmps,fun o y hy=>?_,by rw[hw];exact h.cold,by rw[hw];exact h.low,by rw[hw];exact h.mono,h.fixed,h.same.trans hl⟩;exact (h.objs o y hy).frame (by rw[hy];simp) hs (by rw[hw];exact Nat.le_refl _) (fun b c _ hc=>⟨hc,by rw[hw]⟩) (fun b _ hr=>⟨hr,by rw[hw]⟩)
end
end Go.Ev
set_option linter.unusedSimpArgs false
set_option linter.unusedVariables false
namespace Go.Ev
section
variable {P:Program}
theorem zIr (op:BinOp) (T:TypeId) (x y:Operand) (u v:Value) (h:(∃ k n k' n',u=.int k n∧v=.int k' n')∨(∃ b b',u=.bool b∧v=.bool b')) (w:World):
  (eqGuard op T x y u v).run P w=.ok () w:=by
 rcases h with ⟨k,n,k',n',rfl,rfl⟩ | ⟨b,b',rfl,rfl⟩<;>(unfold eqGuard;cases op<;>simp)
theorem zL8 (op:BinOp) (T:TypeId) (x y:Operand) (u v:Array Value) (h:P.eqGuardType P.depth T=false) (w:World):
  (eqGuard op T x y (.agg u) (.agg v)).run P w=.ok () w:=by
 unfold eqGuard;cases op<;>simp[h]
theorem zAX {T:TypeId}(h:Cell1 P T) {cs:Array Value}{n:Nat}{v:Value}(hv:cs[n]?=some v) (w:World):(part T cs n).run P w=.ok v w:=by
 simp[part,zDw h,hv]
theorem zL7 {e:TypeId}{k:IntKind}(he:P.underlying e=some (.int k)) {a b:Int}(d:Nat) (w:World):
  (Op.equalIn (d+1) e (.int k a) (.int k b)).run P w=.ok (a==b) w:=by
 simp[Op.equalIn,run_underlying he]
theorem zOX {e:TypeId}(he:P.underlying e=some .bool) {a b:Bool}(w:World):
  (Op.equal e (.bool a) (.bool b)).run P w=.ok (a==b) w:=by
 have:∀ d,(Op.equalIn (d+1) e (.bool a) (.bool b)).run P w=.ok (a==b) w:=fun d=>by simp[Op.equalIn,run_underlying he]
 exact this 9999
theorem zIJ {T e:TypeId}{k:IntKind}{m:Nat}(hT:P.underlying T=some (.array m e)) (he:P.underlying e=some (.int k)) (h1:Cell1 P e)
  (xs ys:List Int) (hx:xs.length=m) (hy:ys.length=m) (w:World):
  (Op.equal T (.agg (xs.map (Value.int k)).toArray) (.agg (ys.map (Value.int k)).toArray)).run P w=.ok (xs==ys) w:=by
 obtain⟨i,hi,hs⟩:=h1.1
 have key:∀ (n j:Nat),j+n=m→Sem.run P (forIn (List.range' j n) ((none:Option Bool),()) fun (i:Nat) (_:Option Bool×Unit)=>do
       let __do_lift ← part e (xs.map (Value.int k)).toArray (i*1)
       let __do_lift_1 ← part e (ys.map (Value.int k)).toArray (i*1)
       let __do_lift ← Op.equalIn (Op.maxDepth-1) e __do_lift __do_lift_1
       if (!__do_lift)=true then (pure (ForInStep.done (some false,())):Sem (ForInStep (Option Bool×Unit))) else pure (ForInStep.yield (none,()))) w
   = .ok (if xs.drop j==ys.drop j then (none,()) else (some false,())) w:=by
  intro n
  induction n with
  | zero=>
   intro j hj;simp[show j=m by omega,List.drop_of_length_le,hx,hy]
  | succ n ih=>
   intro j hj;have hjx:j<xs.length:=by omega
   have hjy:j<ys.length:=by omega
   have px:(xs.map (Value.int k)).toArray[j]?=some (.int k xs[j]):=by simp[hjx]
   have py:(ys.map (Value.int k)).toArray[j]?=some (.int k ys[j]):=by simp[hjy]
   simp only[List.range'_succ,List.forIn_cons,Nat.mul_one,Sem.run_bind,zAX h1 px,zAX h1 py,Result.andThen_ok];rw[show (Op.equalIn (Op.maxDepth-1) e (.int k xs[j]) (.int k ys[j])).run P w=.ok (xs[j]==ys[j]) w from zL7 he 9998 w];simp only[Result.andThen_ok];have ed:(xs.drop j==ys.drop j)=(xs[j]==ys[j]&&xs.drop (j+1)==ys.drop (j+1)):=by
    rw[List.drop_eq_getElem_cons hjx,List.drop_eq_getElem_cons hjy];rfl
   rw[ed]
   by_cases hb:xs[j]=ys[j]
   · have ih':=ih (j+1) (by omega);simp only[Nat.mul_one] at ih';simp only[hb,beq_self_eq_true,Bool.not_true,Bool.false_eq_true,if_false,Bool.true_and];exact ih'
   · simp[hb]
 have hk:=key m 0 (by omega);simp only[List.drop_zero] at hk;unfold Op.equal;rw[show Op.maxDepth=(Op.maxDepth-1)+1 from rfl];simp only[Op.equalIn,Sem.run_bind,run_underlying hT,Result.andThen_ok,zN hi,hs,Std.Legacy.Range.forIn_eq_forIn_range',Std.Legacy.Range.size,Nat.sub_zero,Nat.add_one_sub_one,Nat.div_one];rw[hk];by_cases hb:xs==ys<;>simp[hb]
theorem zI2 {E:Env}(hE:EnvTy P E) {op:BinOp}{T:TypeId}{x y u:W}{ok:Bool}{ρ:Locs}{ob:Objs}(h:binW op (E.ty T) x y=some (ok,u)) (hok:ok=true)
  (hx:wfW ob ρ x) (hy:wfW ob ρ y) (p q:Operand) (w:World):
  wfW ob ρ u∧(do eqGuard op T p q (wval ρ x) (wval ρ y);binOp op T (wval ρ x) (wval ρ y):Sem Value).run P w=.ok (wval ρ u) w:=by
 subst hok
 cases x with
 | c x=>
  cases x with
  | int k a=>
   cases y with
   | c y=>
    cases y with
    | int k' b=>
     have g:=zIr (P:=P) op T p q (.int k a) (.int k' b) (.inl ⟨_,_,_,_,rfl,rfl⟩) w;simp only[wval,cval,Sem.run_bind,g,Result.andThen_ok]
     by_cases hkk:k=k'
     · subst hkk
       cases op<;>simp only[binW,intOp,if_true,Option.some.injEq,Prod.mk.injEq,reduceCtorEq] at h<;>(try (exact absurd h id))<;>obtain⟨h1,rfl⟩:=h<;>
        refine⟨trivial,?_⟩<;>simp_all [binOp,Op.intArith,Op.intDiv,Op.intBits,Op.intCmp,Op.shift,cval]
       all_goals (intro hb;omega)
     · cases op<;>simp only[binW,if_neg hkk,reduceCtorEq,Option.some.injEq,Prod.mk.injEq] at h<;>obtain⟨h1,rfl⟩:=h<;>
        (refine⟨trivial,?_⟩;simp_all [binOp,Op.shift,cval];intro hb;omega)
    | _=>simp[binW] at h
   | _=>simp[binW] at h
  | bool a=>
   cases y with
   | c y=>
    cases y with
    | bool b=>
     simp only[binW] at h
     split at h
     · rename_i hT;have hty:=(hE T _ hT).2;have g:=zIr (P:=P) op T p q (.bool a) (.bool b) (.inr ⟨_,_,rfl,rfl⟩) w;simp only[wval,cval,Sem.run_bind,g,Result.andThen_ok]
       cases op<;>simp only[Option.some.injEq,Prod.mk.injEq,reduceCtorEq] at h<;>obtain⟨h1,rfl⟩:=h<;>
        (refine⟨trivial,?_⟩;simp only[binOp,Sem.run_bind,zOX hty,Result.andThen_ok,cval];rfl)
     · simp at h
    | _=>simp[binW] at h
   | _=>simp[binW] at h
  | _=>simp[binW] at h
 | arr k m xs=>
  cases y with
  | arr k' m' ys=>
   simp only[binW] at h
   split at h
   · rename_i hc;obtain⟨rfl,rfl,hT⟩:=hc;obtain⟨_,⟨e,h1,h2,h3⟩,h4⟩:=hE T _ hT;have g:=zL8 (P:=P) op T p q ((wcells ρ (.arr k m xs)).toArray) ((wcells ρ (.arr k m ys)).toArray) h4 w;simp only[wval,Sem.run_bind,g,Result.andThen_ok];have q:=zIJ h1 h2 h3 xs ys hx hy w
     cases op<;>simp only[Option.some.injEq,Prod.mk.injEq,reduceCtorEq] at h<;>obtain⟨h1,rfl⟩:=h<;>
      (refine⟨trivial,?_⟩;simp only[binOp,wcells,Sem.run_bind,q,Result.andThen_ok,cval];rfl)
   · simp at h
  | _=>simp[binW] at h
 | _=>cases y<;>simp[binW] at h
end
end Go.Ev
namespace Go.Ev
section
variable {P:Program}{E:Env}{w0:World}{X Y0:Nat→Prop}{fix:List (Nat×Value)}
def Does (P:Program) (w0:World) (X Y0:Nat→Prop) (fix:List (Nat×Value)) (s:St) (dst:Option Nat) (e:Eff) (a:Act) (r:Result Next):Prop:=
 ∃ x w',(r=.ok (.value x) w'∨(r=.ok .skip w'∧x=Go.undef))∧∃ ρ' col',Inv w0 X Y0 fix (s.put dst e) ρ' col' (a.put dst x) w'
variable {s:St}{ρ:Locs}{col:Col}{a:Act}{w:World}
theorem Does.same (h:Inv w0 X Y0 fix s ρ col a w) {dst:Option Nat}(hf:apart dst.toList (fix.map (·.1))=true) {e:Eff}(h1:e.wr=[]) (h2:e.nw=[]) {x:Value}
  (hv:VRel s.ob ρ e.v x) {r:Result Next}(hr:r=.ok (.value x) w):Does P w0 X Y0 fix s dst e a r:=by
 refine⟨x,w,.inl hr,ρ,col,?_⟩;have:=h.slot hf hv;simpa only[St.put,h1,h2,List.append_nil,Objs.upds] using this
theorem Does.sameW (h:Inv w0 X Y0 fix s ρ col a w) {dst:Option Nat}(hf:apart dst.toList (fix.map (·.1))=true) {u:W}{ok:Bool}{rd:List Nat}
  (hv:wfW s.ob ρ u) {r:Result Next}(hr:r=.ok (.value (wval ρ u)) w):Does P w0 X Y0 fix s dst ⟨ok,.w u,[],[],rd⟩ a r:=
 Does.same (e:=⟨ok,.w u,[],[],rd⟩) h hf rfl rfl (.inr ⟨hv,rfl⟩) hr
theorem Inv.obj (h:Inv w0 X Y0 fix s ρ col a w) {o:Nat}{x:Obj}(hx:s.ob o=some x):ObjRel s.ob ρ col (Yof w0 X Y0) w o x:=h.objs o x hx
theorem zX {ob:Objs}{o:Nat}{t:Ty}{m:Mode}{xs:List t.den}(h:rowAs ob o t=some (m,xs)):ob o=some (.row m t xs):=by
 unfold rowAs at h
 split at h
 · rename_i m' t' ys hy
   split at h
   · rename_i e;subst e;simp only[Option.some.injEq,Prod.mk.injEq] at h;obtain⟨rfl,rfl⟩:=h;exact hy
   · simp at h
 · simp at h
theorem Inv.row (h:Inv w0 X Y0 fix s ρ col a w) {o:Nat}{t:Ty}{m:Mode}{xs:List t.den}(hx:rowAs s.ob o t=some (m,xs)):
  (ρ o).len=xs.length∧RowW w m.mine (okO col (Yof w0 X Y0) m o) t.cells xs.length (ρ o).addr (ρ o).cap∧Elems w m.deep (okE col (Yof w0 X Y0) m o) t xs (ρ o).addr:=
 h.obj (zX hx)
theorem zRV {own:Bool}{ok:Nat→Prop}{es len:Nat}{addr:Option Addr}{cap:Nat}(h:RowW w own ok es len addr cap) (hl:0<len):∃ b off,addr=some ⟨b,off,none⟩:=by
 cases addr with
 | none=>exact absurd (h.2.1 rfl).1 (by omega)
 | some a=>
  obtain⟨h1,_⟩:=h.2.2 a rfl (.inl hl);obtain⟨b,off,sp⟩:=a;simp only at h1;subst h1;exact⟨b,off,rfl⟩
theorem Inv.slice (h:Inv w0 X Y0 fix s ρ col a w) {u:W}{t:Ty}{us:List (Nat×Mode)}{xs:List t.den}(hu:u.sliceOf s.ob t=some (us,xs)):
  ∃ addr cap m,wval ρ u=.slice addr xs.length cap∧RowW w m.mine (match us with | []=>fun _=>True | (o,_)::_=>okO col (Yof w0 X Y0) m o) t.cells xs.length addr cap ∧
   Elems w m.deep (match us with | []=>fun _ _=>True | (o,_)::_=>okE col (Yof w0 X Y0) m o) t xs addr ∧
   ((us=[]∧u=.c .nil∧xs=[]∧addr=none∧cap=0)∨∃ o,us=[(o,m)]∧u=.c (.sl o)∧rowAs s.ob o t=some (m,xs)∧addr=(ρ o).addr∧cap=(ρ o).cap):=by
 match u,hu with
 | .c .nil,hu=>
  simp only[W.sliceOf,Option.some.injEq,Prod.mk.injEq] at hu;obtain⟨rfl,rfl⟩:=hu;exact⟨none,0,.ro,rfl,⟨Nat.le_refl _,fun _=>⟨rfl,fun _=>rfl⟩,fun a h=>by simp at h⟩,fun i x hx=>by simp at hx,.inl ⟨rfl,rfl,rfl,rfl,rfl⟩⟩
 | .c (.sl o),hu=>
  simp only[W.sliceOf] at hu
  split at hu
  · rename_i m xs' hr;simp only[Option.some.injEq,Prod.mk.injEq] at hu;obtain⟨rfl,rfl⟩:=hu;obtain⟨h1,h2,h3⟩:=h.row hr;exact⟨(ρ o).addr,(ρ o).cap,m,by simp only[wval,cval,h1],h2,h3,.inr ⟨o,rfl,rfl,hr,rfl,rfl⟩⟩
  · simp at hu
 | .c (.int _ _),hu=>simp[W.sliceOf] at hu
 | .c (.bool _),hu=>simp[W.sliceOf] at hu
 | .c (.ptr _ _ _ _),hu=>simp[W.sliceOf] at hu
 | .arr _ _ _,hu=>simp[W.sliceOf] at hu
 | .barr _ _,hu=>simp[W.sliceOf] at hu
 | .st _,hu=>simp[W.sliceOf] at hu
theorem C.fits_wf {c:C}{t:Ty}(h:C.fits c t=true):t.scalar=true:=by
 cases c<;>cases t<;>simp_all [C.fits,Ty.scalar]
theorem Inv.box (h:Inv w0 X Y0 fix s ρ col a w) {o:Nat}{m:Mode}{x:W}(hx:s.ob o=some (.box m x)):
  ∃ b,(ρ o).addr=some ⟨b,0,none⟩∧b<w.heap.size∧wfW s.ob ρ x∧(ρ o).len=(wcells ρ x).length ∧
   (∀ j v,(wcells ρ x)[j]?=some v→w.cell? ⟨b,j,none⟩=some v)∧okO col (Yof w0 X Y0) m o b ∧
   (m.mine=true→∃ cs T,w.heap[b]?=some (.cells cs T (0,0))∧cs.size=(ρ o).len):=h.obj hx
theorem zQF {t:Ty}:∀ {cs r:List C},fitsC t cs=some r→cs.length=t.cells+r.length:=by
 induction t with
 | pair a b iha ihb=>
  intro cs r h;simp only[fitsC,Option.bind_eq_some_iff] at h;obtain⟨r1,h1,h2⟩:=h;have:=iha h1;have:=ihb h2;simp only[Ty.cells];omega
 | int k=>intro cs r h;cases cs<;>simp_all [fitsC,Ty.cells];obtain⟨_,rfl⟩:=h;omega
 | bool=>intro cs r h;cases cs<;>simp_all [fitsC,Ty.cells];obtain⟨_,rfl⟩:=h;omega
 | slice u _=>intro cs r h;cases cs<;>simp_all [fitsC,Ty.cells];obtain⟨_,rfl⟩:=h;omega
 | arr k m=>
  intro cs r h
  cases cs with
  | nil=>simp[fitsC] at h
  | cons c cs=>cases c<;>simp[fitsC,C.fits] at h
 | barr m=>
  intro cs r h
  cases cs with
  | nil=>simp[fitsC] at h
  | cons c cs=>cases c<;>simp[fitsC,C.fits] at h
theorem W.fits_len {x:W}{t:Ty}{ob:Objs}{ρ:Locs}(h:W.fits x t=true) (hw:wfW ob ρ x):(wcells ρ x).length=t.cells:=by
 cases x with
 | c x=>cases x<;>cases t<;>simp_all [W.fits,C.fits,wcells,Ty.cells]
 | arr k m xs=>cases t<;>simp_all [W.fits,wcells,Ty.cells,wfW]
 | barr m xs=>cases t<;>simp_all [W.fits,wcells,Ty.cells,wfW]
 | st cs=>
  cases t with
  | pair a b=>
   simp only[W.fits] at h
   split at h
   · rename_i h2;have:=zQF h2;simpa[wcells] using this
   · simp at h
  | _=>simp[W.fits] at h
theorem W.fits_agg {x:W}{t:Ty}(h:W.fits x t=true) (ht:t.scalar=false) {ρ:Locs}:wval ρ x=.agg (wcells ρ x).toArray:=by
 cases x with
 | c x=>simp only[W.fits] at h;rw[C.fits_wf h] at ht;simp at ht
 | _=>rfl
theorem W.fits_scalar {x:W}{t:Ty}(h:W.fits x t=true) (ht:t.scalar=true):∃ c,x=.c c∧C.fits c t=true:=by
 cases x with
 | c x=>exact⟨x,rfl,h⟩
 | arr k m xs=>cases t<;>simp_all [W.fits,Ty.scalar]
 | barr m xs=>cases t<;>simp_all [W.fits,Ty.scalar]
 | st cs=>cases t<;>simp_all [W.fits,Ty.scalar]
end
end Go.Ev
namespace Go.Ev
section
variable {P:Program}{E:Env}{w0:World}{X Y0:Nat→Prop}{fix:List (Nat×Value)}
variable {s:St}{ρ:Locs}{col:Col}{a:Act}{w:World}
theorem zHr {v:V}{u:W}(h:v.one=some u):v=.w u:=by
 cases v<;>simp_all [V.one]
theorem zHb {P:Program}{a b:Ty}{T:TypeId}(h:TyOK P (.pair a b) T) {f o:Nat}{u:Ty}(hf:(Ty.pair a b).offs f=some (o,u)):
  u.scalar=true∧∃ fs fld,P.underlying T=some (.struct fs)∧fs[f]?=some fld∧fld.offset=o∧Cell1 P fld.type:=by
 obtain⟨_,_,fs,h1,h3,h2⟩:=h;obtain⟨g1,fld,g2,g3⟩:=h2 f o u hf;exact⟨g1,fs,fld,h1,g2,g3,h3 fld (Array.mem_toList_iff.2 (Array.mem_of_getElem? g2))⟩
theorem zHS {T:TypeId}{fs:Array Field}{f:Nat}{fld:Field}(h1:P.underlying T=some (.struct fs)) (h2:fs[f]?=some fld) (h3:Cell1 P fld.type) (b off:Nat) (w:World):
  (Instr.fieldAt T (.pointer (some ⟨b,off,none⟩)) f).run P w=.ok (.pointer (some ⟨b,off+fld.offset,none⟩)) w:=by
 obtain⟨i,hi,hs⟩:=h3.1;simp[Instr.fieldAt,run_underlying h1,h2,Instr.sureAddr,fieldPlace,zN hi,hs,zCP]
theorem zPV {T:TypeId}{fs:Array Field}{f:Nat}{fld:Field}(h1:P.underlying T=some (.struct fs)) (h2:fs[f]?=some fld) (h3:Cell1 P fld.type) {cs:Array Value}{v:Value}
  (hv:cs[fld.offset]?=some v) (w:World):(Instr.field T (.agg cs) f).run P w=.ok v w:=by
 simp[Instr.field,run_underlying h1,h2,asAgg,zAX h3 hv]
theorem zBK {L:Loc}{b off n:Nat}(h:L.addr=some ⟨b,off,none⟩):L.at n=some ⟨b,off+n,none⟩:=by simp[Loc.at,h]
theorem zHM (hE:EnvTy P E) (h:Inv w0 X Y0 fix s ρ col a w) {T:TypeId}{x:Operand}{f o i es j n:Nat}{t u:Ty}(ht:E.ty T=some t) (hx:(s.eval x).one=some (.c (.ptr o i es j)))
  (ho:t.offs f=some (n,u)) (hp:pointsTo s o es j t=true):
  wfW s.ob ρ (.c (.ptr o i es (j+n)))∧(Instr.fieldAt T (a.eval x) f).run P w=.ok (wval ρ (.c (.ptr o i es (j+n)))) w:=by
 obtain⟨hw,hv⟩:=h.evalW hx
 cases t with
 | pair t1 t2=>
  obtain⟨hu,fs,fld,h1,h2,h3,h4⟩:=zHb (hE T _ ht) ho;obtain⟨g1,⟨b,off,g2⟩,g3⟩:=hw;have hn:n<(Ty.pair t1 t2).cells:=offs_lt ho hu
  refine⟨⟨g1,⟨b,off,g2⟩,?_⟩,?_⟩
  · unfold pointsTo at hp
    split at hp
    · rename_i m x' hb;simp only[Bool.and_eq_true,beq_iff_eq] at hp;obtain⟨⟨hp1,hp2⟩,hp3⟩:=hp;obtain⟨_,_,_,k3,k4,_⟩:=h.box hb;have:=W.fits_len hp1 k3;subst hp2;subst hp3;simp only[if_true] at g3 ⊢;omega
    · rename_i m u' xs hb;simp only[Bool.and_eq_true,beq_iff_eq,decide_eq_true_eq] at hp;obtain⟨⟨hp1,hp2⟩,hp3⟩:=hp;subst hp1;subst hp3;have:es≠0:=by
       have:=(hE T _ ht).base;obtain⟨_,_,_,_,_,q,_⟩:=this;omega
      rw[if_neg this] at g3 ⊢;omega
    · simp at hp
  · rw[hv];simp only[wval,cval,zBK g2,zHS h1 h2 h4,h3];simp only[Nat.add_assoc]
 | _=>simp[Ty.offs] at ho
where
 offs_lt {a b u:Ty}{f n:Nat}(h:(Ty.pair a b).offs f=some (n,u)) (hu:u.scalar=true):n<(Ty.pair a b).cells:=by
  have key:∀ (b a:Ty) (f n:Nat),(Ty.pair a b).offs f=some (n,u)→n+1≤(Ty.pair a b).cells:=by
   intro b;have hc:1≤u.cells:=by cases u<;>simp_all [Ty.scalar,Ty.cells]
   induction b with
   | pair c d _ ihd=>
    intro a f n h
    cases f with
    | zero=>simp only[Ty.offs,Option.some.injEq,Prod.mk.injEq] at h;obtain⟨rfl,rfl⟩:=h;simp only[Ty.cells];omega
    | succ f=>
     simp only[Ty.offs] at h
     split at h
     · rename_i o' t' hh;simp only[Option.some.injEq,Prod.mk.injEq] at h;obtain⟨rfl,rfl⟩:=h;have:=ihd c f o' hh;simp only[Ty.cells] at this ⊢;omega
     · simp at h
   | int k=>
    intro a f n h;rcases f with _ | _ | f<;>simp[Ty.offs] at h<;>(obtain⟨rfl,rfl⟩:=h;simp only[Ty.cells] at hc ⊢;omega)
   | bool=>
    intro a f n h;rcases f with _ | _ | f<;>simp[Ty.offs] at h<;>(obtain⟨rfl,rfl⟩:=h;simp only[Ty.cells] at hc ⊢;omega)
   | slice k _=>
    intro a f n h;rcases f with _ | _ | f<;>simp[Ty.offs] at h<;>(obtain⟨rfl,rfl⟩:=h;simp only[Ty.cells] at hc ⊢;omega)
   | arr k m=>
    intro a f n h;rcases f with _ | _ | f<;>simp[Ty.offs] at h<;>(obtain⟨rfl,rfl⟩:=h;simp only[Ty.cells] at hc ⊢;omega)
   | barr m=>
    intro a f n h;rcases f with _ | _ | f<;>simp[Ty.offs] at h<;>(obtain⟨rfl,rfl⟩:=h;simp only[Ty.cells] at hc ⊢;omega)
  exact key b a f n h
theorem zLi (hE:EnvTy P E) (h:Inv w0 X Y0 fix s ρ col a w) {T:TypeId}{x:Operand}{f n:Nat}{t u:Ty}{cs:List C}{c:C}(ht:E.ty T=some t) (hx:(s.eval x).one=some (.st cs))
  (ho:t.offs f=some (n,u)) (hc:cs[n]?=some c):
  wfW s.ob ρ (.c c)∧(Instr.field T (a.eval x) f).run P w=.ok (wval ρ (.c c)) w:=by
 obtain⟨hw,hv⟩:=h.evalW hx
 cases t with
 | pair t1 t2=>
  obtain⟨hu,fs,fld,h1,h2,h3,h4⟩:=zHb (hE T _ ht) ho;refine⟨hw c (List.mem_of_getElem? hc),?_⟩;rw[hv];refine zPV h1 h2 h4 ?_ w;rw[h3];simp[wcells,hc,wval]
 | _=>simp[Ty.offs] at ho
theorem zBQ {T e:TypeId}{i:TypeInfo}(hT:P.underlying T=some (.slice e)) (hi:P.info? e=some i) (b off len cap:Nat) (k:IntKind) (n:Int) (h0:0≤n) (h1:n<len) (w:World):
  (Instr.indexAt T (.slice (some ⟨b,off,none⟩) len cap) (.int k n)).run P w=.ok (.pointer (some ⟨b,off+n.toNat*i.size,none⟩)) w:=by
 simp[Instr.indexAt,run_underlying hT,asIntOf,h0,h1,zN hi,zCP]
theorem zHR {T e:TypeId}{m:Nat}(hT:P.underlying T=some (.array m e)) (he:Cell1 P e) (b off:Nat) (k:IntKind) (n:Int) (h0:0≤n) (h1:n<m) (w:World):
  (Instr.indexAt T (.pointer (some ⟨b,off,none⟩)) (.int k n)).run P w=.ok (.pointer (some ⟨b,off+n.toNat,none⟩)) w:=by
 obtain⟨i,hi,hs⟩:=he.1;simp[Instr.indexAt,run_underlying hT,asIntOf,Instr.sureAddr,h0,h1,zN hi,hs,zCP]
theorem zC7 (hE:EnvTy P E) (h:Inv w0 X Y0 fix s ρ col a w) {T:TypeId}{x y:Operand}{t:Ty}{o:Nat}{k:IntKind}{n:Int}{m:Mode}{xs:List t.den}
  (ht:E.ty T=some (.slice t)) (hx:(s.eval x).one=some (.c (.sl o))) (hy:(s.eval y).int?=some (k,n)) (hr:rowAs s.ob o t=some (m,xs)) (h0:0≤n) (h1:n<xs.length):
  wfW s.ob ρ (.c (.ptr o n.toNat t.cells 0))∧(Instr.indexAt T (a.eval x) (a.eval y)).run P w=.ok (wval ρ (.c (.ptr o n.toNat t.cells 0))) w:=by
 obtain⟨hw,hv⟩:=h.evalW hx;obtain⟨hl,hrow,_⟩:=h.row hr;obtain⟨b,off,ha⟩:=zRV hrow (by omega);obtain⟨_,e,hT,hte⟩:=hE T _ ht;obtain⟨i,hi,_,hs,_,hc1,_⟩:=hte.base
 refine⟨⟨hw,⟨b,off,ha⟩,?_⟩,?_⟩
 · rw[if_neg (by omega)];exact⟨by omega,by omega⟩
 · rw[hv,h.evalInt hy];simp only[wval,cval,hl,ha,zBK ha,zBQ hT hi b off _ _ k n h0 h1,hs,Nat.add_zero]
theorem zA3 (h:Inv w0 X Y0 fix s ρ col a w) {T e:TypeId}{x y:Operand}{m o i es:Nat}{t:Ty}{k:IntKind}{n:Int}
  (hT:P.underlying T=some (.array m e)) (he:Cell1 P e) (htc:t.cells=m) (hx:(s.eval x).one=some (.c (.ptr o i es 0))) (hy:(s.eval y).int?=some (k,n))
  (hp:pointsTo s o es 0 t=true) (h0:0≤n) (h1:n<(m:Int)):
  wfW s.ob ρ (.c (.ptr o i es n.toNat))∧(Instr.indexAt T (a.eval x) (a.eval y)).run P w=.ok (wval ρ (.c (.ptr o i es n.toNat))) w:=by
 obtain⟨hw,hv⟩:=h.evalW hx;obtain⟨g1,⟨b,off,g2⟩,g3⟩:=hw
 refine⟨⟨g1,⟨b,off,g2⟩,?_⟩,?_⟩
 · unfold pointsTo at hp
   split at hp
   · rename_i m' x' hb;simp only[Bool.and_eq_true,beq_iff_eq] at hp;obtain⟨⟨hp1,hp2⟩,_⟩:=hp;obtain⟨_,_,_,k3,k4,_⟩:=h.box hb;have:=W.fits_len hp1 k3;subst hp2;simp only[if_true] at g3 ⊢;omega
   · rename_i m' u' xs hb;simp only[Bool.and_eq_true,beq_iff_eq,decide_eq_true_eq] at hp;obtain⟨⟨hp1,hp2⟩,_⟩:=hp;subst hp1;have:es≠0:=by omega
     rw[if_neg this] at g3 ⊢;omega
   · simp at hp
 · rw[hv,h.evalInt hy];simp only[wval,cval,zBK g2,Nat.add_zero,zHR hT he b _ k n h0 h1,Nat.add_assoc]
theorem zE0 {T e:TypeId}{m:Nat}(hT:P.underlying T=some (.array m e)) (he:Cell1 P e) {cs:Array Value}(k:IntKind) (n:Int) (h0:0≤n) (h1:n<m) {v:Value}
  (hv:cs[n.toNat]?=some v) (w:World):(Instr.index T (.agg cs) (.int k n)).run P w=.ok v w:=by
 obtain⟨i,hi,hs⟩:=he.1;simp[Instr.index,asIntOf,run_underlying hT,h0,h1,zN hi,hs,zAX he hv]
theorem zFj (h:Inv w0 X Y0 fix s ρ col a w) {o i es j:Nat}{m:Mode}{x:W}(hw:wfC s.ob ρ (.ptr o i es j)) (hb:s.ob o=some (.box m x)) (hes:es=0):
  ∃ b,cval ρ (.ptr o i es j)=.pointer (some ⟨b,j,none⟩)∧b<w.heap.size∧j<(wcells ρ x).length∧(∀ n v,(wcells ρ x)[n]?=some v→w.cell? ⟨b,n,none⟩=some v):=by
 subst hes;obtain⟨b,k1,k2,k3,k4,k5,_⟩:=h.box hb;obtain⟨_,_,g3⟩:=hw;simp only[if_true] at g3;obtain⟨rfl,g3⟩:=g3;exact⟨b,by simp[cval,zBK k1],k2,by omega,k5⟩
theorem zu (hE:EnvTy P E) {T:TypeId}{t:Ty}(ht:E.ty T=some t) (hts:t.scalar=true) {b j:Nat}{v:Value}(hc:w.cell? ⟨b,j,none⟩=some v):
  (Instr.loadAt T (.pointer (some ⟨b,j,none⟩))).run P w=.ok v w:=by
 simp[Instr.loadAt,Instr.sureAddr,zBP ((hE T _ ht).cell1 hts) hc]
theorem zBy (hE:EnvTy P E) {T:TypeId}{t:Ty}(ht:E.ty T=some t) (hts:t.scalar=false) {b off:Nat}{vs:List Value}(hl:vs.length=t.cells)
  (hc:∀ j v,vs[j]?=some v→w.cell? ⟨b,off+j,none⟩=some v):
  (Instr.loadAt T (.pointer (some ⟨b,off,none⟩))).run P w=.ok (.agg vs.toArray) w:=by
 simp only[Instr.loadAt,Instr.sureAddr,Sem.run_bind,Sem.run_pure,Result.andThen_ok];exact zA5 (hE T _ ht) hts hl (fun j v hv=>by rw[zCP];exact hc j v hv)
end
end Go.Ev
namespace Go.Ev
section
variable {P:Program}{E:Env}{w0:World}{X Y0:Nat→Prop}{fix:List (Nat×Value)}
variable {s:St}{ρ:Locs}{col:Col}{a:Act}{w:World}
theorem zi (w:World) (o:Go.Obj):(w.alloc o).heap.size=w.heap.size+1:=by
 show (w.heap.push o).size=_;simp
def putLoc (ρ:Locs) (o:Nat) (L:Loc):Locs:=fun o'=>if o'=o then L else ρ o'
def putCol (col:Col) (b:Nat) (x:Nat×Nat):Col:=fun b'=>if b'=b then some x else col b'
theorem zCA {ob:Objs}{ρ:Locs}{id:Nat}(hid:ob id=none) (x:Obj) (L:Loc):Stays ob (ob.upd id x) ρ (putLoc ρ id L):=by
 intro o ho;have:o≠id:=by intro e;subst e;exact ho hid
 simp[Objs.upd,putLoc,this,ho]
theorem Does.new (h:Inv w0 X Y0 fix s ρ col a w) {dst:Option Nat}(hf:apart dst.toList (fix.map (·.1))=true) {id:Nat}(hid:s.ob id=none) {obj:Obj}(L:Loc) (cells:Array Value) (T:TypeId)
  (hobj:ObjRel (s.ob.upd id obj) (putLoc ρ id L) (putCol col w.heap.size (id,0)) (Yof w0 X Y0) (w.alloc (.cells cells T)) id obj)
  {ok:Bool}{v:V}{rd:List Nat}{x:Value}(hv:VRel (s.ob.upd id obj) (putLoc ρ id L) v x) {r:Result Next}(hr:r=.ok (.value x) (w.alloc (.cells cells T))):
  Does P w0 X Y0 fix s dst ⟨ok,v,[],[(id,obj)],rd⟩ a r:=by
 refine⟨x,w.alloc (.cells cells T),.inl hr,putLoc ρ id L,putCol col w.heap.size (id,0),?_⟩;have hst:=zCA hid obj L (ρ:=ρ);have hheap:∀ b,b<w.heap.size→(w.alloc (.cells cells T)).heap[b]?=w.heap[b]?:=fun b hb=>Go.RowKit.Below.heap_alloc w _ b hb;have hcol:∀ b,b<w.heap.size→putCol col w.heap.size (id,0) b=col b:=fun b hb=>by simp[putCol,Nat.ne_of_lt hb]
 have hsz:(w.alloc (.cells cells T)).heap.size=w.heap.size+1:=zi _ _
 have key:=h.step (dst:=dst) (ob':=s.ob.upd id obj) (ρ':=putLoc ρ id L) (col':=putCol col w.heap.size (id,0)) (w':=w.alloc (.cells cells T)) (v:=v) (x:=x) hf hst
  (fun o y hy=>by
   by_cases e:o=id
   · subst e;simp only[Objs.upd,if_true,Option.some.injEq] at hy;subst hy;exact hobj
   · simp only[Objs.upd,if_neg e] at hy;refine (h.objs o y hy).frame (by rw[hy];simp) hst (by omega) (fun b c hb hc=>⟨by rw[hcol b hb];exact hc,hheap b hb⟩) (fun b hb hr=>⟨?_,hheap b hb⟩);exact⟨by rw[hcol b hb];exact hr.1,hr.2⟩)
  (fun b o c hc=>by
   by_cases e:b=w.heap.size
   · subst e;simp only[putCol,if_true,Option.some.injEq,Prod.mk.injEq] at hc;obtain⟨rfl,rfl⟩:=hc;exact⟨.inl h.mono,by omega,by simp[Objs.upd]⟩
   · simp only[putCol,if_neg e] at hc;obtain⟨h1,h2,h3⟩:=h.cold b o c hc;exact⟨h1,by omega,(hst o h3).1⟩)
  (fun b hb _=>hheap b (Nat.lt_of_lt_of_le hb h.mono)) (by omega) hv (by first | exact⟨rfl,rfl,rfl,Nat.le_refl _⟩ | exact⟨rfl,rfl,rfl,Nat.le_add_right _ _⟩)
 exact key
theorem zR (ρ:Locs) (x:W):(wval ρ x).cells=(wcells ρ x).toArray:=by
 cases x with
 | c c=>cases c<;>rfl
 | _=>rfl
theorem kN (w:World) (cs:List Value) (T:TypeId) (j:Nat):(w.alloc (.cells cs.toArray T)).cell? ⟨w.heap.size,j,none⟩=cs[j]?:=by
 unfold World.cell?;rw[heap_alloc_new];simp
theorem Does.newBox (h:Inv w0 X Y0 fix s ρ col a w) {dst:Option Nat}(hf:apart dst.toList (fix.map (·.1))=true) {d:Nat}(hid:s.ob (idOf d)=none) {x:W}(hx:wfW s.ob ρ x)
  (hpos:0<(wcells ρ x).length) (T:TypeId) {r:Result Next}(hr:r=.ok (.value (.pointer (some ⟨w.heap.size,0,none⟩))) (w.alloc (.cells (wcells ρ x).toArray T))):
  Does P w0 X Y0 fix s dst ⟨true,.w (.c (.ptr (idOf d) 0 0 0)),[],[(idOf d,.box .own x)],[]⟩ a r:=by
 have hst:=zCA hid (.box .own x) ⟨some ⟨w.heap.size,0,none⟩,(wcells ρ x).length,0⟩ (ρ:=ρ)
 refine Does.new h hf hid ⟨some ⟨w.heap.size,0,none⟩,(wcells ρ x).length,0⟩ _ T ?_ ?_ hr
 · refine⟨w.heap.size,by simp[putLoc],by rw[zi];omega,hst.wfW hx,by rw[hst.wcells hx];simp[putLoc],?_,by simp[okO,putCol],fun _=>⟨_,T,heap_alloc_new w _,by simp[putLoc]⟩⟩;intro j v hv;rw[hst.wcells hx] at hv;rw[kN];exact hv
 · refine .inr ⟨⟨by simp[Objs.upd],⟨w.heap.size,0,by simp[putLoc]⟩,?_⟩,?_⟩
   · rw[if_pos rfl];exact⟨rfl,by simpa[putLoc] using hpos⟩
   · simp[vval,wval,cval,putLoc,Loc.at]
theorem zIS (t:Ty) (ρ ρ':Locs):t.zeroC.map (cval ρ)=t.zeroC.map (cval ρ'):=by
 induction t with
 | pair a b iha ihb=>simp only[Ty.zeroC,List.map_append,iha,ihb]
 | _=>rfl
theorem zLJ (t:Ty) (ρ ρ':Locs):wcells ρ t.zeroW=wcells ρ' t.zeroW:=by
 cases t with
 | pair a b=>exact zIS (.pair a b) ρ ρ'
 | _=>rfl
theorem zMp (t:Ty) (ob:Objs) (ρ:Locs):∀ c∈t.zeroC,wfC ob ρ c:=by
 induction t with
 | pair a b iha ihb=>
  intro c hc;simp only[Ty.zeroC,List.mem_append] at hc;exact hc.elim (iha c) (ihb c)
 | _=>intro c hc;simp only[Ty.zeroC,List.mem_singleton,List.not_mem_nil] at hc<;>(try subst hc)<;>first | trivial | exact hc.elim
theorem zQ7 (t:Ty) (ob:Objs) (ρ:Locs):wfW ob ρ t.zeroW:=by
 cases t with
 | pair a b=>exact zMp (.pair a b) ob ρ
 | arr k m=>simp[Ty.zeroW,wfW]
 | barr m=>simp[Ty.zeroW,wfW]
 | _=>trivial
end
end Go.Ev
namespace Go.Ev
section
variable {P:Program}{E:Env}{w0:World}{X Y0:Nat→Prop}{fix:List (Nat×Value)}
variable {s:St}{ρ:Locs}{col:Col}{a:Act}{w:World}
def AnyRep (t:Ty) (x:t.den) (ys:List Value):Prop:=∀ w own ok,TRep w own ok t x ys
theorem TRep.flat {w:World}{own:Bool}{ok:Nat→Prop}:∀ {t:Ty}{x:t.den}{ys:List Value},t.flat=true→TRep w own ok t x ys→AnyRep t x ys
 | .int _,_,_,_,h=>fun _ _ _=>by simpa only[TRep] using h
 | .bool,_,_,_,h=>fun _ _ _=>by simpa only[TRep] using h
 | .arr _ _,_,_,_,h=>fun _ _ _=>by simpa only[TRep] using h
 | .barr _,_,_,_,h=>fun _ _ _=>by simpa only[TRep] using h
 | .pair a b,_,_,hf,h=>by
  simp only[TRep] at h;simp only[Ty.flat,Bool.and_eq_true] at hf;obtain⟨c1,c2,e,h1,h2⟩:=h;exact fun w own ok=>by simp only[TRep];exact⟨c1,c2,e,h1.flat hf.1 w own ok,h2.flat hf.2 w own ok⟩
 | .slice _,_,_,hf,_=>by simp[Ty.flat] at hf
theorem zB7 (ρ:Locs):∀ (t:Ty),t.leafs=true→AnyRep t t.zero (t.zeroC.map (cval ρ))
 | .int _,_=>fun _ _ _=>rfl
 | .bool,_=>fun _ _ _=>rfl
 | .slice _,_=>fun _ _ _=>⟨none,0,rfl,⟨Nat.le_refl _,fun _=>⟨rfl,fun _=>rfl⟩,fun a h=>by simp at h⟩,fun i x hx=>by simp[Ty.zero] at hx⟩
 | .pair a b,h=>fun w own ok=>by
  simp only[Ty.leafs,Bool.and_eq_true] at h;simp only[TRep,Ty.zero,Ty.zeroC,List.map_append];exact⟨_,_,rfl,zB7 ρ a h.1 w own ok,zB7 ρ b h.2 w own ok⟩
 | .arr _ _,h=>by simp[Ty.leafs] at h
 | .barr _,h=>by simp[Ty.leafs] at h
theorem jS (ρ:Locs) {t:Ty}{T:TypeId}(h:TyOK P t T):AnyRep t t.zero (wcells ρ t.zeroW):=by
 cases t with
 | int k=>exact zB7 ρ (.int k) rfl
 | bool=>exact zB7 ρ .bool rfl
 | slice u=>exact zB7 ρ (.slice u) rfl
 | arr k m=>intro w own ok;simp[TRep,Ty.zero,wcells,Ty.zeroW]
 | barr m=>intro w own ok;simp[TRep,Ty.zero,wcells,Ty.zeroW]
 | pair a b=>exact zB7 ρ (.pair a b) h.2.1
theorem Does.newRow (h:Inv w0 X Y0 fix s ρ col a w) {dst:Option Nat}(hf:apart dst.toList (fix.map (·.1))=true) {d:Nat}(hid:s.ob (idOf d)=none) {t:Ty}(xs:List t.den) (cs:List Value) (T:TypeId)
  (hl:cs.length=xs.length*t.cells) (hx:∀ i x,xs[i]?=some x→∃ ys,AnyRep t x ys∧∀ j v,ys[j]?=some v→cs[i*t.cells+j]?=some v)
  {ok:Bool}{rd:List Nat}{r:Result Next}(hr:r=.ok (.value (.slice (some ⟨w.heap.size,0,none⟩) xs.length xs.length)) (w.alloc (.cells cs.toArray T))):
  Does P w0 X Y0 fix s dst ⟨ok,.w (.c (.sl (idOf d))),[],[(idOf d,.row .own t xs)],rd⟩ a r:=by
 refine Does.new h hf hid ⟨some ⟨w.heap.size,0,none⟩,xs.length,xs.length⟩ _ T ?_ (.inr ⟨by simp[wfV,wfW,wfC,Objs.upd],by simp[vval,wval,cval,putLoc]⟩) hr
 refine⟨by simp[putLoc],?_,?_⟩
 · refine⟨by simp[putLoc],fun e=>by simp[putLoc] at e,fun b hb _=>?_⟩;simp only[putLoc,if_true,Option.some.injEq] at hb;subst hb;exact⟨rfl,by rw[zi];exact Nat.lt_succ_self _,by simp[okO,putCol],fun _=>⟨_,T,heap_alloc_new w _,by simp[putLoc,hl]⟩⟩
 · intro i x hi;obtain⟨ys,h1,h2⟩:=hx i x hi;refine⟨ys,h1 _ _ _,fun j v hv=>?_⟩;simp only[putLoc,if_true,cellAt,Option.bind_some,Nat.zero_add,kN];exact h2 j v hv
theorem zFD (z:List Value) (n j i:Nat) (hj:j<z.length) (hi:i*z.length+j<n):(madeCells z.toArray n).toList[i*z.length+j]?=z[j]?:=by
 simp only[madeCells,List.size_toArray,Array.toList_map,List.getElem?_map,Array.toList_range,List.getElem?_range hi,Option.map_some];rw[Nat.add_comm,Nat.add_mul_mod_self_right,Nat.mod_eq_of_lt hj];simp[hj]
theorem zHL (hE:EnvTy P E) (h:Inv w0 X Y0 fix s ρ col a w) {dst:Option Nat}(hf:apart dst.toList (fix.map (·.1))=true) {d:Nat}(hid:s.ob (idOf d)=none)
  {T:TypeId}{t:Ty}(ht:E.ty T=some (.slice t)) {k k':IntKind}{n:Int}(h0:0≤n) (h1:n≤(lim:Int)) {ok:Bool}:
  Does P w0 X Y0 fix s dst ⟨ok,.w (.c (.sl (idOf d))),[],[(idOf d,.row .own t (List.replicate n.toNat t.zero))],[]⟩ a
   (((do pure (.value (← Instr.makeSlice T (.int k n) (.int k' n)))):Sem Next).run P w):=by
 obtain⟨_,e,hT,hte⟩:=hE T _ ht;obtain⟨i,hi,hz,hs,hb,hc1,_⟩:=hte.base;have hzc:(wval (fun _=>⟨none,0,0⟩) t.zeroW).cells=(wcells (fun _=>⟨none,0,0⟩) t.zeroW).toArray:=zR _ _;have hzl:(wcells (fun _=>⟨none,0,0⟩) t.zeroW).length=t.cells:=(jS _ hte w false (fun _=>True)).len;have hbn:(i.bytes:Int)*n≤281474976710656:=by
  unfold lim at h1;have h128:(i.bytes:Int)≤128:=by omega
  have:=Int.mul_le_mul h128 h1 h0 (by omega);omega
 have hm:=run_make (P:=P) w T e i _ hT hi hz k k' n n h0 (Int.le_refl _) hbn (by unfold lim at h1;omega);rw[hzc,hs] at hm;have hr:(((do pure (.value (← Instr.makeSlice T (.int k n) (.int k' n)))):Sem Next).run P w)=.ok (.value (.slice (some ⟨w.heap.size,0,none⟩) n.toNat n.toNat)) (w.alloc (.cells (madeCells (wcells (fun _=>⟨none,0,0⟩) t.zeroW).toArray (n.toNat*t.cells)) e)):=by
  simp[hm]
 have hl:(List.replicate n.toNat t.zero).length=n.toNat:=by simp
 refine Does.newRow h hf hid (List.replicate n.toNat t.zero) (madeCells (wcells (fun _=>⟨none,0,0⟩) t.zeroW).toArray (n.toNat*t.cells)).toList e ?_ ?_ (by rw[hr,hl])
 · rw[hl,Array.length_toList,size_madeCells]
 · intro j x hx;simp only[List.getElem?_replicate] at hx
   split at hx
   · rename_i hj;simp only[Option.some.injEq] at hx;subst hx;refine⟨_,jS (fun _=>⟨none,0,0⟩) hte,fun q v hv=>?_⟩;have hq:q<(wcells (fun _=>⟨none,0,0⟩) t.zeroW).length:=(List.getElem?_eq_some_iff.1 hv).1;have hlt:j*(wcells (fun _=>⟨none,0,0⟩) t.zeroW).length+q<n.toNat*t.cells:=by
      rw[hzl] at hq ⊢;have:(j+1)*t.cells≤n.toNat*t.cells:=Nat.mul_le_mul_right _ hj;rw[Nat.add_mul] at this;omega
     have:=zFD (wcells (fun _=>⟨none,0,0⟩) t.zeroW) (n.toNat*t.cells) q j hq hlt;rw[hzl] at this;rw[this];exact hv
   · simp at hx
theorem zHX {ob:Objs}{ρ:Locs}:∀ {t:Ty}{cs:List C}{x:t.den}{us:List (Nat×Mode)}{r:List C},t.flat=true→packC ob t cs=some (x,us,r) →
  us=[]∧∃ c1,cs=c1++r∧AnyRep t x (c1.map (cval ρ))
 | .int k,cs,x,us,r,_,h=>by
  rcases cs with _ | ⟨c,cs⟩
  · simp[packC] at h
  · cases c<;>simp[packC] at h
    obtain⟨rfl,rfl,rfl,rfl⟩:=h;exact⟨rfl,[_],rfl,fun _ _ _=>rfl⟩
 | .bool,cs,x,us,r,_,h=>by
  rcases cs with _ | ⟨c,cs⟩
  · simp[packC] at h
  · cases c<;>simp[packC] at h
    obtain⟨rfl,rfl,rfl⟩:=h;exact⟨rfl,[_],rfl,fun _ _ _=>rfl⟩
 | .slice u,cs,x,us,r,hf,h=>by simp[Ty.flat] at hf
 | .arr k m,cs,x,us,r,_,h=>by simp[packC] at h
 | .barr m,cs,x,us,r,_,h=>by simp[packC] at h
 | .pair a b,cs,x,us,r,hf,h=>by
  simp only[Ty.flat,Bool.and_eq_true] at hf;simp only[packC] at h
  split at h
  · rename_i x1 us1 r1 h1
    split at h
    · rename_i x2 us2 r2 h2;simp only[Option.some.injEq,Prod.mk.injEq] at h;obtain⟨rfl,rfl,rfl⟩:=h;obtain⟨rfl,c1,rfl,g1⟩:=zHX (ρ:=ρ) hf.1 h1;obtain⟨rfl,c2,rfl,g2⟩:=zHX (ρ:=ρ) hf.2 h2;refine⟨rfl,c1++c2,by simp,fun w own ok=>?_⟩;simp only[TRep,List.map_append];exact⟨_,_,rfl,g1 w own ok,g2 w own ok⟩
    · simp at h
  · simp at h
theorem zKO {ob:Objs}{ρ:Locs}{t:Ty}{v:W}{x:t.den}{us:List (Nat×Mode)}(hf:t.flat=true) (hv:wfW ob ρ v) (h:packW ob t v=some (x,us)):
  us=[]∧AnyRep t x (wcells ρ v):=by
 cases t with
 | int k=>
  rcases v with c | _ | _ | _<;>(try (cases c))<;>simp[packW] at h
  obtain⟨rfl,rfl,rfl⟩:=h;exact⟨rfl,fun _ _ _=>rfl⟩
 | bool=>
  rcases v with c | _ | _ | _<;>(try (cases c))<;>simp[packW] at h
  obtain⟨rfl,rfl⟩:=h;exact⟨rfl,fun _ _ _=>rfl⟩
 | slice u=>simp[Ty.flat] at hf
 | arr k m=>
  rcases v with c | _ | _ | _<;>(try (cases c))<;>simp[packW] at h
  obtain⟨⟨rfl,rfl⟩,rfl,rfl⟩:=h;exact⟨rfl,fun _ _ _=>⟨hv,rfl⟩⟩
 | barr m=>
  rcases v with c | _ | _ | _<;>(try (cases c))<;>simp[packW] at h
  obtain⟨rfl,rfl,rfl⟩:=h;exact⟨rfl,fun _ _ _=>⟨hv,rfl⟩⟩
 | pair p q=>
  rcases v with c | _ | _ | cs
  · cases c<;>simp[packW] at h
  · simp[packW] at h
  · simp[packW] at h
  · simp only[packW] at h
    split at h
    · rename_i x1 us1 h1;simp only[Option.some.injEq,Prod.mk.injEq] at h;obtain⟨rfl,rfl⟩:=h;obtain⟨rfl,c1,e,g1⟩:=zHX (ρ:=ρ) hf h1;simp only[List.append_nil] at e;subst e;exact⟨rfl,g1⟩
    · simp at h
end
end Go.Ev
namespace Go.Ev
section
variable {P:Program}{E:Env}{w0:World}{X Y0:Nat→Prop}{fix:List (Nat×Value)}
variable {s:St}{ρ:Locs}{col:Col}{a:Act}{w:World}
theorem zNX {place:Nat→Option (Nat×Nat)}{cells:Array Value}{i off:Nat}{v:Value}{rest:List (Nat×Value)}(hp:place i=some (off,1)) (hv:v.cells=#[v]) (hl:off<cells.size):
  Instr.fill place cells ((i,v)::rest)=Instr.fill place (cells.setIfInBounds off v) rest:=by
 simp only[Instr.fill,hp,hv];rw[if_neg (by simp;omega)];simp
theorem zOa (ρ:Locs) (c:C):(cval ρ c).cells=#[cval ρ c]:=by cases c<;>rfl
theorem zC9 {α β:Type}(f:α→β) (l:List α) (i:Nat) (x:α):(l.map f).toArray.setIfInBounds i (f x)=((l.set i x).map f).toArray:=by
 rw[List.setIfInBounds_toArray,List.map_set]
theorem zHq {place:Nat→Option (Nat×Nat)}{t:Ty}(hp:∀ f o u,t.offs f=some (o,u)→place f=some (o,1)):∀ (parts:List (Nat×C)) (ps:List (Nat×C)) (cs r:List C),
  placesC t parts=some ps→fillC cs ps=some r→Instr.fill place (cs.map (cval ρ)).toArray (parts.map fun p=>(p.1,cval ρ p.2))=some (r.map (cval ρ)).toArray
 | [],ps,cs,r,h1,h2=>by
  simp only[placesC,Option.some.injEq] at h1;subst h1;simp only[fillC,Option.some.injEq] at h2;subst h2
  rfl
 | (f,c)::rest,ps,cs,r,h1,h2=>by
  simp only[placesC] at h1
  split at h1
  · rename_i o u cs' ho hr
    split at h1
    · simp only[Option.some.injEq] at h1;subst h1;simp only[fillC] at h2
      split at h2
      · rename_i hl;simp only[List.map_cons];rw[zNX (hp f o u ho) (zOa ρ c) (by simpa using hl),zC9];exact zHq hp rest _ _ _ hr h2
      · simp at h2
    · simp at h1
  · simp at h1
theorem zGT {t:Ty}:∀ {parts ps:List (Nat×C)}{cs r:List C},placesC t parts=some ps→fillC cs ps=some r→∀ c∈r,c∈cs∨∃ p∈parts,p.2=c
 | [],ps,cs,r,h1,h2=>by
  simp only[placesC,Option.some.injEq] at h1;subst h1;simp only[fillC,Option.some.injEq] at h2;subst h2;exact fun c hc=>.inl hc
 | (f,c)::rest,ps,cs,r,h1,h2=>by
  simp only[placesC] at h1
  split at h1
  · rename_i o u cs' ho hr
    split at h1
    · simp only[Option.some.injEq] at h1;subst h1;simp only[fillC] at h2
      split at h2
      · intro d hd
        rcases zGT hr h2 d hd with g | ⟨p,g1,g2⟩
        · rcases List.mem_or_eq_of_mem_set g with g | g
          · exact .inl g
          · exact .inr ⟨(f,c),by simp,g.symm⟩
        · exact .inr ⟨p,by simp[g1],g2⟩
      · simp at h2
    · simp at h1
  · simp at h1
theorem zHv (h:Inv w0 X Y0 fix s ρ col a w):∀ {parts:List (Nat×Operand)}{cs:List (Nat×C)},cellsOf (parts.map fun p=>(p.1,s.eval p.2))=some cs →
  (parts.map fun p=>(p.1,a.eval p.2))=cs.map (fun p=>(p.1,cval ρ p.2))∧∀ p∈cs,wfC s.ob ρ p.2
 | [],cs,hc=>by
  simp only[List.map_nil,cellsOf,Option.some.injEq] at hc;subst hc;exact⟨rfl,fun p hp=>by simp at hp⟩
 | (i,x)::rest,cs,hc=>by
  simp only[List.map_cons,cellsOf] at hc
  split at hc
  · rename_i c cs' h1 h2;simp only[Option.some.injEq] at hc;subst hc;obtain⟨g1,g2⟩:=h.evalCell h1;obtain⟨k1,k2⟩:=zHv h h2;refine⟨by simp only[List.map_cons,g2,k1],fun p hp=>?_⟩
    rcases List.mem_cons.1 hp with rfl | hp
    · exact g1
    · exact k2 p hp
  · simp at hc
theorem zIi (h:Inv w0 X Y0 fix s ρ col a w) {k:IntKind}:∀ {parts:List (Nat×Operand)}{ns:List (Nat×Int)},intsOf k (parts.map fun p=>(p.1,s.eval p.2))=some ns →
  (parts.map fun p=>(p.1,a.eval p.2))=ns.map (fun p=>(p.1,Value.int k p.2))
 | [],ns,hc=>by
  simp only[List.map_nil,intsOf,Option.some.injEq] at hc;subst hc
  rfl
 | (i,x)::rest,ns,hc=>by
  simp only[List.map_cons,intsOf] at hc
  split at hc
  · rename_i k' n ns' h1 h2
    split at hc
    · rename_i hk;subst hk;simp only[Option.some.injEq] at hc;subst hc;simp only[List.map_cons,h.evalInt h1,zIi h h2]
    · simp at hc
  · simp at hc
theorem zKk {k:IntKind}:∀ {ns:List (Nat×Int)}{xs r:List Int},fillI xs ns=some r →
  Instr.fill (fun i=>some (i*1,1)) (xs.map (Value.int k)).toArray (ns.map fun p=>(p.1,Value.int k p.2))=some (r.map (Value.int k)).toArray∧r.length=xs.length
 | [],xs,r,h=>by
  simp only[fillI,Option.some.injEq] at h;subst h;exact⟨rfl,rfl⟩
 | (j,x)::rest,xs,r,h=>by
  simp only[fillI] at h
  split at h
  · rename_i hl;obtain⟨h1,h2⟩:=zKk (k:=k) h;simp only[List.map_cons];rw[zNX (off:=j) (by simp) rfl (by simpa using hl),zC9];exact⟨h1,by simpa using h2⟩
  · simp at h
theorem zLj (hE:EnvTy P E) (h:Inv w0 X Y0 fix s ρ col a w) {T:TypeId}{parts:Array (Nat×Operand)}{t:Ty}{u:W}(ht:E.ty T=some t)
  (hb:buildE t (parts.toList.map fun p=>(p.1,s.eval p.2))=some u):
  wfW s.ob ρ u∧(Instr.build T (parts.map fun p=>(p.1,a.eval p.2))).run P w=.ok (wval ρ u) w:=by
 have hT:=hE T t ht;obtain⟨i,hi,hz,_⟩:=hT.base;have e1:(parts.map fun p=>(p.1,a.eval p.2)).toList=parts.toList.map fun p=>(p.1,a.eval p.2):=by simp
 cases t with
 | pair p q=>
  simp only[buildE] at hb
  split at hb
  · rename_i cs hcs
    split at hb
    · rename_i ps hps
      split at hb
      · rename_i r hr;simp only[Option.some.injEq] at hb;subst hb;obtain⟨g1,g2⟩:=zHv h hcs;obtain⟨_,_,fs,hu,hc1,hof⟩:=hT;have hpl:fs.toList.mapM (fun f=>(P.info? f.type).map fun i=>(f.offset,i.size))=some (fs.toList.map fun f=>(f.offset,1)):=by
         have:∀ (l:List Field),(∀ f∈l,Cell1 P f.type)→l.mapM (fun f=>(P.info? f.type).map fun i=>(f.offset,i.size))=some (l.map fun f=>(f.offset,1)):=by
          intro l
          induction l with
          | nil=>intro _;rfl
          | cons f l ih=>
           intro hl;obtain⟨⟨i,h1,h2⟩,_⟩:=hl f (by simp);rw[List.mapM_cons,ih (fun g hg=>hl g (by simp[hg]))];simp[h1,h2]
         exact this _ hc1
        refine⟨fun c hc=>?_,?_⟩
        · rcases zGT hps hr c hc with k | ⟨pp,k1,k2⟩
          · exact zMp (.pair p q) s.ob ρ c k
          · subst k2;exact g2 pp k1
        · refine run_build w T _ (r.map (cval ρ)).toArray ?_;have hzc:(wval (fun _=>⟨none,0,0⟩) (Ty.pair p q).zeroW).cells=((Ty.zeroC (.pair p q)).map (cval ρ)).toArray:=by
           rw[zR];exact congrArg List.toArray (zIS (.pair p q) _ ρ)
          simp only[Program.built,hi,hu,hz,hpl,hzc,e1,g1];refine zHq (t:=.pair p q) (fun f o u hfo=>?_) _ _ _ _ hps hr;obtain⟨_,fld,k1,k2⟩:=hof f o u hfo;subst k2;simp[k1]
      · simp at hb
    · simp at hb
  · simp at hb
 | arr k m=>
  simp only[buildE] at hb
  split at hb
  · rename_i ns hns
    split at hb
    · rename_i r hr;simp only[Option.some.injEq] at hb;subst hb;obtain⟨_,⟨e,h1,h2,⟨⟨ie,h3,h4⟩,_⟩⟩,_⟩:=hT;obtain⟨f1,f2⟩:=zKk (k:=k) hr;refine⟨by simpa[wfW] using f2,run_build w T _ _ ?_⟩;have hzc:(wval (fun _=>⟨none,0,0⟩) (Ty.arr k m).zeroW).cells=((List.replicate m (0:Int)).map (Value.int k)).toArray:=zR _ _;simp only[Program.built,hi,h1,hz,h3,h4,hzc,e1,zIi h hns];exact f1
    · simp at hb
  · simp at hb
 | barr m=>
  simp only[buildE] at hb
  split at hb
  · rename_i hn;simp only[Option.some.injEq] at hb;subst hb;obtain⟨_,e,h1,h2,⟨⟨ie,h3,h4⟩,_⟩⟩:=hT;have hpn:parts.toList=[]:=by simpa using hn
    refine⟨by simp[wfW],run_build w T _ _ ?_⟩;have hzc:(wval (fun _=>⟨none,0,0⟩) (Ty.barr m).zeroW).cells=((List.replicate m false).map Value.bool).toArray:=zR _ _;simp only[Program.built,hi,h1,hz,h3,h4,hzc,e1,hpn,List.map_nil,Instr.fill]
    rfl
  · simp at hb
 | _=>simp[buildE] at hb
theorem zKh (cs:List Value):∀ (vs:List Value) (off:Nat) (pre:List Value),off+pre.length+vs.length≤cs.length →
  ((vs.zipIdx pre.length).foldl (fun (cs:Array Value) (p:Value×Nat)=>cs.setIfInBounds (off+p.2) p.1) (cs.take off++pre++cs.drop (off+pre.length)).toArray).toList=cs.take off++pre++vs++cs.drop (off+pre.length+vs.length)
 | [],off,pre,_=>by simp
 | v::vs,off,pre,hl=>by
  simp only[List.length_cons] at hl;simp only[List.zipIdx_cons,List.foldl_cons,List.setIfInBounds_toArray];have e:(cs.take off++pre++cs.drop (off+pre.length)).set (off+pre.length) v=cs.take off++(pre++[v])++cs.drop (off+(pre++[v]).length):=by
   have hlt:off+pre.length<cs.length:=by omega
   rw[List.drop_eq_getElem_cons hlt,List.set_append_right _ _ (by simp;omega)];have:off+pre.length-(cs.take off++pre).length=0:=by simp;omega
   rw[this,List.set_cons_zero];simp[Nat.add_assoc]
  rw[e];have ih:=zKh cs vs off (pre++[v]) (by simp;omega);simp only[List.length_append,List.length_cons,List.length_nil] at ih ⊢;rw[ih];simp[Nat.add_assoc,Nat.add_comm 1]
theorem zCI (es:Nat):∀ (vss:List (List Value)) (parts:List (Nat×Value)) (n:Nat) (cells:List Value),(∀ vs∈vss,vs.length=es)→parts.length=vss.length →
  (∀ k p vs,parts[k]?=some p→vss[k]?=some vs→p.1=n+k∧p.2.cells=vs.toArray)→(n+vss.length)*es≤cells.length →
  Instr.fill (fun i=>some (i*es,es)) cells.toArray parts=some (cells.take (n*es)++vss.flatten++cells.drop ((n+vss.length)*es)).toArray
 | [],parts,n,cells,_,hl,_,_=>by
  have:parts=[]:=List.eq_nil_of_length_eq_zero (by simpa using hl);subst this;simp[Instr.fill]
 | vs::vss,parts,n,cells,he,hl,hp,hb=>by
  cases parts with
  | nil=>simp at hl
  | cons p rest=>
   obtain⟨i,v⟩:=p;obtain⟨h1,h2⟩:=hp 0 (i,v) vs rfl rfl;simp only[Nat.add_zero] at h1;subst h1;have hvs:vs.length=es:=he vs (by simp);simp only[List.length_cons] at hb hl;have hb1:i*es+es≤cells.length:=by
    have:(i+1)*es≤(i+(vss.length+1))*es:=Nat.mul_le_mul_right _ (by omega);rw[Nat.add_mul] at this;omega
   simp only[Instr.fill,h2,List.size_toArray];rw[if_neg (by simp[hvs];omega)];have hf:=zKh cells vs (i*es) [] (by simpa[hvs] using hb1);simp only[List.append_nil,List.length_nil,Nat.add_zero,List.take_append_drop] at hf;have hf':((vs.toArray.zipIdx.foldl (fun (cs:Array Value) (p:Value×Nat)=>cs.setIfInBounds (i*es+p.2) p.1) cells.toArray))=(cells.take (i*es)++vs++cells.drop (i*es+vs.length)).toArray:=by
    apply Array.toList_inj.1;rw[← hf];simp[← Array.foldl_toList]
   have hf2:(vs.toArray.zipIdx.foldl (fun cs x=>match x with | (c,j)=>cs.setIfInBounds (i*es+j) c) cells.toArray)=(cells.take (i*es)++vs++cells.drop (i*es+vs.length)).toArray:=hf';rw[hf2];have hlen2:(cells.take (i*es)++vs++cells.drop (i*es+vs.length)).length=cells.length:=by simp[hvs];omega
   have ih:=zCI es vss rest (i+1) (cells.take (i*es)++vs++cells.drop (i*es+vs.length)) (fun x hx=>he x (by simp[hx])) (by omega)
    (fun k p ws h3 h4=>by
     obtain⟨g1,g2⟩:=hp (k+1) p ws (by simpa using h3) (by simpa using h4);exact⟨by omega,g2⟩)
    (by rw[hlen2];have:i+1+vss.length=i+(vss.length+1):=by omega
        rw[this];exact hb)
   rw[ih];congr 1;apply Array.toList_inj.1;simp only[List.length_cons,List.flatten_cons];have e1:(i+1)*es=i*es+es:=by rw[Nat.add_mul,Nat.one_mul]
   have e2:i+1+vss.length=i+(vss.length+1):=by omega
   rw[e2,e1];have e3:(cells.take (i*es)++vs++cells.drop (i*es+vs.length)).take (i*es+es)=cells.take (i*es)++vs:=by
    rw[List.take_left' (by simp[hvs];omega)]
   have e4:(cells.take (i*es)++vs++cells.drop (i*es+vs.length)).drop ((i+(vss.length+1))*es)=cells.drop ((i+(vss.length+1))*es):=by
    have e5:(i+(vss.length+1))*es=i*es+vs.length+vss.length*es:=by rw[hvs,Nat.add_mul,Nat.add_mul];omega
    have e6:i*es+vs.length+vss.length*es=(cells.take (i*es)++vs).length+vss.length*es:=by simp[hvs];omega
    have dd:∀ (l:List Value) (x y:Nat),l.drop (x+y)=(l.drop x).drop y:=fun l x y=>by rw[List.drop_drop]
    rw[e5,dd (cells.take (i*es)++vs++cells.drop (i*es+vs.length)) (i*es+vs.length) (vss.length*es),dd cells (i*es+vs.length) (vss.length*es),
     List.drop_left' (by simp[hvs];omega)]
   rw[e3,e4];simp
end
end Go.Ev
namespace Go.Ev
section
variable {P:Program}{E:Env}{w0:World}{X Y0:Nat→Prop}{fix:List (Nat×Value)}
variable {s:St}{ρ:Locs}{col:Col}{a:Act}{w:World}
theorem zHK {ob:Objs}{ρ:Locs}{o:Nat}{x:Obj}(ho:ob o≠none):Stays ob (ob.upd o x) ρ ρ:=by
 intro o' h;refine⟨?_,rfl⟩;unfold Objs.upd
 split
 · simp
 · exact h
theorem Inv.change (h:Inv w0 X Y0 fix s ρ col a w) {o:Nat}{x:Obj}(ho:s.ob o≠none) (hx:ObjRel (s.ob.upd o x) ρ col (Yof w0 X Y0) w o x):
  Inv w0 X Y0 fix ⟨s.tm,s.ob.upd o x⟩ ρ col a w:=by
 have hst:=zHK (ρ:=ρ) (x:=x) ho
 refine⟨h.defers,h.size,fun i v hi=>hst.vrel (h.tmps i v hi),fun o' y hy=>?_,fun b o' c hc=>?_,h.low,h.mono,h.fixed,h.same⟩
 · by_cases e:o'=o
   · subst e;simp only[Objs.upd,if_true,Option.some.injEq] at hy;subst hy;exact hx
   · simp only[Objs.upd,if_neg e] at hy;exact (h.objs o' y hy).frame (by rw[hy];simp) hst (Nat.le_refl _) (fun b c _ hc=>⟨hc,rfl⟩) (fun b _ hr=>⟨hr,rfl⟩)
 · obtain⟨h1,h2,h3⟩:=h.cold b o' c hc;exact⟨h1,h2,(hst o' h3).1⟩
theorem Inv.kill (h:Inv w0 X Y0 fix s ρ col a w) {o:Nat}(ho:s.ob o≠none):Inv w0 X Y0 fix ⟨s.tm,s.ob.upd o .dead⟩ ρ col a w:=h.change ho trivial
theorem Inv.colour (h:Inv w0 X Y0 fix s ρ col a w) {col':Col}(hobjs:∀ o x,s.ob o=some x→ObjRel s.ob ρ col' (Yof w0 X Y0) w o x)
  (hc:∀ b o c,col' b=some (o,c)→(w0.heap.size≤b∨X b)∧b<w.heap.size∧s.ob o≠none):Inv w0 X Y0 fix s ρ col' a w:=
 ⟨h.defers,h.size,h.tmps,hobjs,hc,h.low,h.mono,h.fixed,h.same⟩
def dropCol (col:Col) (o:Nat):Col:=fun b=>match col b with
 | some (o',c)=>if o'=o then none else some (o',c)
 | none=>none
theorem zCK {col:Col}{Y:Nat→Prop}{o b:Nat}(h:RO col Y b):RO (dropCol col o) Y b:=by
 refine⟨?_,h.2⟩;unfold dropCol
 rcases h.1 with g | ⟨o',i,g⟩
 · rw[g];exact .inl rfl
 · rw[g];simp only
   split
   · exact .inl rfl
   · exact .inr ⟨o',i,rfl⟩
theorem zEW {col:Col}{Y:Nat→Prop}{o b c:Nat}(h:col b=some (o,c)) (hy:Y b):RO (dropCol col o) Y b:=by
 refine⟨.inl ?_,hy⟩;unfold dropCol;rw[h];simp
theorem zFN {col:Col}{o o' b c:Nat}(h:col b=some (o',c)) (hne:o'≠o):dropCol col o b=some (o',c):=by
 unfold dropCol;rw[h];simp[hne]
theorem zGb {col:Col}{o o' b c:Nat}(h:dropCol col o b=some (o',c)):col b=some (o',c)∧o'≠o:=by
 unfold dropCol at h
 split at h
 · rename_i o2 c2 h2
   split at h
   · simp at h
   · rename_i hne;simp only[Option.some.injEq,Prod.mk.injEq] at h;obtain⟨rfl,rfl⟩:=h;exact⟨h2,hne⟩
 · simp at h
theorem zSp {col col':Col}{Y:Nat→Prop}{m:Mode}{o b:Nat}(hro:RO col Y b→RO col' Y b) (hown:∀ c,col b=some (o,c)→RO col' Y b) (h:okO col Y m o b):RO col' Y b:=by
 cases m with
 | ro=>exact hro h
 | _=>exact hown 0 h
theorem zUv {col col':Col}{Y:Nat→Prop}{m:Mode}{o i b:Nat}(hro:RO col Y b→RO col' Y b) (hown:∀ c,col b=some (o,c)→RO col' Y b) (h:okE col Y m o i b):RO col' Y b:=by
 cases m with
 | own=>exact hown _ h
 | _=>exact hro h
theorem Inv.demoteRow (h:Inv w0 X Y0 fix s ρ col a w) {o:Nat}{m:Mode}{t:Ty}{xs:List t.den}(ho:s.ob o=some (.row m t xs)):
  Inv w0 X Y0 fix ⟨s.tm,s.ob.upd o (.row .ro t xs)⟩ ρ (dropCol col o) a w:=by
 have hne:s.ob o≠none:=by rw[ho];simp
 have hY:∀ b c,col b=some (o,c)→Yof w0 X Y0 b:=fun b c hc=>.inr (h.cold b o c hc).1;have h1:Inv w0 X Y0 fix ⟨s.tm,s.ob.upd o .dead⟩ ρ (dropCol col o) a w:=by
  refine (h.kill hne).colour (fun o' x hx=>?_) (fun b o' c hc=>?_)
  · by_cases e:o'=o
    · subst e;simp only[Objs.upd,if_true,Option.some.injEq] at hx;subst hx;trivial
    · have:=(h.kill hne).objs o' x hx
      exact this.frame (by show _≠_;rw[show (⟨s.tm,s.ob.upd o .dead⟩:St).ob o'=some x from hx];simp) (Stays.refl _ _) (Nat.le_refl _)
       (fun b c _ hc=>⟨zFN hc e,rfl⟩) (fun b _ hr=>⟨zCK hr,rfl⟩)
  · obtain⟨g1,g2⟩:=zGb hc;exact (h.kill hne).cold b o' c g1
 have h2:=h1.change (o:=o) (x:=.row .ro t xs) (by simp[Objs.upd]) (by
  obtain⟨k1,k2,k3⟩:=h.obj ho
  refine⟨k1,?_,?_⟩
  · exact k2.frame (by simp[Mode.mine]) (Nat.le_refl _) (fun b _ hb=>⟨zSp zCK (fun c hc=>zEW hc (hY b c hc)) hb,rfl⟩)
  · exact k3.frame (by simp[Mode.deep]) (Nat.le_refl _) (fun i _ b _ hb=>⟨zUv zCK (fun c hc=>zEW hc (hY b c hc)) hb,rfl⟩) (fun _ _ _=>rfl))
 have e:((s.ob.upd o .dead).upd o (.row .ro t xs))=s.ob.upd o (.row .ro t xs):=by
  funext o';simp only[Objs.upd];split<;>rfl
 simpa only[e] using h2
theorem Does.over (h:Inv w0 X Y0 fix s ρ col a w) {dst:Option Nat}(hf:apart dst.toList (fix.map (·.1))=true) {id:Nat}(hid:s.ob id=none) {obj:Obj}(L:Loc)
  (hobj:ObjRel (s.ob.upd id obj) (putLoc ρ id L) col (Yof w0 X Y0) w id obj) {v:V}{x:Value}(hv:VRel (s.ob.upd id obj) (putLoc ρ id L) v x):
  Inv w0 X Y0 fix ⟨setO s.tm dst v,s.ob.upd id obj⟩ (putLoc ρ id L) col (a.put dst x) w:=by
 have hst:=zCA hid obj L (ρ:=ρ)
 refine h.step hf hst (fun o y hy=>?_) (fun b o c hc=>?_) (fun _ _ _=>rfl) (Nat.le_refl _) hv (Like.refl w)
 · by_cases e:o=id
   · subst e;simp only[Objs.upd,if_true,Option.some.injEq] at hy;subst hy;exact hobj
   · simp only[Objs.upd,if_neg e] at hy;exact (h.objs o y hy).frame (by rw[hy];simp) hst (Nat.le_refl _) (fun b c _ hc=>⟨hc,rfl⟩) (fun b _ hr=>⟨hr,rfl⟩)
 · obtain⟨h1,h2,h3⟩:=h.cold b o c hc;exact⟨h1,h2,(hst o h3).1⟩
def giveCol (col:Col) (o id:Nat):Col:=fun b=>match col b with
 | some (o',c)=>if o'=o then some (id,c) else some (o',c)
 | none=>none
theorem zIk {col:Col}{Y:Nat→Prop}{o id b:Nat}(h:RO col Y b):RO (giveCol col o id) Y b:=by
 refine⟨?_,h.2⟩;unfold giveCol
 rcases h.1 with g | ⟨o',i,g⟩
 · rw[g];exact .inl rfl
 · rw[g];simp only
   split
   · exact .inr ⟨id,i,rfl⟩
   · exact .inr ⟨o',i,rfl⟩
theorem zES {col:Col}{o id b c:Nat}(h:col b=some (o,c)):giveCol col o id b=some (id,c):=by simp[giveCol,h]
theorem zJb {col:Col}{o id o' b c:Nat}(h:col b=some (o',c)) (hne:o'≠o):giveCol col o id b=some (o',c):=by simp[giveCol,h,hne]
theorem zKg {col:Col}{o id o' b c:Nat}(h:giveCol col o id b=some (o',c)):(o'=id∧col b=some (o,c))∨(o'≠o∧col b=some (o',c)):=by
 unfold giveCol at h
 split at h
 · rename_i o2 c2 h2
   split at h
   · rename_i e;subst e;simp only[Option.some.injEq,Prod.mk.injEq] at h;obtain⟨rfl,rfl⟩:=h;exact .inl ⟨rfl,h2⟩
   · rename_i hne;simp only[Option.some.injEq,Prod.mk.injEq] at h;obtain⟨rfl,rfl⟩:=h;exact .inr ⟨hne,h2⟩
 · simp at h
theorem Inv.take (h:Inv w0 X Y0 fix s ρ col a w) {dst:Option Nat}(hf:apart dst.toList (fix.map (·.1))=true) {o id:Nat}(ho:s.ob o=some .dead) (hid:s.ob id=none) {obj:Obj}(L:Loc) {w':World}
  (hsame:∀ b,b<w.heap.size→(∀ c,col b≠some (o,c))→w'.heap[b]?=w.heap[b]?) (hsz:w'.heap.size=w.heap.size)
  (hobj:ObjRel (s.ob.upd id obj) (putLoc ρ id L) (giveCol col o id) (Yof w0 X Y0) w' id obj) {v:V}{x:Value}(hv:VRel (s.ob.upd id obj) (putLoc ρ id L) v x)
  (hnest:∀ b o' i,col b=some (o',i+1)→w'.heap[b]?=w.heap[b]?) (hlike:Like w w'):
  Inv w0 X Y0 fix ⟨setO s.tm dst v,s.ob.upd id obj⟩ (putLoc ρ id L) (giveCol col o id) (a.put dst x) w':=by
 have hst:=zCA hid obj L (ρ:=ρ)
 refine h.step hf hst (fun o' y hy=>?_) (fun b o' c hc=>?_) (fun b hb hx=>hsame b (Nat.lt_of_lt_of_le hb h.mono) ?_) (by omega) hv hlike
 · by_cases e:o'=id
   · subst e;simp only[Objs.upd,if_true,Option.some.injEq] at hy;subst hy;exact hobj
   · simp only[Objs.upd,if_neg e] at hy
     by_cases e2:o'=o
     · subst e2;rw[ho] at hy;simp only[Option.some.injEq] at hy;subst hy;trivial
     · refine (h.objs o' y hy).frame (by rw[hy];simp) hst (by omega) (fun b c hb hc=>⟨zJb hc e2,hsame b hb (fun c' hc'=>?_)⟩) (fun b hb hr=>⟨zIk hr,?_⟩)
       · rw[hc] at hc';simp only[Option.some.injEq,Prod.mk.injEq] at hc';exact e2 hc'.1
       · rcases hr.1 with g | ⟨o'',i,g⟩
         · exact hsame b hb (fun c hc=>by rw[g] at hc;simp at hc)
         · exact hnest b o'' i g
 · rcases zKg hc with ⟨rfl,g⟩ | ⟨g1,g⟩
   · obtain⟨h1,h2,h3⟩:=h.cold b o c g;exact⟨h1,by omega,by simp[Objs.upd]⟩
   · obtain⟨h1,h2,h3⟩:=h.cold b o' c g;exact⟨h1,by omega,(hst o' h3).1⟩
 · intro c hc
   rcases (h.cold b o c hc).1 with g | g
   · omega
   · exact hx g
theorem Inv.write (h:Inv w0 X Y0 fix s ρ col a w) {dst:Option Nat}(hf:apart dst.toList (fix.map (·.1))=true) {o b:Nat}{obj:Obj}(ho:s.ob o≠none) (hb:col b=some (o,0)) {w':World}
  (hsame:∀ k,k≠b→w'.heap[k]?=w.heap[k]?) (hsz:w'.heap.size=w.heap.size)
  (hobj:ObjRel (s.ob.upd o obj) ρ col (Yof w0 X Y0) w' o obj) {v:V}{x:Value}(hv:VRel (s.ob.upd o obj) ρ v x) (hlike:Like w w'):
  Inv w0 X Y0 fix ⟨setO s.tm dst v,s.ob.upd o obj⟩ ρ col (a.put dst x) w':=by
 have hst:=zHK (ρ:=ρ) (x:=obj) ho
 refine h.step hf hst (fun o' y hy=>?_) (fun b' o' c hc=>?_) (fun b' hb' hx=>hsame b' ?_) (by omega) hv hlike
 · by_cases e:o'=o
   · subst e;simp only[Objs.upd,if_true,Option.some.injEq] at hy;subst hy;exact hobj
   · simp only[Objs.upd,if_neg e] at hy
     refine (h.objs o' y hy).frame (by rw[hy];simp) hst (by omega) (fun b' c hb' hc=>⟨hc,hsame b' ?_⟩) (fun b' hb' hr=>⟨hr,hsame b' ?_⟩)
     · rintro rfl;rw[hb] at hc;simp only[Option.some.injEq,Prod.mk.injEq] at hc;exact e hc.1.symm
     · rintro rfl
       rcases hr.1 with g | ⟨o'',i,g⟩
       · rw[hb] at g;simp at g
       · rw[hb] at g;simp at g
 · obtain⟨h1,h2,h3⟩:=h.cold b' o' c hc;exact⟨h1,by omega,(hst o' h3).1⟩
 · rintro rfl
   rcases (h.cold b' o 0 hb).1 with g | g
   · omega
   · exact hx g
theorem zO9 {f:Objs}{o:Nat}{x:Obj}:∀ {l:List (Nat×Obj)},(∀ p∈l,p.1=o→p.2=x)→o∈l.map (·.1)→f.upds l o=some x
 | [],_,h=>by simp at h
 | (q,y)::r,hx,h=>by
  simp only[Objs.upds]
  by_cases hr:o∈r.map (·.1)
  · exact zO9 (fun p hp=>hx p (by simp[hp])) hr
  · have hq:q=o:=by
     rcases List.mem_cons.1 h with e | e
     · exact e.symm
     · exact absurd e hr
    have hy:y=x:=hx (q,y) (by simp) hq;have key:∀ {l:List (Nat×Obj)}{g:Objs},o∉l.map (·.1)→g.upds l o=g o:=by
     intro l
     induction l with
     | nil=>exact fun _=>rfl
     | cons p l ih=>
      intro g hn;simp only[List.map_cons,List.mem_cons,not_or] at hn;simp only[Objs.upds];rw[ih hn.2];simp[Objs.upd,hn.1]
    rw[key hr,hq,hy];simp[Objs.upd]
theorem zHJ {f:Objs}{o:Nat}:∀ {l:List (Nat×Obj)},(∀ p∈l,p.1≠o)→f.upds l o=f o
 | [],_=>rfl
 | (q,y)::r,h=>by
  simp only[Objs.upds];rw[zHJ (fun p hp=>h p (by simp[hp]))];simp[Objs.upd,Ne.symm (h (q,y) (by simp))]
theorem zJ8 {f:Objs}{o:Nat}(h:f o≠none):∀ {l:List (Nat×Obj)},f.upds l o≠none
 | []=>h
 | (q,y)::r=>by
  simp only[Objs.upds];refine zJ8 ?_;simp only[Objs.upd]
  split
  · simp
  · exact h
theorem zIX {ob:Objs}{ρ:Locs}{l:List (Nat×Obj)}:Stays ob (ob.upds l) ρ ρ:=fun _ h=>⟨zJ8 h,rfl⟩
theorem Inv.demoteList:∀ (l:List (Nat×Obj)) {s:St}{col:Col},Inv w0 X Y0 fix s ρ col a w →
  (∀ p∈l,∃ m t,∃ xs:List t.den,s.ob p.1=some (.row m t xs)∧p.2=.row .ro t xs)→∃ col',Inv w0 X Y0 fix ⟨s.tm,s.ob.upds l⟩ ρ col' a w
 | [],s,col,h,_=>⟨col,h⟩
 | (o,x)::r,s,col,h,hl=>by
  obtain⟨m,t,xs,ho,hx⟩:=hl (o,x) (by simp);simp only at ho hx;subst hx;exact Inv.demoteList r (s:=⟨s.tm,s.ob.upd o (.row .ro t xs)⟩) (h.demoteRow ho) (fun p hp=>by
   obtain⟨m',t',xs',ho',hx'⟩:=hl p (by simp[hp])
   by_cases e:p.1=o
   · rw[e,ho] at ho';refine⟨.ro,t',xs',?_,hx'⟩;simp only[Objs.upd,e,if_true];simp only[Option.some.injEq,Obj.row.injEq] at ho' ⊢;exact⟨trivial,ho'.2⟩
   · exact⟨m',t',xs',by simp[Objs.upd,e,ho'],hx'⟩)
def Rows (ob:Objs) (us:List (Nat×Mode)):Prop:=∀ p∈us,∃ t,∃ xs:List t.den,ob p.1=some (.row p.2 t xs)
theorem zGd {ob:Objs}{us:List (Nat×Mode)}(hu:Rows ob us):∀ q∈demotes ob us,∃ m t,∃ xs:List t.den,ob q.1=some (.row m t xs)∧q.2=.row .ro t xs:=by
 intro q hq;simp only[demotes,List.mem_map] at hq;obtain⟨p,hp,rfl⟩:=hq;obtain⟨t,xs,ho⟩:=hu p (List.mem_filter.1 hp).1;exact⟨p.2,t,xs,by simpa[demote] using ho,by simp[demote,ho]⟩
theorem Inv.demotes (h:Inv w0 X Y0 fix s ρ col a w) {us:List (Nat×Mode)}(hu:Rows s.ob us):∃ col',Inv w0 X Y0 fix ⟨s.tm,s.ob.upds (Ev.demotes s.ob us)⟩ ρ col' a w:=
 h.demoteList _ (zGd hu)
theorem zIu {ob:Objs}{us:List (Nat×Mode)}(hu:Rows ob us) {o:Nat}{m:Mode}{t:Ty}{xs:List t.den}(hm:(o,m)∈us) (ho:ob o=some (.row m t xs)):
  ob.upds (demotes ob us) o=some (.row .ro t xs):=by
 by_cases hc:o∈(demotes ob us).map (·.1)
 · refine zO9 (fun p hp e=>?_) hc;obtain⟨m',t',xs',h1,h2⟩:=zGd hu p hp;rw[e,ho] at h1;rw[h2];simp only[Option.some.injEq,Obj.row.injEq] at h1 ⊢;obtain⟨_,rfl,h1⟩:=h1;exact⟨trivial,rfl,heq_of_eq (eq_of_heq h1).symm⟩
 · rw[zHJ (fun p hp e=>hc (by rw[← e];exact List.mem_map_of_mem hp)),ho]
   cases m with
   | ro=>rfl
   | own=>exact absurd (by simp only[demotes,List.map_map,List.mem_map];exact⟨(o,.own),List.mem_filter.2 ⟨hm,rfl⟩,by simp[demote]⟩) hc
   | sh=>exact absurd (by simp only[demotes,List.map_map,List.mem_map];exact⟨(o,.sh),List.mem_filter.2 ⟨hm,rfl⟩,by simp[demote]⟩) hc
theorem ja {ob:Objs}{us:List (Nat×Mode)}{o:Nat}(h:∀ p∈us,p.1≠o):ob.upds (demotes ob us) o=ob o:=by
 refine zHJ (fun p hp=>?_);simp only[demotes,List.mem_map] at hp;obtain⟨q,hq,rfl⟩:=hp;exact h q (List.mem_filter.1 hq).1
def RowR (w:World) (ok:Nat→Prop) (L:Loc) (t:Ty) (xs:List t.den):Prop:=L.len=xs.length∧RowW w false ok t.cells xs.length L.addr L.cap∧Elems w false (fun _=>ok) t xs L.addr
theorem zGu {ob:Objs}{ρ:Locs}{ok:Nat→Prop}:∀ {t:Ty}{cs:List C}{x:t.den}{us:List (Nat×Mode)}{r:List C},packC ob t cs=some (x,us,r) →
  (∀ (o:Nat) (m:Mode) (u:Ty) (xs:List u.den),(o,m)∈us→ob o=some (.row m u xs)→RowR w ok (ρ o) u xs)→∃ c1,cs=c1++r∧TRep w false ok t x (c1.map (cval ρ))
 | .int k,cs,x,us,r,h,_=>by
  rcases cs with _ | ⟨c,cs⟩
  · simp[packC] at h
  · cases c<;>simp[packC] at h
    obtain⟨rfl,rfl,rfl,rfl⟩:=h;exact⟨[_],rfl,rfl⟩
 | .bool,cs,x,us,r,h,_=>by
  rcases cs with _ | ⟨c,cs⟩
  · simp[packC] at h
  · cases c<;>simp[packC] at h
    obtain⟨rfl,rfl,rfl⟩:=h;exact⟨[_],rfl,rfl⟩
 | .slice u,cs,x,us,r,h,hr=>by
  rcases cs with _ | ⟨c,cs⟩
  · simp[packC] at h
  · cases c with
    | nil=>
     simp only[packC,Option.some.injEq,Prod.mk.injEq] at h;obtain⟨rfl,rfl,rfl⟩:=h;refine⟨[.nil],rfl,none,0,rfl,⟨Nat.le_refl _,fun _=>⟨rfl,fun _=>rfl⟩,fun a h=>by simp at h⟩,fun i x hx=>by simp at hx⟩
    | sl o=>
     simp only[packC] at h
     split at h
     · rename_i m xs h1;simp only[Option.some.injEq,Prod.mk.injEq] at h;obtain⟨rfl,rfl,rfl⟩:=h;obtain⟨k1,k2,k3⟩:=hr o m u xs (by simp) (zX h1);exact⟨[.sl o],rfl,(ρ o).addr,(ρ o).cap,by simp only[List.map_cons,List.map_nil,cval,k1],k2,k3⟩
     · simp at h
    | int k n=>simp[packC] at h
    | bool b=>simp[packC] at h
    | ptr o i es j=>simp[packC] at h
 | .arr k m,cs,x,us,r,h,_=>by simp[packC] at h
 | .barr m,cs,x,us,r,h,_=>by simp[packC] at h
 | .pair p q,cs,x,us,r,h,hr=>by
  simp only[packC] at h
  split at h
  · rename_i x1 us1 r1 h1
    split at h
    · rename_i x2 us2 r2 h2;simp only[Option.some.injEq,Prod.mk.injEq] at h;obtain⟨rfl,rfl,rfl⟩:=h;obtain⟨c1,rfl,g1⟩:=zGu h1 (fun o m u xs hm=>hr o m u xs (by simp[hm]));obtain⟨c2,rfl,g2⟩:=zGu h2 (fun o m u xs hm=>hr o m u xs (by simp[hm]));refine⟨c1++c2,by simp,?_⟩;simp only[TRep,List.map_append];exact⟨_,_,rfl,g1,g2⟩
    · simp at h
  · simp at h
theorem zNA {ob ob':Objs}{ρ:Locs}{ok:Nat→Prop}{t:Ty}{v:W}{x:t.den}{us:List (Nat×Mode)}(hv:wfW ob' ρ v) (h:packW ob t v=some (x,us))
  (hr:∀ (o:Nat) (m:Mode) (u:Ty) (xs:List u.den),(o,m)∈us→ob o=some (.row m u xs)→RowR w ok (ρ o) u xs):TRep w false ok t x (wcells ρ v):=by
 cases t with
 | int k=>
  rcases v with c | _ | _ | _<;>(try (cases c))<;>simp[packW] at h
  obtain⟨rfl,rfl,rfl⟩:=h;exact rfl
 | bool=>
  rcases v with c | _ | _ | _<;>(try (cases c))<;>simp[packW] at h
  obtain⟨rfl,rfl⟩:=h;exact rfl
 | slice u=>
  rcases v with c | _ | _ | _
  · have h':packC ob (.slice u) [c]=some (x,us,[]):=by
     cases c with
     | nil=>simpa[packC,packW] using h
     | sl o=>
      simp only[packW] at h;simp only[packC]
      split at h
      · rename_i m xs h1;simp only[Option.some.injEq,Prod.mk.injEq] at h;obtain⟨rfl,rfl⟩:=h
        first | rfl | rw[h1]
      · simp at h
     | int k n=>simp[packW] at h
     | bool b=>simp[packW] at h
     | ptr o i es j=>simp[packW] at h
    obtain⟨c1,e,g⟩:=zGu h' hr;rw[List.append_nil] at e;subst e;exact g
  · simp[packW] at h
  · simp[packW] at h
  · simp[packW] at h
 | arr k m=>
  rcases v with c | _ | _ | _<;>(try (cases c))<;>simp[packW] at h
  obtain⟨⟨rfl,rfl⟩,rfl,rfl⟩:=h;exact⟨hv,rfl⟩
 | barr m=>
  rcases v with c | _ | _ | _<;>(try (cases c))<;>simp[packW] at h
  obtain⟨rfl,rfl,rfl⟩:=h;exact⟨hv,rfl⟩
 | pair p q=>
  rcases v with c | _ | _ | cs
  · cases c<;>simp[packW] at h
  · simp[packW] at h
  · simp[packW] at h
  · simp only[packW] at h
    split at h
    · rename_i x1 us1 h1;simp only[Option.some.injEq,Prod.mk.injEq] at h;obtain⟨rfl,rfl⟩:=h;obtain⟨c1,e,g1⟩:=zGu h1 hr;simp only[List.append_nil] at e;subst e;exact g1
    · simp at h
theorem zFl {ob:Objs}:∀ {t:Ty}{cs:List C}{x:t.den}{us:List (Nat×Mode)}{r:List C},packC ob t cs=some (x,us,r)→Rows ob us
 | .int k,cs,x,us,r,h=>by
  rcases cs with _ | ⟨c,cs⟩
  · simp[packC] at h
  · cases c<;>simp[packC] at h
    obtain⟨rfl,rfl,rfl,rfl⟩:=h;exact fun p hp=>by simp at hp
 | .bool,cs,x,us,r,h=>by
  rcases cs with _ | ⟨c,cs⟩
  · simp[packC] at h
  · cases c<;>simp[packC] at h
    obtain⟨rfl,rfl,rfl⟩:=h;exact fun p hp=>by simp at hp
 | .slice u,cs,x,us,r,h=>by
  rcases cs with _ | ⟨c,cs⟩
  · simp[packC] at h
  · cases c with
    | nil=>
     simp only[packC,Option.some.injEq,Prod.mk.injEq] at h;obtain⟨rfl,rfl,rfl⟩:=h;exact fun p hp=>by simp at hp
    | sl o=>
     simp only[packC] at h
     split at h
     · rename_i m xs h1;simp only[Option.some.injEq,Prod.mk.injEq] at h;obtain⟨rfl,rfl,rfl⟩:=h;intro p hp;simp only[List.mem_singleton] at hp;subst hp;exact⟨u,xs,zX h1⟩
     · simp at h
    | int k n=>simp[packC] at h
    | bool b=>simp[packC] at h
    | ptr o i es j=>simp[packC] at h
 | .arr k m,cs,x,us,r,h=>by simp[packC] at h
 | .barr m,cs,x,us,r,h=>by simp[packC] at h
 | .pair p q,cs,x,us,r,h=>by
  simp only[packC] at h
  split at h
  · rename_i x1 us1 r1 h1
    split at h
    · rename_i x2 us2 r2 h2;simp only[Option.some.injEq,Prod.mk.injEq] at h;obtain⟨rfl,rfl,rfl⟩:=h;intro p hp
      rcases List.mem_append.1 hp with hp | hp
      · exact zFl h1 p hp
      · exact zFl h2 p hp
    · simp at h
  · simp at h
theorem zIf {ob:Objs}{t:Ty}{v:W}{x:t.den}{us:List (Nat×Mode)}(h:packW ob t v=some (x,us)):Rows ob us:=by
 cases t with
 | int k=>
  rcases v with c | _ | _ | _<;>(try (cases c))<;>simp[packW] at h
  obtain⟨rfl,rfl,rfl⟩:=h;exact fun p hp=>by simp at hp
 | bool=>
  rcases v with c | _ | _ | _<;>(try (cases c))<;>simp[packW] at h
  obtain⟨rfl,rfl⟩:=h;exact fun p hp=>by simp at hp
 | slice u=>
  rcases v with c | _ | _ | _
  · cases c with
    | nil=>
     simp only[packW,Option.some.injEq,Prod.mk.injEq] at h;obtain⟨rfl,rfl⟩:=h;exact fun p hp=>by simp at hp
    | sl o=>
     simp only[packW] at h
     split at h
     · rename_i m xs h1;simp only[Option.some.injEq,Prod.mk.injEq] at h;obtain⟨rfl,rfl⟩:=h;intro p hp;simp only[List.mem_singleton] at hp;subst hp;exact⟨u,xs,zX h1⟩
     · simp at h
    | int k n=>simp[packW] at h
    | bool b=>simp[packW] at h
    | ptr o i es j=>simp[packW] at h
  · simp[packW] at h
  · simp[packW] at h
  · simp[packW] at h
 | arr k m=>
  rcases v with c | _ | _ | _<;>(try (cases c))<;>simp[packW] at h
  obtain⟨⟨rfl,rfl⟩,rfl,rfl⟩:=h;exact fun p hp=>by simp at hp
 | barr m=>
  rcases v with c | _ | _ | _<;>(try (cases c))<;>simp[packW] at h
  obtain⟨rfl,rfl,rfl⟩:=h;exact fun p hp=>by simp at hp
 | pair p q=>
  rcases v with c | _ | _ | cs
  · cases c<;>simp[packW] at h
  · simp[packW] at h
  · simp[packW] at h
  · simp only[packW] at h
    split at h
    · rename_i x1 us1 h1;simp only[Option.some.injEq,Prod.mk.injEq] at h;obtain⟨rfl,rfl⟩:=h;exact zFl h1
    · simp at h
theorem zGU {ob:Objs}(h:Inv w0 X Y0 fix s ρ col a w) {t:Ty}{v:W}{x:t.den}{us vs:List (Nat×Mode)}(hv:wfW s.ob ρ v) (hp:packW ob t v=some (x,us)) (hs:s.ob=ob.upds (demotes ob vs)) (hr:Rows ob vs)
  (hsub:∀ p∈us,p∈vs):TRep w false (RO col (Yof w0 X Y0)) t x (wcells ρ v):=by
 refine zNA hv hp (fun o m u xs hm ho=>?_);have:=zIu hr (hsub _ hm) ho;rw[← hs] at this;exact h.obj this
theorem zHt (h:Inv w0 X Y0 fix s ρ col a w) {o:Nat}{m:Mode}{t:Ty}{x:t.den}{i:Nat}{ys:List Value}(hr:TRep w m.deep (okE col (Yof w0 X Y0) m o i) t x ys):
  TRep w false (RO col (Yof w0 X Y0)) t x ys:=by
 refine hr.frame (by simp) (Nat.le_refl _) (fun b _ hb=>⟨?_,rfl⟩)
 cases m with
 | own=>exact⟨.inr ⟨o,i,hb⟩,.inr (h.cold b o (i+1) hb).1⟩
 | sh=>exact hb
 | ro=>exact hb
theorem zAz (f:Objs):∀ (l m:List (Nat×Obj)),f.upds (l++m)=(f.upds l).upds m
 | [],_=>rfl
 | (o,x)::r,m=>by simp only[List.cons_append,Objs.upds];exact zAz _ r m
theorem Inv.demoteBox (h:Inv w0 X Y0 fix s ρ col a w) {o:Nat}{m:Mode}{x:W}(ho:s.ob o=some (.box m x)):
  Inv w0 X Y0 fix ⟨s.tm,s.ob.upd o (.box .ro x)⟩ ρ (dropCol col o) a w:=by
 have hne:s.ob o≠none:=by rw[ho];simp
 have hY:∀ b c,col b=some (o,c)→Yof w0 X Y0 b:=fun b c hc=>.inr (h.cold b o c hc).1;have h1:Inv w0 X Y0 fix ⟨s.tm,s.ob.upd o .dead⟩ ρ (dropCol col o) a w:=by
  refine (h.kill hne).colour (fun o' x hx=>?_) (fun b o' c hc=>?_)
  · by_cases e:o'=o
    · subst e;simp only[Objs.upd,if_true,Option.some.injEq] at hx;subst hx;trivial
    · have:=(h.kill hne).objs o' x hx
      exact this.frame (by show _≠_;rw[show (⟨s.tm,s.ob.upd o .dead⟩:St).ob o'=some x from hx];simp) (Stays.refl _ _) (Nat.le_refl _)
       (fun b c _ hc=>⟨zFN hc e,rfl⟩) (fun b _ hr=>⟨zCK hr,rfl⟩)
  · obtain⟨g1,g2⟩:=zGb hc;exact (h.kill hne).cold b o' c g1
 have h2:=h1.change (o:=o) (x:=.box .ro x) (by simp[Objs.upd]) (by
  obtain⟨b,k1,k2,k3,k4,k5,k6,k7⟩:=h.obj ho;refine⟨b,k1,k2,?_,k4,k5,zSp zCK (fun c hc=>zEW hc (hY b c hc)) k6,fun e=>by simp[Mode.mine] at e⟩;have hst:Stays s.ob ((s.ob.upd o .dead).upd o (.box .ro x)) ρ ρ:=fun o' h'=>⟨by
   simp only[Objs.upd]
   split
   · simp
   · exact h',rfl⟩
  exact hst.wfW k3)
 have e:((s.ob.upd o .dead).upd o (.box .ro x))=s.ob.upd o (.box .ro x):=by
  funext o';simp only[Objs.upd];split<;>rfl
 simpa only[e] using h2
end
end Go.Ev
namespace Go.Ev
section
variable {P:Program}{E:Env}{w0:World}{X Y0:Nat→Prop}{fix:List (Nat×Value)}
variable {s:St}{ρ:Locs}{col:Col}{a:Act}{w:World}
def CellsOf (t:Ty) (xs:List t.den) (cs:List Value):Prop:=cs.length=xs.length*t.cells∧∀ i x,xs[i]?=some x→AnyRep t x ((cs.drop (i*t.cells)).take t.cells)
theorem CellsOf.nil (t:Ty):CellsOf t [] []:=⟨by simp,fun i x h=>by simp at h⟩
theorem CellsOf.append {t:Ty}{xs ys:List t.den}{cs ds:List Value}(h:CellsOf t xs cs) (g:CellsOf t ys ds):CellsOf t (xs++ys) (cs++ds):=by
 refine⟨by rw[List.length_append,List.length_append,h.1,g.1,Nat.add_mul],fun i x hx=>?_⟩;rw[List.getElem?_append] at hx
 by_cases hi:i<xs.length
 · rw[if_pos hi] at hx;have hle:i*t.cells+t.cells≤cs.length:=by
    rw[h.1];have:(i+1)*t.cells≤xs.length*t.cells:=Nat.mul_le_mul_right _ hi;rw[Nat.add_mul] at this;omega
   rw[List.drop_append_of_le_length (by omega),List.take_append_of_le_length (by rw[List.length_drop];omega)];exact h.2 i x hx
 · rw[if_neg hi] at hx;have e:i*t.cells=cs.length+(i-xs.length)*t.cells:=by
    rw[h.1,← Nat.add_mul];congr 1;omega
   rw[e,List.drop_append];have:cs.drop (cs.length+(i-xs.length)*t.cells)=[]:=List.drop_of_length_le (by omega);rw[this,List.nil_append,Nat.add_sub_cancel_left];exact g.2 _ x hx
theorem Elems.cells {own:Bool}{okE:Nat→Nat→Prop}{t:Ty}(hf:t.flat=true):∀ {xs:List t.den}{addr:Option Addr},Elems w own okE t xs addr→∃ cs,CellsOf t xs cs∧∀ j v,cs[j]?=some v→cellAt w addr j=some v:=by
 intro xs addr h;have key:∀ n,n≤xs.length→∃ cs,CellsOf t (xs.take n) cs∧∀ j v,cs[j]?=some v→cellAt w addr j=some v:=by
  intro n
  induction n with
  | zero=>exact fun _=>⟨[],by simpa using CellsOf.nil t,fun j v hv=>by simp at hv⟩
  | succ n ih=>
   intro hn;obtain⟨cs,h1,h2⟩:=ih (by omega);have hx:xs[n]?=some xs[n]:=List.getElem?_eq_getElem (by omega);obtain⟨ys,g1,g2⟩:=h n _ hx;have hy:=g1.len
   refine⟨cs++ys,?_,fun j v hv=>?_⟩
   · have:xs.take (n+1)=xs.take n++[xs[n]]:=by rw[List.take_add_one,hx];rfl
     rw[this];refine h1.append ⟨by simp[hy],fun i x hi=>?_⟩;have hi0:i=0:=by
      have:=(List.getElem?_eq_some_iff.1 hi).1;simpa using this
     subst hi0;simp only[List.getElem?_cons_zero,Option.some.injEq] at hi;subst hi;simp only[Nat.zero_mul,List.drop_zero,← hy,List.take_length];exact g1.flat hf
   · rw[List.getElem?_append] at hv
     split at hv
     · exact h2 j v hv
     · rename_i hj;have hl:cs.length=n*t.cells:=by rw[h1.1,List.length_take,Nat.min_eq_left (by omega)]
       have:=g2 _ v hv;rw[hl] at this hj;rwa [show n*t.cells+(j-n*t.cells)=j by omega] at this
 obtain⟨cs,h1,h2⟩:=key xs.length (Nat.le_refl _);rw[List.take_length] at h1;exact⟨cs,h1,h2⟩
theorem CellsOf.elems {t:Ty}{xs:List t.den}{cs:List Value}(h:CellsOf t xs cs) {w:World}{own:Bool}{okE:Nat→Nat→Prop}{addr:Option Addr}(hc:∀ j v,cs[j]?=some v→cellAt w addr j=some v):
  Elems w own okE t xs addr:=by
 intro i x hx;refine⟨_,h.2 i x hx _ _ _,fun j v hv=>hc _ v ?_⟩;rw[List.getElem?_take] at hv
 split at hv
 · rwa [List.getElem?_drop] at hv
 · simp at hv
theorem zNd (ρ:Locs) (c:C):(cval ρ c).oneCell'=true:=by cases c<;>rfl
theorem AnyRep.one {t:Ty}:∀ {x:t.den}{ys:List Value},AnyRep t x ys→∀ v∈ys,v.oneCell'=true:=by
 intro x ys h;have:=h default false (fun _=>True);clear h
 induction t generalizing ys with
 | int k=>simp only[TRep] at this;subst this;intro v hv;simp only[List.mem_singleton] at hv;subst hv;rfl
 | bool=>simp only[TRep] at this;subst this;intro v hv;simp only[List.mem_singleton] at hv;subst hv;rfl
 | arr k m=>simp only[TRep] at this;obtain⟨_,rfl⟩:=this;intro v hv;obtain⟨n,_,rfl⟩:=List.mem_map.1 hv;rfl
 | barr m=>simp only[TRep] at this;obtain⟨_,rfl⟩:=this;intro v hv;obtain⟨n,_,rfl⟩:=List.mem_map.1 hv;rfl
 | slice u _=>simp only[TRep] at this;obtain⟨_,_,rfl,_⟩:=this;intro v hv;simp only[List.mem_singleton] at hv;subst hv;rfl
 | pair p q ihp ihq=>
  simp only[TRep] at this;obtain⟨c1,c2,rfl,h1,h2⟩:=this;intro v hv
  rcases List.mem_append.1 hv with g | g
  · exact ihp h1 v g
  · exact ihq h2 v g
theorem CellsOf.one {t:Ty}(hpos:1≤t.cells) {xs:List t.den}{cs:List Value}(h:CellsOf t xs cs):∀ v∈cs,v.oneCell'=true:=by
 intro v hv;obtain⟨j,hj,rfl⟩:=List.mem_iff_getElem.1 hv;have hi:j / t.cells<xs.length:=by
  rw[Nat.div_lt_iff_lt_mul (by omega),← h.1];exact hj
 refine (h.2 (j / t.cells) _ (List.getElem?_eq_getElem hi)).one _ ?_;rw[List.mem_iff_getElem?];refine⟨j % t.cells,?_⟩;have hm:j % t.cells<t.cells:=Nat.mod_lt _ (by omega);rw[List.getElem?_take,if_pos hm,List.getElem?_drop,Nat.mul_comm,Nat.div_add_mod,List.getElem?_eq_getElem hj]
theorem jp {es n:Nat}{addr:Option Addr}{cap:Nat}{cs:List Value}(hn:addr=none→cs=[]) (hs:∀ a,addr=some a→cs≠[]→a.spot=none) (hl:cs.length=n*es)
  (hc:∀ j v,cs[j]?=some v→cellAt w addr j=some v):(Builtin.firstCells es n (.slice addr n cap)).run P w=.ok cs.toArray w:=by
 cases addr with
 | none=>rw[hn rfl];simp[Builtin.firstCells]
 | some ad=>
  by_cases he:cs=[]
  · subst he;have:n*es=0:=by simpa using hl.symm
    simp[Builtin.firstCells,this,loadCells,loadCellsFrom]
  · have hsp:=hs ad rfl he;simp only[Builtin.firstCells,← hl];refine run_loadCells_list w ad cs fun j v hv=>?_;have:=hc j v hv;simp only[cellAt,Option.bind_some] at this;obtain⟨b,off,sp⟩:=ad;simp only at hsp;subst hsp;rw[zCP];exact this
theorem zKe {need cap bytes:Nat}(h1:need≤lim) (h2:cap<need) (h3:bytes≤128):¬ (281474976710656<Builtin.nextslicecap need cap*bytes):=by
 have hn:Builtin.nextslicecap need cap≤2*need+2048:=by
  unfold Builtin.nextslicecap
  split
  · omega
  · split
    · omega
    · simp only[Builtin.growBy]
      repeat' split
      all_goals omega
 have:Builtin.nextslicecap need cap*bytes≤(2*need+2048)*128:=Nat.mul_le_mul hn h3;unfold lim at h1;omega
theorem jX {T ty e:TypeId}{i:TypeInfo}{z:Value}(hT:P.underlying T=some (.slice e)) (hi:P.info? e=some i) (hz:i.zero=some z) (hzc:z.cells.size=i.size) (hb:i.bytes≤128) (hpos:1≤i.size)
  {n cap m cap2:Nat}{addr addr2:Option Addr}{olds news:List Value}{ok:Nat→Prop}(hrow:RowW w true ok i.size n addr cap)
  (hlo:olds.length=n*i.size) (hco:∀ j v,olds[j]?=some v→cellAt w addr j=some v)
  (hln:news.length=m*i.size) (hcn:∀ j v,news[j]?=some v→cellAt w addr2 j=some v) (h2n:addr2=none→news=[]) (h2s:∀ a,addr2=some a→news≠[]→a.spot=none) (h1:∀ v∈news,v.oneCell'=true)
  (hlim:n+m≤lim):
  ∃ w' addr' cap',(Builtin.append_ #[T,T] ty #[.slice addr n cap,.slice addr2 m cap2]).run P w=.ok (.slice addr' (n+m) cap') w'∧w.heap.size≤w'.heap.size∧Like w w' ∧
   (∀ j v,(olds++news)[j]?=some v→cellAt w' addr' j=some v)∧n+m≤cap' ∧
   ((addr'=addr∧cap'=cap∧w'.heap.size=w.heap.size∧(addr=none→w'=w)∧∀ ad,addr=some ad→(∀ k,k≠ad.block→w'.heap[k]?=w.heap[k]?)∧∃ cs T,w'.heap[ad.block]?=some (.cells cs T (0,0))∧ad.off+cap*i.size≤cs.size) ∨
    (addr'=some ⟨w.heap.size,0,none⟩∧w'.heap.size=w.heap.size+1∧(∀ k,k<w.heap.size→w'.heap[k]?=w.heap[k]?)∧∃ cs T,w'.heap[w.heap.size]?=some (.cells cs T (0,0))∧cap'*i.size≤cs.size)):=by
 have hfn:(Builtin.firstCells i.size m (.slice addr2 m cap2)).run P w=.ok news.toArray w:=jp h2n h2s hln hcn
 by_cases hroom:n+m≤cap
 · cases addr with
   | none=>
    obtain⟨rfl,hc0⟩:=hrow.2.1 rfl;have:=hc0 rfl;subst this;have hm:m=0:=by omega
    subst hm;have ho:olds=[]:=List.eq_nil_of_length_eq_zero (by simpa using hlo);have hnn:news=[]:=List.eq_nil_of_length_eq_zero (by simpa using hln);subst ho;subst hnn;refine⟨w,none,0,?_,Nat.le_refl _,Like.refl w,fun j v hv=>by simp at hv,Nat.le_refl _,.inl ⟨rfl,rfl,rfl,fun _=>rfl,fun ad h=>by simp at h⟩⟩;simp[Builtin.append_,run_underlying hT,zN hi,Builtin.lenOf,hfn]
   | some ad=>
    obtain⟨g1,g2,g3,g4⟩:=hrow.2.2 ad rfl (.inr rfl);obtain⟨cs,T',g5,g6⟩:=g4 rfl;obtain⟨b,off,sp⟩:=ad;simp only at g1 g2 g5 g6;subst g1;have hfit:off+n*i.size+news.length≤cs.size:=by
     rw[hln];have:(n+m)*i.size≤cap*i.size:=Nat.mul_le_mul_right _ hroom;rw[Nat.add_mul] at this;omega
    have hst:=run_storeCells_at P b (off+n*i.size) T' news 0 cs w g5 (by simpa using hfit) h1;simp only[Nat.add_zero] at hst;have hsr:=setRow_heap w b cs (cs.toList.take (off+n*i.size)++news++cs.toList.drop (off+n*i.size+news.length)).toArray T' _ g5
    refine⟨w.setRow b (cs.toList.take (off+n*i.size)++news++cs.toList.drop (off+n*i.size+news.length)).toArray,some ⟨b,off,none⟩,cap,?_,by simp,(by first | exact⟨rfl,rfl,rfl,Nat.le_refl _⟩ | exact⟨rfl,rfl,rfl,Nat.le_add_right _ _⟩),?_,hroom,.inl ⟨rfl,rfl,by simp,fun h=>by simp at h,?_⟩⟩
    · simp[Builtin.append_,run_underlying hT,zN hi,Builtin.lenOf,hroom,hfn,zCP,hst]
    · intro j v hv;simp only[cellAt,Option.bind_some,World.cell?,hsr];simp only[Option.isSome_none,Bool.false_eq_true,if_false,List.getElem?_toArray];rw[List.getElem?_append] at hv
      split at hv
      · rename_i hj;have:=hco j v hv;simp only[cellAt,Option.bind_some,World.cell?,g5] at this;simp only[Option.isSome_none,Bool.false_eq_true,if_false] at this;rw[List.append_assoc,List.getElem?_append_left (by simp;omega),List.getElem?_take,if_pos (by omega)];simpa using this
      · rename_i hj;have hlt:j-olds.length<news.length:=(List.getElem?_eq_some_iff.1 hv).1;rw[List.append_assoc,List.getElem?_append_right (by simp;omega),List.getElem?_append_left (by simp;omega)];rw[← hv];congr 1;simp;omega
    · intro ad had;simp only[Option.some.injEq] at had;subst had;refine⟨fun k hk=>setRow_other w b k _ hk,_,T',hsr,?_⟩;simp;omega
 · have hfo:(Builtin.firstCells i.size n (.slice addr n cap)).run P w=.ok olds.toArray w:=by
    refine jp (fun e=>?_) (fun ad e _=>(hrow.2.2 ad e (.inr rfl)).1) hlo hco;have:=(hrow.2.1 e).1;subst this;exact List.eq_nil_of_length_eq_zero (by simpa using hlo)
   have hgs:=zKe (need:=n+m) (cap:=cap) (bytes:=i.bytes) hlim (by omega) hb;have hge:=grownCap_ge w (n+m) cap e;have hmx:¬ (9223372036854775807<(n:Int)+m):=by unfold lim at hlim;omega
   refine⟨w.drew.alloc (.cells (olds.toArray++news.toArray++Builtin.zeroCells z.cells (grownCap w (n+m) cap e-(n+m))) e),some ⟨w.heap.size,0,none⟩,grownCap w (n+m) cap e,?_,?_,(by first | exact⟨rfl,rfl,rfl,Nat.le_refl _⟩ | exact⟨rfl,rfl,rfl,Nat.le_add_right _ _⟩),?_,hge,.inr ⟨rfl,?_,?_,_,e,heap_alloc_new w.drew _,?_⟩⟩
   · have hfn':(Builtin.firstCells i.size m (.slice addr2 m cap2)).run P w.drew=.ok news.toArray w.drew:=jp h2n h2s hln hcn;have hfo':(Builtin.firstCells i.size n (.slice addr n cap)).run P w.drew=.ok olds.toArray w.drew:=by
      refine jp (fun e=>?_) (fun ad e _=>(hrow.2.2 ad e (.inr rfl)).1) hlo hco;have:=(hrow.2.1 e).1;subst this;exact List.eq_nil_of_length_eq_zero (by simpa using hlo)
     have e1:(Builtin.append_ #[T,T] ty #[.slice addr n cap,.slice addr2 m cap2]).run P w=.ok (.slice (some ⟨w.heap.size,0,none⟩) (n+m) (grownCap w (n+m) cap e)) (w.drew.alloc (.cells (olds.toArray++news.toArray++Builtin.zeroCells z.cells (grownCap w (n+m) cap e-(n+m))) e)):=by
      simp[Builtin.append_,run_underlying hT,zN hi,Builtin.lenOf,hroom,zDA hi,kI hi hz,hmx,hgs,hfn',hfo',newRow,Question.forced,grownCap];exact congrArg (fun x=>w.drew.alloc (.cells x e)) (by rw[← Array.append_assoc];congr 1;simp)
     exact e1
   · rw[zi];exact Nat.le_succ _
   · intro j v hv;simp only[cellAt,Option.bind_some,Nat.zero_add];have hj:j<(olds++news).length:=(List.getElem?_eq_some_iff.1 hv).1;show World.cell? (w.drew.alloc _) ⟨w.drew.heap.size,j,none⟩=_;unfold World.cell?;rw[heap_alloc_new];simp only[Option.isSome_none,Bool.false_eq_true,if_false];rw[Array.getElem?_append_left (by simpa using hj)];simpa using hv
   · rw[zi];rfl
   · intro k hk;exact Go.RowKit.Below.heap_alloc w.drew _ k hk
   · simp only[Array.size_append,List.size_toArray,size_zeroCells,hzc,hlo,hln,← Nat.add_mul];exact Nat.mul_le_mul_right _ (by omega)
def CellsR (t:Ty) (R:t.den→List Value→Prop) (xs:List t.den) (cs:List Value):Prop:=cs.length=xs.length*t.cells∧∀ i x,xs[i]?=some x→R x ((cs.drop (i*t.cells)).take t.cells)
theorem CellsR.nil (t:Ty) (R:t.den→List Value→Prop):CellsR t R [] []:=⟨by simp,fun i x h=>by simp at h⟩
theorem CellsR.append {t:Ty}{R:t.den→List Value→Prop}{xs ys:List t.den}{cs ds:List Value}(h:CellsR t R xs cs) (g:CellsR t R ys ds):CellsR t R (xs++ys) (cs++ds):=by
 refine⟨by rw[List.length_append,List.length_append,h.1,g.1,Nat.add_mul],fun i x hx=>?_⟩;rw[List.getElem?_append] at hx
 by_cases hi:i<xs.length
 · rw[if_pos hi] at hx;have hle:i*t.cells+t.cells≤cs.length:=by
    rw[h.1];have:(i+1)*t.cells≤xs.length*t.cells:=Nat.mul_le_mul_right _ hi;rw[Nat.add_mul] at this;omega
   rw[List.drop_append_of_le_length (by omega),List.take_append_of_le_length (by rw[List.length_drop];omega)];exact h.2 i x hx
 · rw[if_neg hi] at hx;have e:i*t.cells=cs.length+(i-xs.length)*t.cells:=by
    rw[h.1,← Nat.add_mul];congr 1;omega
   rw[e,List.drop_append];have:cs.drop (cs.length+(i-xs.length)*t.cells)=[]:=List.drop_of_length_le (by omega);rw[this,List.nil_append,Nat.add_sub_cancel_left];exact g.2 _ x hx
theorem Elems.cellsR {own:Bool}{okE:Nat→Nat→Prop}{t:Ty}{R:t.den→List Value→Prop}:∀ {xs:List t.den}{addr:Option Addr},(∀ i x ys,xs[i]?=some x→TRep w own (okE i) t x ys→R x ys) →
  Elems w own okE t xs addr→∃ cs,CellsR t R xs cs∧∀ j v,cs[j]?=some v→cellAt w addr j=some v:=by
 intro xs addr hR h;have key:∀ n,n≤xs.length→∃ cs,CellsR t R (xs.take n) cs∧∀ j v,cs[j]?=some v→cellAt w addr j=some v:=by
  intro n
  induction n with
  | zero=>exact fun _=>⟨[],by simpa using CellsR.nil t R,fun j v hv=>by simp at hv⟩
  | succ n ih=>
   intro hn;obtain⟨cs,h1,h2⟩:=ih (by omega);have hx:xs[n]?=some xs[n]:=List.getElem?_eq_getElem (by omega);obtain⟨ys,g1,g2⟩:=h n _ hx;have hy:=g1.len
   refine⟨cs++ys,?_,fun j v hv=>?_⟩
   · have:xs.take (n+1)=xs.take n++[xs[n]]:=by rw[List.take_add_one,hx];rfl
     rw[this];refine h1.append ⟨by simp[hy],fun i x hi=>?_⟩;have hi0:i=0:=by
      have:=(List.getElem?_eq_some_iff.1 hi).1;simpa using this
     subst hi0;simp only[List.getElem?_cons_zero,Option.some.injEq] at hi;subst hi;simp only[Nat.zero_mul,List.drop_zero,← hy,List.take_length];exact hR n _ _ hx g1
   · rw[List.getElem?_append] at hv
     split at hv
     · exact h2 j v hv
     · rename_i hj;have hl:cs.length=n*t.cells:=by rw[h1.1,List.length_take,Nat.min_eq_left (by omega)]
       have:=g2 _ v hv;rw[hl] at this hj;rwa [show n*t.cells+(j-n*t.cells)=j by omega] at this
 obtain⟨cs,h1,h2⟩:=key xs.length (Nat.le_refl _);rw[List.take_length] at h1;exact⟨cs,h1,h2⟩
theorem CellsR.elems {t:Ty}{R:t.den→List Value→Prop}{xs:List t.den}{cs:List Value}(h:CellsR t R xs cs) {w:World}{own:Bool}{ok:Nat→Prop}{addr:Option Addr}
  (hR:∀ x ys,R x ys→TRep w own ok t x ys) (hc:∀ j v,cs[j]?=some v→cellAt w addr j=some v):Elems w own (fun _=>ok) t xs addr:=by
 intro i x hx;refine⟨_,hR _ _ (h.2 i x hx),fun j v hv=>hc _ v ?_⟩;rw[List.getElem?_take] at hv
 split at hv
 · rwa [List.getElem?_drop] at hv
 · simp at hv
theorem TRep.one {w:World}{own:Bool}{ok:Nat→Prop}:∀ {t:Ty}{x:t.den}{ys:List Value},TRep w own ok t x ys→∀ v∈ys,v.oneCell'=true
 | .int k,x,ys,h=>by simp only[TRep] at h;subst h;intro v hv;simp only[List.mem_singleton] at hv;subst hv;rfl
 | .bool,x,ys,h=>by simp only[TRep] at h;subst h;intro v hv;simp only[List.mem_singleton] at hv;subst hv;rfl
 | .arr k m,x,ys,h=>by simp only[TRep] at h;obtain⟨_,rfl⟩:=h;intro v hv;obtain⟨n,_,rfl⟩:=List.mem_map.1 hv;rfl
 | .barr m,x,ys,h=>by simp only[TRep] at h;obtain⟨_,rfl⟩:=h;intro v hv;obtain⟨n,_,rfl⟩:=List.mem_map.1 hv;rfl
 | .slice u,x,ys,h=>by simp only[TRep] at h;obtain⟨_,_,rfl,_⟩:=h;intro v hv;simp only[List.mem_singleton] at hv;subst hv;rfl
 | .pair p q,x,ys,h=>by
  simp only[TRep] at h;obtain⟨c1,c2,rfl,h1,h2⟩:=h;intro v hv
  rcases List.mem_append.1 hv with g | g
  · exact TRep.one h1 v g
  · exact TRep.one h2 v g
theorem CellsR.one {t:Ty}(hpos:1≤t.cells) {R:t.den→List Value→Prop}(hR:∀ x ys,R x ys→∀ v∈ys,v.oneCell'=true) {xs:List t.den}{cs:List Value}(h:CellsR t R xs cs):∀ v∈cs,v.oneCell'=true:=by
 intro v hv;obtain⟨j,hj,rfl⟩:=List.mem_iff_getElem.1 hv;have hi:j / t.cells<xs.length:=by
  rw[Nat.div_lt_iff_lt_mul (by omega),← h.1];exact hj
 refine hR _ _ (h.2 (j / t.cells) _ (List.getElem?_eq_getElem hi)) _ ?_;rw[List.mem_iff_getElem?];refine⟨j % t.cells,?_⟩;have hm:j % t.cells<t.cells:=Nat.mod_lt _ (by omega);rw[List.getElem?_take,if_pos hm,List.getElem?_drop,Nat.mul_comm,Nat.div_add_mod,List.getElem?_eq_getElem hj]
theorem CellsR.set {t:Ty}{R:t.den→List Value→Prop}{xs:List t.den}{cs:List Value}(h:CellsR t R xs cs) {i:Nat}(hi:i<xs.length) {x:t.den}{ys:List Value}(hl:ys.length=t.cells) (hy:R x ys):
  CellsR t R (xs.set i x) (cs.take (i*t.cells)++ys++cs.drop (i*t.cells+ys.length)):=by
 have hle:i*t.cells+t.cells≤cs.length:=by
  rw[h.1];have:(i+1)*t.cells≤xs.length*t.cells:=Nat.mul_le_mul_right _ hi;rw[Nat.add_mul] at this;omega
 refine⟨?_,fun n z hz=>?_⟩
 · rw[List.length_set,← h.1];simp[hl];omega
 · by_cases hn:n=i
   · subst hn;rw[List.getElem?_set_self hi] at hz;simp only[Option.some.injEq] at hz;subst hz;rw[List.append_assoc,List.drop_left' (by simp;omega),List.take_left' hl];exact hy
   · rw[List.getElem?_set_ne (Ne.symm hn)] at hz;have hnl:=(List.getElem?_eq_some_iff.1 hz).1;have:=h.2 n z hz
     rcases Nat.lt_or_gt_of_ne hn with hlt | hgt
     · have hle2:n*t.cells+t.cells≤i*t.cells:=by
        have:(n+1)*t.cells≤i*t.cells:=Nat.mul_le_mul_right _ hlt;rw[Nat.add_mul] at this;omega
       rw[List.append_assoc,List.drop_append_of_le_length (by simp;omega),List.take_append_of_le_length (by simp;omega),List.drop_take,List.take_take,Nat.min_eq_left (by omega)];exact this
     · have hge:i*t.cells+t.cells≤n*t.cells:=by
        have:(i+1)*t.cells≤n*t.cells:=Nat.mul_le_mul_right _ hgt;rw[Nat.add_mul] at this;omega
       have e:n*t.cells=(cs.take (i*t.cells)++ys).length+(n*t.cells-(i*t.cells+t.cells)):=by simp[hl];omega
       rw[e,List.drop_append,List.drop_of_length_le (by omega),List.nil_append,Nat.add_sub_cancel_left,List.drop_drop,hl,show i*t.cells+t.cells+(n*t.cells-(i*t.cells+t.cells))=n*t.cells by omega];exact this
end
end Go.Ev
namespace Go.Ev
section
variable {P:Program}{E:Env}{w0:World}{X Y0:Nat→Prop}{fix:List (Nat×Value)}
variable {s:St}{ρ:Locs}{col:Col}{a:Act}{w:World}
theorem Inv.fresh (h:Inv w0 X Y0 fix s ρ col a w) {dst:Option Nat}(hf:apart dst.toList (fix.map (·.1))=true) {id:Nat}(hid:s.ob id=none) {obj:Obj}(L:Loc) {w':World}
  (hsame:∀ k,k<w.heap.size→w'.heap[k]?=w.heap[k]?) (hsz:w'.heap.size=w.heap.size+1)
  (hobj:ObjRel (s.ob.upd id obj) (putLoc ρ id L) (putCol col w.heap.size (id,0)) (Yof w0 X Y0) w' id obj)
  {v:V}{x:Value}(hv:VRel (s.ob.upd id obj) (putLoc ρ id L) v x) (hlike:Like w w'):
  Inv w0 X Y0 fix ⟨setO s.tm dst v,s.ob.upd id obj⟩ (putLoc ρ id L) (putCol col w.heap.size (id,0)) (a.put dst x) w':=by
 have hst:=zCA hid obj L (ρ:=ρ);have hcol:∀ b,b<w.heap.size→putCol col w.heap.size (id,0) b=col b:=fun b hb=>by simp[putCol,Nat.ne_of_lt hb]
 refine h.step hf hst (fun o y hy=>?_) (fun b o c hc=>?_) (fun b hb _=>hsame b (Nat.lt_of_lt_of_le hb h.mono)) (by omega) hv hlike
 · by_cases e:o=id
   · subst e;simp only[Objs.upd,if_true,Option.some.injEq] at hy;subst hy;exact hobj
   · simp only[Objs.upd,if_neg e] at hy;refine (h.objs o y hy).frame (by rw[hy];simp) hst (by omega) (fun b c hb hc=>⟨by rw[hcol b hb];exact hc,hsame b hb⟩) (fun b hb hr=>⟨?_,hsame b hb⟩);exact⟨by rw[hcol b hb];exact hr.1,hr.2⟩
 · by_cases e:b=w.heap.size
   · subst e;simp only[putCol,if_true,Option.some.injEq,Prod.mk.injEq] at hc;obtain⟨rfl,rfl⟩:=hc;exact⟨.inl h.mono,by omega,by simp[Objs.upd]⟩
   · simp only[putCol,if_neg e] at hc;obtain⟨h1,h2,h3⟩:=h.cold b o c hc;exact⟨h1,by omega,(hst o h3).1⟩
theorem zCB (ob:Objs) (ρ:Locs) {id:Nat}{t:Ty}{m:Mode}{xs:List t.den}{L:Loc}(hl:L.len=xs.length):
  VRel (ob.upd id (.row m t xs)) (putLoc ρ id L) (.w (.c (.sl id))) (.slice L.addr xs.length L.cap):=
 .inr ⟨by simp[wfV,wfW,wfC,Objs.upd],by simp[vval,wval,cval,putLoc,hl]⟩
theorem RowW.mine {w:World}{m:Mode}{ok:Nat→Prop}{es len:Nat}{addr:Option Addr}{cap:Nat}(h:RowW w m.mine ok es len addr cap) (hm:m.mine=true):RowW w true ok es len addr cap:=by
 rw[hm] at h;exact h
theorem zKD (hE:EnvTy P E) (h:Inv w0 X Y0 fix s ρ col a w) {dst:Option Nat}(hf:apart dst.toList (fix.map (·.1))=true) {d:Nat}(hid:s.ob (idOf d)=none)
  {T ty:TypeId}{t:Ty}(ht:E.ty T=some (.slice t)) (hfl:t.flat=true) {A B:W}(hA:wfW s.ob ρ A) (hB:wfW s.ob ρ B) {us vs:List (Nat×Mode)}{xs ys:List t.den}
  (h1:A.sliceOf s.ob t=some (us,xs)) (h2:B.sliceOf s.ob t=some (vs,ys)) (hus:us.all (fun p=>p.2.mine)=true) (hlim:xs.length+ys.length≤lim) {ok:Bool}{rd:List Nat}:
  Does P w0 X Y0 fix s dst ⟨ok,.w (.c (.sl (idOf d))),us.map (fun p=>(p.1,.dead)),[(idOf d,.row .own t (xs++ys))],rd⟩ a
   (((do pure (.value (← Builtin.append_ #[T,T] ty #[wval ρ A,wval ρ B]))):Sem Next).run P w):=by
 obtain⟨_,e,hT,hte⟩:=hE T _ ht;obtain⟨i,hi,hz,hs,hb,hc1,_⟩:=hte.base;obtain⟨addr,cap,m,ea,ra,la,ua⟩:=h.slice h1;obtain⟨addr2,cap2,m2,eb,rb,lb,ub⟩:=h.slice h2;obtain⟨olds,co,ko⟩:=la.cells hfl;obtain⟨news,cn,kn⟩:=lb.cells hfl;have hrow:∃ okk,RowW w true okk t.cells xs.length addr cap:=by
  rcases ua with ⟨rfl,_,rfl,rfl,rfl⟩ | ⟨o,rfl,_⟩
  · exact⟨fun _=>True,⟨Nat.le_refl _,fun _=>⟨rfl,fun _=>rfl⟩,fun a h=>by simp at h⟩⟩
  · simp only[List.all_cons,List.all_nil,Bool.and_true] at hus;exact⟨_,ra.mine hus⟩
 obtain⟨okk,hrow⟩:=hrow;have hzc:((wval (fun _=>⟨none,0,0⟩) t.zeroW).cells).size=i.size:=by
  rw[zR,hs];exact (jS (fun _=>⟨none,0,0⟩) hte w false (fun _=>True)).len
 rw[← hs] at hrow;have hln:news.length=ys.length*i.size:=by rw[hs];exact cn.1
 have hlo:olds.length=xs.length*i.size:=by rw[hs];exact co.1
 obtain⟨w',addr',cap',hr,hsz,hlike,hcells,hcap,hcase⟩:=jX (P:=P) (ty:=ty) hT hi hz hzc hb (by omega) hrow hlo ko hln kn
  (fun e=>by
   have:=(rb.2.1 e).1;rw[this] at hln;exact List.eq_nil_of_length_eq_zero (by simpa using hln))
  (fun ad e hne=>by
   refine (rb.2.2 ad e (.inl ?_)).1
   rcases Nat.eq_zero_or_pos ys.length with g | g
   · rw[g] at hln;exact absurd (List.eq_nil_of_length_eq_zero (by simpa using hln)) hne
   · exact g)
  (cn.one hc1) hlim (cap2:=cap2)
 have hrun:((do pure (.value (← Builtin.append_ #[T,T] ty #[wval ρ A,wval ρ B])):Sem Next)).run P w=.ok (.value (.slice addr' (xs++ys).length cap')) w':=by
  rw[ea,eb];simp[hr]
 have hel:∀ col',Elems w' true (okE col' (Yof w0 X Y0) .own (idOf d)) t (xs++ys) addr':=fun col'=>(co.append cn).elems hcells;have hlen:(xs++ys).length=xs.length+ys.length:=by simp
 have hk:∃ s1:St,Inv w0 X Y0 fix s1 ρ col a w∧s1.tm=s.tm∧s1.ob.upd (idOf d) (.row .own t (xs++ys))=s.ob.upds (us.map (fun p=>(p.1,Obj.dead))++[(idOf d,.row .own t (xs++ys))])∧s1.ob (idOf d)=none ∧
   ∀ ad,addr=some ad→∃ o,s1.ob o=some .dead∧col ad.block=some (o,0):=by
  rcases ua with ⟨rfl,_,rfl,rfl,rfl⟩ | ⟨o,rfl,_,ho,rfl,rfl⟩
  · exact⟨s,h,rfl,rfl,hid,fun ad e=>by simp at e⟩
  · simp only[List.all_cons,List.all_nil,Bool.and_true] at hus;have hno:s.ob o≠none:=by rw[zX ho];simp
    refine⟨_,h.kill hno,rfl,rfl,?_,fun ad e=>⟨o,by simp[Objs.upd],?_⟩⟩
    · have:idOf d≠o:=by intro e;rw[e] at hid;exact hno hid
      simp[Objs.upd,this,hid]
    · have:=((ra.mine hus).2.2 ad e (.inr rfl)).2.2.1
      cases m with
      | own=>exact this
      | sh=>exact this
      | ro=>simp[Mode.mine] at hus
 obtain⟨s1,g1,g2,g3,g4,g5⟩:=hk;refine⟨.slice addr' (xs++ys).length cap',w',.inl hrun,?_⟩;have hput:s.put dst ⟨ok,.w (.c (.sl (idOf d))),us.map (fun p=>(p.1,.dead)),[(idOf d,.row .own t (xs++ys))],rd⟩=⟨setO s1.tm dst (.w (.c (.sl (idOf d)))),s1.ob.upd (idOf d) (.row .own t (xs++ys))⟩:=by
  simp only[St.put,g2,g3]
 rw[hput]
 rcases hcase with ⟨rfl,rfl,e3,e4,e5⟩ | ⟨rfl,e2,e3,cs,T',e4,e5⟩
 · cases addr' with
   | none=>
    have:=e4 rfl;subst this
    refine⟨_,_,Does.over (obj:=.row .own t (xs++ys)) g1 hf g4 ⟨none,(xs++ys).length,cap'⟩ ⟨by simp[putLoc],?_,?_⟩ (zCB _ _ rfl)⟩
    · have hx:=(hrow.2.1 rfl);have hc0:=hx.2 rfl;subst hc0;have:(xs++ys).length=0:=by omega
      refine⟨by simp only[putLoc,if_true];omega,fun _=>⟨this,fun _=>by simp[putLoc]⟩,fun a ha=>by simp[putLoc] at ha⟩
    · simp only[putLoc,if_true];exact hel _
   | some ad=>
    obtain⟨o,k1,k2⟩:=g5 ad rfl;obtain⟨f1,cs,T',f2,f3⟩:=e5 ad rfl;have hsp:=hrow.2.2 ad rfl (.inr rfl)
    refine⟨_,_,g1.take (obj:=.row .own t (xs++ys)) hf k1 g4 ⟨some ad,(xs++ys).length,cap'⟩ (fun b hb hne=>f1 b (fun e=>hne 0 (by rw[e];exact k2))) e3 ⟨by simp[putLoc],?_,?_⟩ (zCB _ _ rfl) (fun b o' n hb=>f1 b (fun e=>by rw[e,k2] at hb;simp at hb)) hlike⟩
    · refine⟨by simp only[putLoc,if_true];omega,fun e=>by simp[putLoc] at e,fun a' ha _=>?_⟩;simp only[putLoc,if_true,Option.some.injEq] at ha;subst ha;refine⟨hsp.1,by rw[e3];exact hsp.2.1,zES k2,fun _=>⟨cs,T',f2,?_⟩⟩;simp only[putLoc,if_true];rw[← hs];exact f3
    · simp only[putLoc,if_true];exact hel _
 · refine⟨_,_,g1.fresh (obj:=.row .own t (xs++ys)) hf g4 ⟨some ⟨w.heap.size,0,none⟩,(xs++ys).length,cap'⟩ e3 e2 ⟨by simp[putLoc],?_,?_⟩ (zCB _ _ rfl) hlike⟩
   · refine⟨by simp only[putLoc,if_true];omega,fun e=>by simp[putLoc] at e,fun a' ha _=>?_⟩;simp only[putLoc,if_true,Option.some.injEq] at ha;subst ha;refine⟨rfl,by rw[e2];exact Nat.lt_succ_self _,by simp[okO,putCol],fun _=>⟨cs,T',e4,?_⟩⟩;simp only[putLoc,if_true,Nat.zero_add];rw[← hs];exact e5
   · simp only[putLoc,if_true];exact hel _
theorem zC8 {ob:Objs}{t:Ty}{B:W}{vs:List (Nat×Mode)}{ys:List t.den}(h:B.sliceOf ob t=some (vs,ys)):Rows ob vs:=by
 unfold W.sliceOf at h
 split at h
 · simp only[Option.some.injEq,Prod.mk.injEq] at h;obtain⟨rfl,rfl⟩:=h;exact fun p hp=>by simp at hp
 · split at h
   · rename_i o _ m xs h1;simp only[Option.some.injEq,Prod.mk.injEq] at h;obtain⟨rfl,rfl⟩:=h;intro p hp;simp only[List.mem_singleton] at hp;subst hp;exact⟨t,_,zX h1⟩
   · simp at h
 · simp at h
theorem zM6 {ob:Objs}{o:Nat}{t:Ty}{m:Mode}{xs:List t.den}(h:ob o=some (.row m t xs)):rowAs ob o t=some (m,xs):=by simp[rowAs,h]
theorem zHO {ob:Objs}{t:Ty}{B:W}{vs:List (Nat×Mode)}{ys:List t.den}(h:B.sliceOf ob t=some (vs,ys)):
  B.sliceOf (ob.upds (demotes ob vs)) t=some (vs.map (fun p=>(p.1,.ro)),ys):=by
 have hr:=zC8 h;unfold W.sliceOf at h
 split at h
 · simp only[Option.some.injEq,Prod.mk.injEq] at h;obtain⟨rfl,rfl⟩:=h
   rfl
 · split at h
   · rename_i o _ m xs h1;simp only[Option.some.injEq,Prod.mk.injEq] at h;obtain⟨rfl,rfl⟩:=h;have:=zIu hr (o:=o) (m:=m) (by simp) (zX h1);simp only[W.sliceOf,zM6 this,List.map_cons,List.map_nil]
   · simp at h
 · simp at h
theorem zJG {ob ob':Objs}{t:Ty}{B:W}{vs:List (Nat×Mode)}{ys:List t.den}(h:B.sliceOf ob t=some (vs,ys)) (he:∀ p∈vs,ob' p.1=ob p.1):B.sliceOf ob' t=some (vs,ys):=by
 unfold W.sliceOf at h ⊢
 split at h
 · exact h
 · split at h
   · rename_i o _ m xs h1;simp only[Option.some.injEq,Prod.mk.injEq] at h;obtain⟨rfl,rfl⟩:=h;have:=he (o,m) (by simp);simp only at this;rw[zM6 (this.trans (zX h1))]
   · simp at h
 · simp at h
theorem zNE {col:Col}{Y:Nat→Prop}{m:Mode}{o b:Nat}(hm:m.mine=true) (h:okO col Y m o b):col b=some (o,0):=by
 cases m with
 | own=>exact h
 | sh=>exact h
 | ro=>simp[Mode.mine] at hm
theorem RO.ne {col:Col}{Y:Nat→Prop}{b b' o:Nat}(h:RO col Y b) (hb:col b'=some (o,0)):b≠b':=by
 rintro rfl;rcases h.1 with g | ⟨o',i,g⟩<;>rw[hb] at g<;>simp at g
theorem zHN (hE:EnvTy P E) (h:Inv w0 X Y0 fix s ρ col a w) {dst:Option Nat}(hf:apart dst.toList (fix.map (·.1))=true) {d:Nat}(hid:s.ob (idOf d)=none)
  {T ty:TypeId}{t:Ty}(ht:E.ty T=some (.slice t)) {A B:W}{us vs:List (Nat×Mode)}{xs ys:List t.den}
  (h1:A.sliceOf s.ob t=some (us,xs)) (h2:B.sliceOf s.ob t=some (vs,ys)) (hus:us.all (fun p=>p.2.mine)=true) (hdis:∀ p∈us,∀ q∈vs,q.1≠p.1) (hlim:xs.length+ys.length≤lim) {ok:Bool}{rd:List Nat}:
  Does P w0 X Y0 fix s dst ⟨ok,.w (.c (.sl (idOf d))),demotes s.ob vs++us.map (fun p=>(p.1,.dead)),[(idOf d,.row .sh t (xs++ys))],rd⟩ a
   (((do pure (.value (← Builtin.append_ #[T,T] ty #[wval ρ A,wval ρ B]))):Sem Next).run P w):=by
 obtain⟨_,e,hT,hte⟩:=hE T _ ht;obtain⟨i,hi,hz,hs,hb,hc1,_⟩:=hte.base;have hrv:=zC8 h2;have hru:=zC8 h1;obtain⟨colD,hD⟩:=h.demotes hrv;generalize hob:s.ob.upds (demotes s.ob vs)=obD at hD;have hA':A.sliceOf obD t=some (us,xs):=zJG h1 (fun p hp=>by rw[← hob];exact ja (fun q hq=>hdis p hp q hq));have hB':B.sliceOf obD t=some (vs.map (fun p=>(p.1,.ro)),ys):=by rw[← hob];exact zHO h2
 generalize vs.map (fun p=>(p.1,Mode.ro))=vs' at hB';have hidD:obD (idOf d)=none:=by
  rw[← hob,ja (fun q hq e=>?_),hid];obtain⟨t',xs',hq'⟩:=hrv q hq;rw[e,hid] at hq';simp at hq'
 obtain⟨addr,cap,m,ea,ra,la,ua⟩:=hD.slice hA';obtain⟨addr2,cap2,m2,eb,rb,lb,ub⟩:=hD.slice hB';obtain⟨olds,co,ko⟩:=Elems.cellsR (R:=TRep w false (RO colD (Yof w0 X Y0)) t) (fun i x zs hx hr=>by
  rcases ua with ⟨_,_,rfl,_⟩ | ⟨o,rfl,_⟩
  · simp at hx
  · exact zHt hD hr) la
 obtain⟨news,cn,kn⟩:=Elems.cellsR (R:=TRep w false (RO colD (Yof w0 X Y0)) t) (fun i x zs hx hr=>by
  rcases ub with ⟨_,_,rfl,_⟩ | ⟨o,e1,_⟩
  · simp at hx
  · subst e1;exact zHt hD hr) lb
 have hrow:∃ okk,RowW w true okk t.cells xs.length addr cap:=by
  rcases ua with ⟨rfl,_,rfl,rfl,rfl⟩ | ⟨o,rfl,_⟩
  · exact⟨fun _=>True,⟨Nat.le_refl _,fun _=>⟨rfl,fun _=>rfl⟩,fun a h=>by simp at h⟩⟩
  · simp only[List.all_cons,List.all_nil,Bool.and_true] at hus;exact⟨_,ra.mine hus⟩
 obtain⟨okk,hrow⟩:=hrow;have hzc:((wval (fun _=>⟨none,0,0⟩) t.zeroW).cells).size=i.size:=by
  rw[zR,hs];exact (jS (fun _=>⟨none,0,0⟩) hte w false (fun _=>True)).len
 rw[← hs] at hrow;have hln:news.length=ys.length*i.size:=by rw[hs];exact cn.1
 have hlo:olds.length=xs.length*i.size:=by rw[hs];exact co.1
 obtain⟨w',addr',cap',hr,hsz,hlike,hcells,hcap,hcase⟩:=jX (P:=P) (ty:=ty) hT hi hz hzc hb (by omega) hrow hlo ko hln kn
  (fun e=>by
   have:=(rb.2.1 e).1;rw[this] at hln;exact List.eq_nil_of_length_eq_zero (by simpa using hln))
  (fun ad e hne=>by
   refine (rb.2.2 ad e (.inl ?_)).1
   rcases Nat.eq_zero_or_pos ys.length with g | g
   · rw[g] at hln;exact absurd (List.eq_nil_of_length_eq_zero (by simpa using hln)) hne
   · exact g)
  (cn.one hc1 (fun _ _ h=>h.one)) hlim (cap2:=cap2)
 have hrun:((do pure (.value (← Builtin.append_ #[T,T] ty #[wval ρ A,wval ρ B])):Sem Next)).run P w=.ok (.value (.slice addr' (xs++ys).length cap')) w':=by
  rw[ea,eb];simp[hr]
 have hel:∀ col':Col,(∀ b,b<w.heap.size→RO colD (Yof w0 X Y0) b→RO col' (Yof w0 X Y0) b∧w'.heap[b]?=w.heap[b]?)→Elems w' false (fun _=>RO col' (Yof w0 X Y0)) t (xs++ys) addr':=
  fun col' hro=>(co.append cn).elems (fun x zs hx=>hx.frame (by simp) hsz hro) hcells
 have hlen:(xs++ys).length=xs.length+ys.length:=by simp
 have hk:∃ s1:St,Inv w0 X Y0 fix s1 ρ colD a w∧s1.tm=s.tm∧s1.ob.upd (idOf d) (.row .sh t (xs++ys))=s.ob.upds ((demotes s.ob vs++us.map (fun p=>(p.1,Obj.dead)))++[(idOf d,.row .sh t (xs++ys))])∧s1.ob (idOf d)=none ∧
   ∀ ad,addr=some ad→∃ o,s1.ob o=some .dead∧colD ad.block=some (o,0):=by
  rw[List.append_assoc,zAz,hob]
  rcases ua with ⟨rfl,_,rfl,rfl,rfl⟩ | ⟨o,rfl,_,ho,rfl,rfl⟩
  · exact⟨_,hD,rfl,rfl,hidD,fun ad e=>by simp at e⟩
  · simp only[List.all_cons,List.all_nil,Bool.and_true] at hus;have hno:obD o≠none:=by
     have ho':=zX ho;simp only at ho';rw[ho'];simp
    refine⟨_,hD.kill hno,rfl,rfl,?_,fun ad e=>⟨o,by simp[Objs.upd],?_⟩⟩
    · have:idOf d≠o:=by intro e;rw[e] at hidD;exact hno hidD
      simp[Objs.upd,this,hidD]
    · exact zNE hus ((ra.mine hus).2.2 ad e (.inr rfl)).2.2.1
 obtain⟨s1,g1,g2,g3,g4,g5⟩:=hk;refine⟨.slice addr' (xs++ys).length cap',w',.inl hrun,?_⟩;have hput:s.put dst ⟨ok,.w (.c (.sl (idOf d))),demotes s.ob vs++us.map (fun p=>(p.1,.dead)),[(idOf d,.row .sh t (xs++ys))],rd⟩=⟨setO s1.tm dst (.w (.c (.sl (idOf d)))),s1.ob.upd (idOf d) (.row .sh t (xs++ys))⟩:=by
  simp only[St.put,g2,g3]
 rw[hput]
 rcases hcase with ⟨rfl,rfl,e3,e4,e5⟩ | ⟨rfl,e2,e3,cs,T',e4,e5⟩
 · cases addr' with
   | none=>
    have:=e4 rfl;subst this
    refine⟨_,_,Does.over (obj:=.row .sh t (xs++ys)) g1 hf g4 ⟨none,(xs++ys).length,cap'⟩ ⟨by simp[putLoc],?_,?_⟩ (zCB _ _ rfl)⟩
    · have hx:=(hrow.2.1 rfl);have hc0:=hx.2 rfl;subst hc0;have:(xs++ys).length=0:=by omega
      refine⟨by simp only[putLoc,if_true];omega,fun _=>⟨this,fun _=>by simp[putLoc]⟩,fun a ha=>by simp[putLoc] at ha⟩
    · simp only[putLoc,if_true];exact hel _ (fun b _ hb=>⟨hb,rfl⟩)
   | some ad=>
    obtain⟨o,k1,k2⟩:=g5 ad rfl;obtain⟨f1,cs,T',f2,f3⟩:=e5 ad rfl;have hsp:=hrow.2.2 ad rfl (.inr rfl)
    refine⟨_,_,g1.take (obj:=.row .sh t (xs++ys)) hf k1 g4 ⟨some ad,(xs++ys).length,cap'⟩ (fun b hb hne=>f1 b (fun e=>hne 0 (by rw[e];exact k2))) e3 ⟨by simp[putLoc],?_,?_⟩ (zCB _ _ rfl) (fun b o' n hb=>f1 b (fun e=>by rw[e,k2] at hb;simp at hb)) hlike⟩
    · refine⟨by simp only[putLoc,if_true];omega,fun e=>by simp[putLoc] at e,fun a' ha _=>?_⟩;simp only[putLoc,if_true,Option.some.injEq] at ha;subst ha;refine⟨hsp.1,by rw[e3];exact hsp.2.1,zES k2,fun _=>⟨cs,T',f2,?_⟩⟩;simp only[putLoc,if_true];rw[← hs];exact f3
    · simp only[putLoc,if_true];exact hel _ (fun b _ hb=>⟨zIk hb,f1 b (hb.ne k2)⟩)
 · refine⟨_,_,g1.fresh (obj:=.row .sh t (xs++ys)) hf g4 ⟨some ⟨w.heap.size,0,none⟩,(xs++ys).length,cap'⟩ e3 e2 ⟨by simp[putLoc],?_,?_⟩ (zCB _ _ rfl) hlike⟩
   · refine⟨by simp only[putLoc,if_true];omega,fun e=>by simp[putLoc] at e,fun a' ha _=>?_⟩;simp only[putLoc,if_true,Option.some.injEq] at ha;subst ha;refine⟨rfl,by rw[e2];exact Nat.lt_succ_self _,by simp[okO,putCol],fun _=>⟨cs,T',e4,?_⟩⟩;simp only[putLoc,if_true,Nat.zero_add];rw[← hs];exact e5
   · simp only[putLoc,if_true];exact hel _ (fun b hb hr=>⟨⟨by simp only[putCol,if_neg (Nat.ne_of_lt hb)];exact hr.1,hr.2⟩,e3 b hb⟩)
end
end Go.Ev
namespace Go.Ev
section
variable {P:Program}{E:Env}{w0:World}{X Y0:Nat→Prop}{fix:List (Nat×Value)}
variable {s:St}{ρ:Locs}{col:Col}{a:Act}{w:World}
inductive BoundRel:Option Int→Option Value→Prop where
 | none:BoundRel none none
 | some (k:IntKind) (n:Int):BoundRel (some n) (some (.int k n))
theorem Inv.bound (h:Inv w0 X Y0 fix s ρ col a w) {x:Option Operand}{b:Option Int}(hb:bound (x.map s.eval)=some b):BoundRel b (x.map a.eval):=by
 cases x with
 | none=>
  simp only[Option.map_none,Ev.bound,Option.some.injEq] at hb;subst hb;exact .none
 | some x=>
  simp only[Option.map_some,Ev.bound] at hb
  split at hb
  · rename_i k n hn;simp only[Option.some.injEq] at hb;subst hb;simp only[Option.map_some,h.evalInt hn];exact .some k n
  · simp at hb
theorem zTd {T e:TypeId}{i:TypeInfo}(hT:P.underlying T=some (.slice e)) (hi:P.info? e=some i) {α:Type}{xs:List α}{addr:Option Addr}{cap:Nat}(hcap:xs.length≤cap)
  {lo hi':Option Int}{vl vh:Option Value}(hl:BoundRel lo vl) (hh:BoundRel hi' vh) (hok:cutOk xs.length lo hi'=true) (w:World):
  ∃ l h:Nat,l≤h∧h≤xs.length∧cutXs xs lo hi'=(xs.take h).drop l ∧
   (Instr.sliceAt T (.slice addr xs.length cap) vl vh none).run P w=.ok (.slice (if cap=l then addr else addr.map (·.add (l*i.size))) (h-l) (cap-l)) w:=by
 cases hl with
 | none=>
  cases hh with
  | none=>
   refine⟨0,xs.length,Nat.zero_le _,Nat.le_refl _,by simp[cutXs],?_⟩;simp[Instr.sliceAt,run_underlying hT,Instr.slice,Instr.sliceBounds,zN hi]
  | some k n=>
   simp only[cutOk,Bool.and_eq_true,decide_eq_true_eq] at hok;obtain⟨h1,h2⟩:=hok;refine⟨0,n.toNat,Nat.zero_le _,by omega,by simp[cutXs],?_⟩;have hb:=run_sliceBound (P:=P) w k n cap .sliceAcap h1 (by omega);simp[Instr.sliceAt,run_underlying hT,Instr.slice,Instr.sliceBounds,zN hi,hb]
 | some k n=>
  cases hh with
  | none=>
   simp only[cutOk,Bool.and_eq_true,decide_eq_true_eq] at hok;obtain⟨h1,h2⟩:=hok;refine⟨n.toNat,xs.length,by omega,Nat.le_refl _,by simp[cutXs],?_⟩;have hb:=run_sliceBound (P:=P) w k n xs.length .sliceB h1 h2;simp[Instr.sliceAt,run_underlying hT,Instr.slice,Instr.sliceBounds,zN hi,hb]
  | some k' n'=>
   simp only[cutOk,Bool.and_eq_true,decide_eq_true_eq] at hok;obtain⟨⟨h1,h2⟩,h3⟩:=hok;refine⟨n.toNat,n'.toNat,by omega,by omega,rfl,?_⟩;have hb:=run_sliceBound (P:=P) w k' n' cap .sliceAcap (by omega) (by omega);have hb2:=run_sliceBound (P:=P) w k n n'.toNat .sliceB h1 (by omega);simp[Instr.sliceAt,run_underlying hT,Instr.slice,Instr.sliceBounds,zN hi,hb,hb2]
def cutAddr (addr:Option Addr) (l cap es:Nat):Option Addr:=if cap=l then addr else addr.map (·.add (l*es))
theorem RowW.cut {own:Bool}{ok:Nat→Prop}{es len l h cap:Nat}{addr:Option Addr}(hr:RowW w own ok es len addr cap) (h1:l≤h) (h2:h≤len):
  RowW w own ok es (h-l) (cutAddr addr l cap es) (cap-l):=by
 have hc:=hr.1
 refine⟨by omega,fun e=>?_,fun a' ha hl=>?_⟩
 · have:addr=none:=by
    unfold cutAddr at e
    split at e
    · exact e
    · simpa using e
   obtain⟨k1,k2⟩:=hr.2.1 this;exact⟨by omega,fun o=>by have:=k2 o;omega⟩
 · cases addr with
   | none=>simp[cutAddr] at ha
   | some ad=>
    obtain⟨k1,k2,k3,k4⟩:=hr.2.2 ad rfl (hl.imp (fun _=>by omega) id);obtain⟨b,off,sp⟩:=ad;simp only at k1;subst k1;unfold cutAddr at ha
    split at ha
    · rename_i e;simp only[Option.some.injEq] at ha;subst ha;refine⟨rfl,k2,k3,fun o=>?_⟩;obtain⟨cs,T,g1,g2⟩:=k4 o;refine⟨cs,T,g1,?_⟩;have:(cap-l)*es≤cap*es:=Nat.mul_le_mul_right _ (by omega);simp only at g2 ⊢;omega
    · simp only[Option.map_some,zCP,Option.some.injEq] at ha;subst ha;refine⟨rfl,k2,k3,fun o=>?_⟩;obtain⟨cs,T,g1,g2⟩:=k4 o;refine⟨cs,T,g1,?_⟩;simp only at g2 ⊢;have:l*es+(cap-l)*es=cap*es:=by rw[← Nat.add_mul];congr 1;omega
      omega
theorem Elems.cut {own own':Bool}{okE okE':Nat→Nat→Prop}{t:Ty}{xs:List t.den}{addr:Option Addr}{l h cap:Nat}(hE:Elems w own okE t xs addr) (h1:l≤h) (h2:h≤xs.length) (hcap:xs.length≤cap)
  (hsp:∀ ad,addr=some ad→0<xs.length→ad.spot=none) (ht:∀ i x ys,xs[i]?=some x→TRep w own (okE i) t x ys→TRep w own' (okE' (i-l)) t x ys):
  Elems w own' okE' t ((xs.take h).drop l) (cutAddr addr l cap t.cells):=by
 intro i x hx;rw[List.getElem?_drop,List.getElem?_take] at hx
 split at hx
 · rename_i hlt;obtain⟨ys,g1,g2⟩:=hE _ x hx;have:=ht _ x ys hx g1;rw[Nat.add_sub_cancel_left] at this;refine⟨ys,this,fun j v hv=>?_⟩;have:=g2 j v hv
   cases addr with
   | none=>simp[cellAt] at this
   | some ad=>
    have hs:=hsp ad rfl (by omega);obtain⟨b,off,sp⟩:=ad;simp only at hs;subst hs;unfold cutAddr;rw[if_neg (by omega)];simp only[Option.map_some,zCP,cellAt,Option.bind_some] at this ⊢;rw[← this];congr 2;rw[Nat.add_mul];omega
 · simp at hx
theorem zLh (hE:EnvTy P E) (h:Inv w0 X Y0 fix s ρ col a w) {dst:Option Nat}(hf:apart dst.toList (fix.map (·.1))=true) {d:Nat}(hid:s.ob (idOf d)=none) {fd:FD}
  {T:TypeId}{t:Ty}(ht:E.ty T=some (.slice t)) {A:W}(hA:wfW s.ob ρ A) {lo hi:Option Int}{vl vh:Option Value}(hl:BoundRel lo vl) (hh:BoundRel hi vh) {e:Eff}
  (he:sliceE fd s d t A lo hi=some e) (hok:e.ok=true):
  Does P w0 X Y0 fix s dst e a (((do pure (.value (← Instr.sliceAt T (wval ρ A) vl vh none))):Sem Next).run P w):=by
 obtain⟨_,el,hT,hte⟩:=hE T _ ht;obtain⟨i,hi',hz,hs,hb,hc1,_⟩:=hte.base;unfold sliceE at he
 split at he
 · rename_i us xs h1;obtain⟨addr,cap,m,ea,ra,la,ua⟩:=h.slice h1;have hok':cutOk xs.length lo hi=true:=by
    split at he
    · split at he
      · simp only[Option.some.injEq] at he;subst he;exact hok
      · simp at he
    · simp only[Option.some.injEq] at he;subst he;exact hok
   obtain⟨l,hh',q1,q2,q3,q4⟩:=zTd (P:=P) hT hi' ra.1 (addr:=addr) hl hh hok' w;have hlen:((xs.take hh').drop l).length=hh'-l:=by simp;omega
   have hrun:((do pure (.value (← Instr.sliceAt T (wval ρ A) vl vh none))):Sem Next).run P w=.ok (.value (.slice (cutAddr addr l cap t.cells) ((xs.take hh').drop l).length (cap-l))) w:=by
    rw[ea,hlen];simp[q4,cutAddr,hs]
   have hspot:∀ ad,addr=some ad→0<xs.length→ad.spot=none:=fun ad e g=>(ra.2.2 ad e (.inl g)).1;rw[q3] at he;refine⟨_,w,.inl hrun,?_⟩
   split at he
   · rename_i hm
     split at he
     · rename_i hfl;simp only[Option.some.injEq] at he;subst he;have hel:∀ okE',Elems w true okE' t ((xs.take hh').drop l) (cutAddr addr l cap t.cells):=fun okE'=>la.cut q1 q2 ra.1 hspot (fun _ _ _ _ g=>g.flat hfl _ _ _)
       rcases ua with ⟨rfl,_,rfl,rfl,rfl⟩ | ⟨o,rfl,_,ho,rfl,rfl⟩
       · refine⟨_,_,Does.over (obj:=.row .own t ((List.take hh' ([]:List t.den)).drop l)) h hf hid ⟨none,0,0⟩ ⟨by simp[putLoc],?_,?_⟩ ?_⟩
         · refine⟨by simp[putLoc],fun _=>⟨by simp,fun _=>by simp[putLoc]⟩,fun a ha=>by simp[putLoc] at ha⟩
         · intro i x hx;simp at hx
         · have:=zCB s.ob ρ (id:=idOf d) (t:=t) (m:=.own) (xs:=(List.take hh' ([]:List t.den)).drop l) (L:=⟨none,0,0⟩) (by simp);simpa[cutAddr] using this
       · have hown:m=.own:=by
          by_cases e:m=.own
          · exact e
          · simp[e] at hm
         subst hown;have hno:s.ob o≠none:=by rw[zX ho];simp
         have hid1:(s.ob.upd o .dead) (idOf d)=none:=by
          have:idOf d≠o:=by intro e;rw[e] at hid;exact hno hid
          simp[Objs.upd,this,hid]
         have hR:=RowW.cut ra q1 q2;rw[← hlen] at hR
         by_cases hadd:(ρ o).addr=none
         · have hc0:=(ra.2.1 hadd).2 rfl;have hx0:=(ra.2.1 hadd).1
           refine⟨_,_,Does.over (obj:=.row .own t ((xs.take hh').drop l)) (h.kill hno) hf hid1 ⟨cutAddr (ρ o).addr l (ρ o).cap t.cells,((xs.take hh').drop l).length,(ρ o).cap-l⟩ ⟨by simp[putLoc],?_,?_⟩ (zCB _ _ rfl)⟩
           · simp only[putLoc,if_true];refine⟨hR.1,hR.2.1,fun a' ha _=>?_⟩;rw[hadd] at ha;simp[cutAddr] at ha
           · simp only[putLoc,if_true];exact hel _
         · obtain⟨ad,had⟩:=Option.ne_none_iff_exists'.1 hadd
           refine⟨_,_,(h.kill hno).take (o:=o) (obj:=.row .own t ((xs.take hh').drop l)) hf (by simp[Objs.upd]) hid1 ⟨cutAddr (ρ o).addr l (ρ o).cap t.cells,((xs.take hh').drop l).length,(ρ o).cap-l⟩ (fun _ _ _=>rfl) rfl ⟨by simp[putLoc],?_,?_⟩ (zCB _ _ rfl) (fun _ _ _ _=>rfl) (Like.refl w)⟩
           · simp only[putLoc,if_true];exact hR.frame id (Nat.le_refl _) (fun b _ hb=>⟨zES hb,rfl⟩)
           · simp only[putLoc,if_true];exact hel _
     · simp at he
   · simp only[Option.some.injEq] at he;subst he
     rcases ua with ⟨rfl,_,rfl,rfl,rfl⟩ | ⟨o,rfl,_,ho,rfl,rfl⟩
     · refine⟨_,_,Does.over (obj:=.row .ro t ((List.take hh' ([]:List t.den)).drop l)) h hf hid ⟨none,0,0⟩ ⟨by simp[putLoc],?_,?_⟩ ?_⟩
       · refine⟨by simp[putLoc],fun _=>⟨by simp,fun _=>by simp[putLoc]⟩,fun a ha=>by simp[putLoc] at ha⟩
       · intro i x hx;simp at hx
       · have:=zCB s.ob ρ (id:=idOf d) (t:=t) (m:=.ro) (xs:=(List.take hh' ([]:List t.den)).drop l) (L:=⟨none,0,0⟩) (by simp);simpa[cutAddr] using this
     · have hno:s.ob o≠none:=by rw[zX ho];simp
       have key:∃ ob1 col1,Inv w0 X Y0 fix ⟨s.tm,ob1⟩ ρ col1 a w∧ob1 o=some (.row .ro t xs)∧ob1 (idOf d)=none∧ob1.upd (idOf d) (.row .ro t ((xs.take hh').drop l))=s.ob.upds (demotes s.ob [(o,m)]++[(idOf d,.row .ro t ((xs.take hh').drop l))]):=by
        by_cases hmm:m.mine=true
        · refine⟨_,_,h.demoteRow (zX ho),by simp[Objs.upd],?_,?_⟩
          · have:idOf d≠o:=by intro e;rw[e] at hid;exact hno hid
            simp[Objs.upd,this,hid]
          · simp[demotes,hmm,demote,zX ho,Objs.upds]
        · have:m=.ro:=by cases m<;>simp_all [Mode.mine]
          subst this;exact⟨s.ob,col,h,zX ho,hid,by simp[demotes,Mode.mine,Objs.upds]⟩
       obtain⟨ob1,col1,g1,g2,g3,g4⟩:=key;obtain⟨k1,k2,k3⟩:=g1.obj g2
       have hput:s.put dst ⟨cutOk xs.length lo hi,.w (.c (.sl (idOf d))),demotes s.ob [(o,m)],[(idOf d,.row .ro t ((xs.take hh').drop l))],[(o,m)].map (·.1)⟩
         = ⟨setO s.tm dst (.w (.c (.sl (idOf d)))),ob1.upd (idOf d) (.row .ro t ((xs.take hh').drop l))⟩:=by
        simp only[St.put,g4]
       rw[hput];have hR:=RowW.cut k2 q1 q2;rw[← hlen] at hR
       refine⟨_,_,Does.over (obj:=.row .ro t ((xs.take hh').drop l)) g1 hf g3 ⟨cutAddr (ρ o).addr l (ρ o).cap t.cells,((xs.take hh').drop l).length,(ρ o).cap-l⟩ ⟨by simp[putLoc],?_,?_⟩ (zCB _ _ rfl)⟩
       · simp only[putLoc,if_true];exact hR
       · simp only[putLoc,if_true];exact k3.cut q1 q2 ra.1 hspot (fun _ _ _ _ g=>g)
 · simp at he
end
end Go.Ev
namespace Go.Ev
section
variable {P:Program}{E:Env}{w0:World}{X Y0:Nat→Prop}{fix:List (Nat×Value)}
variable {s:St}{ρ:Locs}{col:Col}{a:Act}{w:World}
def RoRow (w:World) (ok:Nat→Prop) (L:Loc):Obj→Prop
 | .row .ro u xs=>L.len=xs.length∧RowW w false ok u.cells xs.length L.addr L.cap∧Elems w false (fun _=>ok) u xs L.addr
 | _=>False
theorem RoRow.rel {o:Nat}{x:Obj}{L:Loc}{Y:Nat→Prop}{ob:Objs}{ρ:Locs}(h:RoRow w (RO col Y) L x) (hL:ρ o=L):ObjRel ob ρ col Y w o x:=by
 cases x with
 | row m u xs=>
  cases m with
  | ro=>subst hL;exact h
  | own=>exact h.elim
  | sh=>exact h.elim
 | _=>exact h.elim
theorem Inv.addRos:∀ (l:List (Nat×Obj)) {s:St}{ρ:Locs}(L:Nat→Loc),Inv w0 X Y0 fix s ρ col a w→(l.map (·.1)).Nodup→(∀ p∈l,s.ob p.1=none) →
  (∀ p∈l,RoRow w (RO col (Yof w0 X Y0)) (L p.1) p.2) →
  ∃ ρ',Inv w0 X Y0 fix ⟨s.tm,s.ob.upds l⟩ ρ' col a w∧Stays s.ob (s.ob.upds l) ρ ρ'∧(∀ p∈l,ρ' p.1=L p.1∧s.ob.upds l p.1≠none)
 | [],s,ρ,L,h,_,_,_=>⟨ρ,h,Stays.refl _ _,fun p hp=>by simp at hp⟩
 | (o,x)::r,s,ρ,L,h,hn,hf,hx=>by
  simp only[List.map_cons,List.nodup_cons] at hn;have hfo:s.ob o=none:=hf (o,x) (by simp);have hst:=zCA (ρ:=ρ) hfo x (L o);have h1:Inv w0 X Y0 fix ⟨s.tm,s.ob.upd o x⟩ (putLoc ρ o (L o)) col a w:=by
   have:=Does.over (obj:=x) (dst:=none) h (by simp[apart]) hfo (L o) ((hx (o,x) (by simp)).rel (by simp[putLoc])) (v:=.undef) (x:=Go.undef) (.inl rfl);simpa[setO,Act.put] using this
  have hne:∀ p∈r,p.1≠o:=fun p hp e=>hn.1 (by rw[← e];exact List.mem_map_of_mem hp)
  obtain⟨ρ',g1,g2,g3⟩:=Inv.addRos r L h1 hn.2 (fun p hp=>by simp[Objs.upd,hne p hp,hf p (by simp[hp])]) (fun p hp=>hx p (by simp[hp]))
  refine⟨ρ',g1,fun o' ho'=>?_,fun p hp=>?_⟩
  · obtain⟨k1,k2⟩:=hst o' ho';obtain⟨k3,k4⟩:=g2 o' k1;exact⟨k3,k4.trans k2⟩
  · rcases List.mem_cons.1 hp with rfl | hp
    · obtain⟨k3,k4⟩:=g2 o (by simp[Objs.upd]);exact⟨by rw[k4];simp[putLoc],k3⟩
    · exact g3 p hp
theorem kM (m:Mode):∀ (t:Ty) (x:t.den) (id:Nat),(unpackC m t x id).2.map (·.1)=List.range' id (unpackC m t x id).2.length
 | .int _,_,_=>rfl
 | .bool,_,_=>rfl
 | .arr _ _,_,_=>rfl
 | .barr _,_,_=>rfl
 | .slice _,_,_=>rfl
 | .pair p q,x,id=>by
  simp only[unpackC,List.map_append,List.length_append,kM m p,kM m q];rw[List.range'_append_1]
theorem zA1 {ok:Nat→Prop}:∀ {t:Ty}{x:t.den}{ys:List Value}(id:Nat),t.leafs=true→TRep w false ok t x ys →
  ∃ L:Nat→Loc,(∀ ρ':Locs,(∀ o,id≤o→o<id+(unpackC .ro t x id).2.length→ρ' o=L o)→ys=(unpackC .ro t x id).1.map (cval ρ')) ∧
   (∀ p∈(unpackC .ro t x id).2,RoRow w ok (L p.1) p.2) ∧
   (∀ c∈(unpackC .ro t x id).1,(∃ k n,c=.int k n)∨(∃ b,c=.bool b)∨∃ o,c=.sl o∧id≤o∧o<id+(unpackC .ro t x id).2.length)
 | .int k,x,ys,id,_,h=>by
  simp only[TRep] at h;exact⟨fun _=>⟨none,0,0⟩,fun _ _=>h,fun p hp=>by simp[unpackC] at hp,fun c hc=>by simp[unpackC] at hc;exact .inl ⟨_,_,hc⟩⟩
 | .bool,x,ys,id,_,h=>by
  simp only[TRep] at h;exact⟨fun _=>⟨none,0,0⟩,fun _ _=>h,fun p hp=>by simp[unpackC] at hp,fun c hc=>by simp[unpackC] at hc;exact .inr (.inl ⟨_,hc⟩)⟩
 | .arr _ _,_,_,_,hl,_=>by simp[Ty.leafs] at hl
 | .barr _,_,_,_,hl,_=>by simp[Ty.leafs] at hl
 | .slice u,xs,ys,id,_,h=>by
  simp only[TRep] at h;obtain⟨addr,cap,rfl,h1,h2⟩:=h
  refine⟨fun _=>⟨addr,xs.length,cap⟩,fun ρ' hρ=>?_,fun p hp=>?_,fun c hc=>?_⟩
  · simp only[unpackC,List.length_cons,List.length_nil] at hρ;simp only[unpackC,List.map_cons,List.map_nil,cval,hρ id (Nat.le_refl _) (by omega)]
  · simp only[unpackC,List.mem_singleton] at hp;subst hp;exact⟨rfl,h1,h2⟩
  · simp only[unpackC,List.mem_singleton] at hc;subst hc;exact .inr (.inr ⟨id,rfl,Nat.le_refl _,by simp[unpackC]⟩)
 | .pair p q,x,ys,id,hl,h=>by
  simp only[Ty.leafs,Bool.and_eq_true] at hl;simp only[TRep] at h;obtain⟨c1,c2,rfl,h1,h2⟩:=h;obtain⟨L1,f1,g1,k1⟩:=zA1 id hl.1 h1;obtain⟨L2,f2,g2,k2⟩:=zA1 (id+(unpackC .ro p x.1 id).2.length) hl.2 h2;have hid1:∀ r∈(unpackC .ro p x.1 id).2,id≤r.1∧r.1<id+(unpackC .ro p x.1 id).2.length:=fun r hr=>by
   have:=List.mem_map_of_mem (f:=(·.1)) hr;rw[kM,List.mem_range'_1] at this;exact this
  have hid2:∀ r∈(unpackC .ro q x.2 (id+(unpackC .ro p x.1 id).2.length)).2,id+(unpackC .ro p x.1 id).2.length≤r.1:=fun r hr=>by
   have:=List.mem_map_of_mem (f:=(·.1)) hr;rw[kM,List.mem_range'_1] at this;exact this.1
  simp only[unpackC,List.length_append]
  refine⟨fun o=>if o<id+(unpackC .ro p x.1 id).2.length then L1 o else L2 o,fun ρ' hρ=>?_,fun r hr=>?_,fun c hc=>?_⟩
  · rw[List.map_append,← f1 ρ' (fun o ho1 ho2=>(hρ o ho1 (by omega)).trans (if_pos ho2)),← f2 ρ' (fun o ho1 ho2=>(hρ o (by omega) (by omega)).trans (if_neg (by omega)))]
  · rcases List.mem_append.1 hr with hr | hr
    · have e:(if r.1<id+(unpackC .ro p x.1 id).2.length then L1 r.1 else L2 r.1)=L1 r.1:=if_pos (hid1 r hr).2;rw[show (fun o=>if o<id+(unpackC .ro p x.1 id).2.length then L1 o else L2 o) r.1=L1 r.1 from e];exact g1 r hr
    · have e:(if r.1<id+(unpackC .ro p x.1 id).2.length then L1 r.1 else L2 r.1)=L2 r.1:=if_neg (by have:=hid2 r hr;omega);rw[show (fun o=>if o<id+(unpackC .ro p x.1 id).2.length then L1 o else L2 o) r.1=L2 r.1 from e];exact g2 r hr
  · rcases List.mem_append.1 hc with hc | hc
    · rcases k1 c hc with e | e | ⟨o,e1,e2,e3⟩
      · exact .inl e
      · exact .inr (.inl e)
      · exact .inr (.inr ⟨o,e1,e2,by omega⟩)
    · rcases k2 c hc with e | e | ⟨o,e1,e2,e3⟩
      · exact .inl e
      · exact .inr (.inl e)
      · exact .inr (.inr ⟨o,e1,by omega,by omega⟩)
theorem zt (m:Mode) (t:Ty) (x:t.den) (id:Nat):(unpackW m t x id).2=(unpackC m t x id).2:=by
 cases t<;>rfl
theorem zEB {ok:Nat→Prop}{t:Ty}{T:TypeId}(hT:TyOK P t T) {x:t.den}{ys:List Value}(id:Nat) (h:TRep w false ok t x ys):
  ∃ L:Nat→Loc,(∀ (ob:Objs) (ρ':Locs),(∀ o,id≤o→o<id+(unpackC .ro t x id).2.length→ρ' o=L o∧ob o≠none)→ys=wcells ρ' (unpackW .ro t x id).1∧wfW ob ρ' (unpackW .ro t x id).1 ∧
    (t.scalar=true→∃ v,ys=[v]∧wval ρ' (unpackW .ro t x id).1=v)∧(t.scalar=false→wval ρ' (unpackW .ro t x id).1=.agg ys.toArray)) ∧
   (∀ p∈(unpackC .ro t x id).2,RoRow w ok (L p.1) p.2):=by
 cases t with
 | int k=>
  simp only[TRep] at h;subst h;exact⟨fun _=>⟨none,0,0⟩,fun _ _ _=>⟨rfl,trivial,fun _=>⟨_,rfl,rfl⟩,fun h=>by simp[Ty.scalar] at h⟩,fun p hp=>by simp[unpackC] at hp⟩
 | bool=>
  simp only[TRep] at h;subst h;exact⟨fun _=>⟨none,0,0⟩,fun _ _ _=>⟨rfl,trivial,fun _=>⟨_,rfl,rfl⟩,fun h=>by simp[Ty.scalar] at h⟩,fun p hp=>by simp[unpackC] at hp⟩
 | arr k m=>
  simp only[TRep] at h;obtain⟨hl,rfl⟩:=h;exact⟨fun _=>⟨none,0,0⟩,fun _ _ _=>⟨rfl,hl,fun h=>by simp[Ty.scalar] at h,fun _=>rfl⟩,fun p hp=>by simp[unpackC] at hp⟩
 | barr m=>
  simp only[TRep] at h;obtain⟨hl,rfl⟩:=h;exact⟨fun _=>⟨none,0,0⟩,fun _ _ _=>⟨rfl,hl,fun h=>by simp[Ty.scalar] at h,fun _=>rfl⟩,fun p hp=>by simp[unpackC] at hp⟩
 | slice u=>
  obtain⟨L,f,g,k⟩:=zA1 id (by rfl) h;refine⟨L,fun ob ρ' hρ=>?_,g⟩;have e:=f ρ' (fun o h1 h2=>(hρ o h1 h2).1);simp only[unpackC,List.map_cons,List.map_nil] at e;refine⟨e,(hρ id (Nat.le_refl _) (by simp[unpackC])).2,fun _=>⟨_,e,rfl⟩,fun h=>by simp[Ty.scalar] at h⟩
 | pair p q=>
  obtain⟨L,f,g,k⟩:=zA1 id hT.2.1 h;refine⟨L,fun ob ρ' hρ=>?_,g⟩;have e:=f ρ' (fun o h1 h2=>(hρ o h1 h2).1);refine⟨e,fun c hc=>?_,fun h=>by simp[Ty.scalar] at h,fun _=>by simp only[unpackW,wval,wcells,← e]⟩
  rcases k c hc with ⟨_,_,rfl⟩ | ⟨_,rfl⟩ | ⟨o,rfl,h1,h2⟩
  · trivial
  · trivial
  · exact (hρ o h1 h2).2
theorem Does.loadRo (h:Inv w0 X Y0 fix s ρ col a w) {dst:Option Nat}(hf:apart dst.toList (fix.map (·.1))=true) {l:List (Nat×Obj)}(L:Nat→Loc) (hn:(l.map (·.1)).Nodup) (hfr:∀ p∈l,s.ob p.1=none)
  (hro:∀ p∈l,RoRow w (RO col (Yof w0 X Y0)) (L p.1) p.2) {ok:Bool}{v:V}{rd:List Nat}{x:Value}
  (hv:∀ ob' ρ',Stays s.ob ob' ρ ρ'→(∀ p∈l,ρ' p.1=L p.1∧ob' p.1≠none)→VRel ob' ρ' v x) {r:Result Next}(hr:r=.ok (.value x) w):
  Does P w0 X Y0 fix s dst ⟨ok,v,[],l,rd⟩ a r:=by
 obtain⟨ρ',g1,g2,g3⟩:=Inv.addRos l L h hn hfr hro;refine⟨x,w,.inl hr,ρ',col,?_⟩;have:=g1.slot (dst:=dst) hf (hv _ _ g2 g3);simpa[St.put] using this
end
end Go.Ev
namespace Go.Ev
section
variable {P:Program}{E:Env}{w0:World}{X Y0:Nat→Prop}{fix:List (Nat×Value)}
variable {s:St}{ρ:Locs}{col:Col}{a:Act}{w:World}
theorem zEE {T:TypeId}{i:TypeInfo}(hi:P.info? T=some i) {b off:Nat}{val:Value}{vs:List Value}(hval:val.cells=vs.toArray) (hs:i.size=vs.length) {cur:Array Value}{T':TypeId}
  (hb:w.heap[b]?=some (.cells cur T' (0,0))) (hfit:off+vs.length≤cur.size) (h1:∀ v∈vs,v.oneCell'=true):
  (do Instr.storeAt T (.pointer (some ⟨b,off,none⟩)) val;pure Next.skip:Sem Next).run P w=.ok Next.skip (w.setRow b (cur.toList.take off++vs++cur.toList.drop (off+vs.length)).toArray):=by
 have hst:=run_storeCells_at P b off T' vs 0 cur w hb (by simpa using hfit) h1;simp only[Nat.add_zero] at hst;simp[Instr.storeAt,Instr.sureAddr,storeVar,zN hi,hs,hval,hst]
theorem Does.writeBox (h:Inv w0 X Y0 fix s ρ col a w) {dst:Option Nat}(hf:apart dst.toList (fix.map (·.1))=true) {o i es j:Nat}{x x':W}(hw:wfC s.ob ρ (.ptr o i es j)) (hb:s.ob o=some (.box .own x)) (hes:es=0)
  (vs:List Value) (hx':wfW s.ob ρ x') (hc:wcells ρ x'=(wcells ρ x).take j++vs++(wcells ρ x).drop (j+vs.length)) (hfit:j+vs.length≤(wcells ρ x).length) (h1:∀ v∈vs,v.oneCell'=true)
  {val:Value}(hval:val.cells=vs.toArray) {T:TypeId}{ti:TypeInfo}(hi:P.info? T=some ti) (hs:ti.size=vs.length) {rd:List Nat}:
  Does P w0 X Y0 fix s dst ⟨true,.undef,[(o,.box .own x')],[],rd⟩ a ((do Instr.storeAt T (cval ρ (.ptr o i es j)) val;pure Next.skip:Sem Next).run P w):=by
 subst hes;obtain⟨b,k1,k2,k3,k4,k5,k6,k7⟩:=h.box hb;obtain⟨cs,T',g1,g2⟩:=k7 rfl;obtain⟨q1,_,q3⟩:=hw;simp only[if_true] at q3;obtain⟨rfl,q3⟩:=q3;have hcs:cs.toList=wcells ρ x:=by
  apply List.ext_getElem?;intro n
  by_cases hn:n<(wcells ρ x).length
  · have:=k5 n _ (List.getElem?_eq_getElem hn);simp only[World.cell?,g1] at this;rw[List.getElem?_eq_getElem hn,← this];simp
  · have hsz:cs.toList.length=(wcells ρ x).length:=by rw[Array.length_toList,g2,k4]
    rw[List.getElem?_eq_none (by omega),List.getElem?_eq_none (by omega)]
 have hptr:cval ρ (.ptr o 0 0 j)=.pointer (some ⟨b,j,none⟩):=by simp[cval,zBK k1]
 have hr:=zEE (P:=P) hi hval hs g1 (off:=j) (by rw[g2,k4];exact hfit) h1;rw[hcs,← hc] at hr;have hsr:=setRow_heap w b cs (wcells ρ x').toArray T' _ g1;have hst:=zHK (ρ:=ρ) (x:=.box .own x') q1;refine⟨Go.undef,w.setRow b (wcells ρ x').toArray,.inr ⟨by rw[hptr];exact hr,rfl⟩,ρ,col,?_⟩;have hlen:(wcells ρ x').length=(ρ o).len:=by rw[hc,k4];simp;omega
 have:=h.write (dst:=dst) (o:=o) (b:=b) (obj:=.box .own x') hf q1 k6 (w':=w.setRow b (wcells ρ x').toArray) (fun k hk=>setRow_other w b k _ hk) (by simp)
  (v:=.undef) (x:=Go.undef) ⟨b,k1,by simpa using k2,hst.wfW hx',hlen.symm,fun n v hv=>by simpa[World.cell?,hsr] using hv,k6,fun _=>⟨_,T',hsr,by simp[hlen]⟩⟩ (.inl rfl) (by first | exact⟨rfl,rfl,rfl,Nat.le_refl _⟩ | exact⟨rfl,rfl,rfl,Nat.le_add_right _ _⟩)
 simpa[St.put,Objs.upds] using this
theorem CellsOf.set {t:Ty}{xs:List t.den}{cs:List Value}(h:CellsOf t xs cs) {i:Nat}(hi:i<xs.length) {x:t.den}{ys:List Value}(hy:AnyRep t x ys):
  CellsOf t (xs.set i x) (cs.take (i*t.cells)++ys++cs.drop (i*t.cells+ys.length)):=by
 have hl:ys.length=t.cells:=(hy default false (fun _=>True)).len;have hle:i*t.cells+t.cells≤cs.length:=by
  rw[h.1];have:(i+1)*t.cells≤xs.length*t.cells:=Nat.mul_le_mul_right _ hi;rw[Nat.add_mul] at this;omega
 refine⟨?_,fun n z hz=>?_⟩
 · rw[List.length_set,← h.1];simp[hl];omega
 · by_cases hn:n=i
   · subst hn;rw[List.getElem?_set_self hi] at hz;simp only[Option.some.injEq] at hz;subst hz;rw[List.append_assoc,List.drop_left' (by simp;omega),List.take_left' hl];exact hy
   · rw[List.getElem?_set_ne (Ne.symm hn)] at hz;have hnl:=(List.getElem?_eq_some_iff.1 hz).1;have:=h.2 n z hz
     rcases Nat.lt_or_gt_of_ne hn with hlt | hgt
     · have hle2:n*t.cells+t.cells≤i*t.cells:=by
        have:(n+1)*t.cells≤i*t.cells:=Nat.mul_le_mul_right _ hlt;rw[Nat.add_mul] at this;omega
       rw[List.append_assoc,List.drop_append_of_le_length (by simp;omega),List.take_append_of_le_length (by simp;omega),List.drop_take,List.take_take,Nat.min_eq_left (by omega)];exact this
     · have hge:i*t.cells+t.cells≤n*t.cells:=by
        have:(i+1)*t.cells≤n*t.cells:=Nat.mul_le_mul_right _ hgt;rw[Nat.add_mul] at this;omega
       have e:n*t.cells=(cs.take (i*t.cells)++ys).length+(n*t.cells-(i*t.cells+t.cells)):=by simp[hl];omega
       rw[e,List.drop_append,List.drop_of_length_le (by omega),List.nil_append,Nat.add_sub_cancel_left,List.drop_drop,hl,show i*t.cells+t.cells+(n*t.cells-(i*t.cells+t.cells))=n*t.cells by omega];exact this
theorem Does.writeRow (h:Inv w0 X Y0 fix s ρ col a w) {dst:Option Nat}(hf:apart dst.toList (fix.map (·.1))=true) {o i es j:Nat}{t:Ty}{xs xs':List t.den}(hfl:t.flat=true) (hw:wfC s.ob ρ (.ptr o i es j))
  (hb:s.ob o=some (.row .own t xs)) (hes:es=t.cells) (hpos:1≤t.cells) (vs:List Value)
  (hc:∀ cs,CellsOf t xs cs→CellsOf t xs' (cs.take (i*t.cells+j)++vs++cs.drop (i*t.cells+j+vs.length))) (hlen:xs'.length=xs.length) (hfit:j+vs.length≤t.cells) (h1:∀ v∈vs,v.oneCell'=true)
  {val:Value}(hval:val.cells=vs.toArray) {T:TypeId}{ti:TypeInfo}(hi:P.info? T=some ti) (hs:ti.size=vs.length) {rd:List Nat}:
  Does P w0 X Y0 fix s dst ⟨true,.undef,[(o,.row .own t xs')],[],rd⟩ a ((do Instr.storeAt T (cval ρ (.ptr o i es j)) val;pure Next.skip:Sem Next).run P w):=by
 subst hes;obtain⟨k1,k2,k3⟩:=h.obj hb;obtain⟨q1,⟨b,off,q2⟩,q3⟩:=hw;rw[if_neg (by omega)] at q3;obtain⟨q3,q4⟩:=q3;obtain⟨cs,co,ko⟩:=k3.cells hfl;obtain⟨_,m2,m3,m4⟩:=k2.2.2 _ q2 (.inr rfl);obtain⟨cur,T',g1,g2⟩:=m4 rfl;simp only at m2 m3 g1 g2;have hil:i*t.cells+t.cells≤xs.length*t.cells:=by
  have:(i+1)*t.cells≤xs.length*t.cells:=Nat.mul_le_mul_right _ (by omega);rw[Nat.add_mul] at this;omega
 have hcap:xs.length*t.cells≤(ρ o).cap*t.cells:=Nat.mul_le_mul_right _ k2.1;have hptr:cval ρ (.ptr o i t.cells j)=.pointer (some ⟨b,off+(i*t.cells+j),none⟩):=by simp[cval,zBK q2]
 have hr:=zEE (P:=P) hi hval hs g1 (off:=off+(i*t.cells+j)) (by omega) h1;have hsr:=setRow_heap w b cur (cur.toList.take (off+(i*t.cells+j))++vs++cur.toList.drop (off+(i*t.cells+j)+vs.length)).toArray T' _ g1;have hcur:∀ n v,cs[n]?=some v→cur.toList[off+n]?=some v:=by
  intro n v hv;have:=ko n v hv;rw[q2] at this;simp only[cellAt,Option.bind_some,World.cell?,g1] at this;simpa using this
 refine⟨Go.undef,_,.inr ⟨by rw[hptr];exact hr,rfl⟩,ρ,col,?_⟩
 have hcells:∀ n v,(cs.take (i*t.cells+j)++vs++cs.drop (i*t.cells+j+vs.length))[n]?=some v →
   cellAt (w.setRow b (cur.toList.take (off+(i*t.cells+j))++vs++cur.toList.drop (off+(i*t.cells+j)+vs.length)).toArray) (ρ o).addr n=some v:=by
  intro n v hv;have hcl:cs.length=xs.length*t.cells:=co.1;rw[q2];simp only[cellAt,Option.bind_some,World.cell?,hsr,Option.isSome_none,Bool.false_eq_true,if_false,List.getElem?_toArray];rw[List.append_assoc,List.getElem?_append] at hv ⊢;simp only[List.length_take,Array.length_toList] at hv ⊢
  by_cases hn:n<i*t.cells+j
  · rw[if_pos (by omega)] at hv;rw[if_pos (by omega),List.getElem?_take,if_pos (by omega)];rw[List.getElem?_take,if_pos hn] at hv;exact hcur n v hv
  · rw[if_neg (by omega)] at hv;rw[if_neg (by omega)];have e1:n-min (i*t.cells+j) cs.length=n-(i*t.cells+j):=by omega
    have e2:off+n-min (off+(i*t.cells+j)) cur.size=n-(i*t.cells+j):=by omega
    rw[e1,List.getElem?_append] at hv;rw[e2,List.getElem?_append]
    by_cases hn2:n-(i*t.cells+j)<vs.length
    · rw[if_pos hn2] at hv ⊢;exact hv
    · rw[if_neg hn2,List.getElem?_drop] at hv ⊢;have e3:off+(i*t.cells+j)+vs.length+(n-(i*t.cells+j)-vs.length)=off+n:=by omega
      have e4:i*t.cells+j+vs.length+(n-(i*t.cells+j)-vs.length)=n:=by omega
      rw[e4] at hv;rw[e3];exact hcur n v hv
 have:=h.write (dst:=dst) (o:=o) (b:=b) (obj:=.row .own t xs') hf q1 m3 (fun k hk=>setRow_other w b k _ hk) (by simp)
  (v:=.undef) (x:=Go.undef) ⟨by rw[hlen];exact k1,⟨by rw[hlen];exact k2.1,fun e=>by rw[hlen];exact k2.2.1 e,fun ad had _=>by
   rw[q2] at had;simp only[Option.some.injEq] at had;subst had;exact⟨rfl,by simpa using m2,m3,fun _=>⟨_,T',hsr,by simp only[List.size_toArray,List.length_append,List.length_take,List.length_drop,Array.length_toList];omega⟩⟩⟩,(hc cs co).elems hcells⟩ (.inl rfl) (by first | exact⟨rfl,rfl,rfl,Nat.le_refl _⟩ | exact⟨rfl,rfl,rfl,Nat.le_add_right _ _⟩)
 simpa[St.put,Objs.upds] using this
theorem zIs (h:Inv w0 X Y0 fix s ρ col a w) {t:Ty}(hfl:t.flat=true):∀ {parts:List (Nat×Operand)}{n:Nat}{xs:List t.den}{us:List (Nat×Mode)},elemsE s.ob t n (parts.map fun p=>(p.1,s.eval p.2))=some (xs,us) →
  us=[]∧∃ vss:List (List Value),vss.length=parts.length∧xs.length=parts.length∧(∀ (k:Nat) (x:t.den) (vs:List Value),xs[k]?=some x→vss[k]?=some vs→AnyRep t x vs) ∧
   (∀ (k:Nat) (p:Nat×Value) (vs:List Value),(parts.map fun p=>(p.1,a.eval p.2))[k]?=some p→vss[k]?=some vs→p.1=n+k∧p.2.cells=vs.toArray)
 | [],n,xs,us,he=>by
  simp only[List.map_nil,elemsE,Option.some.injEq,Prod.mk.injEq] at he;obtain⟨rfl,rfl⟩:=he;exact⟨rfl,[],rfl,rfl,fun k x vs h=>by simp at h,fun k p vs h=>by simp at h⟩
 | (i,x)::rest,n,xs,us,he=>by
  simp only[List.map_cons,elemsE] at he
  split at he
  · rename_i hin;subst hin
    split at he
    · rename_i u hu
      split at he
      · rename_i x1 us1 xs1 us2 h1 h2;simp only[Option.some.injEq,Prod.mk.injEq] at he;obtain⟨rfl,rfl⟩:=he;obtain⟨g1,g2⟩:=h.evalW hu;obtain⟨rfl,g3⟩:=zKO (ρ:=ρ) hfl g1 h1;obtain⟨rfl,vss,k1,k2,k3,k4⟩:=zIs h hfl h2
        refine⟨rfl,wcells ρ u::vss,by simp[k1],by simp[k2],fun k y vs hy hv=>?_,fun k p vs hp hv=>?_⟩
        · cases k with
          | zero=>
           simp only[List.getElem?_cons_zero,Option.some.injEq] at hy hv;subst hy;subst hv;exact g3
          | succ k=>exact k3 k y vs (by simpa using hy) (by simpa using hv)
        · cases k with
          | zero=>
           simp only[List.map_cons,List.getElem?_cons_zero,Option.some.injEq] at hp hv;subst hp;subst hv;exact⟨rfl,by rw[g2,zR]⟩
          | succ k=>
           obtain⟨e1,e2⟩:=k4 k p vs (by simpa using hp) (by simpa using hv);exact⟨by omega,e2⟩
      · simp at he
    · simp at he
  · simp at he
theorem zEU (es:Nat):∀ (vss:List (List Value)) (i j:Nat) (vs:List Value),(∀ v∈vss,v.length=es)→vss[i]?=some vs→j<es→vss.flatten[i*es+j]?=vs[j]?
 | [],i,j,vs,_,h,_=>by simp at h
 | v::vss,0,j,vs,he,h,hj=>by
  simp only[List.getElem?_cons_zero,Option.some.injEq] at h;subst h;have:=he v (by simp);simp only[Nat.zero_mul,Nat.zero_add,List.flatten_cons];rw[List.getElem?_append_left (by omega)]
 | v::vss,i+1,j,vs,he,h,hj=>by
  have hl:=he v (by simp);have ih:=zEU es vss i j vs (fun x hx=>he x (by simp[hx])) (by simpa using h) hj;simp only[List.flatten_cons];rw[List.getElem?_append_right (by rw[Nat.add_mul];omega),← ih];congr 1;rw[Nat.add_mul];omega
theorem zGl (hE:EnvTy P E) (h:Inv w0 X Y0 fix s ρ col a w) {dst:Option Nat}(hf:apart dst.toList (fix.map (·.1))=true) {d:Nat}(hid:s.ob (idOf d)=none)
  {T:TypeId}{t:Ty}(ht:E.ty T=some (.slice t)) (hfl:t.flat=true) {parts:Array (Nat×Operand)}{len:Nat}{xs:List t.den}{us:List (Nat×Mode)}
  (he:elemsE s.ob t 0 (parts.toList.map fun p=>(p.1,s.eval p.2))=some (xs,us)) (hlen:parts.size=len) (h64:len≤64) {ok:Bool}{rd:List Nat}:
  Does P w0 X Y0 fix s dst ⟨ok,.w (.c (.sl (idOf d))),[],[(idOf d,.row .own t xs)],rd⟩ a
   ((do pure (.value (← Instr.buildSlice T len (parts.map fun p=>(p.1,a.eval p.2)))):Sem Next).run P w):=by
 obtain⟨_,e,hT,hte⟩:=hE T _ ht;obtain⟨i,hi,hz,hs,hb,hc1,hc2⟩:=hte.base;obtain⟨rfl,vss,k1,k2,k3,k4⟩:=zIs h hfl he;have hvl:∀ vs∈vss,vs.length=t.cells:=by
  intro vs hvs;obtain⟨k,hk,rfl⟩:=List.mem_iff_getElem.1 hvs;have hkx:k<xs.length:=by omega
  exact (k3 k _ _ (List.getElem?_eq_getElem hkx) (List.getElem?_eq_getElem hk) w false (fun _=>True)).len
 have hpl:parts.toList.length=len:=by simpa using hlen
 have hvlen:vss.length=len:=by omega
 have hfill:∀ init:List Value,init.length=len*t.cells→Instr.fill (fun i=>some (i*t.cells,t.cells)) init.toArray (parts.toList.map fun p=>(p.1,a.eval p.2))=some vss.flatten.toArray:=by
  intro init hinit;have:=zCI t.cells vss (parts.toList.map fun p=>(p.1,a.eval p.2)) 0 init hvl (by simp;omega) (fun k p vs hp hv=>k4 k p vs hp hv) (by rw[Nat.zero_add,hvlen,hinit];exact Nat.le_refl _);rw[this];simp only[Nat.zero_mul,List.take_zero,List.nil_append,Nat.zero_add,hvlen];rw[List.drop_of_length_le (by omega),List.append_nil]
 have hbig:¬ (16777216<len*t.cells):=by
  have:len*t.cells≤64*65536:=Nat.mul_le_mul h64 hc2;omega
 have hxl:xs.length=len:=by omega
 have hr:(do pure (.value (← Instr.buildSlice T len (parts.map fun p=>(p.1,a.eval p.2)))):Sem Next).run P w=.ok (.value (.slice (some ⟨w.heap.size,0,none⟩) xs.length xs.length)) (w.alloc (.cells vss.flatten.toArray e)):=by
  rw[hxl]
  by_cases h0:len*t.cells=0
  · have hl0:len=0:=by
     rcases Nat.mul_eq_zero.1 h0 with g | g
     · exact g
     · omega
    have hp0:parts.toList=[]:=List.eq_nil_of_length_eq_zero (by omega);have hp1:parts=#[]:=by apply Array.toList_inj.1;simpa using hp0
    have hv0:vss=[]:=List.eq_nil_of_length_eq_zero (by omega);simp[Instr.buildSlice,run_underlying hT,zN hi,hs,hl0,hp1,hv0,Instr.fill,newRow,Array.range_zero']
  · have hf0:=hfill ((Array.range (len*t.cells)).map (fun x=>((wval (fun _=>⟨none,0,0⟩) t.zeroW).cells)[x % ((wval (fun _=>⟨none,0,0⟩) t.zeroW).cells).size]!)).toList (by simp);simp only[Array.toArray_toList] at hf0;simp[Instr.buildSlice,run_underlying hT,zN hi,hs,hbig,h0,kI hi hz,hf0,newRow]
 refine Does.newRow h hf hid xs vss.flatten e ?_ (fun k x hx=>?_) hr
 · have:vss.flatten.length=vss.length*t.cells:=by
    have:∀ (l:List (List Value)),(∀ v∈l,v.length=t.cells)→l.flatten.length=l.length*t.cells:=by
     intro l
     induction l with
     | nil=>intro _;simp
     | cons v l ih=>
      intro hl;rw[List.flatten_cons,List.length_append,hl v (by simp),ih (fun u hu=>hl u (by simp[hu])),List.length_cons,Nat.add_mul];omega
    exact this vss hvl
   rw[this];congr 1;omega
 · have hk:k<xs.length:=(List.getElem?_eq_some_iff.1 hx).1;have hkv:vss[k]?=some vss[k]:=List.getElem?_eq_getElem (by omega);refine⟨vss[k],k3 k x _ hx hkv,fun j v hv=>?_⟩;have hj:j<t.cells:=by
    have:=(List.getElem?_eq_some_iff.1 hv).1;rwa [hvl _ (List.getElem_mem _)] at this
   rw[zEU t.cells vss k j _ hvl hkv hj];exact hv
theorem Does.writeRowSh (h:Inv w0 X Y0 fix s ρ col a w) {dst:Option Nat}(hf:apart dst.toList (fix.map (·.1))=true) {o i es:Nat}{m:Mode}{t:Ty}{xs:List t.den}(hm:m.mine=true) (hw:wfC s.ob ρ (.ptr o i es 0))
  (hb:s.ob o=some (.row m t xs)) (hes:es=t.cells) (hpos:1≤t.cells) {v:W}(hv:wfW s.ob ρ v) {x:t.den}{us:List (Nat×Mode)}(hp:packW s.ob t v=some (x,us)) (hdis:∀ p∈us,p.1≠o)
  {T:TypeId}{ti:TypeInfo}(hi:P.info? T=some ti) (hs:ti.size=t.cells) {rd:List Nat}:
  Does P w0 X Y0 fix s dst ⟨true,.undef,demotes s.ob us++[(o,.row .sh t (xs.set i x))],[],rd⟩ a ((do Instr.storeAt T (cval ρ (.ptr o i es 0)) (wval ρ v);pure Next.skip:Sem Next).run P w):=by
 subst hes;have hrows:=zIf hp;obtain⟨colD,hD⟩:=h.demotes hrows;have hst0:Stays s.ob (s.ob.upds (demotes s.ob us)) ρ ρ:=zIX;have hrep:=zGU (s:=⟨s.tm,s.ob.upds (demotes s.ob us)⟩) hD (hst0.wfW hv) hp rfl hrows (fun p hp=>hp);have hbD:s.ob.upds (demotes s.ob us) o=some (.row m t xs):=(ja hdis).trans hb;obtain⟨k1,k2,k3⟩:=hD.obj hbD;obtain⟨q1,⟨b,off,q2⟩,q3⟩:=hw;rw[if_neg (by omega)] at q3;obtain⟨q3,q4⟩:=q3;obtain⟨cs,co,ko⟩:=Elems.cellsR (R:=TRep w false (RO colD (Yof w0 X Y0)) t) (fun i x zs _ hr=>zHt hD hr) k3;rw[hm] at k2;obtain⟨_,m2,m3,m4⟩:=k2.2.2 _ q2 (.inr rfl);obtain⟨cur,T',g1,g2⟩:=m4 rfl;simp only at m2 m3 g1 g2;have m3':=zNE hm m3;have hvl:(wcells ρ v).length=t.cells:=hrep.len;have hil:i*t.cells+t.cells≤xs.length*t.cells:=by
  have:(i+1)*t.cells≤xs.length*t.cells:=Nat.mul_le_mul_right _ (by omega);rw[Nat.add_mul] at this;omega
 have hcap:xs.length*t.cells≤(ρ o).cap*t.cells:=Nat.mul_le_mul_right _ k2.1;have hptr:cval ρ (.ptr o i t.cells 0)=.pointer (some ⟨b,off+(i*t.cells),none⟩):=by simp[cval,zBK q2]
 have hr:=zEE (P:=P) hi (zR ρ v) (by rw[hs,hvl]) g1 (off:=off+(i*t.cells)) (by omega) hrep.one;have hsr:=setRow_heap w b cur (cur.toList.take (off+(i*t.cells))++wcells ρ v++cur.toList.drop (off+(i*t.cells)+(wcells ρ v).length)).toArray T' _ g1;have hcur:∀ n v,cs[n]?=some v→cur.toList[off+n]?=some v:=by
  intro n v hv;have:=ko n v hv;rw[q2] at this;simp only[cellAt,Option.bind_some,World.cell?,g1] at this;simpa using this
 refine⟨Go.undef,_,.inr ⟨by rw[hptr];exact hr,rfl⟩,ρ,colD,?_⟩;have hother:∀ k,k≠b→(w.setRow b (cur.toList.take (off+(i*t.cells))++wcells ρ v++cur.toList.drop (off+(i*t.cells)+(wcells ρ v).length)).toArray).heap[k]?=w.heap[k]?:=fun k hk=>setRow_other w b k _ hk
 have hcells:∀ n z,(cs.take (i*t.cells)++wcells ρ v++cs.drop (i*t.cells+(wcells ρ v).length))[n]?=some z →
   cellAt (w.setRow b (cur.toList.take (off+(i*t.cells))++wcells ρ v++cur.toList.drop (off+(i*t.cells)+(wcells ρ v).length)).toArray) (ρ o).addr n=some z:=by
  intro n z hv;have hcl:cs.length=xs.length*t.cells:=co.1;rw[q2];simp only[cellAt,Option.bind_some,World.cell?,hsr,Option.isSome_none,Bool.false_eq_true,if_false,List.getElem?_toArray];rw[List.append_assoc,List.getElem?_append] at hv ⊢;simp only[List.length_take,Array.length_toList] at hv ⊢
  by_cases hn:n<i*t.cells
  · rw[if_pos (by omega)] at hv;rw[if_pos (by omega),List.getElem?_take,if_pos (by omega)];rw[List.getElem?_take,if_pos hn] at hv;exact hcur n z hv
  · rw[if_neg (by omega)] at hv;rw[if_neg (by omega)];have e1:n-min (i*t.cells) cs.length=n-(i*t.cells):=by omega
    have e2:off+n-min (off+(i*t.cells)) cur.size=n-(i*t.cells):=by omega
    rw[e1,List.getElem?_append] at hv;rw[e2,List.getElem?_append]
    by_cases hn2:n-(i*t.cells)<(wcells ρ v).length
    · rw[if_pos hn2] at hv ⊢;exact hv
    · rw[if_neg hn2,List.getElem?_drop] at hv ⊢;have e3:off+(i*t.cells)+(wcells ρ v).length+(n-(i*t.cells)-(wcells ρ v).length)=off+n:=by omega
      have e4:i*t.cells+(wcells ρ v).length+(n-(i*t.cells)-(wcells ρ v).length)=n:=by omega
      rw[e4] at hv;rw[e3];exact hcur n z hv
 have hlen:(xs.set i x).length=xs.length:=by simp
 have:=hD.write (dst:=dst) (o:=o) (b:=b) (obj:=.row .sh t (xs.set i x)) hf (by simp[hbD]) m3' hother (by simp)
  (v:=.undef) (x:=Go.undef) ⟨by rw[hlen];exact k1,⟨by rw[hlen];exact k2.1,fun e=>by rw[hlen];exact k2.2.1 e,fun ad had _=>by
   rw[q2] at had;simp only[Option.some.injEq] at had;subst had;exact⟨rfl,by simpa using m2,m3',fun _=>⟨_,T',hsr,by simp only[List.size_toArray,List.length_append,List.length_take,List.length_drop,Array.length_toList];omega⟩⟩⟩,
   (co.set (i:=i) (by rw[← k1];exact q3) hvl hrep).elems (fun x zs hx=>hx.frame (by simp[Mode.deep]) (by simp) (fun b' _ hb'=>⟨hb',hother b' (RO.ne hb' m3')⟩)) hcells⟩ (.inl rfl) (by first | exact⟨rfl,rfl,rfl,Nat.le_refl _⟩ | exact⟨rfl,rfl,rfl,Nat.le_add_right _ _⟩)
 simpa[St.put,Objs.upds,zAz] using this
theorem zKn (h:Inv w0 X Y0 fix s ρ col a w) {vs:List (Nat×Mode)}(hrows:Rows s.ob vs) {colD:Col}(hD:Inv w0 X Y0 fix ⟨s.tm,s.ob.upds (demotes s.ob vs)⟩ ρ colD a w) {t:Ty}:
  ∀ {parts:List (Nat×Operand)}{n:Nat}{xs:List t.den}{us:List (Nat×Mode)},elemsE s.ob t n (parts.map fun p=>(p.1,s.eval p.2))=some (xs,us)→(∀ p∈us,p∈vs) →
  ∃ vss:List (List Value),vss.length=parts.length∧xs.length=parts.length∧(∀ (k:Nat) (x:t.den) (zs:List Value),xs[k]?=some x→vss[k]?=some zs→TRep w false (RO colD (Yof w0 X Y0)) t x zs) ∧
   (∀ (k:Nat) (p:Nat×Value) (zs:List Value),(parts.map fun p=>(p.1,a.eval p.2))[k]?=some p→vss[k]?=some zs→p.1=n+k∧p.2.cells=zs.toArray)
 | [],n,xs,us,he,_=>by
  simp only[List.map_nil,elemsE,Option.some.injEq,Prod.mk.injEq] at he;obtain⟨rfl,rfl⟩:=he;exact⟨[],rfl,rfl,fun k x vs h=>by simp at h,fun k p vs h=>by simp at h⟩
 | (i,x)::rest,n,xs,us,he,hsub=>by
  simp only[List.map_cons,elemsE] at he
  split at he
  · rename_i hin;subst hin
    split at he
    · rename_i u hu
      split at he
      · rename_i x1 us1 xs1 us2 h1 h2;simp only[Option.some.injEq,Prod.mk.injEq] at he;obtain⟨rfl,rfl⟩:=he;obtain⟨g1,g2⟩:=h.evalW hu;have hst0:Stays s.ob (s.ob.upds (demotes s.ob vs)) ρ ρ:=zIX;have g3:=zGU (s:=⟨s.tm,s.ob.upds (demotes s.ob vs)⟩) hD (hst0.wfW g1) h1 rfl hrows (fun p hp=>hsub p (by simp[hp]));obtain⟨vss,k1,k2,k3,k4⟩:=zKn h hrows hD h2 (fun p hp=>hsub p (by simp[hp]))
        refine⟨wcells ρ u::vss,by simp[k1],by simp[k2],fun k y vs hy hv=>?_,fun k p vs hp hv=>?_⟩
        · cases k with
          | zero=>
           simp only[List.getElem?_cons_zero,Option.some.injEq] at hy hv;subst hy;subst hv;exact g3
          | succ k=>exact k3 k y vs (by simpa using hy) (by simpa using hv)
        · cases k with
          | zero=>
           simp only[List.map_cons,List.getElem?_cons_zero,Option.some.injEq] at hp hv;subst hp;subst hv;exact⟨rfl,by rw[g2,zR]⟩
          | succ k=>
           obtain⟨e1,e2⟩:=k4 k p vs (by simpa using hp) (by simpa using hv);exact⟨by omega,e2⟩
      · simp at he
    · simp at he
  · simp at he
theorem zHs {ob:Objs}{t:Ty}:∀ {parts:List (Nat×V)}{n:Nat}{xs:List t.den}{us:List (Nat×Mode)},elemsE ob t n parts=some (xs,us)→Rows ob us
 | [],n,xs,us,he=>by
  simp only[elemsE,Option.some.injEq,Prod.mk.injEq] at he;obtain⟨rfl,rfl⟩:=he;exact fun p hp=>by simp at hp
 | (i,x)::rest,n,xs,us,he=>by
  simp only[elemsE] at he
  split at he
  · split at he
    · split at he
      · rename_i x1 us1 xs1 us2 h1 h2;simp only[Option.some.injEq,Prod.mk.injEq] at he;obtain⟨rfl,rfl⟩:=he;intro p hp
        rcases List.mem_append.1 hp with hp | hp
        · exact zIf h1 p hp
        · exact zHs h2 p hp
      · simp at he
    · simp at he
  · simp at he
theorem zED (hE:EnvTy P E) (h:Inv w0 X Y0 fix s ρ col a w) {dst:Option Nat}(hf:apart dst.toList (fix.map (·.1))=true) {d:Nat}(hid:s.ob (idOf d)=none)
  {T:TypeId}{t:Ty}(ht:E.ty T=some (.slice t)) {parts:Array (Nat×Operand)}{len:Nat}{xs:List t.den}{us:List (Nat×Mode)}
  (he:elemsE s.ob t 0 (parts.toList.map fun p=>(p.1,s.eval p.2))=some (xs,us)) (hlen:parts.size=len) (h64:len≤64) {ok:Bool}{rd:List Nat}:
  Does P w0 X Y0 fix s dst ⟨ok,.w (.c (.sl (idOf d))),demotes s.ob us,[(idOf d,.row .sh t xs)],rd⟩ a
   ((do pure (.value (← Instr.buildSlice T len (parts.map fun p=>(p.1,a.eval p.2)))):Sem Next).run P w):=by
 obtain⟨_,e,hT,hte⟩:=hE T _ ht;obtain⟨i,hi,hz,hs,hb,hc1,hc2⟩:=hte.base;have hrows:=zHs he;obtain⟨colD,hD⟩:=h.demotes hrows;obtain⟨vss,k1,k2,k3,k4⟩:=zKn h hrows hD he (fun p hp=>hp);have hvl:∀ vs∈vss,vs.length=t.cells:=by
  intro vs hvs;obtain⟨k,hk,rfl⟩:=List.mem_iff_getElem.1 hvs;have hkx:k<xs.length:=by omega
  exact (k3 k _ _ (List.getElem?_eq_getElem hkx) (List.getElem?_eq_getElem hk)).len
 have hpl:parts.toList.length=len:=by simpa using hlen
 have hvlen:vss.length=len:=by omega
 have hfill:∀ init:List Value,init.length=len*t.cells→Instr.fill (fun i=>some (i*t.cells,t.cells)) init.toArray (parts.toList.map fun p=>(p.1,a.eval p.2))=some vss.flatten.toArray:=by
  intro init hinit;have:=zCI t.cells vss (parts.toList.map fun p=>(p.1,a.eval p.2)) 0 init hvl (by simp;omega) (fun k p vs hp hv=>k4 k p vs hp hv) (by rw[Nat.zero_add,hvlen,hinit];exact Nat.le_refl _);rw[this];simp only[Nat.zero_mul,List.take_zero,List.nil_append,Nat.zero_add,hvlen];rw[List.drop_of_length_le (by omega),List.append_nil]
 have hbig:¬ (16777216<len*t.cells):=by
  have:len*t.cells≤64*65536:=Nat.mul_le_mul h64 hc2;omega
 have hxl:xs.length=len:=by omega
 have hr:(do pure (.value (← Instr.buildSlice T len (parts.map fun p=>(p.1,a.eval p.2)))):Sem Next).run P w=.ok (.value (.slice (some ⟨w.heap.size,0,none⟩) xs.length xs.length)) (w.alloc (.cells vss.flatten.toArray e)):=by
  rw[hxl]
  by_cases h0:len*t.cells=0
  · have hl0:len=0:=by
     rcases Nat.mul_eq_zero.1 h0 with g | g
     · exact g
     · omega
    have hp0:parts.toList=[]:=List.eq_nil_of_length_eq_zero (by omega);have hp1:parts=#[]:=by apply Array.toList_inj.1;simpa using hp0
    have hv0:vss=[]:=List.eq_nil_of_length_eq_zero (by omega);simp[Instr.buildSlice,run_underlying hT,zN hi,hs,hl0,hp1,hv0,Instr.fill,newRow,Array.range_zero']
  · have hf0:=hfill ((Array.range (len*t.cells)).map (fun x=>((wval (fun _=>⟨none,0,0⟩) t.zeroW).cells)[x % ((wval (fun _=>⟨none,0,0⟩) t.zeroW).cells).size]!)).toList (by simp);simp only[Array.toArray_toList] at hf0;simp[Instr.buildSlice,run_underlying hT,zN hi,hs,hbig,h0,kI hi hz,hf0,newRow]
 have hfl:vss.flatten.length=xs.length*t.cells:=by
  have:∀ (l:List (List Value)),(∀ v∈l,v.length=t.cells)→l.flatten.length=l.length*t.cells:=by
   intro l
   induction l with
   | nil=>intro _;simp
   | cons v l ih=>
    intro hl;rw[List.flatten_cons,List.length_append,hl v (by simp),ih (fun u hu=>hl u (by simp[hu])),List.length_cons,Nat.add_mul];omega
  rw[this vss hvl];congr 1;omega
 have hidD:s.ob.upds (demotes s.ob us) (idOf d)=none:=by
  rw[ja (fun q hq e=>?_),hid];obtain⟨t',xs',hq'⟩:=hrows q hq;rw[e,hid] at hq';simp at hq'
 have hheap:∀ b,b<w.heap.size→(w.alloc (.cells vss.flatten.toArray e)).heap[b]?=w.heap[b]?:=fun b hb=>Go.RowKit.Below.heap_alloc w _ b hb;refine⟨_,_,.inl hr,putLoc ρ (idOf d) ⟨some ⟨w.heap.size,0,none⟩,xs.length,xs.length⟩,putCol colD w.heap.size (idOf d,0),?_⟩
 have key:=hD.fresh (dst:=dst) (obj:=.row .sh t xs) hf hidD ⟨some ⟨w.heap.size,0,none⟩,xs.length,xs.length⟩ (w':=w.alloc (.cells vss.flatten.toArray e)) hheap (zi _ _)
  ⟨by simp[putLoc],?_,?_⟩ (zCB _ _ rfl) (by first | exact⟨rfl,rfl,rfl,Nat.le_refl _⟩ | exact⟨rfl,rfl,rfl,Nat.le_add_right _ _⟩)
 · simpa only[St.put,zAz,Objs.upds] using key
 · refine⟨by simp[putLoc],fun e=>by simp[putLoc] at e,fun b hb _=>?_⟩;simp only[putLoc,if_true,Option.some.injEq] at hb;subst hb;exact⟨rfl,by rw[zi];exact Nat.lt_succ_self _,by simp[okO,putCol],fun _=>⟨_,e,heap_alloc_new w _,by simp only[putLoc,if_true,Nat.zero_add,List.size_toArray];rw[hfl];exact Nat.le_refl _⟩⟩
 · intro k x hx;have hk:k<xs.length:=(List.getElem?_eq_some_iff.1 hx).1;have hkv:vss[k]?=some vss[k]:=List.getElem?_eq_getElem (by omega);refine⟨vss[k],(k3 k x _ hx hkv).frame (by simp[Mode.deep]) (by rw[zi];exact Nat.le_succ _) (fun b hb hr=>⟨⟨by simp only[putCol,if_neg (Nat.ne_of_lt hb)];exact hr.1,hr.2⟩,hheap b hb⟩),fun j v hv=>?_⟩;simp only[putLoc,if_true,cellAt,Option.bind_some,Nat.zero_add,kN];have hj:j<t.cells:=by
    have:=(List.getElem?_eq_some_iff.1 hv).1;rwa [hvl _ (List.getElem_mem _)] at this
   rw[zEU t.cells vss k j _ hvl hkv hj];exact hv
end
end Go.Ev
namespace Go.Ev
section
variable {P:Program}{E:Env}{w0:World}{X Y0:Nat→Prop}{fix:List (Nat×Value)}
variable {s:St}{ρ:Locs}{col:Col}{a:Act}{w:World}
theorem zNO {k:IntKind}(z:List Int) (j:Nat) (hj:j<z.length):(z.map (Value.int k))[j]?=some (.int k (z.getD j 0)):=by
 rw[List.getElem?_map,List.getElem?_eq_getElem hj];simp[List.getD_eq_getElem?_getD,List.getElem?_eq_getElem hj]
theorem Elems.at {own:Bool}{okE:Nat→Nat→Prop}{t:Ty}{xs:List t.den}{addr:Option Addr}(h:Elems w own okE t xs addr) {i:Nat}(hi:i<xs.length) (d:t.den):
  ∃ ys,TRep w own (okE i) t (xs.getD i d) ys∧∀ j v,ys[j]?=some v→cellAt w addr (i*t.cells+j)=some v:=by
 have e:xs[i]?=some (xs.getD i d):=by rw[List.getElem?_eq_getElem hi,List.getD_eq_getElem?_getD,List.getElem?_eq_getElem hi];rfl
 exact h i _ e
theorem zOE (hE:EnvTy P E) (h:Inv w0 X Y0 fix s ρ col a w) {dst:Option Nat}(hf:apart dst.toList (fix.map (·.1))=true) {d:Nat}{T:TypeId}{c:C}{e:Eff}
  (hl:loadE E s d T c=some e) (hw:wfC s.ob ρ c) (hn:(e.nw.map (·.1)).Nodup) (hfr:∀ p∈e.nw,s.ob p.1=none):
  Does P w0 X Y0 fix s dst e a ((do pure (.value (← Instr.loadAt T (cval ρ c))):Sem Next).run P w):=by
 have val:∀ {v:Value},(Instr.loadAt T (cval ρ c)).run P w=.ok v w→((do pure (.value (← Instr.loadAt T (cval ρ c))):Sem Next).run P w)=.ok (.value v) w:=by
  intro v hv;simp[hv]
 unfold loadE at hl
 split at hl
 · rename_i o i es j;split at hl
   ·
    rename_i t m x ht hb
    split at hl
    · rename_i hts;split at hl
      ·
       rename_i y
       split at hl
       · rename_i hfit;simp only[Bool.and_eq_true,beq_iff_eq] at hfit;simp only[Option.some.injEq] at hl;subst hl;obtain⟨b,g1,g2,g3,g4⟩:=zFj h hw hb hfit.2;simp only[wcells,List.length_singleton] at g3;have hj:j=0:=by omega
         subst hj;obtain⟨_,_,_,k3,_⟩:=h.box hb;refine Does.sameW h hf k3 (val ?_);rw[g1];exact zu hE ht hts (g4 0 _ rfl)
       · simp at hl
      ·
       rename_i cs
       split at hl
       · rename_i y hy
         split at hl
         · rename_i hfit;simp only[Bool.and_eq_true,beq_iff_eq] at hfit;simp only[Option.some.injEq] at hl;subst hl;obtain⟨b,g1,g2,g3,g4⟩:=zFj h hw hb hfit.2;obtain⟨_,_,_,k3,_⟩:=h.box hb;refine Does.sameW (u:=.c y) h hf (k3 y (List.mem_of_getElem? hy)) (val ?_);rw[g1];exact zu hE ht hts (g4 j _ (by simp[wcells,hy,wval]))
         · simp at hl
       · simp at hl
      ·
       rename_i k mm xs
       split at hl
       · rename_i hfit;simp only[Bool.and_eq_true,beq_iff_eq,decide_eq_true_eq] at hfit;simp only[Option.some.injEq] at hl;subst hl;obtain⟨b,g1,g2,g3,g4⟩:=zFj h hw hb hfit.2;simp only[wcells,List.length_map] at g3;refine Does.sameW (u:=.c (.int k (xs.getD j 0))) h hf trivial (val ?_);rw[g1];refine zu hE ht hts (g4 j _ ?_);simp[wcells,List.getElem?_eq_getElem g3,List.getD_eq_getElem?_getD,wval,cval]
       · simp at hl
      · rename_i mm xs
        split at hl
        · rename_i hfit;simp only[Bool.and_eq_true,beq_iff_eq,decide_eq_true_eq] at hfit;simp only[Option.some.injEq] at hl;subst hl;obtain⟨b,g1,g2,g3,g4⟩:=zFj h hw hb hfit.2;simp only[wcells,List.length_map] at g3;refine Does.sameW (u:=.c (.bool (xs.getD j false))) h hf trivial (val ?_);rw[g1];refine zu hE ht hts (g4 j _ ?_);simp[wcells,List.getElem?_eq_getElem g3,List.getD_eq_getElem?_getD,wval,cval]
        · simp at hl
    · rename_i hts
      split at hl
      · rename_i hfit;simp only[Bool.and_eq_true,beq_iff_eq] at hfit;simp only[Option.some.injEq] at hl;subst hl;obtain⟨⟨hfit,rfl⟩,hes⟩:=hfit;obtain⟨b,g1,g2,g3,g4⟩:=zFj h hw hb hes;obtain⟨_,_,_,k3,_⟩:=h.box hb;refine Does.sameW h hf k3 (val ?_);rw[g1,W.fits_agg hfit (by simpa using hts)];exact zBy hE ht (by simpa using hts) (W.fits_len hfit k3) (fun j v hv=>by rw[Nat.zero_add];exact g4 j v hv)
      · simp at hl
   ·
    rename_i t m u xs ht hb
    split at hl
    · rename_i hes;simp only[Bool.and_eq_true,beq_iff_eq,bne_iff_ne] at hes;obtain⟨rfl,hpos⟩:=hes;obtain⟨k1,k2,k3⟩:=h.obj hb;obtain⟨q1,⟨b,off,q2⟩,q3⟩:=hw;rw[if_neg hpos] at q3;obtain⟨q3,q4⟩:=q3;have hptr:cval ρ (.ptr o i u.cells j)=.pointer (some ⟨b,off+(i*u.cells+j),none⟩):=by simp[cval,zBK q2]
      have cell:∀ n v,cellAt w (ρ o).addr n=some v→w.cell? ⟨b,off+n,none⟩=some v:=by
       intro n v hv;simpa[cellAt,q2] using hv
      split at hl
      · rename_i htu;subst htu
        split at hl
        · rename_i hj;simp only[beq_iff_eq] at hj;subst hj;simp only[Option.some.injEq] at hl;subst hl;obtain⟨ys,r1,r2⟩:=k3.at (i:=i) (by omega) t.zero;obtain⟨L,f,g⟩:=zEB (hE T _ ht) (idOf d) (zHt h r1);rw[zt] at hn hfr ⊢;have hids:∀ o,idOf d≤o→o<idOf d+(unpackC .ro t (xs.getD i t.zero) (idOf d)).2.length→∃ p∈(unpackC .ro t (xs.getD i t.zero) (idOf d)).2,p.1=o:=by
           intro o h1 h2;have:o∈(unpackC .ro t (xs.getD i t.zero) (idOf d)).2.map (·.1):=by
            rw[kM,List.mem_range'_1];exact⟨h1,h2⟩
           simpa using this
          by_cases hsc:t.scalar=true
          · have hyl:ys.length=1:=by rw[r1.len];cases t<;>simp_all [Ty.scalar,Ty.cells]
            obtain⟨y,rfl⟩:=List.length_eq_one_iff.1 hyl
            refine Does.loadRo h hf L hn hfr (fun p hp=>g p hp) (x:=y) (fun ob' ρ' hst hob=>?_) (val ?_)
            · obtain⟨f1,f2,f3,_⟩:=f ob' ρ' (fun o h1 h2=>by obtain⟨p,hp,rfl⟩:=hids o h1 h2;exact hob p hp);obtain⟨v,e1,e2⟩:=f3 hsc;simp only[List.cons.injEq,and_true] at e1;subst e1;exact .inr ⟨f2,e2.symm⟩
            · rw[hptr];exact zu hE ht hsc (cell _ _ (r2 0 _ rfl))
          · have hsc':t.scalar=false:=by simpa using hsc
            refine Does.loadRo h hf L hn hfr (fun p hp=>g p hp) (x:=.agg ys.toArray) (fun ob' ρ' hst hob=>?_) (val ?_)
            · obtain⟨f1,f2,_,f4⟩:=f ob' ρ' (fun o h1 h2=>by obtain⟨p,hp,rfl⟩:=hids o h1 h2;exact hob p hp);exact .inr ⟨f2,(f4 hsc').symm⟩
            · rw[hptr];refine zBy hE ht hsc' r1.len (fun n v hv=>?_);have:=cell _ _ (r2 n v hv);rw[show off+(i*t.cells+0)+n=off+(i*t.cells+n) by omega];exact this
        · simp at hl
      · split at hl
        · rename_i k mm xs hne
          split at hl
          · rename_i htk;subst htk;simp only[Option.some.injEq] at hl;subst hl;obtain⟨ys,r1,r2⟩:=k3.at (i:=i) (by omega) ([]:List Int);simp only[TRep] at r1;obtain⟨r0,rfl⟩:=r1;refine Does.sameW (u:=.c (.int k (((xs.getD i []):List Int).getD j 0))) h hf trivial (val ?_);rw[hptr];refine zu hE ht rfl (cell _ _ (r2 j _ ?_));have hj:j<(xs.getD i ([]:List Int)).length:=by rw[r0];exact q4
            exact zNO _ j hj
          · simp at hl
        · rename_i p q xs hne
          split at hl
          · rename_i hlf;simp only at hl
            split at hl
            · rename_i y hy
              split at hl
              · rename_i hfit;simp only[Option.some.injEq] at hl;subst hl;obtain⟨ys,r1,r2⟩:=k3.at (i:=i) (by omega) ((p.zero,q.zero):(Ty.pair p q).den);obtain⟨L,f,g,k⟩:=zA1 (idOf d) hlf (zHt h r1);have hids:∀ o,idOf d≤o→o<idOf d+(unpackC .ro (.pair p q) (xs.getD i ((p.zero,q.zero):(Ty.pair p q).den)) (idOf d)).2.length→∃ r∈(unpackC .ro (.pair p q) (xs.getD i ((p.zero,q.zero):(Ty.pair p q).den)) (idOf d)).2,r.1=o:=by
                 intro o h1 h2;have:o∈(unpackC .ro (.pair p q) (xs.getD i ((p.zero,q.zero):(Ty.pair p q).den)) (idOf d)).2.map (·.1):=by
                  rw[kM,List.mem_range'_1];exact⟨h1,h2⟩
                 simpa using this
                have hjl:j<ys.length:=by rw[r1.len];exact q4
                refine Does.loadRo h hf L hn hfr (fun p hp=>g p hp) (x:=ys[j]) (fun ob' ρ' hst hob=>?_) (val ?_)
                · have e:=f ρ' (fun o h1 h2=>by obtain⟨p,hp,rfl⟩:=hids o h1 h2;exact (hob p hp).1)
                  refine .inr ⟨?_,?_⟩
                  · rcases k y (List.mem_of_getElem? hy) with ⟨_,_,rfl⟩ | ⟨_,rfl⟩ | ⟨o,rfl,h1,h2⟩
                    · trivial
                    · trivial
                    · obtain⟨r,hr,rfl⟩:=hids o h1 h2;exact (hob r hr).2
                  · have e2:ys[j]?=some (cval ρ' y):=by rw[e,List.getElem?_map,hy];rfl
                    rw[List.getElem?_eq_getElem hjl] at e2;exact Option.some.inj e2
                · rw[hptr];exact zu hE ht (C.fits_wf hfit) (cell _ _ (r2 j _ (List.getElem?_eq_getElem hjl)))
              · simp at hl
            · simp at hl
          · simp at hl
        · simp at hl
    · simp at hl
   · simp at hl
 · simp at hl
theorem zJM {T:TypeId}(hT:P.underlying T=some .string) (bs:ByteArray) (k:IntKind) (n:Int) (h0:0≤n) (h1:n<(bs.size:Int)) (w:World):
  (Instr.index T (.string bs) (.int k n)).run P w=.ok (.int .u8 ((bs.data.toList.getD n.toNat 0).toNat:Int)) w:=by
 have hl:n.toNat<bs.size:=by omega
 have e:bs[n.toNat]?=some (bs.data.toList.getD n.toNat 0):=by
  rw[getElem?_pos bs n.toNat hl];congr 1;have hl':n.toNat<bs.data.toList.length:=by simpa using hl
  rw[List.getD_eq_getElem?_getD,List.getElem?_eq_getElem hl']
  rfl
 simp[Instr.index,asIntOf,run_underlying hT,h0,e]
theorem zOD (hE:EnvTy P E) (h:Inv w0 X Y0 fix s ρ col a w) {dst:Option Nat}(hf:apart dst.toList (fix.map (·.1))=true) {d:Nat}(hid:s.ob (idOf d)=none)
  {T:TypeId}{k:IntKind}{m:Nat}(ht:E.ty T=some (.arr k m)) {o:Nat}(hw:wfC s.ob ρ (.ptr o 0 0 0)) {e:Eff}(he:viewE s d k m o=some e):
  Does P w0 X Y0 fix s dst e a (((do pure (.value (← Instr.sliceAt T (cval ρ (.ptr o 0 0 0)) none none none))):Sem Next).run P w):=by
 unfold viewE at he
 split at he
 · rename_i md k' m' xs hb
   split at he
   · rename_i hc;obtain⟨rfl,rfl,hm⟩:=hc;simp only[Option.some.injEq] at he;subst he;obtain⟨_,⟨el,hT,_,hel⟩,_⟩:=hE T _ ht;obtain⟨⟨ti,hi,hs⟩,_⟩:=hel;have hno:s.ob o≠none:=by rw[hb];simp
     have key:∃ col1,Inv w0 X Y0 fix ⟨s.tm,s.ob.upds (demotes s.ob [(o,md)])⟩ ρ col1 a w∧s.ob.upds (demotes s.ob [(o,md)]) o=some (.box .ro (.arr k' m' xs)):=by
      by_cases hmm:md.mine=true
      · refine⟨dropCol col o,?_,?_⟩
        · have:=h.demoteBox hb;simpa[demotes,hmm,demote,hb,Objs.upds] using this
        · simp[demotes,hmm,demote,hb,Objs.upds,Objs.upd]
      · have:md=.ro:=by cases md<;>simp_all [Mode.mine]
        subst this
        refine⟨col,?_,?_⟩
        · simpa[demotes,Mode.mine,Objs.upds] using h
        · simpa[demotes,Mode.mine,Objs.upds] using hb
     obtain⟨col1,hD,hbD⟩:=key;have hidD:s.ob.upds (demotes s.ob [(o,md)]) (idOf d)=none:=by
      have:idOf d≠o:=by intro e;rw[e] at hid;exact hno hid
      rw[ja (fun p hp=>by simp only[List.mem_singleton] at hp;subst hp;exact Ne.symm this),hid]
     obtain⟨b,k1,k2,k3,k4,k5,k6,_⟩:=hD.obj hbD;have hlen:xs.length=m':=k3;have hptr:cval ρ (.ptr o 0 0 0)=.pointer (some ⟨b,0,none⟩):=by simp[cval,zBK k1]
     have hne:¬ (m'=0):=by omega
     have hr:((do pure (.value (← Instr.sliceAt T (cval ρ (.ptr o 0 0 0)) none none none))):Sem Next).run P w=.ok (.value (.slice (some ⟨b,0,none⟩) xs.length m')) w:=by
      rw[hptr];simp[Instr.sliceAt,run_underlying hT,Instr.sureAddr,Instr.sliceBounds,zN hi,hne,zCP,hlen]
     refine⟨_,w,.inl hr,?_⟩
     have hput:s.put dst ⟨true,.w (.c (.sl (idOf d))),demotes s.ob [(o,md)],[(idOf d,.row .ro (.int k') xs)],[o]⟩
       = ⟨setO s.tm dst (.w (.c (.sl (idOf d)))),(s.ob.upds (demotes s.ob [(o,md)])).upd (idOf d) (.row .ro (.int k') xs)⟩:=by
      simp only[St.put,zAz,Objs.upds]
     rw[hput]
     refine⟨_,_,Does.over (obj:=.row .ro (.int k') xs) hD hf hidD ⟨some ⟨b,0,none⟩,xs.length,m'⟩ ⟨by simp[putLoc],?_,?_⟩ (zCB _ _ rfl)⟩
     · simp only[putLoc,if_true];refine⟨by omega,fun e=>by simp at e,fun ad had _=>?_⟩;simp only[Option.some.injEq] at had;subst had;exact⟨rfl,k2,k6,fun e=>by simp[Mode.mine] at e⟩
     · simp only[putLoc,if_true];intro i x hx;refine⟨[.int k' x],rfl,fun j v hv=>?_⟩;have hj:j=0:=by
        have:=(List.getElem?_eq_some_iff.1 hv).1;simpa using this
       subst hj;simp only[List.getElem?_cons_zero,Option.some.injEq] at hv;subst hv;simp only[cellAt,Option.bind_some,Ty.cells,Nat.mul_one,Nat.add_zero,Nat.zero_add];refine k5 i _ ?_;simp only[wcells,List.getElem?_map,hx,Option.map_some]
   · simp at he
 · simp at he
end
end Go.Ev
namespace Go.Ev
section
variable {P:Program}{E:Env}{w0:World}{X Y0:Nat→Prop}{fix:List (Nat×Value)}
variable {s:St}{ρ:Locs}{col:Col}{a:Act}{w:World}
theorem zAp (ρ:Locs) (x:W):∀ v∈wcells ρ x,v.oneCell'=true:=by
 intro v hv
 cases x with
 | c c=>simp only[wcells,List.mem_singleton] at hv;subst hv;exact zNd ρ c
 | arr k m xs=>simp only[wcells,List.mem_map] at hv;obtain⟨n,_,rfl⟩:=hv;rfl
 | barr m xs=>simp only[wcells,List.mem_map] at hv;obtain⟨n,_,rfl⟩:=hv;rfl
 | st cs=>simp only[wcells,List.mem_map] at hv;obtain⟨n,_,rfl⟩:=hv;exact zNd ρ n
theorem zKG {α:Type}(l:List α) (j:Nat) (x:α) (h:j<l.length):l.set j x=l.take j++[x]++l.drop (j+1):=by
 rw[List.set_eq_take_append_cons_drop,if_pos h];simp
theorem map_set {α β:Type}(f:α→β) (l:List α) (j:Nat) (x:α) (h:j<l.length):(l.set j x).map f=(l.map f).take j++[f x]++(l.map f).drop (j+1):=by
 rw[List.map_set,zKG _ _ _ (by simpa using h)]
theorem zLg (hE:EnvTy P E) (h:Inv w0 X Y0 fix s ρ col a w) {dst:Option Nat}(hf:apart dst.toList (fix.map (·.1))=true) {T:TypeId}{c:C}{v:W}{e:Eff}
  (hl:storeE E s T c v=some e) (hw:wfC s.ob ρ c) (hv:wfW s.ob ρ v):
  Does P w0 X Y0 fix s dst e a ((do Instr.storeAt T (cval ρ c) (wval ρ v);pure Next.skip:Sem Next).run P w):=by
 unfold storeE at hl
 split at hl
 · rename_i o i es j
   split at hl
   · rename_i t x ht hb
     split at hl
     · rename_i hfit;simp only[Bool.and_eq_true,beq_iff_eq] at hfit;obtain⟨hfit,hes⟩:=hfit;obtain⟨ti,hi,_,hs,_,hc1,_⟩:=(hE T _ ht).base;obtain⟨b,g1,g2,g3,g4⟩:=zFj h hw hb hes;have k3:wfW s.ob ρ x:=by obtain⟨_,_,_,k3,_⟩:=h.box hb;exact k3
       have hvl:=W.fits_len hfit hv;have whole:∀ (y:W),y=v→W.fits x t=true→j=0→∀ e,e=(⟨true,.undef,[(o,.box .own y)],[],[o]⟩:Eff)→Does P w0 X Y0 fix s dst e a ((do Instr.storeAt T (cval ρ (.ptr o i es j)) (wval ρ v);pure Next.skip:Sem Next).run P w):=by
        intro y hy hfx hj e he;subst hy;subst hj;subst he;have hxl:=W.fits_len hfx k3;refine Does.writeBox h hf hw hb hes (wcells ρ y) hv ?_ (by omega) (zAp ρ y) (zR ρ y) hi (by rw[hs,hvl]);rw[List.take_zero,List.nil_append,Nat.zero_add,hvl,List.drop_of_length_le (by omega),List.append_nil]
       split at hl
       · rename_i y z;simp only[Option.some.injEq] at hl;subst hl;simp only[wcells,List.length_singleton] at g3;have hj:j=0:=by omega
         subst hj;refine Does.writeBox h hf hw hb hes (wcells ρ (.c y)) hv (by simp[wcells]) (by simp[wcells]) (zAp ρ _) (zR ρ _) hi ?_;rw[hs,← hvl]
       · rename_i y cs
         split at hl
         · rename_i z hz
           split at hl
           · simp only[Option.some.injEq] at hl;subst hl;have hj:=(List.getElem?_eq_some_iff.1 hz).1;have hwf:wfW s.ob ρ (.st (cs.set j y)):=by
              intro q hq
              rcases List.mem_or_eq_of_mem_set hq with hq | rfl
              · exact k3 q hq
              · exact hv
             refine Does.writeBox (x':=.st (cs.set j y)) h hf hw hb hes (wcells ρ (.c y)) hwf ?_ (by simp[wcells];omega) (zAp ρ _) (zR ρ _) hi (by rw[hs,← hvl])
             · simp only[wcells,List.length_singleton];exact map_set _ _ _ _ hj
           · simp at hl
         · simp at hl
       · rename_i k n k' m xs
         split at hl
         · rename_i hk;subst hk;simp only[Option.some.injEq] at hl;subst hl;simp only[wcells,List.length_map] at g3
           refine Does.writeBox h hf hw hb hes (wcells ρ (.c (.int k n))) ?_ ?_ (by simp[wcells];omega) (zAp ρ _) (zR ρ _) hi (by rw[hs,← hvl])
           · simpa[wfW] using k3
           · simp only[wcells,List.length_singleton];exact map_set _ _ _ _ g3
         · simp at hl
       · rename_i n m xs;simp only[Option.some.injEq] at hl;subst hl;simp only[wcells,List.length_map] at g3
         refine Does.writeBox h hf hw hb hes (wcells ρ (.c (.bool n))) ?_ ?_ (by simp[wcells];omega) (zAp ρ _) (zR ρ _) hi (by rw[hs,← hvl])
         · simpa[wfW] using k3
         · simp only[wcells,List.length_singleton];exact map_set _ _ _ _ g3
       · split at hl
         · rename_i hfx;simp only[Bool.and_eq_true,beq_iff_eq] at hfx;simp only[Option.some.injEq] at hl;exact whole _ rfl hfx.1 hfx.2 e hl.symm
         · simp at hl
       · split at hl
         · rename_i hfx;simp only[Bool.and_eq_true,beq_iff_eq] at hfx;simp only[Option.some.injEq] at hl;exact whole _ rfl hfx.1 hfx.2 e hl.symm
         · simp at hl
       · split at hl
         · rename_i hfx;simp only[Bool.and_eq_true,beq_iff_eq] at hfx;simp only[Option.some.injEq] at hl;exact whole _ rfl hfx.1 hfx.2 e hl.symm
         · simp at hl
       · simp at hl
     · simp at hl
   · rename_i t md u xs ht hb
     split at hl
     · rename_i hes;simp only[Bool.and_eq_true,beq_iff_eq,bne_iff_ne] at hes;obtain⟨hes,hpos⟩:=hes;have hw':=hw;obtain⟨q1,⟨b,off,q2⟩,q3⟩:=hw';rw[if_neg hpos] at q3;obtain⟨q3,q4⟩:=q3;obtain⟨kk1,kk2,kk3⟩:=h.obj hb;obtain⟨ti,hi,_,hs,_,hc1,_⟩:=(hE T _ ht).base
       split at hl
       · rename_i htu;subst htu
         split at hl
         · rename_i hj;simp only[beq_iff_eq] at hj;subst hj
           split at hl
           · rename_i x us hp
             split at hl
             · rename_i hfl
               split at hl
               · rename_i hown;subst hown;simp only[Option.some.injEq] at hl;subst hl;obtain⟨rfl,hrep⟩:=zKO (ρ:=ρ) hfl hv hp;have hlen:(wcells ρ v).length=t.cells:=(hrep w false (fun _=>True)).len;refine Does.writeRow h hf hfl hw hb hes hc1 (wcells ρ v) (fun cs hcs=>?_) (by simp) (by omega) (zAp ρ v) (zR ρ v) hi (by rw[hs,hlen]);have:=hcs.set (by rw[← kk1];exact q3) hrep;simpa using this
               · simp at hl
             · split at hl
               · rename_i hdis;simp only[Bool.and_eq_true,List.all_eq_true,bne_iff_ne] at hdis;simp only[Option.some.injEq] at hl;subst hl;exact Does.writeRowSh h hf hdis.1 hw hb hes hc1 hv hp hdis.2 hi hs
               · simp at hl
           · simp at hl
         · simp at hl
       · split at hl
         · rename_i hown;subst hown
           split at hl
           · rename_i k m xs k' n hne
             split at hl
             · rename_i hk;simp only[Bool.and_eq_true,decide_eq_true_eq] at hk;obtain⟨rfl,hk⟩:=hk;subst hk;simp only[Option.some.injEq] at hl;subst hl;have hsz:ti.size=1:=hs
               refine Does.writeRow h hf rfl hw hb hes (by rw[← hes];exact Nat.pos_of_ne_zero hpos) [.int k' n] (fun cs hcs=>?_) (by simp) ?_ (by simp[Value.oneCell']) rfl hi hsz
               · obtain⟨e1,e2⟩:=hcs;have hil:i<xs.length:=by rw[← kk1];exact q3
                 have hx:xs[i]?=some (xs.getD i []):=by rw[List.getElem?_eq_getElem hil,List.getD_eq_getElem?_getD,List.getElem?_eq_getElem hil];rfl
                 have hy:=e2 i _ hx w false (fun _=>True);generalize xs.getD i []=z at hy hx ⊢;simp only[TRep] at hy;obtain⟨hz,hy⟩:=hy;have hjz:j<z.length:=by rw[hz];rw[hes] at q4;exact q4
                 have hnew:AnyRep (.arr k' m) (z.set j n) ((z.set j n).map (Value.int k')):=fun w own ok=>⟨by simpa using hz,rfl⟩
                 have key:=CellsOf.set (cs:=cs) ⟨e1,e2⟩ hil hnew;simp only[Ty.cells] at *;have hle:i*m+m≤cs.length:=by
                  rw[e1];have:(i+1)*m≤xs.length*m:=Nat.mul_le_mul_right _ hil;rw[Nat.add_mul] at this;omega
                 have hc:cs=cs.take (i*m)++(z.map (Value.int k')++cs.drop (i*m+m)):=by
                  rw[← hy,← List.drop_drop,List.take_append_drop,List.take_append_drop]
                 have hlen:(cs.take (i*m)).length=i*m:=by simp;omega
                 have:cs.take (i*m+j)++[Value.int k' n]++cs.drop (i*m+j+1)=cs.take (i*m)++(z.set j n).map (Value.int k')++cs.drop (i*m+((z.set j n).map (Value.int k')).length):=by
                  rw[← zKG _ _ _ (by omega)]
                  conv=>lhs;rw[hc]
                  rw[List.set_append_right _ _ (by omega),hlen,Nat.add_sub_cancel_left,List.set_append_left _ _ (by simpa using hjz),List.map_set,List.append_assoc];simp[hz]
                 rw[List.length_singleton,this];exact key
               · simp only[List.length_singleton];rw[hes] at q4;exact q4
             · simp at hl
           · simp at hl
         · simp at hl
     · simp at hl
   · simp at hl
 · simp at hl
end
end Go.Ev
namespace Go.Ev
section
variable {P:Program}{E:Env}{w0:World}{X Y0:Nat→Prop}{fix:List (Nat×Value)}
variable {s:St}{ρ:Locs}{col:Col}{a:Act}{w:World}
theorem Does.congr {dst:Option Nat}{e:Eff}{r r':Result Next}(h:Does P w0 X Y0 fix s dst e a r) (hr:r'=r):Does P w0 X Y0 fix s dst e a r':=hr ▸ h
theorem zq {m:Sem Value}{v:Value}{w':World}(h:m.run P w=.ok v w'):(do pure (.value (← m)):Sem Next).run P w=.ok (.value v) w':=by
 simp[h]
theorem zLG:∀ {vs:List V}{ws:List W},all1 vs=some ws→vs=ws.map V.w
 | [],ws,h=>by simp only[all1,Option.some.injEq] at h;subst h;rfl
 | v::r,ws,h=>by
  simp only[all1] at h
  split at h
  · rename_i x xs h1 h2;simp only[Option.some.injEq] at h;subst h;rw[zHr h1,zLG h2]
    rfl
  · simp at h
theorem zEz {T e:TypeId}(hT:P.underlying T=some (.slice e)) (ty:TypeId) (addr:Option Addr) (l c:Nat):
  (Builtin.len_ #[T] ty #[.slice addr l c]).run P w=.ok (.int .i64 l) w:=by
 simp[Builtin.len_,run_underlying hT,goInt]
theorem zLm {T e:TypeId}{m:Nat}(hT:P.underlying T=some (.array m e)) (ty:TypeId) (x:Value):
  (Builtin.len_ #[T] ty #[x]).run P w=.ok (.int .i64 m) w:=by
 simp[Builtin.len_,run_underlying hT,goInt]
theorem zGh {T T' e e':TypeId}{i:TypeInfo}(hT:P.underlying T=some (.slice e)) (hi:P.info? e=some i) (hT':P.underlying T'=some (.slice e')) (ty:TypeId) (addr:Option Addr) (l c:Nat) (y:Value):
  (Builtin.append_ #[T,T'] ty #[.slice addr l c,y]).run P w=(Builtin.append_ #[T,T] ty #[.slice addr l c,y]).run P w:=by
 simp[Builtin.append_,run_underlying hT,run_underlying hT',zN hi]
theorem zNT {k:IntKind}(h:Inv w0 X Y0 fix s ρ col a w):∀ {xs:List Operand}{n m:Int},foldInts (fun x y=>if y > x then y else x) k n (xs.map s.eval)=some m →
  ((xs.map a.eval).foldlM Builtin.max2 (.int k n)).run P w=.ok (.int k m) w
 | [],n,m,he=>by
  simp only[List.map_nil,foldInts,Option.some.injEq] at he;subst he;simp
 | x::xs,n,m,he=>by
  simp only[List.map_cons,foldInts] at he
  split at he
  · rename_i k' y hy
    split at he
    · rename_i hk;subst hk;simp only[List.map_cons,List.foldlM_cons,h.evalInt hy,Builtin.max2,pure_bind];exact zNT h he
    · simp at he
  · simp at he
theorem zNS {k:IntKind}(h:Inv w0 X Y0 fix s ρ col a w):∀ {xs:List Operand}{n m:Int},foldInts (fun x y=>if y<x then y else x) k n (xs.map s.eval)=some m →
  ((xs.map a.eval).foldlM Builtin.min2 (.int k n)).run P w=.ok (.int k m) w
 | [],n,m,he=>by
  simp only[List.map_nil,foldInts,Option.some.injEq] at he;subst he;simp
 | x::xs,n,m,he=>by
  simp only[List.map_cons,foldInts] at he
  split at he
  · rename_i k' y hy
    split at he
    · rename_i hk;subst hk;simp only[List.map_cons,List.foldlM_cons,h.evalInt hy,Builtin.min2,pure_bind];exact zNS h he
    · simp at he
  · simp at he
theorem jL {ob:Objs}{l:List Nat}(h:fresh ob l=true):l.Nodup∧∀ o∈l,ob o=none:=by
 simp only[fresh,Bool.and_eq_true,decide_eq_true_eq,List.all_eq_true,Option.isNone_iff_eq_none] at h;exact h
theorem zBE {ob:Objs}{o:Nat}{x:Obj}(h:fresh ob ([(o,x)].map (·.1))=true):ob o=none:=(jL h).2 o (by simp)
theorem zLe (hE:EnvTy P E) (h:Inv w0 X Y0 fix s ρ col a w) {fd:FD}{dst:Option Nat}(hf:apart dst.toList (fix.map (·.1))=true) {d:Nat}{o:Oper}{e:Eff}
  (he:step1 E fd s d o.op=some e) (hok:e.ok=true) (hfr:fresh s.ob (e.nw.map (·.1))=true):
  Does P w0 X Y0 fix s dst e a ((execOp a.eval o).run P w):=by
 obtain⟨type,op,rest⟩:∃ t op,o.op=op∧o.type=t:=⟨_,_,rfl,rfl⟩;obtain⟨ho,hty⟩:=rest;rw[ho] at he
 cases op with
 | move x=>
  simp only[step1] at he;simp only[execOp,ho]
  split at he
  · simp at he
  · rename_i v hv;simp only[Option.some.injEq] at he;subst he;obtain⟨g1,g2⟩:=h.eval x hv;exact Does.same h hf rfl rfl (.inr ⟨g1,g2⟩) (by simp)
 | assign x=>
  simp only[step1] at he;simp only[execOp,ho]
  split at he
  · simp only[Option.some.injEq] at he;subst he;exact Does.same (x:=.pointer none) h hf rfl rfl (.inl rfl) (by first | (simp;done) | (simp;rfl) | rfl)
  · split at he
    · simp at he
    · rename_i v hv;simp only[Option.some.injEq] at he;subst he;obtain⟨g1,g2⟩:=h.eval x hv;exact Does.same h hf rfl rfl (.inr ⟨g1,g2⟩) (by simp)
 | pick c x y=>
  simp only[step1] at he;simp only[execOp,ho]
  split at he
  · rename_i t ht;have hc:=h.evalBool ht
    cases t with
    | true=>
     simp only at he
     split at he
     · simp at he
     · rename_i v hv;simp only[Option.some.injEq] at he;subst he;obtain⟨g1,g2⟩:=h.eval x hv;exact Does.same h hf rfl rfl (.inr ⟨g1,g2⟩) (by simp[hc,asBool])
    | false=>
     simp only at he
     split at he
     · simp at he
     · rename_i v hv;simp only[Option.some.injEq] at he;subst he;obtain⟨g1,g2⟩:=h.eval y hv;exact Does.same h hf rfl rfl (.inr ⟨g1,g2⟩) (by simp[hc,asBool])
  · simp at he
 | alloc T=>
  simp only[step1] at he;simp only[execOp,ho]
  split at he
  · rename_i t ht;simp only[Option.some.injEq] at he;subst he;obtain⟨i,hi,hz,hs,_,hc1,_⟩:=(hE T _ ht).base
    refine Does.newBox h hf (zBE hfr) (zQ7 t _ _) ?_ T (zq ?_)
    · have:=(jS ρ (hE T _ ht) w false (fun _=>True)).len;omega
    · rw[zLJ t ρ (fun _=>⟨none,0,0⟩),← zR];simp[Instr.alloc,kI hi hz,newVar,newRow]
  · simp at he
 | box T x=>
  simp only[step1] at he;simp only[execOp,ho]
  split at he
  · rename_i t u ht hu
    split at he
    · rename_i hfit;simp only[Option.some.injEq] at he;subst he;obtain⟨i,hi,hz,hs,_,hc1,_⟩:=(hE T _ ht).base;obtain⟨g1,g2⟩:=h.evalW hu;have:=W.fits_len hfit g1;refine Does.newBox h hf (zBE hfr) g1 (by omega) T (zq ?_);rw[g2,← zR];simp[Instr.box,newVar,newRow]
    · simp at he
  · simp at he
 | build T parts=>
  simp only[step1] at he;simp only[execOp,ho]
  split at he
  · rename_i t ht
    split at he
    · rename_i u hu;simp only[pure1,Option.some.injEq] at he;subst he;obtain⟨g1,g2⟩:=zLj hE h ht hu;exact Does.sameW h hf g1 (zq g2)
    · simp at he
  · simp at he
 | buildSlice T len parts=>
  simp only[step1] at he;simp only[execOp,ho]
  split at he
  · rename_i t ht
    split at he
    · rename_i xs us hx
      split at he
      · rename_i hc
        split at he
        · rename_i hfl;simp only[Option.some.injEq] at he;subst he;exact zGl hE h hf (zBE hfr) ht hfl hx hc.1 hc.2
        · simp only[Option.some.injEq] at he;subst he;exact zED hE h hf (zBE hfr) ht hx hc.1 hc.2
      · simp at he
    · simp at he
  · simp at he
 | load T x=>
  simp only[step1] at he;simp only[execOp,ho]
  split at he
  · rename_i c hc;obtain⟨g1,g2⟩:=h.evalCell hc;obtain⟨n1,n2⟩:=jL hfr;rw[g2];exact zOE hE h hf he g1 n1 (fun p hp=>n2 _ (List.mem_map_of_mem hp))
  · simp at he
 | store T x y=>
  simp only[step1] at he;simp only[execOp,ho]
  split at he
  · rename_i c u hc hu;obtain⟨g1,g2⟩:=h.evalCell hc;obtain⟨k1,k2⟩:=h.evalW hu;rw[g2,k2];exact zLg hE h hf he g1 k1
  · simp at he
 | nilCheck x=>
  simp only[step1] at he;simp only[execOp,ho]
  split at he
  · rename_i oo i es j hv;simp only[Option.some.injEq] at he;subst he;obtain⟨g1,g2⟩:=h.eval x (by rw[hv];simp);rw[hv] at g1 g2;have g1':=g1;obtain⟨_,⟨b,off,q2⟩,_⟩:=g1';refine Does.sameW (u:=.c (.ptr oo i es j)) h hf g1 ?_;rw[g2];simp[vval,wval,cval,zBK q2]
  · rename_i f caps hv;simp only[Option.some.injEq] at he;subst he;obtain⟨g1,g2⟩:=h.eval x (by rw[hv];simp);rw[hv] at g1 g2;refine Does.same h hf rfl rfl (.inr ⟨g1,rfl⟩) ?_;rw[g2];simp[vval]
  · simp at he
 | binOp op T x y T'=>
  simp only[step1] at he;simp only[execOp,ho]
  split at he
  · rename_i u v hu hv
    split at he
    · rename_i ok r hr;simp only[Option.some.injEq] at he;subst he;obtain⟨g1,g2⟩:=h.evalW hu;obtain⟨k1,k2⟩:=h.evalW hv;obtain⟨m1,m2⟩:=zI2 hE hr hok g1 k1 x y w;rw[g2,k2];exact Does.sameW h hf m1 (zq m2)
    · simp at he
  · simp at he
 | unOp op T x=>
  simp only[step1] at he;simp only[execOp,ho]
  split at he
  · rename_i k n hu;simp only[pure1,Option.some.injEq] at he;subst he;obtain⟨g1,g2⟩:=h.evalW hu;rw[g2];exact Does.sameW (u:=.c (.int k (k.wrap (0-n)))) h hf trivial (zq (by simp[wval,cval,Op.unary,Op.intArith]))
  · rename_i b hu;simp only[pure1,Option.some.injEq] at he;subst he;obtain⟨g1,g2⟩:=h.evalW hu;rw[g2];exact Does.sameW (u:=.c (.bool !b)) h hf trivial (zq (by simp[wval,cval,Op.unary]))
  · simp at he
 | convert src dd x=>
  simp only[step1] at he;simp only[execOp,ho]
  split at he
  · rename_i k1 k2 k3 n hs hd hu;simp only[pure1,Option.some.injEq] at he;subst he;obtain⟨g1,g2⟩:=h.evalW hu;rw[g2];refine Does.sameW (u:=.c (.int k2 (k2.wrap n))) h hf trivial (zq ?_);simp[wval,cval,convert,run_underlying (hE _ _ hs).2,run_underlying (hE _ _ hd).2,Conv.intToInt]
  · simp at he
 | makeFunc fn first captured=>
  cases fn with
  | func f=>
   simp only[step1] at he;simp only[execOp,ho]
   split at he
   · rename_i ws hws
     split at he
     · rename_i hfi;simp only[Option.some.injEq] at he;subst he;have hfi:first=#[]:=by simpa using hfi
       subst hfi;have key:∀ (l:List Operand) (ws:List W),l.map s.eval=ws.map V.w→(∀ x∈ws,wfW s.ob ρ x)∧l.map a.eval=ws.map (wval ρ):=by
        intro l
        induction l with
        | nil=>intro ws hl;cases ws<;>simp_all
        | cons x l ih=>
         intro ws hl
         cases ws with
         | nil=>simp at hl
         | cons u ws=>
          simp only[List.map_cons,List.cons.injEq] at hl;obtain⟨i1,i2⟩:=ih ws hl.2;obtain⟨g1,g2⟩:=h.evalW (x:=x) (u:=u) (by rw[hl.1];rfl);refine⟨fun y hy=>?_,by simp[i2,g2]⟩
          rcases List.mem_cons.1 hy with rfl | hy
          · exact g1
          · exact i1 y hy
       obtain⟨g1,g2⟩:=key _ _ (zLG hws);refine Does.same h hf rfl rfl (.inr ⟨(show wfV s.ob ρ (.fn f ws) from g1),rfl⟩) (zq ?_);have:captured.map a.eval=(ws.map (wval ρ)).toArray:=by rw[← g2];apply Array.toList_inj.1;simp
       simp[Instr.makeFunc,vval,this]
     · simp at he
   · simp at he
  | _=>simp[step1] at he
 | makeSlice T l c=>
  simp only[step1] at he;simp only[execOp,ho]
  split at he
  · rename_i t k n k' n' ht hl hc;simp only[Option.some.injEq] at he;subst he;simp only[Bool.and_eq_true,decide_eq_true_eq,beq_iff_eq] at hok;obtain⟨⟨⟨⟨h0,h1⟩,rfl⟩,_⟩,_⟩:=hok;rw[h.evalInt hl,h.evalInt hc];exact zHL hE h hf (zBE hfr) ht h0 h1
  · simp at he
 | slice T x lo hi mx=>
  cases mx with
  | none=>
   simp only[step1] at he;simp only[execOp,ho]
   split at he
   · rename_i t u l hh ht hu hl hhi;obtain⟨g1,g2⟩:=h.evalW hu;rw[g2];have hid:s.ob (idOf d)=none:=by
      refine (jL hfr).2 _ ?_;unfold sliceE at he
      split at he
      · split at he
        · split at he
          · simp only[Option.some.injEq] at he;subst he;simp
          · simp at he
        · simp only[Option.some.injEq] at he;subst he;simp
      · simp at he
     exact zLh hE h hf hid ht g1 (h.bound hl) (h.bound hhi) he hok
   · rename_i k m oo ht hu hl hhi;obtain⟨g1,g2⟩:=h.evalW hu;have hlo:lo=none:=by
      cases lo with
      | none=>rfl
      | some y=>simp only[Option.map_some,bound] at hl;split at hl<;>simp at hl
     have hhi':hi=none:=by
      cases hi with
      | none=>rfl
      | some y=>simp only[Option.map_some,bound] at hhi;split at hhi<;>simp at hhi
     subst hlo;subst hhi';rw[g2];have hid:s.ob (idOf d)=none:=by
      refine (jL hfr).2 _ ?_;unfold viewE at he
      split at he
      · split at he
        · simp only[Option.some.injEq] at he;subst he;simp
        · simp at he
      · simp at he
     exact zOD hE h hf hid ht g1 he
   · simp at he
  | some m=>simp[step1] at he
 | fieldAddr T x f=>
  simp only[step1] at he;simp only[execOp,ho]
  split at he
  · rename_i t oo i es j ht hu
    split at he
    · rename_i n u hn
      split at he
      · rename_i hp;simp only[Option.some.injEq] at he;subst he;obtain⟨g1,g2⟩:=zHM hE h ht hu hn hp;exact Does.sameW h hf g1 (zq g2)
      · simp at he
    · simp at he
  · simp at he
 | field T x f=>
  simp only[step1] at he;simp only[execOp,ho]
  split at he
  · rename_i t cs ht hu
    split at he
    · rename_i n u hn
      split at he
      · rename_i c hc
        split at he
        · simp only[pure1,Option.some.injEq] at he;subst he;obtain⟨g1,g2⟩:=zLi hE h ht hu hn hc;exact Does.sameW h hf g1 (zq g2)
        · simp at he
      · simp at he
    · simp at he
  · simp at he
 | indexAddr T x y=>
  simp only[step1] at he;simp only[execOp,ho]
  split at he
  · rename_i t oo k n ht hu hy
    split at he
    · rename_i m xs hr;simp only[Option.some.injEq] at he;subst he;simp only[Bool.and_eq_true,decide_eq_true_eq] at hok;obtain⟨g1,g2⟩:=zC7 hE h ht hu hy hr hok.1 hok.2;exact Does.sameW h hf g1 (zq g2)
    · simp at he
  · rename_i k m oo i es k' n ht hu hy
    split at he
    · rename_i hp;simp only[Option.some.injEq] at he;subst he;simp only[Bool.and_eq_true,decide_eq_true_eq] at hok;obtain⟨_,⟨el,q1,_,q2⟩,_⟩:=hE T _ ht;obtain⟨g1,g2⟩:=zA3 h q1 q2 rfl hu hy hp hok.1 hok.2;exact Does.sameW h hf g1 (zq g2)
    · simp at he
  · rename_i m oo i es k' n ht hu hy
    split at he
    · rename_i hp;simp only[Option.some.injEq] at he;subst he;simp only[Bool.and_eq_true,decide_eq_true_eq] at hok;obtain⟨_,el,q1,_,q2⟩:=hE T _ ht;obtain⟨g1,g2⟩:=zA3 h q1 q2 rfl hu hy hp hok.1 hok.2;exact Does.sameW h hf g1 (zq g2)
    · simp at he
  · simp at he
 | index T x y=>
  simp only[step1] at he;simp only[execOp,ho]
  split at he
  · rename_i bs;unfold strE at he
    split at he
    · rename_i hT
      split at he
      · rename_i k n hy;simp only[Option.some.injEq] at he;subst he;simp only[Bool.and_eq_true,decide_eq_true_eq] at hok;rw[h.evalInt hy];exact Does.sameW (u:=.c (.int .u8 ((bs.data.toList.getD n.toNat 0).toNat:Int))) h hf trivial (zq (zJM (hE.str T hT) bs k n hok.1 hok.2 w))
      · simp at he
    · simp at he
  · split at he
    · rename_i k m k' m' xs k2 n ht hu hy
      split at he
      · rename_i hk;obtain⟨rfl,rfl⟩:=hk;simp only[Option.some.injEq] at he;subst he;simp only[Bool.and_eq_true,decide_eq_true_eq] at hok;obtain⟨_,⟨el,q1,_,q2⟩,_⟩:=hE T _ ht;obtain⟨g1,g2⟩:=h.evalW hu;have hl:xs.length=m':=g1;rw[g2,h.evalInt hy];refine Does.sameW (u:=.c (.int k' (xs.getD n.toNat 0))) h hf trivial (zq (zE0 q1 q2 k2 n hok.1 hok.2 ?_ w));have:=zNO (k:=k') xs n.toNat (by omega);simpa[wcells,wval,cval] using this
      · simp at he
    · rename_i m m' xs k2 n ht hu hy
      split at he
      · rename_i hk;subst hk;simp only[Option.some.injEq] at he;subst he;simp only[Bool.and_eq_true,decide_eq_true_eq] at hok;obtain⟨_,el,q1,_,q2⟩:=hE T _ ht;obtain⟨g1,g2⟩:=h.evalW hu;have hl:xs.length=m':=g1;rw[g2,h.evalInt hy];refine Does.sameW (u:=.c (.bool (xs.getD n.toNat false))) h hf trivial (zq (zE0 q1 q2 k2 n hok.1 hok.2 ?_ w));have hn:n.toNat<xs.length:=by omega
        simp[wcells,wval,cval,List.getElem?_eq_getElem hn,List.getD_eq_getElem?_getD]
      · simp at he
    · simp at he
 | extract x i=>
  simp only[step1] at he;simp only[execOp,ho]
  split at he
  · rename_i vs hv
    split at he
    · rename_i u hu;simp only[pure1,Option.some.injEq] at he;subst he;obtain⟨g1,g2⟩:=h.eval x (by rw[hv];simp);rw[hv] at g1 g2;refine Does.sameW h hf (g1 u (List.mem_of_getElem? hu)) (zq ?_);rw[g2];simp[vval,Instr.extract,hu]
    · simp at he
  · simp at he
 | call c=>
  obtain⟨callee,args,argTypes⟩:=c
  cases callee with
  | builtin b=>
   simp only[step1] at he;simp only[execOp,ho,resolve]
   split at he
   · rename_i x T hx hT;have hxa:args=#[x]:=by apply Array.toList_inj.1;simpa using hx
     have hTa:argTypes=#[T]:=by apply Array.toList_inj.1;simpa using hT
     subst hxa;subst hTa
     split at he
     · rename_i t u ht hu
       split at he
       · rename_i us xs hs;simp only[Option.some.injEq] at he;subst he;obtain⟨addr,cap,m,e1,_⟩:=h.slice hs;obtain⟨_,el,q1,_⟩:=hE T _ ht;refine Does.sameW (u:=.c (.int .i64 (xs.length:Int))) h hf trivial ?_;have:=zEz (P:=P) (w:=w) q1 o.type addr xs.length cap;have er:=(h.evalW hu).2.trans e1;show _=Result.ok (Next.value (.int .i64 xs.length)) w;simp[invoke,builtin,er,this]
       · simp at he
     · rename_i k m ht;simp only[pure1,Option.some.injEq] at he;subst he;obtain⟨_,⟨el,q1,_⟩,_⟩:=hE T _ ht;refine Does.sameW (u:=.c (.int .i64 (m:Int))) h hf trivial ?_;have:=zLm (P:=P) (w:=w) q1 o.type (a.eval x);simp[invoke,builtin,this,wval,cval]
     · simp at he
   · rename_i x y T T' hx hT;have hxa:args=#[x,y]:=by apply Array.toList_inj.1;simpa using hx
     have hTa:argTypes=#[T,T']:=by apply Array.toList_inj.1;simpa using hT
     subst hxa;subst hTa
     split at he
     · rename_i t t' u v ht ht' hu hv
       split at he
       · rename_i htt;subst htt;unfold appendE at he
         split at he
         · rename_i us xs vs ys h1 h2
           split at he
           · rename_i hc;simp only[Bool.and_eq_true] at hc;obtain⟨hus,hdd⟩:=hc;have hdis:∀ p∈us,∀ q∈vs,q.1≠p.1:=by
              intro p hp q hq e;have:=List.all_eq_true.1 hdd p.1 (List.mem_map_of_mem hp);simp only[Bool.not_eq_true',List.contains_eq_mem,decide_eq_false_iff_not] at this;exact this (by rw[← e];exact List.mem_map_of_mem hq)
             obtain⟨_,el,q1,q2⟩:=hE T _ ht;obtain⟨_,el',q1',_⟩:=hE T' _ ht';obtain⟨g1,g2⟩:=h.evalW hu;obtain⟨k1,k2⟩:=h.evalW hv;obtain⟨addr,cap,m,ea,_⟩:=h.slice h1;obtain⟨ti,hti,_⟩:=q2.base
             split at he
             · rename_i hfl;simp only[Option.some.injEq] at he;subst he;have:=zKD (P:=P) (ty:=o.type) hE h hf (zBE hfr) ht hfl g1 k1 h1 h2 hus (by simpa using hok) (ok:=decide (xs.length+ys.length≤lim)) (rd:=us.map (·.1)++vs.map (·.1));refine Does.congr this ?_;simp[invoke,builtin,g2,k2,ea,zGh q1 hti q1']
             · simp only[Option.some.injEq] at he;subst he;have:=zHN (P:=P) (ty:=o.type) hE h hf (zBE hfr) ht h1 h2 hus hdis (by simpa using hok) (ok:=decide (xs.length+ys.length≤lim)) (rd:=us.map (·.1)++vs.map (·.1));refine Does.congr this ?_;simp[invoke,builtin,g2,k2,ea,zGh q1 hti q1']
           · simp at he
         · simp at he
       · simp at he
     · simp at he
   · rename_i x r hx;have hxa:args=(x::r).toArray:=by apply Array.toList_inj.1;simpa using hx
     subst hxa
     split at he
     · rename_i k n hn
       split at he
       · rename_i m hm;simp only[pure1,Option.some.injEq] at he;subst he;refine Does.sameW (u:=.c (.int k m)) h hf trivial ?_;have:=zNT (P:=P) h hm;simp[invoke,builtin,Builtin.max_,h.evalInt hn,this,wval,cval]
       · simp at he
     · simp at he
   · rename_i x r hx;have hxa:args=(x::r).toArray:=by apply Array.toList_inj.1;simpa using hx
     subst hxa
     split at he
     · rename_i k n hn
       split at he
       · rename_i m hm;simp only[pure1,Option.some.injEq] at he;subst he;refine Does.sameW (u:=.c (.int k m)) h hf trivial ?_;have:=zNS (P:=P) h hm;simp[invoke,builtin,Builtin.min_,h.evalInt hn,this,wval,cval]
       · simp at he
     · simp at he
   · simp at he
  | _=>simp[step1] at he
 | _=>simp[step1] at he
end
end Go.Ev
namespace Go.Ev
def stepO (E:Env) (fd:FD) (call:Oracle) (s:St) (d:Nat) (op:Op):Option Eff:=stepK E fd call s d op some
theorem zOc {α:Type}(E:Env) (call:Oracle) (s:St) (d:Nat) (f:FuncId) (args:List V) (k:Eff→Option α):
  callK E call s d f args k=(callK E call s d f args some).bind k:=by
 unfold callK
 split
 · split
   · split
     · split
       · cases call _ _<;>rfl
       · rfl
     · rfl
   · rfl
 · rfl
theorem zOC {α:Type}(E:Env) (fd:FD) (call:Oracle) (s:St) (d:Nat) (op:Op) (k:Eff→Option α):
  stepK E fd call s d op k=(stepO E fd call s d op).bind k:=by
 unfold stepO;have other:∀ {e:Option Eff},(match e with | some e=>cond e.ok (k e) none | none=>none)=(match e with | some e=>cond e.ok (some e) none | none=>none).bind k:=by
  intro e
  cases e with
  | none=>rfl
  | some e=>cases h:e.ok<;>simp[h]
 unfold stepK
 split
 · split
   · split
     · split
       · exact other
       · rfl
     · exact zOc ..
   · rfl
 · exact other
def opO (E:Env) (fd:FD) (call:Oracle) (s:St) (o:Oper):Option Eff:=
 (stepO E fd call s (o.dst.getD 0) o.op).bind fun e=>if fresh s.ob (e.nw.map (·.1)) then some e else none
theorem zRe {α:Type}(E:Env) (fd:FD) (call:Oracle) (o:Oper) (s:St) (l:Log) (k:St→Log→Option α):
  opK E fd call o s l k=(opO E fd call s o).bind fun e=>k (s.put o.dst e) ((e.rd,e.wr.map (·.1)++e.nw.map (·.1))::l):=by
 unfold opK opO;rw[zOC]
 cases stepO E fd call s (o.dst.getD 0) o.op with
 | none=>rfl
 | some e=>
  simp only[Option.bind_some];split<;>rfl
def wants (ops:Array Oper) (s:St) (o:Oper):Option Bool:=
 match o.guard with
 | none=>some true
 | some (j,want)=>match (ops[j]?).bind (·.dst) with
  | some t=>match (s.tm.getD t .undef).guard? with
   | some none=>some false
   | some (some b)=>some (b==want)
   | none=>none
  | none=>none
theorem zIj {v:V}{b:Bool}(h:v.guard?=some (some b)):v=.w (.c (.bool b)):=by
 unfold V.guard? at h
 split at h
 · simp only[Option.some.injEq] at h;rw[h]
 · simp at h
 · simp at h
theorem zOT {v:V}(h:v.guard?=some none):v=.tup []:=by
 unfold V.guard? at h
 split at h
 · simp at h
 · rfl
 · simp at h
theorem zNJ {s:St}{t:Nat}{b:Bool}(h:(s.tm.getD t .undef).guard?=some (some b)):s.lit t b=s:=by
 have e:=zIj h;unfold St.lit;have:s.tm.set t (.w (.c (.bool b)))=s.tm:=by
  apply List.ext_getElem?;intro i;rw[List.getElem?_set]
  split
  · rename_i hti;subst hti
    split
    · rename_i hl;rw[List.getD_eq_getElem?_getD,List.getElem?_eq_getElem hl] at e;simp only[Option.getD_some] at e;rw[List.getElem?_eq_getElem hl,e]
    · rename_i hl;rw[List.getElem?_eq_none (by omega)]
  · rfl
 rw[this]
def outO (E:Env) (fd:FD) (call:Oracle) (ops:Array Oper) (s:St) (o:Oper):Option (Option Eff):=
 if apart o.dst.toList (fixedGo fd.sig.params 0) then
  match wants ops s o with
  | some true=>(opO E fd call s o).map some
  | some false=>some none
  | none=>none
 else none
def putO (s:St) (o:Oper):Option Eff→St
 | some e=>s.put o.dst e
 | none=>s.skip o.dst
def logO:Option Eff→List Nat×List Nat
 | some e=>(e.rd,e.wr.map (·.1)++e.nw.map (·.1))
 | none=>([],[])
theorem zPj {α:Type}(E:Env) (fd:FD) (call:Oracle) (ops:Array Oper) (o:Oper) (r:List Oper) (s:St) (l:Log) (k:St→Log→Option α):
  opsK E fd call ops (o::r) s l k=(outO E fd call ops s o).bind fun x=>opsK E fd call ops r (putO s o x) (logO x::l) k:=by
 have run:∀ (s:St),(opK E fd call o s l fun s l=>opsK E fd call ops r s l k)=((opO E fd call s o).map some).bind fun x=>opsK E fd call ops r (putO s o x) (logO x::l) k:=by
  intro s;rw[zRe]
  cases opO E fd call s o<;>rfl
 by_cases hap:apart o.dst.toList (fixedGo fd.sig.params 0)=true
 case neg=>simp only[opsK,outO,if_neg hap,Option.bind_none]
 cases hg:o.guard with
 | none=>
  simp only[opsK,outO,wants,hg,if_pos hap];exact run s
 | some g=>
  obtain⟨j,want⟩:=g;simp only[opsK,outO,wants,hg,if_pos hap]
  cases ht:(ops[j]?).bind (·.dst) with
  | none=>rfl
  | some t=>
   simp only
   cases hb:(s.tm.getD t .undef).guard? with
   | none=>rfl
   | some b=>
    cases b with
    | none=>rfl
    | some b=>
     cases want<;>cases b<;>simp only[cond,zNJ hb]
     · exact run s
     · rfl
     · rfl
     · exact run s
inductive Trace (E:Env) (fd:FD) (call:Oracle) (ops:Array Oper):List Oper→St→List (Option Eff)→St→Prop where
 | nil (s:St):Trace E fd call ops [] s [] s
 | cons {o:Oper}{r:List Oper}{s s':St}{x:Option Eff}{xs:List (Option Eff)}(h:outO E fd call ops s o=some x) (t:Trace E fd call ops r (putO s o x) xs s'):Trace E fd call ops (o::r) s (x::xs) s'
theorem zIh {α:Type}{E:Env}{fd:FD}{call:Oracle}{ops:Array Oper}{k:St→Log→Option α}{res:α}:∀ (r:List Oper) (s:St) (l:Log),opsK E fd call ops r s l k=some res →
  ∃ xs s',Trace E fd call ops r s xs s'∧k s' ((xs.map logO).reverse++l)=some res
 | [],s,l,h=>⟨[],s,.nil s,h⟩
 | o::r,s,l,h=>by
  rw[zPj] at h
  cases hx:outO E fd call ops s o with
  | none=>rw[hx] at h;simp at h
  | some x=>
   rw[hx] at h;simp only[Option.bind_some] at h;obtain⟨xs,s',h1,h2⟩:=zIh r _ _ h;exact⟨x::xs,s',.cons hx h1,by simpa using h2⟩
end Go.Ev
namespace Go.Ev
theorem zBN {f:Objs}{id:Nat}:∀ {l:List (Nat×Obj)},id∉l.map (·.1)→f.upds l id=f id
 | [],_=>rfl
 | (o,x)::r,h=>by
  simp only[List.map_cons,List.mem_cons,not_or] at h;simp only[Objs.upds];rw[zBN h.2];simp[Objs.upd,h.1]
theorem zFe {f g:Objs}{id:Nat}(h:f id=g id):∀ {l:List (Nat×Obj)},f.upds l id=g.upds l id
 | []=>h
 | (o,x)::r=>by
  simp only[Objs.upds];refine zFe ?_;simp only[Objs.upd]
  split
  · rfl
  · exact h
theorem zMw {f g:Objs}{id:Nat}:∀ {l:List (Nat×Obj)},id∈l.map (·.1)→f.upds l id=g.upds l id
 | (o,x)::r,h=>by
  simp only[Objs.upds]
  by_cases hr:id∈r.map (·.1)
  · exact zMw hr
  · simp only[List.map_cons,List.mem_cons] at h;rw[zBN hr,zBN hr];simp[Objs.upd,h.resolve_right hr]
theorem zJ7 {f:Objs}{id:Nat}(h:f id≠none):∀ {l:List (Nat×Obj)},f.upds l id≠none
 | []=>h
 | (o,x)::r=>by
  simp only[Objs.upds];refine zJ7 ?_;simp only[Objs.upd]
  split
  · simp
  · exact h
theorem zEA {f:Objs}{id:Nat}:∀ {l:List (Nat×Obj)},id∈l.map (·.1)→f.upds l id≠none
 | (o,x)::r,h=>by
  simp only[Objs.upds]
  by_cases hr:id∈r.map (·.1)
  · exact zEA hr
  · simp only[List.map_cons,List.mem_cons] at h;rw[zBN hr];simp[Objs.upd,h.resolve_right hr]
theorem zO8 {f:Objs}{l m:List (Nat×Obj)}(h:∀ id,id∈l.map (·.1)→id∉m.map (·.1)):(f.upds l).upds m=(f.upds m).upds l:=by
 funext id
 by_cases h1:id∈l.map (·.1)
 · rw[zBN (h id h1)];exact zMw h1
 · rw[zBN h1];exact zFe (zBN h1)
theorem zPb {s:St}{o:Oper}{x:Option Eff}{t:Nat}(h:o.dst≠some t):(putO s o x).tm[t]?=s.tm[t]?:=by
 cases x<;>cases hd:o.dst<;>simp only[putO,St.put,St.skip,setO,hd]
 · rename_i d;have:d≠t:=by intro e;exact h (by rw[hd,e])
   rw[List.getElem?_set_ne this]
 · rename_i d;have:d≠t:=by intro e;exact h (by rw[hd,e])
   rw[List.getElem?_set_ne this]
theorem zPc {s:St}{o:Oper}{x:Option Eff}{id:Nat}(h:id∉(logO x).2):(putO s o x).ob id=s.ob id:=by
 cases x with
 | none=>rfl
 | some e=>exact zBN (by simpa[logO] using h)
theorem zOG {l l':List V}{dst:Option Nat}{v:V}{t:Nat}(h:l[t]?=l'[t]?):(setO l dst v)[t]?=(setO l' dst v)[t]?:=by
 cases dst with
 | none=>exact h
 | some d=>
  simp only[setO,List.getElem?_set]
  split
  · rename_i hd;subst hd
    by_cases h1:d<l.length
    · have h2:d<l'.length:=by
       rw[List.getElem?_eq_getElem h1] at h;exact (List.getElem?_eq_some_iff.1 h.symm).1
      rw[if_pos h1,if_pos h2]
    · have h2:¬ d<l'.length:=by
       intro h2;rw[List.getElem?_eq_getElem h2] at h;exact h1 (List.getElem?_eq_some_iff.1 h).1
      rw[if_neg h1,if_neg h2]
  · exact h
theorem zJO {s s':St}{o:Oper}{x:Option Eff}{t:Nat}(h:s.tm[t]?=s'.tm[t]?):(putO s o x).tm[t]?=(putO s' o x).tm[t]?:=by
 cases x<;>exact zOG h
theorem zJP {s s':St}{o:Oper}{x:Option Eff}{id:Nat}(h:s.ob id=s'.ob id):(putO s o x).ob id=(putO s' o x).ob id:=by
 cases x with
 | none=>exact h
 | some e=>exact zFe h
theorem zEy {l:List V}{d d':Option Nat}{v v':V}(h:∀ t,d=some t→d'≠some t):setO (setO l d v) d' v'=setO (setO l d' v') d v:=by
 cases d with
 | none=>rfl
 | some t=>
  cases d' with
  | none=>rfl
  | some t'=>
   have:t≠t':=by intro e;exact h t rfl (by rw[e])
   simp only[setO,List.set_comm _ _ this]
theorem zPd {s:St}{o p:Oper}{x y:Option Eff}(h:∀ t,o.dst=some t→p.dst≠some t) (h2:∀ id,id∈(logO x).2→id∉(logO y).2):
  putO (putO s o x) p y=putO (putO s p y) o x:=by
 cases x with
 | none=>cases y with
  | none=>simp only[putO,St.skip,zEy h]
  | some e=>simp only[putO,St.skip,St.put,zEy h]
 | some e=>cases y with
  | none=>simp only[putO,St.skip,St.put,zEy h]
  | some e'=>
   simp only[putO,St.put,zEy h];rw[zO8];intro id h3 h4;exact h2 id (by simpa[logO] using h3) (by simpa[logO] using h4)
def pre (ops:Array Oper) (xs:List (Option Eff)) (s0:St) (A:Nat→Bool):Nat→St
 | 0=>s0
 | m+1=>match A m,ops[m]?,xs[m]? with
  | true,some o,some x=>putO (pre ops xs s0 A m) o x
  | _,_,_=>pre ops xs s0 A m
section
variable {E:Env}{fd:FD}{call:Oracle}{ops:Array Oper}{xs:List (Option Eff)}{s0:St}
theorem zSm {A B:Nat→Bool}{t:Nat}:∀ (m:Nat),(∀ j<m,A j≠B j→∀ o,ops[j]?=some o→o.dst≠some t)→(pre ops xs s0 A m).tm[t]?=(pre ops xs s0 B m).tm[t]?
 | 0,_=>rfl
 | m+1,h=>by
  have ih:=zSm m (fun j hj=>h j (by omega));simp only[pre]
  cases ho:ops[m]? with
  | none=>cases A m<;>cases B m<;>exact ih
  | some o=>
   cases hx:xs[m]? with
   | none=>cases A m<;>cases B m<;>exact ih
   | some x=>
    cases hA:A m<;>cases hB:B m<;>simp only
    · exact ih
    · rw[zPb (h m (by omega) (by rw[hA,hB];simp) o ho)];exact ih
    · rw[zPb (h m (by omega) (by rw[hA,hB];simp) o ho)];exact ih
    · exact zJO ih
theorem zSn {A B:Nat→Bool}{id:Nat}:∀ (m:Nat),(∀ j<m,A j≠B j→∀ x,xs[j]?=some x→id∉(logO x).2)→(pre ops xs s0 A m).ob id=(pre ops xs s0 B m).ob id
 | 0,_=>rfl
 | m+1,h=>by
  have ih:=zSn m (fun j hj=>h j (by omega));simp only[pre]
  cases ho:ops[m]? with
  | none=>cases A m<;>cases B m<;>exact ih
  | some o=>
   cases hx:xs[m]? with
   | none=>cases A m<;>cases B m<;>exact ih
   | some x=>
    cases hA:A m<;>cases hB:B m<;>simp only
    · exact ih
    · rw[zPc (h m (by omega) (by rw[hA,hB];simp) x hx)];exact ih
    · rw[zPc (h m (by omega) (by rw[hA,hB];simp) x hx)];exact ih
    · exact zJP ih
theorem zGs {A B:Nat→Bool}:∀ (m:Nat),(∀ j<m,A j=B j)→pre ops xs s0 A m=pre ops xs s0 B m
 | 0,_=>rfl
 | m+1,h=>by simp only[pre,zGs m (fun j hj=>h j (by omega)),h m (by omega)]
theorem zJR {A:Nat→Bool}{i:Nat}:∀ (m:Nat),i≤m→(∀ j,i≤j→A j=false)→pre ops xs s0 A m=pre ops xs s0 A i
 | 0,h,_=>by rw[Nat.le_zero.1 h]
 | m+1,h,hA=>by
  by_cases e:i=m+1
  · rw[e]
  · simp only[pre,hA m (by omega)];exact zJR m (by omega) hA
def Indep (ops:Array Oper) (xs:List (Option Eff)) (i j:Nat):Prop:=
 ∀ o p x y,ops[i]?=some o→ops[j]?=some p→xs[i]?=some x→xs[j]?=some y →
  (∀ t,o.dst=some t→t∉usesOf ops p∧p.dst≠some t)∧(∀ t,p.dst=some t→t∉usesOf ops o) ∧
  (∀ id∈(logO x).2,id∉(logO y).1∧id∉(logO y).2)∧(∀ id∈(logO y).2,id∉(logO x).1)
theorem zIc {A B:Nat→Bool}{i:Nat}{o:Oper}{x:Option Eff}(ho:ops[i]?=some o) (hx:xs[i]?=some x) (hA:A i=false) (hB:B i=true) (hAB:∀ j,j≠i→B j=A j)
  (hI:∀ j,i<j→A j=true→Indep ops xs i j):∀ (m:Nat),i<m→pre ops xs s0 B m=putO (pre ops xs s0 A m) o x
 | 0,h=>by omega
 | m+1,h=>by
  by_cases e:i=m
  · subst e;simp only[pre,hA,hB,ho,hx];rw[zGs i (fun j hj=>hAB j (by omega))]
  · have ih:=zIc ho hx hA hB hAB hI m (by omega);simp only[pre,hAB m (by omega)]
    cases hm:A m with
    | false=>simpa using ih
    | true=>
     cases hp:ops[m]? with
     | none=>simpa using ih
     | some p=>
      cases hy:xs[m]? with
      | none=>simpa using ih
      | some y=>
       simp only[ih];obtain⟨h1,h2,h3,h4⟩:=hI m (by omega) hm o p x y ho hp hx hy;exact zPd (fun t ht=>(h1 t ht).2) (fun id hid=>(h3 id hid).2)
theorem zPC {r:List Oper}{s s':St}{zs:List (Option Eff)}(t:Trace E fd call ops r s zs s'):∀ (po:List Oper) (px:List (Option Eff)),ops.toList=po++r→po.length=px.length →
  s=pre ops (px++zs) s0 (fun _=>true) po.length →
  (px++zs).length=ops.size∧s'=pre ops (px++zs) s0 (fun _=>true) ops.size ∧
   ∀ m,po.length≤m→m<ops.size→∃ o x,ops[m]?=some o∧(px++zs)[m]?=some x∧outO E fd call ops (pre ops (px++zs) s0 (fun _=>true) m) o=some x:=by
 induction t with
 | nil s=>
  intro po px hr hl hs;have h1:ops.size=po.length:=by simpa using congrArg List.length hr
  refine⟨by simp;omega,by rw[h1];exact hs,fun m h2 h3=>by omega⟩
 | @cons o r s s' x xs h t ih=>
  intro po px hr hl hs;have hsz:ops.size=po.length+(r.length+1):=by simpa using congrArg List.length hr
  have ho:ops[po.length]?=some o:=by
   rw[← Array.getElem?_toList,hr];simp
  have hx:(px++x::xs)[po.length]?=some x:=by rw[hl];simp
  have e:px++x::xs=(px++[x])++xs:=by simp
  have:=ih (po++[o]) (px++[x]) (by simp[hr]) (by simp[hl]) (by
   rw[← e,List.length_append,List.length_singleton];simp only[pre,ho,hx];rw[hs])
  rw[← e] at this;obtain⟨g1,g2,g3⟩:=this;refine⟨g1,g2,fun m h2 h3=>?_⟩
  by_cases hm:m=po.length
  · subst hm;exact⟨o,x,ho,hx,by rw[← hs];exact h⟩
  · exact g3 m (by simp;omega) h3
end
end Go.Ev
namespace Go.Ev
section
variable {E:Env}{fd:FD}{call:Oracle}{ops:Array Oper}{xs:List (Option Eff)}{s0:St}
theorem zAw {l m:List Nat}(h:apart l m=true):∀ x∈l,x∉m:=by
 intro x hx;simp only[apart,List.all_eq_true,Bool.not_eq_true',List.contains_eq_mem,decide_eq_false_iff_not] at h;exact h x hx
theorem zOS {o p:Oper}{lo lp:List Nat×List Nat}(h:indep ops o p lo lp=true):
  (∀ t,o.dst=some t→t∉usesOf ops p∧p.dst≠some t)∧(∀ t,p.dst=some t→t∉usesOf ops o)∧(∀ id∈lo.2,id∉lp.1∧id∉lp.2)∧(∀ id∈lp.2,id∉lo.1):=by
 simp only[indep,Bool.and_eq_true] at h;obtain⟨⟨⟨h1,h2⟩,h3⟩,h4⟩:=h
 refine⟨fun t ht=>?_,fun t ht=>?_,fun id hid=>?_,fun id hid=>zAw h4 id hid⟩
 · have:=zAw h1 t (by simp[ht]);simp only[List.mem_append,not_or] at this;refine⟨this.1,fun e=>this.2 (by simp[e])⟩
 · exact zAw h2 t (by simp[ht])
 · have:=zAw h3 id hid;simp only[List.mem_append,not_or] at this;exact this
theorem zGc {anc:List (List Nat)}{j:Nat}:∀ (m:Nat),drawAll ops anc (xs.map logO) j m=true→∀ i<m,i∈anc.getD j []∨Indep ops xs i j
 | 0,_,i,h=>by omega
 | m+1,h,i,hi=>by
  simp only[drawAll,Bool.and_eq_true,Bool.or_eq_true,List.contains_eq_mem,decide_eq_true_eq] at h
  by_cases e:i=m
  · subst e
    rcases h.1 with h1 | h1
    · exact .inl h1
    · right;intro o p x y ho hp hx hy;simp only[ho,hp,List.getElem?_map,hx,hy,Option.map_some] at h1;exact zOS h1
  · exact zGc m h.2 i (by omega)
theorem zHu {anc:List (List Nat)}:∀ (n:Nat),drawOk ops anc (xs.map logO) n=true→∀ j<n,∀ i<j,i∈anc.getD j []∨Indep ops xs i j
 | 0,_,j,h=>by omega
 | n+1,h,j,hj=>by
  simp only[drawOk,Bool.and_eq_true] at h
  by_cases e:j=n
  · subst e;exact zGc j h.1
  · exact zHu n h.2 j (by omega)
theorem zJq {S:Nat→Bool}(hS:∀ j o,S j=true→ops[j]?=some o→∀ k∈plainOn o,S k=true):∀ (r po:List Oper) (acc:List (List Nat)),ops.toList=po++r→acc.length=po.length →
  (∀ j,S j=true→∀ i∈acc.getD j [],S i=true)→∀ j,S j=true→∀ i∈(ancGo r acc).getD j [],S i=true
 | [],po,acc,_,_,h=>h
 | o::r,po,acc,hr,hl,h=>by
  simp only[ancGo];refine zJq hS r (po++[o]) _ (by simp[hr]) (by simp[hl]) (fun j hj i hi=>?_);have ho:ops[po.length]?=some o:=by
   rw[← Array.getElem?_toList,hr];simp
  rw[List.getD_eq_getElem?_getD,List.getElem?_append] at hi
  split at hi
  · exact h j hj i (by rwa [List.getD_eq_getElem?_getD])
  · by_cases e:j=acc.length
    · subst e;simp only[Nat.sub_self,List.getElem?_cons_zero,Option.getD_some,List.mem_append,List.mem_flatMap] at hi;rw[hl] at hj
      rcases hi with hi | ⟨k,hk,hi⟩
      · exact hS _ o hj ho i hi
      · exact h k (hS _ o hj ho k hk) i hi
    · rw[List.getElem?_eq_none (by simp;omega)] at hi;simp at hi
theorem zLE:∀ (r:List Oper) (n:Nat),backOk r n=true→∀ k o,r[k]?=some o→∀ j∈plainOn o,j<n+k
 | [],n,_,k,o,h=>by simp at h
 | p::r,n,hb,k,o,h=>by
  simp only[backOk,Bool.and_eq_true,List.all_eq_true,decide_eq_true_eq] at hb
  cases k with
  | zero=>
   simp only[List.getElem?_cons_zero,Option.some.injEq] at h;subst h;exact hb.1
  | succ k=>
   intro j hj;have:=zLE r (n+1) hb.2 k o (by simpa using h) j hj;omega
theorem zU4 {s s':St}{x:Operand}(h:∀ t,x=.tmp t→s'.tm[t]?=s.tm[t]?):s'.eval x=s.eval x:=by
 cases x with
 | tmp t=>simp only[St.eval,List.getD_eq_getElem?_getD,h t rfl]
 | _=>rfl
theorem zCY {ob ob':Objs}{o:Nat}(h:ob' o=ob o) (t:Ty):rowAs ob' o t=rowAs ob o t:=by simp only[rowAs,h]
theorem zKo {ob ob':Objs}{o:Nat}(h:ob' o=ob o):demote ob' o=demote ob o:=by simp only[demote,h]
theorem ky {ob ob':Objs}{us:List (Nat×Mode)}(h:∀ p∈us,ob' p.1=ob p.1):demotes ob' us=demotes ob us:=by
 simp only[demotes];refine List.map_congr_left fun p hp=>zKo (h p (List.mem_filter.1 hp).1)
theorem zEH {ob ob':Objs}:∀ {t:Ty}{cs:List C}{x:t.den}{us:List (Nat×Mode)}{r:List C},packC ob t cs=some (x,us,r)→(∀ p∈us,ob' p.1=ob p.1)→packC ob' t cs=some (x,us,r)
 | .int k,cs,x,us,r,h,hu=>by
  match cs,h with
  | .int k' n::r',h=>simpa only[packC] using h
 | .bool,cs,x,us,r,h,hu=>by
  match cs,h with
  | .bool b::r',h=>simpa only[packC] using h
 | .arr k m,cs,x,us,r,h,hu=>by
  match cs,h with
  | [],h=>simp[packC] at h
  | c::cs,h=>cases c<;>simp[packC] at h
 | .barr m,cs,x,us,r,h,hu=>by
  match cs,h with
  | [],h=>simp[packC] at h
  | c::cs,h=>cases c<;>simp[packC] at h
 | .slice t,cs,x,us,r,h,hu=>by
  match cs,h with
  | .nil::r',h=>simpa only[packC] using h
  | .sl o::r',h=>
   simp only[packC] at h ⊢
   split at h
   · rename_i m ys hr;simp only[Option.some.injEq,Prod.mk.injEq] at h;obtain⟨rfl,rfl,rfl⟩:=h;rw[zCY (hu (o,m) (by simp)),hr]
   · simp at h
 | .pair a b,cs,x,us,r,h,hu=>by
  simp only[packC] at h ⊢
  split at h
  · rename_i x1 us1 r1 h1
    split at h
    · rename_i x2 us2 r2 h2;simp only[Option.some.injEq,Prod.mk.injEq] at h;obtain⟨rfl,rfl,rfl⟩:=h;rw[zEH h1 (fun p hp=>hu p (by simp[hp]))];simp only;rw[zEH h2 (fun p hp=>hu p (by simp[hp]))]
    · simp at h
  · simp at h
theorem kc {ob ob':Objs}{t:Ty}{w:W}{x:t.den}{us:List (Nat×Mode)}(h:packW ob t w=some (x,us)) (hu:∀ p∈us,ob' p.1=ob p.1):packW ob' t w=some (x,us):=by
 cases t with
 | int k=>cases w with
  | c c=>cases c<;>simp_all [packW]
  | _=>simp[packW] at h
 | bool=>cases w with
  | c c=>cases c<;>simp_all [packW]
  | _=>simp[packW] at h
 | arr k m=>cases w<;>simp_all [packW]
 | barr m=>cases w<;>simp_all [packW]
 | slice t=>cases w with
  | c c=>
   cases c with
   | nil=>simpa only[packW] using h
   | sl o=>
    simp only[packW] at h ⊢
    split at h
    · rename_i m ys hr;simp only[Option.some.injEq,Prod.mk.injEq] at h;obtain⟨rfl,rfl⟩:=h;rw[zCY (hu (o,m) (by simp)),hr]
    · simp at h
   | _=>simp[packW] at h
  | _=>simp[packW] at h
 | pair a b=>cases w with
  | st cs=>
   simp only[packW] at h ⊢
   split at h
   · rename_i x1 us1 h1;simp only[Option.some.injEq,Prod.mk.injEq] at h;obtain⟨rfl,rfl⟩:=h;rw[zEH h1 hu]
   · simp at h
  | _=>simp[packW] at h
theorem zAW {ob ob':Objs}{t:Ty}{w:W}{us:List (Nat×Mode)}{xs:List t.den}(h:w.sliceOf ob t=some (us,xs)) (hu:∀ p∈us,ob' p.1=ob p.1):w.sliceOf ob' t=some (us,xs):=by
 cases w with
 | c c=>
  cases c with
  | nil=>simpa only[W.sliceOf] using h
  | sl o=>
   simp only[W.sliceOf] at h ⊢
   split at h
   · rename_i m ys hr;simp only[Option.some.injEq,Prod.mk.injEq] at h;obtain⟨rfl,rfl⟩:=h;rw[zCY (hu (o,m) (by simp)),hr]
   · simp at h
  | _=>simp[W.sliceOf] at h
 | _=>simp[W.sliceOf] at h
theorem zBz {s s':St}{o es j:Nat}{t:Ty}(h:s'.ob o=s.ob o):pointsTo s' o es j t=pointsTo s o es j t:=by simp only[pointsTo,h]
theorem zGa {ob ob':Objs}{t:Ty}:∀ {parts:List (Nat×V)}{n:Nat}{xs:List t.den}{us:List (Nat×Mode)},elemsE ob t n parts=some (xs,us)→(∀ p∈us,ob' p.1=ob p.1)→elemsE ob' t n parts=some (xs,us)
 | [],n,xs,us,h,hu=>by simpa only[elemsE] using h
 | (i,v)::r,n,xs,us,h,hu=>by
  simp only[elemsE] at h ⊢
  split at h
  · rename_i hi;rw[if_pos hi]
    split at h
    · rename_i w hw
      split at h
      · rename_i x1 us1 xs1 us2 h1 h2;simp only[Option.some.injEq,Prod.mk.injEq] at h;obtain⟨rfl,rfl⟩:=h;rw[kc h1 (fun p hp=>hu p (by simp[hp])),zGa h2 (fun p hp=>hu p (by simp[hp]))]
      · simp at h
    · simp at h
  · simp at h
end
end Go.Ev
namespace Go.Ev
section
variable {E:Env}{fd:FD}{call:Oracle}
theorem zLz {s s':St}{d:Nat}{T:TypeId}{c:C}{e:Eff}(h:loadE E s d T c=some e) (hr:∀ id∈e.rd,s'.ob id=s.ob id):loadE E s' d T c=some e:=by
 cases c with
 | ptr o i es j=>
  have ho:o∈e.rd:=by
   have h':=h;unfold loadE at h';simp only at h'
   repeat' (split at h')
   all_goals first | (simp at h';done) | (simp only[Option.some.injEq] at h';subst h';simp)
  unfold loadE at h ⊢;simp only[hr o ho] at h ⊢;exact h
 | _=>simp[loadE] at h
theorem zKC {s s':St}{T:TypeId}{c:C}{v:W}{e:Eff}(h:storeE E s T c v=some e) (hr:∀ id∈e.rd,s'.ob id=s.ob id):storeE E s' T c v=some e:=by
 cases c with
 | ptr o i es j=>
  have ho:o∈e.rd:=by
   have h':=h;unfold storeE at h';simp only at h'
   repeat' (split at h')
   all_goals first | (simp at h';done) | (simp only[Option.some.injEq] at h';subst h';simp)
  have ho':=hr o ho;unfold storeE at h ⊢;simp only[ho'] at h ⊢
  split at h
  · rename_i t x ht hb;exact h
  · rename_i t md u xs ht hb
    split at h
    · rename_i hes;rw[if_pos hes]
      split at h
      · rename_i htu;rw[if_pos htu]
        split at h
        · rename_i hj;rw[if_pos hj]
          split at h
          · rename_i x us hp;have hu:∀ p∈us,s'.ob p.1=s.ob p.1:=by
             intro p hp;refine hr p.1 ?_
             split at h
             · split at h
               · simp only[Option.some.injEq] at h;subst h;simp only[List.mem_cons,List.mem_map];exact .inr ⟨p,hp,rfl⟩
               · simp at h
             · split at h
               · simp only[Option.some.injEq] at h;subst h;simp only[List.mem_cons,List.mem_map];exact .inr ⟨p,hp,rfl⟩
               · simp at h
            rw[kc hp hu];simp only[ky hu];exact h
          · simp at h
        · simp at h
      · rename_i htu;rw[if_neg htu];exact h
    · simp at h
  · simp at h
 | _=>simp[storeE] at h
theorem zJp {s s':St}{d:Nat}{t:Ty}{a b:W}{e:Eff}(h:appendE s d t a b=some e) (hr:∀ id∈e.rd,s'.ob id=s.ob id):appendE s' d t a b=some e:=by
 unfold appendE at h ⊢
 split at h
 · rename_i us xs vs ys h1 h2
   split at h
   · rename_i hc;have hu:∀ p∈us,s'.ob p.1=s.ob p.1:=fun p hp=>hr p.1 (by
      split at h<;>(simp only[Option.some.injEq] at h;subst h;simp only[List.mem_append,List.mem_map];exact .inl ⟨p,hp,rfl⟩))
     have hv:∀ p∈vs,s'.ob p.1=s.ob p.1:=fun p hp=>hr p.1 (by
      split at h<;>(simp only[Option.some.injEq] at h;subst h;simp only[List.mem_append,List.mem_map];exact .inr ⟨p,hp,rfl⟩))
     rw[zAW h1 hu,zAW h2 hv];simp only[if_pos hc,ky hv];exact h
   · simp at h
 · simp at h
theorem zKE {s s':St}{d:Nat}{t:Ty}{x:W}{lo hi:Option Int}{e:Eff}(h:sliceE fd s d t x lo hi=some e) (hr:∀ id∈e.rd,s'.ob id=s.ob id):sliceE fd s' d t x lo hi=some e:=by
 unfold sliceE at h ⊢
 split at h
 · rename_i us xs h1;have hu:(∀ p∈us,s'.ob p.1=s.ob p.1):=by
    intro p hp;refine hr p.1 ?_
    split at h
    · split at h
      · simp only[Option.some.injEq] at h;subst h;exact List.mem_map_of_mem hp
      · simp at h
    · simp only[Option.some.injEq] at h;subst h;exact List.mem_map_of_mem hp
   rw[zAW h1 hu];simp only[ky hu];exact h
 · simp at h
theorem zLP {s s':St}{d:Nat}{k:IntKind}{m o:Nat}{e:Eff}(h:viewE s d k m o=some e) (hr:∀ id∈e.rd,s'.ob id=s.ob id):viewE s' d k m o=some e:=by
 have ho:s'.ob o=s.ob o:=by
  refine hr o ?_;unfold viewE at h
  split at h
  · split at h
    · simp only[Option.some.injEq] at h;subst h;simp
    · simp at h
  · simp at h
 unfold viewE at h ⊢;rw[ho]
 split at h
 · rename_i md k' m' xs hb;have:demotes s'.ob [(o,md)]=demotes s.ob [(o,md)]:=ky (fun p hp=>by simp only[List.mem_singleton] at hp;subst hp;exact ho);simp only[hb,this];exact h
 · simp at h
theorem zKX {s s':St}{l:List (Nat×Operand)}(h:∀ p∈l,s'.eval p.2=s.eval p.2):(l.map fun p=>(p.1,s'.eval p.2))=l.map fun p=>(p.1,s.eval p.2):=
 List.map_congr_left fun p hp=>by rw[h p hp]
theorem zLf {s s':St}{d:Nat}{op:Op}{e:Eff}(h:step1 E fd s d op=some e) (hx:∀ x∈op.operands,s'.eval x=s.eval x) (hr:∀ id∈e.rd,s'.ob id=s.ob id):step1 E fd s' d op=some e:=by
 cases op with
 | move x=>simp only[step1,hx x (by simp[Op.operands])] at h ⊢;exact h
 | assign x=>
  have hxx:=hx x (by simp[Op.operands]);simp only[step1] at h ⊢
  split at h
  · exact h
  · rw[hxx];exact h
 | pick c x y=>simp only[step1,hx c (by simp[Op.operands]),hx x (by simp[Op.operands]),hx y (by simp[Op.operands])] at h ⊢;exact h
 | alloc T=>simp only[step1] at h ⊢;exact h
 | box T x=>simp only[step1,hx x (by simp[Op.operands])] at h ⊢;exact h
 | build T parts=>
  have:=zKX (s:=s) (s':=s') (l:=parts.toList) (fun p hp=>hx p.2 (by simp only[Op.operands,List.mem_toArray,List.mem_map];exact⟨p,hp,rfl⟩));simp only[step1,this] at h ⊢;exact h
 | buildSlice T len parts=>
  have:=zKX (s:=s) (s':=s') (l:=parts.toList) (fun p hp=>hx p.2 (by simp only[Op.operands,List.mem_toArray,List.mem_map];exact⟨p,hp,rfl⟩));simp only[step1,this] at h ⊢
  split at h
  · rename_i t ht
    split at h
    · rename_i xs us hu;have hu':∀ p∈us,s'.ob p.1=s.ob p.1:=by
       intro p hp;refine hr p.1 ?_
       split at h
       · split at h
         · simp only[Option.some.injEq] at h;subst h;exact List.mem_map_of_mem hp
         · simp only[Option.some.injEq] at h;subst h;exact List.mem_map_of_mem hp
       · simp at h
      rw[zGa hu hu'];simp only[ky hu'];exact h
    · simp at h
  · simp at h
 | load T x=>
  simp only[step1,hx x (by simp[Op.operands])] at h ⊢
  split at h
  · exact zLz h hr
  · simp at h
 | store T x y=>
  simp only[step1,hx x (by simp[Op.operands]),hx y (by simp[Op.operands])] at h ⊢
  split at h
  · exact zKC h hr
  · simp at h
 | nilCheck x=>simp only[step1,hx x (by simp[Op.operands])] at h ⊢;exact h
 | binOp op T x y T'=>simp only[step1,hx x (by simp[Op.operands]),hx y (by simp[Op.operands])] at h ⊢;exact h
 | unOp op T x=>simp only[step1,hx x (by simp[Op.operands])] at h ⊢;exact h
 | convert T T' x=>simp only[step1,hx x (by simp[Op.operands])] at h ⊢;exact h
 | makeFunc fn first captured=>
  cases fn with
  | func f=>
   have:captured.toList.map s'.eval=captured.toList.map s.eval:=List.map_congr_left fun x hm=>hx x (by simp only[Op.operands,Array.mem_append];exact .inr (Array.mem_toList_iff.1 hm))
   simp only[step1,this] at h ⊢;exact h
  | _=>simp[step1] at h
 | makeSlice T x y=>simp only[step1,hx x (by simp[Op.operands]),hx y (by simp[Op.operands])] at h ⊢;exact h
 | slice T x lo hi mx=>
  cases mx with
  | none=>
   have h1:lo.map s'.eval=lo.map s.eval:=by cases lo with
    | none=>rfl
    | some y=>simp only[Option.map_some,hx y (by simp[Op.operands])]
   have h2:hi.map s'.eval=hi.map s.eval:=by cases hi with
    | none=>rfl
    | some y=>simp only[Option.map_some,hx y (by simp[Op.operands])]
   simp only[step1,hx x (by simp[Op.operands]),h1,h2] at h ⊢
   split at h
   · exact zKE h hr
   · exact zLP h hr
   · simp at h
  | some m=>simp[step1] at h
 | fieldAddr T x f=>
  simp only[step1,hx x (by simp[Op.operands])] at h ⊢
  split at h
  · rename_i t o i es j ht hu
    split at h
    · rename_i n u hn
      split at h
      · rename_i hp;simp only[Option.some.injEq] at h;subst h;rw[zBz (hr o (by simp)),hp];simp
      · simp at h
    · simp at h
  · simp at h
 | field T x f=>simp only[step1,hx x (by simp[Op.operands])] at h ⊢;exact h
 | indexAddr T x y=>
  simp only[step1,hx x (by simp[Op.operands]),hx y (by simp[Op.operands])] at h ⊢
  split at h
  · rename_i t o k n ht hu hy
    split at h
    · rename_i m xs hrw;simp only[Option.some.injEq] at h;subst h;simp only[zCY (hr o (by simp)),hrw]
    · simp at h
  · rename_i k m o i es k' n ht hu hy
    split at h
    · rename_i hp;simp only[Option.some.injEq] at h;subst h;simp only[zBz (hr o (by simp)),hp,if_true]
    · simp at h
  · rename_i m o i es k' n ht hu hy
    split at h
    · rename_i hp;simp only[Option.some.injEq] at h;subst h;simp only[zBz (hr o (by simp)),hp,if_true]
    · simp at h
  · simp at h
 | index T x y=>
  have hxx:=hx x (by simp[Op.operands]);have hyy:=hx y (by simp[Op.operands]);simp only[step1] at h ⊢
  split at h
  · simp only[hyy];exact h
  · rw[hxx,hyy];exact h
 | extract x i=>simp only[step1,hx x (by simp[Op.operands])] at h ⊢;exact h
 | call c=>
  obtain⟨callee,args,argTypes⟩:=c
  cases callee with
  | builtin b=>
   have ha:∀ x∈args.toList,s'.eval x=s.eval x:=fun x hm=>hx x (by simp only[Op.operands,Call.operands];simpa using hm)
   simp only[step1] at h ⊢
   split at h
   · rename_i x T h1 h2;rw[h1] at ha;simp only[ha x (by simp)] at h ⊢
     split at h
     · rename_i t u ht hu
       split at h
       · rename_i us xs hs;simp only[Option.some.injEq] at h;subst h;rw[zAW hs (fun p hp=>hr p.1 (List.mem_map_of_mem hp))]
       · simp at h
     · exact h
     · simp at h
   · rename_i x y T T' h1 h2;rw[h1] at ha;simp only[ha x (by simp),ha y (by simp)] at h ⊢
     split at h
     · split at h
       · rename_i htt;rw[if_pos htt];exact zJp h hr
       · simp at h
     · simp at h
   · rename_i x r h1;rw[h1] at ha;have:r.map s'.eval=r.map s.eval:=List.map_congr_left fun y hy=>ha y (by simp[hy])
     simp only[ha x (by simp),this] at h ⊢;exact h
   · rename_i x r h1;rw[h1] at ha;have:r.map s'.eval=r.map s.eval:=List.map_congr_left fun y hy=>ha y (by simp[hy])
     simp only[ha x (by simp),this] at h ⊢;exact h
   · simp at h
  | _=>simp[step1] at h
 | _=>simp[step1] at h
end
end Go.Ev
