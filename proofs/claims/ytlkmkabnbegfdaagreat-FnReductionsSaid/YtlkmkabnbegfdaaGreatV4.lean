/- Rows' arguments, words for the plain side. -/
import Derived.Test.YtlkmkabnbegfdaaGreatV3
import Derived.ChangeArms
import Derived.OpenShut
import Derived.Below
import Derived.WideShapes
import Derived.Test.YtlkmkabnbegfdaaGreatV1
set_option linter.unusedSimpArgs false
set_option linter.unusedVariables false
namespace Go.Ev
section
variable {P:Program}{w:World}{H:Type}{enc:TypeId×Value→H}
mutual
def deepB (P:Program):Ty→TypeId→Bool
 | .slice u,T=>tyOkB P (.slice u) T&&(match P.underlying T with | some (.slice e)=>deepB P u e | _=>false)
 | .pair a b,T=>tyOkB P (.pair a b) T&&(match P.underlying T with | some (.struct fs)=>deepF P a fs[0]? 0&&deepFs P b fs 1 a.cells | _=>false)
 | .int k,T=>tyOkB P (.int k) T
 | .bool,T=>tyOkB P .bool T
 | .arr k m,T=>tyOkB P (.arr k m) T
 | .barr m,T=>tyOkB P (.barr m) T
def deepF (P:Program):Ty→Option Field→Nat→Bool
 | .slice u,some f,o=>f.offset==o&&tyOkB P (.slice u) f.type&&(match P.underlying f.type with | some (.slice e)=>deepB P u e | _=>false)
 | .int k,some f,o=>f.offset==o&&tyOkB P (.int k) f.type
 | .bool,some f,o=>f.offset==o&&tyOkB P .bool f.type
 | _,_,_=>false
def deepFs (P:Program):Ty→Array Field→Nat→Nat→Bool
 | .pair a b,fs,i,o=>deepF P a fs[i]? o&&deepFs P b fs (i+1) (o+a.cells)
 | .slice u,fs,i,o=>(match fs[i]? with | some f=>f.offset==o&&tyOkB P (.slice u) f.type&&(match P.underlying f.type with | some (.slice e)=>deepB P u e | _=>false) | none=>false)
 | .int k,fs,i,o=>(match fs[i]? with | some f=>f.offset==o&&tyOkB P (.int k) f.type | none=>false)
 | .bool,fs,i,o=>(match fs[i]? with | some f=>f.offset==o&&tyOkB P .bool f.type | none=>false)
 | _,_,_,_=>false
end
def Within:(t:Ty)→t.den→Prop
 | .int k,x=>(Lit.int k x).wf=true
 | .bool,_=>True
 | .arr k _,xs=>∀ x∈xs,(Lit.int k x).wf=true
 | .barr _,_=>True
 | .slice t,xs=>xs.length≤maxLen∧∀ x∈xs,Within t x
 | .pair a b,x=>Within a x.1∧Within b x.2
theorem zCk {α:Type}{p:Nat→α→Prop}:∀ (n:Nat),(∀ i<n,∃ y,p i y)→∃ l:List α,l.length=n∧∀ i y,l[i]?=some y→p i y
 | 0,_=>⟨[],rfl,fun i y h=>by simp at h⟩
 | n+1,h=>by
  obtain⟨l,h1,h2⟩:=zCk n (fun i hi=>h i (by omega));obtain⟨y,hy⟩:=h n (by omega);refine⟨l++[y],by simp[h1],fun i z hz=>?_⟩;rw[List.getElem?_append] at hz
  split at hz
  · exact h2 i z hz
  · have e:i=n:=by
     by_cases e:i-l.length=0
     · omega
     · rw[List.getElem?_eq_none (by simp;omega)] at hz;simp at hz
    subst e;rw[← h1] at hz;simp at hz;subst hz;exact hy
theorem zAH {T:TypeId}{t:Ty}(h:Base P T t):P.cellsOf T=t.cells:=by
 obtain⟨i,h1,_,h2,_⟩:=h;simp[Program.cellsOf,h1,h2]
theorem zNb:∀ {u:Ty}{T:TypeId},deepB P u T=true→TyOK P u T
 | .int k,T,h=>by simp only[deepB] at h;exact kl h
 | .bool,T,h=>by simp only[deepB] at h;exact kl h
 | .arr k m,T,h=>by simp only[deepB] at h;exact kl h
 | .barr m,T,h=>by simp only[deepB] at h;exact kl h
 | .slice u,T,h=>by simp only[deepB,Bool.and_eq_true] at h;exact kl h.1
 | .pair a b,T,h=>by simp only[deepB,Bool.and_eq_true] at h;exact kl h.1
theorem zMx {base:Nat}{spare:Nat→Bool}{held:Bool}{fuel:Nat}{T:TypeId}{k:IntKind}{cs:List Value}{x:DataW H×List MemPlace}(hT:P.underlying T=some (.int k)) (h:DataW.trod enc P w base spare held fuel T cs=some x):
  ∃ n,cs=[.int k n]∧(Lit.int k n).wf=true:=by
 cases fuel with
 | zero=>simp[DataW.trod] at h
 | succ n=>
  unfold DataW.trod at h;rw[hT] at h;split at h<;>simp_all
theorem zJ9 {base:Nat}{spare:Nat→Bool}{held:Bool}{fuel:Nat}{T:TypeId}{cs:List Value}{x:DataW H×List MemPlace}(hT:P.underlying T=some .bool) (h:DataW.trod enc P w base spare held fuel T cs=some x):
  ∃ b,cs=[.bool b]:=by
 cases fuel with
 | zero=>simp[DataW.trod] at h
 | succ n=>
  unfold DataW.trod at h;rw[hT] at h;split at h<;>simp_all
end
end Go.Ev
namespace Go.Ev
section
variable {P:Program}{w:World}{H:Type}{enc:TypeId×Value→H}{base:Nat}{spare:Nat→Bool}{held:Bool}
theorem zR6 {a:Addr}{n:Nat}{ys:List Value}(h:w.cells? base a n=some ys):ys.length=n∧(∀ j v,ys[j]?=some v→w.cell? (a.add j)=some v)∧(0<n→a.spot=none∧a.block<w.heap.size):=by
 unfold World.cells? at h
 split at h
 · have hl:=mapM_some_length h;simp only[List.length_range] at hl;have hg:∀ j v,ys[j]?=some v→w.cell? (a.add j)=some v:=by
    intro j v hv;have hj:j<n:=by rw[← hl];exact (List.getElem?_eq_some_iff.1 hv).1
    have:=mapM_some_get h j j (by simp[hj]);rw[this,hv]
   refine⟨hl,hg,fun hn=>?_⟩;have h0:ys[0]?=some ys[0]:=List.getElem?_eq_getElem (by omega);have hc:=hg 0 _ h0;unfold World.cell? at hc
   split at hc
   · rename_i c _ _ hb;have hsz:(a.add 0).block<w.heap.size:=(Array.getElem?_eq_some_iff.1 hb).1
     split at hc
     · simp at hc
     · rename_i hs;have e0:a.add 0=a:=by simp[Addr.add]
       rw[e0] at hs hsz;exact⟨by simpa using hs,hsz⟩
   · simp at hc
 · simp at h
theorem zII {u:Ty}{T e:TypeId}(hT:P.underlying T=some (.slice e)) (hb:Base P e u) (ih:∀ (fuel:Nat) (cs:List Value) (x:DataW H×List MemPlace),DataW.trod enc P w base spare held fuel e cs=some x→∃ y:u.den,TRep w false (fun _=>True) u y cs∧Within u y)
  {fuel:Nat}{cs:List Value}{x:DataW H×List MemPlace}(h:DataW.trod enc P w base spare held fuel T cs=some x):
  ∃ ys:List u.den,TRep w false (fun _=>True) (.slice u) ys cs∧Within (.slice u) ys:=by
 have hce:=zAH hb;obtain⟨_,_,_,_,_,hc1,_⟩:=hb
 rcases DataW.trod_slice hT h with ⟨rfl,_⟩ | ⟨a,len,cap,elems,rest,n,_,rfl,_,hbl,hlc,hcm,hel,hget,_,_⟩
 · exact⟨[],⟨none,0,rfl,⟨Nat.le_refl _,fun _=>⟨rfl,fun _=>rfl⟩,fun a h=>by simp at h⟩,fun i x hx=>by simp at hx⟩,⟨Nat.zero_le _,fun x hx=>by simp at hx⟩⟩
 · have each:∀ i<len,∃ y:u.den,(∃ ys,TRep w false (fun _=>True) u y ys∧(∀ j v,ys[j]?=some v→w.cell? ((a.add (i*u.cells)).add j)=some v))∧Within u y∧(a.add (i*u.cells)).spot=none∧(a.add (i*u.cells)).block<w.heap.size:=by
    intro i hi;have h1:=hget i hi;have h2:elems[i]?=some elems[i]:=List.getElem?_eq_getElem (by omega);rw[h2,Option.bind_eq_some_iff] at h1;obtain⟨ys,hys,ht⟩:=h1;obtain⟨y,hy1,hy2⟩:=ih _ _ _ ht;rw[hce] at hys;obtain⟨k1,k2,k3⟩:=zR6 hys;obtain⟨k4,k5⟩:=k3 (by omega);exact⟨y,⟨ys,hy1,k2⟩,hy2,k4,k5⟩
   obtain⟨l,hl,hl2⟩:=zCk len each;have hspot:0<len→a.spot=none∧a.block<w.heap.size:=by
    intro hlen;obtain⟨y,_,_,k1,k2⟩:=each 0 hlen;have e0:a.add (0*u.cells)=a:=by simp[Addr.add]
    rw[e0] at k1 k2;exact⟨k1,k2⟩
   refine⟨l,⟨some a,cap,by rw[hl],⟨(hl ▸ hlc:l.length≤cap),fun e=>by simp at e,fun a' ha hlt=>?_⟩,fun i x hx=>?_⟩,⟨Nat.le_trans ((hl ▸ hlc:l.length≤cap)) hcm,fun x hx=>?_⟩⟩
   · simp only[Option.some.injEq] at ha;subst ha;obtain⟨k1,k2⟩:=hspot (by
      rcases hlt with g | g
      · rw[← hl];exact g
      · simp at g)
     exact⟨k1,k2,trivial,fun e=>by simp at e⟩
   · have hi:i<len:=by rw[← hl];exact (List.getElem?_eq_some_iff.1 hx).1
     obtain⟨⟨ys,k1,k2⟩,_⟩:=hl2 i x hx;obtain⟨ks,_⟩:=hspot (by omega);refine⟨ys,k1,fun j v hv=>?_⟩;have:=k2 j v hv;obtain⟨ab,ao,asp⟩:=a;simp only at ks;subst ks;rw[zCP,zCP] at this;simp only[cellAt,Option.bind_some];rw[show ao+(i*u.cells+j)=ao+i*u.cells+j by omega];exact this
   · obtain⟨i,hi⟩:=List.mem_iff_getElem?.1 hx;exact (hl2 i x hi).2.1
end
end Go.Ev
namespace Go.Ev
section
variable {P:Program}{w:World}{H:Type}{enc:TypeId×Value→H}{base:Nat}{spare:Nat→Bool}{held:Bool}
def Rep (P:Program) (w:World) (enc:TypeId×Value→H) (base:Nat) (spare:Nat→Bool) (held:Bool) (u:Ty) (T:TypeId):Prop:=
 ∀ (fuel:Nat) (cs:List Value) (x:DataW H×List MemPlace),DataW.trod enc P w base spare held fuel T cs=some x→∃ y:u.den,TRep w false (fun _=>True) u y cs∧Within u y
theorem zLn {k:IntKind}{T:TypeId}(h:tyOkB P (.int k) T=true):Rep P w enc base spare held (.int k) T:=by
 intro fuel cs x hx;obtain⟨n,rfl,hn⟩:=zMx (kl h).2 hx;exact⟨n,rfl,hn⟩
theorem zJN {T:TypeId}(h:tyOkB P .bool T=true):Rep P w enc base spare held .bool T:=by
 intro fuel cs x hx;obtain⟨n,rfl⟩:=zJ9 (kl h).2 hx;exact⟨n,rfl,trivial⟩
theorem zHT {u:Ty}{T e:TypeId}(hT:P.underlying T=some (.slice e)) (hb:deepB P u e=true) (ih:Rep P w enc base spare held u e):Rep P w enc base spare held (.slice u) T:=
 fun fuel cs x hx=>zII hT (zNb hb).base ih hx
theorem zFO {T:TypeId}(h:Cell1 P T):P.cellsOf T=1:=by
 obtain⟨⟨i,h1,h2⟩,_⟩:=h;simp[Program.cellsOf,h1,h2]
theorem zDv {cs:List Value}{i:Nat}{v:Value}(h:(cs.drop i).take 1=[v]):cs[i]?=some v:=by
 have:=congrArg (fun l=>l[0]?) h;simpa using this
theorem zTg {k:IntKind}{m:Nat}{T:TypeId}(h:tyOkB P (.arr k m) T=true):Rep P w enc base spare held (.arr k m) T:=by
 intro fuel cs x hx;obtain⟨hb,⟨e,h1,h2,h3⟩,_⟩:=kl h;obtain⟨xs,n,_,_,hl,_,hg⟩:=DataW.trod_array h1 hx;rw[zAH hb] at hl;rw[zFO h3] at hg;simp only[Ty.cells] at hl;have each:∀ i<m,∃ z:Int,cs[i]?=some (.int k z)∧(Lit.int k z).wf=true:=by
  intro i hi;have hgi:=hg i hi
  cases hx:xs[i]? with
  | none=>
   rename_i hlen _;have:=(List.getElem?_eq_none_iff.1 hx);omega
  | some q=>
   rw[hx,Nat.mul_one] at hgi;obtain⟨z,hz,hw⟩:=zMx h2 hgi;exact⟨z,zDv hz,hw⟩
 obtain⟨l,hll,hl2⟩:=zCk m each
 refine⟨l,⟨hll,?_⟩,fun z hz=>?_⟩
 · apply List.ext_getElem?;intro i;rw[List.getElem?_map]
   cases hi:l[i]? with
   | none=>
    have:=List.getElem?_eq_none_iff.1 hi;rw[List.getElem?_eq_none (by omega)]
    rfl
   | some z=>rw[(hl2 i z hi).1];rfl
 · obtain⟨i,hi⟩:=List.mem_iff_getElem?.1 hz;exact (hl2 i z hi).2
end
end Go.Ev
namespace Go.Ev
section
variable {P:Program}{w:World}{H:Type}{enc:TypeId×Value→H}{base:Nat}{spare:Nat→Bool}{held:Bool}
def RepFs (P:Program) (w:World) (enc:TypeId×Value→H) (base:Nat) (spare:Nat→Bool) (held:Bool) (u:Ty) (fs:Array Field) (i o:Nat):Prop:=
 ∀ (n:Nat) (cs:List Value),cs.length=o+u.cells→(∀ (j:Nat) (f:Field),fs[j]?=some f→∃ x,DataW.trod enc P w base spare held n f.type ((cs.drop f.offset).take (P.cellsOf f.type))=some x) →
  ∃ y:u.den,TRep w false (fun _=>True) u y (cs.drop o)∧Within u y
theorem zFi {u:Ty}{fs:Array Field}{i o:Nat}{f:Field}(hf:fs[i]?=some f) (ho:f.offset=o) (hc:u.cells=1) (hcf:P.cellsOf f.type=1) (hr:Rep P w enc base spare held u f.type):RepFs P w enc base spare held u fs i o:=by
 intro n cs hl hg;obtain⟨x,hx⟩:=hg i f hf;obtain⟨y,h1,h2⟩:=hr n _ x hx;rw[ho,hcf] at h1;rw[List.take_of_length_le (by simp;omega)] at h1;exact⟨y,h1,h2⟩
theorem zIa {a b:Ty}{fs:Array Field}{i o:Nat}{f:Field}(hf:fs[i]?=some f) (ho:f.offset=o) (hc:a.cells=1) (hcf:P.cellsOf f.type=1) (hr:Rep P w enc base spare held a f.type)
  (hb:RepFs P w enc base spare held b fs (i+1) (o+a.cells)):RepFs P w enc base spare held (.pair a b) fs i o:=by
 intro n cs hl hg;simp only[Ty.cells] at hl;obtain⟨x,hx⟩:=hg i f hf;obtain⟨y,h1,h2⟩:=hr n _ x hx;rw[ho,hcf] at h1;obtain⟨z,h3,h4⟩:=hb n cs (by omega) hg;refine⟨(y,z),⟨_,_,?_,h1,h3⟩,h2,h4⟩;rw[hc,← List.drop_drop,List.take_append_drop]
theorem zAr {T:TypeId}{u:Ty}(h:tyOkB P u T=true) (hc:u.cells=1):P.cellsOf T=1:=by
 rw[zAH (kl h).base,hc]
theorem zRW {m:Nat}{T:TypeId}(h:tyOkB P (.barr m) T=true):Rep P w enc base spare held (.barr m) T:=by
 intro fuel cs x hx;obtain⟨hb,e,h1,h2,h3⟩:=kl h;obtain⟨xs,n,_,_,hl,_,hg⟩:=DataW.trod_array h1 hx;rw[zAH hb] at hl;rw[zFO h3] at hg;simp only[Ty.cells] at hl;have each:∀ i<m,∃ z:Bool,cs[i]?=some (.bool z):=by
  intro i hi;have hgi:=hg i hi
  cases hx:xs[i]? with
  | none=>
   have:=(List.getElem?_eq_none_iff.1 hx);omega
  | some q=>
   rw[hx,Nat.mul_one] at hgi;obtain⟨z,hz⟩:=zJ9 h2 hgi;exact⟨z,zDv hz⟩
 obtain⟨l,hll,hl2⟩:=zCk m each;refine⟨l,⟨hll,?_⟩,trivial⟩;apply List.ext_getElem?;intro i;rw[List.getElem?_map]
 cases hi:l[i]? with
 | none=>
  have:=List.getElem?_eq_none_iff.1 hi;rw[List.getElem?_eq_none (by omega)]
  rfl
 | some z=>rw[hl2 i z hi];rfl
mutual
theorem zGq:∀ (u:Ty) (T:TypeId),deepB P u T=true→Rep P w enc base spare held u T
 | .int k,T,h=>by simp only[deepB] at h;exact zLn h
 | .bool,T,h=>by simp only[deepB] at h;exact zJN h
 | .arr k m,T,h=>by simp only[deepB] at h;exact zTg h
 | .barr m,T,h=>by simp only[deepB] at h;exact zRW h
 | .slice u,T,h=>by
  simp only[deepB,Bool.and_eq_true] at h;obtain⟨h1,h2⟩:=h
  split at h2
  · rename_i e he;exact zHT he h2 (zGq u e h2)
  · simp at h2
 | .pair a b,T,h=>by
  simp only[deepB,Bool.and_eq_true] at h;obtain⟨h1,h2⟩:=h
  split at h2
  · rename_i fs hfs;simp only[Bool.and_eq_true] at h2;obtain⟨f,hf,ho,hc,hcf,hr⟩:=zM9 a fs[0]? 0 h2.1;have hrest:=zKN b fs 1 a.cells h2.2;have key:RepFs P w enc base spare held (.pair a b) fs 0 0:=zIa hf ho hc hcf hr ((Nat.zero_add a.cells).symm ▸ hrest);intro fuel cs x hx;obtain⟨xs,n,_,_,hl,hxl,hg⟩:=DataW.trod_struct hfs hx;rw[zAH (kl h1).base] at hl;obtain⟨y,k1,k2⟩:=key n cs (by rw[hl];omega) (fun j f hj=>by
     have hgj:=hg j f hj;have hjl:j<xs.length:=by rw[hxl];exact (Array.getElem?_eq_some_iff.1 hj).1
     rw[List.getElem?_eq_getElem hjl] at hgj;exact⟨_,hgj⟩)
    exact⟨y,k1,k2⟩
  · simp at h2
theorem zM9:∀ (u:Ty) (f:Option Field) (o:Nat),deepF P u f o=true→∃ g,f=some g∧g.offset=o∧u.cells=1∧P.cellsOf g.type=1∧Rep P w enc base spare held u g.type
 | .int k,f,o,h=>by
  cases f with
  | none=>simp[deepF] at h
  | some g=>
   simp only[deepF,Bool.and_eq_true,beq_iff_eq] at h;exact⟨g,rfl,h.1,rfl,zAr h.2 rfl,zLn h.2⟩
 | .bool,f,o,h=>by
  cases f with
  | none=>simp[deepF] at h
  | some g=>
   simp only[deepF,Bool.and_eq_true,beq_iff_eq] at h;exact⟨g,rfl,h.1,rfl,zAr h.2 rfl,zJN h.2⟩
 | .slice u,f,o,h=>by
  cases f with
  | none=>simp[deepF] at h
  | some g=>
   simp only[deepF,Bool.and_eq_true,beq_iff_eq] at h;obtain⟨⟨h1,h2⟩,h3⟩:=h
   split at h3
   · rename_i e he;exact⟨g,rfl,h1,rfl,zAr h2 rfl,zHT he h3 (zGq u e h3)⟩
   · simp at h3
 | .arr k m,f,o,h=>by cases f<;>simp[deepF] at h
 | .barr m,f,o,h=>by cases f<;>simp[deepF] at h
 | .pair a b,f,o,h=>by cases f<;>simp[deepF] at h
theorem zKN:∀ (u:Ty) (fs:Array Field) (i o:Nat),deepFs P u fs i o=true→RepFs P w enc base spare held u fs i o
 | .pair a b,fs,i,o,h=>by
  simp only[deepFs,Bool.and_eq_true] at h;obtain⟨g,hg,ho,hc,hcf,hr⟩:=zM9 a fs[i]? o h.1;exact zIa hg ho hc hcf hr (zKN b fs (i+1) (o+a.cells) h.2)
 | .int k,fs,i,o,h=>by
  simp only[deepFs] at h
  split at h
  · rename_i g hg;simp only[Bool.and_eq_true,beq_iff_eq] at h;exact zFi hg h.1 rfl (zAr h.2 rfl) (zLn h.2)
  · simp at h
 | .bool,fs,i,o,h=>by
  simp only[deepFs] at h
  split at h
  · rename_i g hg;simp only[Bool.and_eq_true,beq_iff_eq] at h;exact zFi hg h.1 rfl (zAr h.2 rfl) (zJN h.2)
  · simp at h
 | .slice u,fs,i,o,h=>by
  simp only[deepFs] at h
  split at h
  · rename_i g hg;simp only[Bool.and_eq_true,beq_iff_eq] at h;obtain⟨⟨h1,h2⟩,h3⟩:=h
    split at h3
    · rename_i e he;exact zFi hg h1 rfl (zAr h2 rfl) (zHT he h3 (zGq u e h3))
    · simp at h3
  · simp at h
 | .arr k m,fs,i,o,h=>by simp[deepFs] at h
 | .barr m,fs,i,o,h=>by simp[deepFs] at h
end
end
end Go.Ev
namespace Go.Ev
section
variable {P:Program}{E:Env}{w:World}
abbrev noCol:Col:=fun _=>none
abbrev All:Nat→Prop:=fun _=>True
abbrev Non:Nat→Prop:=fun _=>False
def ArgRel (P:Program) (w:World) (t:Ty) (T:TypeId) (x:t.den) (v:Value):Prop:=
 TyOK P t T∧∃ ys,TRep w false (fun _=>True) t x ys∧(t.scalar=true→ys=[v])∧(t.scalar=false→v=.agg ys.toArray)
inductive ArgsRel (P:Program) (w:World):List PK→List TypeId→List TV→List Value→Prop where
 | nil:ArgsRel P w [] [] [] []
 | cons {t:Ty}{T:TypeId}{x:t.den}{v:Value}{ks:List PK}{Ts:List TypeId}{tvs:List TV}{vs:List Value}(h:ArgRel P w t T x v) (hs:ArgsRel P w ks Ts tvs vs):ArgsRel P w (.ro t::ks) (T::Ts) (⟨t,x⟩::tvs) (v::vs)
theorem zKc {ks:List PK}{Ts:List TypeId}{tvs:List TV}{vs:List Value}(h:ArgsRel P w ks Ts tvs vs):∀ (l:List TV) (i:Nat),
  ∃ vs' objs,initPs (l++tvs) ks i l.length=(vs',objs)∧vs'.length=vs.length∧((objs.map (·.1)).Nodup→∃ L:Nat→Loc,(∀ q∈objs,RoRow w (RO noCol All) (L q.1) q.2) ∧
   ∀ (ob:Objs) (ρ:Locs),(∀ q∈objs,ρ q.1=L q.1∧ob q.1≠none)→∀ (j:Nat) (u:V) (v:Value),vs'[j]?=some u→vs[j]?=some v→VRel ob ρ u v):=by
 induction h with
 | nil=>exact fun l i=>⟨[],[],rfl,rfl,fun _=>⟨fun _=>⟨none,0,0⟩,fun q h=>by simp at h,fun ob ρ _ j u v h=>by simp at h⟩⟩
 | @cons t T x v ks Ts tvs vs h hs ih=>
  intro l i;obtain⟨vs',objs,e,hl,hr⟩:=ih (l++[⟨t,x⟩]) (i+1);have e1:l++(⟨t,x⟩::tvs)=l++[(⟨t,x⟩:TV)]++tvs:=by simp
  have e2:getTV t (l++(⟨t,x⟩::tvs)) l.length=x:=by rw[e1];exact zd
  have e3:l.length+1=(l++[(⟨t,x⟩:TV)]).length:=by simp
  refine⟨.w (unpackW .ro t x (idOf i)).1::vs',(unpackW .ro t x (idOf i)).2++objs,?_,by simp[hl],fun hn=>?_⟩
  · simp only[initPs,PK.init,e2];rw[e3,e1,e]
  · rw[List.map_append,List.nodup_append] at hn;obtain⟨hn1,hn2,hn3⟩:=hn;obtain⟨L2,g1,g2⟩:=hr hn2;obtain⟨hT,ys,hrep,hsc,hag⟩:=h;have hrep':TRep w false (RO noCol All) t x ys:=hrep.frame id (Nat.le_refl _) (fun b _ _=>⟨⟨.inl rfl,trivial⟩,rfl⟩);obtain⟨L1,f,k⟩:=zEB hT (idOf i) hrep';rw[← zt .ro t x (idOf i)] at f k
    refine⟨fun o=>if o∈(unpackW .ro t x (idOf i)).2.map (·.1) then L1 o else L2 o,fun q hq=>?_,fun ob ρ hρ j u v' hu hv=>?_⟩
    · rcases List.mem_append.1 hq with hq | hq
      · simp only[if_pos (List.mem_map_of_mem hq)];exact k q hq
      · have:q.1∉(unpackW .ro t x (idOf i)).2.map (·.1):=fun hm=>hn3 q.1 hm q.1 (List.mem_map_of_mem hq) rfl;simp only[if_neg this];exact g1 q hq
    · cases j with
      | zero=>
       simp only[List.getElem?_cons_zero,Option.some.injEq] at hu hv;subst hu;subst hv;obtain⟨f1,f2,f3,f4⟩:=f ob ρ (fun o h1 h2=>by
        have:o∈(unpackW .ro t x (idOf i)).2.map (·.1):=by
         rw[zt,kM,List.mem_range'_1];rw[zt] at h2;exact⟨h1,h2⟩
        obtain⟨q,hq,rfl⟩:=List.mem_map.1 this;have:=hρ q (List.mem_append.2 (.inl hq));have hm:q.1∈(unpackW .ro t x (idOf i)).2.map (·.1):=List.mem_map_of_mem hq;simp only[if_pos hm] at this;exact this)
       refine .inr ⟨f2,?_⟩
       cases hs':t.scalar with
       | true=>
        obtain⟨v1,h1,h2⟩:=f3 hs';have:=hsc hs';rw[h1] at this;simp only[List.cons.injEq,and_true] at this;rw[← this];exact h2.symm
       | false=>rw[hag hs'];exact (f4 hs').symm
      | succ j=>
       refine g2 ob ρ (fun q hq=>?_) j u v' (by simpa using hu) (by simpa using hv);have:=hρ q (List.mem_append.2 (.inr hq));have hne:q.1∉(unpackW .ro t x (idOf i)).2.map (·.1):=fun hm=>hn3 q.1 hm q.1 (List.mem_map_of_mem hq) rfl;simp only[if_neg hne] at this;exact this
end
end Go.Ev
namespace Go.Ev
section
variable {P:Program}{E:Env}{w:World}
theorem ArgsRel.len {ks:List PK}{Ts:List TypeId}{tvs:List TV}{vs:List Value}(h:ArgsRel P w ks Ts tvs vs):ks.length=vs.length∧∀ i,fixedGo ks i=[]:=by
 induction h with
 | nil=>exact⟨rfl,fun i=>rfl⟩
 | cons h hs ih=>exact⟨by simp[ih.1],fun i=>by simp[fixedGo,PK.isFixed,ih.2]⟩
theorem zQH (hE:EnvOk P E) {f:Nat}{fd:FD}(hfd:E.fd f=some fd) {Ts:List TypeId}{tvs:List TV}{vs:List Value}(h:ArgsRel P w fd.sig.params Ts tvs vs):
  ∃ ρ,Inv w Non All (fixOf fd vs) (fd.init tvs) ρ noCol ⟨vs.toArray++Array.replicate (fd.fn.ntmps-vs.length) undef,[]⟩ w:=by
 obtain⟨_,_,_,q4,q5⟩:=hE.fn _ _ hfd;obtain⟨vs',objs,e,hl,hr⟩:=zKc h [] 0;simp only[List.nil_append,List.length_nil] at e;have hnd:(objs.map (·.1)).Nodup:=by
  have:=zCE fd.sig.params tvs [] 0 0 0;rw[e] at this;simp only at this;rw[this];exact q4
 obtain⟨L,g1,g2⟩:=hr hnd;obtain⟨hlen,hfix⟩:=h.len;have hinit:fd.init tvs=⟨vs'++List.replicate (fd.fn.ntmps-vs'.length) .undef,Objs.none.upds objs⟩:=by simp only[FD.init,e]
 rw[hinit]
 refine⟨L,rfl,by simp;omega,fun i u hi=>?_,fun o y hy=>?_,fun b o c hb=>by simp at hb,fun b _ _=>rfl,Nat.le_refl _,fun q hq=>?_,Like.refl w⟩
 · rw[List.getElem?_append] at hi
   split at hi
   · rename_i hil;have hiv:i<vs.length:=by omega
     have:=g2 (Objs.none.upds objs) L (fun q hq=>⟨rfl,zEA (List.mem_map_of_mem hq)⟩) i u _ hi (List.getElem?_eq_getElem hiv);have e2:(vs.toArray++Array.replicate (fd.fn.ntmps-vs.length) undef).getD i Go.undef=vs[i]:=by
      simp[Array.getD_eq_getD_getElem?,Array.getElem?_append,hiv]
     simp only[e2];exact this
   · rw[List.getElem?_replicate] at hi
     split at hi
     · simp only[Option.some.injEq] at hi;exact .inl hi.symm
     · simp at hi
 · rcases jj hy with hm | ⟨hm,_⟩
   · refine RoRow.rel ?_ rfl;have:=g1 _ hm;simp only at this
     cases y with
     | row m u xs=>
      cases m with
      | ro=>
       obtain⟨k1,k2,k3⟩:=this;exact⟨k1,k2.frame id (Nat.le_refl _) (fun b _ hb=>⟨⟨hb.1,.inl trivial⟩,rfl⟩),k3.frame id (Nat.le_refl _) (fun _ _ b _ hb=>⟨⟨hb.1,.inl trivial⟩,rfl⟩) (fun _ _ _=>rfl)⟩
      | own=>exact this.elim
      | sh=>exact this.elim
     | box _ _=>exact this.elim
     | dead=>exact this.elim
   · simp[Objs.none] at hm
 · simp only[fixOf,hfix 0] at hq;simp at hq
theorem law_calls (hE:EnvOk P E) {f n:Nat}{fd:FD}(hfd:E.fd f=some fd) (hres:fd.sig.res=[(.own,false,.bool)]) {Ts:List TypeId}{tvs:List TV}{vs:List Value}(h:ArgsRel P w fd.sig.params Ts tvs vs)
  (hrun:run E n f tvs=some [⟨.bool,true⟩]):Calls P fd.id vs.toArray w fun e w'=>e=.returned (.bool true)∧Go.RowKit.Below w.heap.size w w':=by
 obtain⟨ρ,hi⟩:=zQH hE hfd h;obtain⟨hlen,hfix⟩:=h.len;refine Calls.mono ((zPU hE n).1 _ _ _ _ hfd hrun w Non All ρ noCol vs hlen.symm hi) ?_;rintro e w' ⟨s',ρ',col',a',ws,rfl,hi',hfin,hws,_⟩;refine⟨?_,⟨hi'.same.1,hi'.same.2.1,hi'.same.2.2.1,hi'.mono,fun k hk=>hi'.low k hk (fun h=>h)⟩⟩;obtain⟨ws2,xs,us,ro,ys,vs2,_,r1,r2,r3,r4,r5,r6⟩:=zCH hfin;rw[hws] at r1;simp only[Option.some.injEq] at r1;subst r1;rw[hres] at r2
 match ws,r2 with
 | [u],r2=>
  simp only[packRes] at r2
  split at r2
  · rename_i x1 u1 v1 x2 u2 v2 h1 h2;simp only[Option.some.injEq,Prod.mk.injEq] at h2 r2;obtain⟨rfl,rfl,rfl⟩:=h2;obtain⟨rfl,_,_⟩:=r2;simp only[packRes1] at h1
    split at h1
    · rename_i x us' hp
      split at h1
      · simp only[Option.some.injEq,Prod.mk.injEq] at h1;obtain⟨rfl,_,_⟩:=h1
        cases u with
        | c c=>
         cases c with
         | bool b=>
          simp only[packW,Option.some.injEq,Prod.mk.injEq] at hp;obtain⟨rfl,_⟩:=hp;simp only[List.append_nil,List.cons_append,List.nil_append,List.cons.injEq,TV.mk.injEq,heq_eq_eq,true_and] at r6;rw[← r6.1]
          rfl
         | _=>simp[packW] at hp
        | _=>simp[packW] at hp
      · simp at h1
    · simp at h1
  · simp at r2
 | [],r2=>simp[packRes] at r2
 | _::_::_,r2=>
  simp only[packRes] at r2
  split at r2
  · rename_i h2;simp at h2
  · simp at r2
end
end Go.Ev
namespace Go.Ev
section
variable {P:Program}{W:World}{H:Type}{enc:TypeId×Value→H}{base:Nat}{spare:Nat→Bool}{held:Bool}
open Go.WideShapes in
theorem zVE {t:Ty}{T:TypeId}{v:Value}{d:DataW H}{ps:List MemPlace}{b2:Nat}(hd:deepB P t T=true) (hw:Value.okWide P W .any b2 T v) (h:DataW.Trod enc P W base spare held T v d ps):∃ x,ArgRel P W t T x v∧Within t x:=by
 obtain⟨fuel,hf⟩:=h;obtain⟨x,h1,h2⟩:=zGq t T hd fuel _ _ hf;have hT:=zNb hd
 refine⟨x,⟨hT,v.cells.toList,h1,fun hs=>?_,fun hs=>?_⟩,h2⟩
 · cases t with
   | int k=>obtain⟨n,rfl⟩:=okWide_int hT.2 hw;rfl
   | bool=>obtain⟨n,rfl⟩:=okWide_bool hT.2 hw;rfl
   | slice u=>
    obtain⟨_,e,he,_⟩:=hT;obtain⟨a,l,c,rfl⟩:=okWide_slice he hw
    rfl
   | _=>simp[Ty.scalar] at hs
 · have agg:∃ cs,v=.agg cs:=by
    cases t with
    | arr k m=>
     obtain⟨_,⟨e,he,_⟩,_⟩:=hT;unfold Value.okWide at hw;rw[he] at hw;obtain⟨cs,rfl,_⟩:=hw;exact⟨cs,rfl⟩
    | barr m=>
     obtain⟨_,e,he,_⟩:=hT;unfold Value.okWide at hw;rw[he] at hw;obtain⟨cs,rfl,_⟩:=hw;exact⟨cs,rfl⟩
    | pair a b=>
     obtain⟨_,_,fs,he,_⟩:=hT;unfold Value.okWide at hw;rw[he] at hw;obtain⟨cs,rfl,_⟩:=hw;exact⟨cs,rfl⟩
    | _=>simp[Ty.scalar] at hs
   obtain⟨cs,rfl⟩:=agg;simp[Value.cells]
end
end Go.Ev
namespace Go.Ev
def Fit:(t:Ty)→t.den→Prop
 | .int k,x=>(Lit.int k x).wf=true
 | .bool,_=>True
 | .arr k m,xs=>xs.length=m∧∀ x∈xs,(Lit.int k x).wf=true
 | .barr m,xs=>xs.length=m
 | .slice t,xs=>xs.length≤maxLen∧∀ x∈xs,Fit t x
 | .pair a b,x=>Fit a x.1∧Fit b x.2
theorem zNW {w:World}{own:Bool}{ok:Nat→Prop}:∀ (t:Ty) (x:t.den) (cs:List Value),TRep w own ok t x cs→Within t x→Fit t x
 | .int _,_,_,_,h=>h
 | .bool,_,_,_,_=>trivial
 | .arr _ _,_,_,h,h'=>by simp only[TRep] at h;exact⟨h.1,h'⟩
 | .barr _,_,_,h,_=>by simp only[TRep] at h;exact h.1
 | .pair a b,x,_,h,h'=>by
  simp only[TRep] at h;obtain⟨c1,c2,_,h1,h2⟩:=h;exact⟨zNW a _ _ h1 h'.1,zNW b _ _ h2 h'.2⟩
 | .slice u,xs,_,h,h'=>by
  simp only[TRep] at h;obtain⟨_,_,_,_,h2⟩:=h;refine⟨h'.1,fun x hx=>?_⟩;obtain⟨i,hi⟩:=List.mem_iff_getElem?.1 hx;obtain⟨ys,h3,_⟩:=h2 i x hi;exact zNW u _ _ h3 (h'.2 x hx)
section
variable {P:Program}{E:Env}{W:World}{H:Type}{enc:TypeId×Value→H}{base:Nat}{spare:Nat→Bool}{held:Bool}
theorem arg_fit {t:Ty}{T:TypeId}{v:Value}{d:DataW H}{ps:List MemPlace}{b2:Nat}(hd:deepB P t T=true) (hw:Value.okWide P W .any b2 T v) (h:DataW.Trod enc P W base spare held T v d ps):∃ x,ArgRel P W t T x v∧Fit t x:=by
 obtain⟨x,h1,h2⟩:=zVE hd hw h;obtain⟨_,ys,h3,_⟩:=id h1;exact⟨x,h1,zNW t _ _ h3 h2⟩
theorem law_ev (hE:EnvOk P E) {f:Nat}{fd:FD}(hfd:E.fd f=some fd) (hres:fd.sig.res=[(.own,false,.bool)]) {Ts:List TypeId}{tvs:List TV}{vs:List Value}(h:ArgsRel P W fd.sig.params Ts tvs vs)
  (hrun:ev E f tvs=some [⟨.bool,true⟩]):Calls P fd.id vs.toArray W fun e w'=>e=.returned (.bool true)∧Go.RowKit.Below W.heap.size W w':=by
 obtain⟨N,hN⟩:=zJd hrun;exact law_calls hE hfd hres h (hN N (Nat.le_refl _))
end
end Go.Ev
namespace Go.Ev
theorem zD {x:Int}(h1:-9223372036854775808≤x) (h2:x≤9223372036854775807):wi64 x=x:=by
 simp only[wi64,IntKind.wrap,IntKind.bits,IntKind.signed,Bool.true_and]
 split
 · rename_i h;have h:=of_decide_eq_true h;omega
 · rename_i h;have h:=of_decide_eq_false (eq_false_of_ne_true h);omega
theorem zG4 {x:Int}(h1:0≤x) (h2:x≤255):wu8 x=x:=by
 simp only[wu8,IntKind.wrap,IntKind.bits,IntKind.signed,Bool.false_and,Bool.false_eq_true,if_false];omega
theorem zVR {x:Int}(h:(Lit.int .u8 x).wf=true):0≤x∧x≤255:=by
 simp only[Lit.wf,Bool.and_eq_true,decide_eq_true_eq] at h;have e1:IntKind.min .u8=0:=by decide
 have e2:IntKind.max .u8=255:=by decide
 omega
theorem zMk (a b:Int):(a==b)=decide (a=b):=by rw[Bool.eq_iff_iff];simp
theorem zBI (a b:Int):(a != b)=!decide (a=b):=by rw[Bool.eq_iff_iff];simp
theorem zIR {α:Type}{xs ys:List α}(h:xs.length+ys.length<100000000000):apOk xs ys=true:=by
 unfold apOk lim;exact decide_eq_true (by omega)
theorem zDp {α:Type}{xs:List α}{x:α}(h:xs.length<10000000000):apOk xs [x]=true:=zIR (by simp only[List.length_cons,List.length_nil];omega)
theorem zVr {α:Type}{xs:List α}{x y z:α}(h:xs.length<10000000000):apOk xs [x,y,z]=true:=zIR (by simp only[List.length_cons,List.length_nil];omega)
theorem zOo {α:Type}{ys:List α}(h:ys.length<100000000000):apOk [] ys=true:=zIR (by simp only[List.length_nil];omega)
theorem zRI {α:Type}{l:List α}{k:Nat}(h:k<l.length):(l.take (k+1)).reverse=l[k]::(l.take k).reverse:=by
 rw[List.take_add_one,List.getElem?_eq_getElem h,List.reverse_append]
 rfl
theorem kX {P:Nat→Prop}(n:Nat) (last:P n) (step:∀ i,i<n→P (i+1)→P i):∀ i,i≤n→P i:=by
 intro i hi;obtain⟨k,rfl⟩:∃ k,n=i+k:=⟨n-i,by omega⟩;clear hi
 induction k generalizing i with
 | zero=>exact last
 | succ k ih=>exact step i (by omega) (ih (i+1) (by rwa [show i+1+k=i+(k+1) by omega]) (fun j hj=>step j (by omega)))
end Go.Ev
