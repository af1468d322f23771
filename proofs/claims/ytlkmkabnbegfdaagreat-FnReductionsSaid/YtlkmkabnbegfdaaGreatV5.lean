/- Words for walking the machine by hand. -/
import Derived.Test.YtlkmkabnbegfdaaGreatV4
set_option linter.unusedSimpArgs false
set_option linter.unusedVariables false
namespace Go.Ev
theorem zFL {α β:Type}{f:α→List β}{n:Nat}(hf:∀ a,(f a).length=n):∀ (xs:List α) (i j:Nat),j<n→(xs.flatMap f)[i*n+j]?=(xs[i]?).bind fun a=>(f a)[j]?
 | [],i,j,_=>by simp
 | a::xs,0,j,hj=>by
  rw[List.flatMap_cons,List.getElem?_append_left (by rw[hf];omega)];simp
 | a::xs,i+1,j,hj=>by
  rw[List.flatMap_cons,List.getElem?_append_right (by rw[hf];rw[Nat.add_mul];omega),hf];rw[show (i+1)*n+j-n=i*n+j by rw[Nat.add_mul];omega,zFL hf xs i j hj];simp
theorem TRep.oneCell {w:World}{own:Bool}{ok:Nat→Prop}:∀ {t:Ty}{x:t.den}{cs:List Value},TRep w own ok t x cs→∀ v∈cs,v.oneCell'=true
 | .int _,_,_,h,v,hv=>by simp only[TRep] at h;subst h;simp at hv;subst hv;rfl
 | .bool,_,_,h,v,hv=>by simp only[TRep] at h;subst h;simp at hv;subst hv;rfl
 | .arr _ _,_,_,h,v,hv=>by
  simp only[TRep] at h;obtain⟨_,rfl⟩:=h;obtain⟨y,_,rfl⟩:=List.mem_map.1 hv
  rfl
 | .barr _,_,_,h,v,hv=>by
  simp only[TRep] at h;obtain⟨_,rfl⟩:=h;obtain⟨y,_,rfl⟩:=List.mem_map.1 hv
  rfl
 | .pair a b,_,_,h,v,hv=>by
  simp only[TRep] at h;obtain⟨c1,c2,rfl,h1,h2⟩:=h
  rcases List.mem_append.1 hv with hv | hv
  · exact h1.oneCell v hv
  · exact h2.oneCell v hv
 | .slice _,_,_,h,v,hv=>by
  simp only[TRep] at h;obtain⟨_,_,rfl,_⟩:=h;simp at hv;subst hv
  rfl
section
variable {P:Program}{E:Env}{w:World}
theorem zOV {fd:FD}(q4:((initPs [] fd.sig.params 0 0).2.map (·.1)).Nodup) (q5:fd.sig.params.length≤fd.fn.ntmps) {Ts:List TypeId}{tvs:List TV}{vs:List Value}(h:ArgsRel P w fd.sig.params Ts tvs vs):
  ∃ ρ,Inv w Non All (fixOf fd vs) (fd.init tvs) ρ noCol ⟨vs.toArray++Array.replicate (fd.fn.ntmps-vs.length) undef,[]⟩ w:=by
 obtain⟨vs',objs,e,hl,hr⟩:=zKc h [] 0;simp only[List.nil_append,List.length_nil] at e;have hnd:(objs.map (·.1)).Nodup:=by
  have:=zCE fd.sig.params tvs [] 0 0 0;rw[e] at this;simp only at this;rw[this];exact q4
 obtain⟨L,g1,g2⟩:=hr hnd;obtain⟨hlen,hfix⟩:=h.len;have hinit:fd.init tvs=⟨vs'++List.replicate (fd.fn.ntmps-vs'.length) .undef,Objs.none.upds objs⟩:=by simp only[FD.init,e]
 rw[hinit]
 refine⟨L,rfl,by simp;omega,fun i u hi=>?_,fun o y hy=>?_,fun b o c hb=>by simp at hb,fun b _ _=>rfl,Nat.le_refl _,fun q hq=>?_,Like.refl w⟩
 · rw[List.getElem?_append] at hi
   split at hi
   · rename_i hil;have hiv:i<vs.length:=by omega
     have:=g2 (Objs.none.upds objs) L (fun q hq=>⟨rfl,zEA (List.mem_map_of_mem hq)⟩) i u _ hi (List.getElem?_eq_getElem hiv);have e2:(vs.toArray++Array.replicate (fd.fn.ntmps-vs.length) undef).getD i Go.undef=vs[i]:=by
      simp[Array.getD_eq_getD_getElem?,Array.getElem?_append,hiv]
     simp only[e2];exact this
   · rw[List.getElem?_replicate] at hi
     split at hi
     · simp only[Option.some.injEq] at hi;exact .inl hi.symm
     · simp at hi
 · rcases jj hy with hm | ⟨hm,_⟩
   · refine RoRow.rel ?_ rfl;have:=g1 _ hm;simp only at this
     cases y with
     | row m u xs=>
      cases m with
      | ro=>
       obtain⟨k1,k2,k3⟩:=this;exact⟨k1,k2.frame id (Nat.le_refl _) (fun b _ hb=>⟨⟨hb.1,.inl trivial⟩,rfl⟩),k3.frame id (Nat.le_refl _) (fun _ _ b _ hb=>⟨⟨hb.1,.inl trivial⟩,rfl⟩) (fun _ _ _=>rfl)⟩
      | own=>exact this.elim
      | sh=>exact this.elim
     | box _ _=>exact this.elim
     | dead=>exact this.elim
   · simp[Objs.none] at hm
 · simp[fixOf,hfix 0] at hq
end
end Go.Ev
namespace Go.Ev
section
variable {α:Type} [Inhabited α] (enc:α→List Value) (k:Nat) (w:World) (blk off n:Nat) (d:Array α) (os:Array Go.Obj)
end
section
variable {P:Program}{E:Env}
end
end Go.Ev
namespace Go.Ev
section
variable {P:Program}{E:Env}
theorem zD5 {P:Program}{ops:Array Oper}{Q:Exit→Act→World→Prop}{i:Nat}{rest:List Nat}{o:Oper}{a:Act}{w:World}(ho:ops[i]?=some o) (hg:o.guard=none) (h:o.wp P a w (wpOps P ops Q rest) Q):
  wpOps P ops Q (i::rest) a w:=by
 rw[wpOps_cons];unfold wpOp;simp only[ho,Region.wanted,hg,if_true];exact .inl h
theorem zF {ops:Array Oper}{Q:Exit→Act→World→Prop}{i:Nat}{rest:List Nat}{o:Oper}{a:Act}{w w':World}{d:Nat}{v:Value}(ho:ops[i]?=some o) (hg:o.guard=none) (hd:o.dst=some d)
  (hr:(execOp a.eval o).run P w=.ok (.value v) w') (h:wpOps P ops Q rest (a.put (some d) v) w'):wpOps P ops Q (i::rest) a w:=zD5 ho hg (by unfold Oper.wp;rw[hr,Oper.upon_value,hd];exact h)
theorem zOx {ops:Array Oper}{Q:Exit→Act→World→Prop}{i:Nat}{rest:List Nat}{o:Oper}{a:Act}{w w':World}(ho:ops[i]?=some o) (hg:o.guard=none) (hd:o.dst=none)
  (hr:(execOp a.eval o).run P w=.ok .skip w') (h:wpOps P ops Q rest a w'):wpOps P ops Q (i::rest) a w:=zD5 ho hg (by unfold Oper.wp;rw[hr,Oper.upon_skip,hd];exact h)
theorem zCz {ops:Array Oper}{Q:Exit→Act→World→Prop}{i:Nat}{rest:List Nat}{o:Oper}{a:Act}{w:World}{f:FuncId}{args:Array Value}{d:Nat}(ho:ops[i]?=some o) (hg:o.guard=none) (hd:o.dst=some d)
  (hr:(execOp a.eval o).run P w=.ok (.enter f args) w) (h:Calls P f args w fun e w'=>∃ v,e=.returned v∧wpOps P ops Q rest (a.put (some d) v) w'):wpOps P ops Q (i::rest) a w:=by
 refine zD5 ho hg ?_;unfold Oper.wp;rw[hr,Oper.upon_enter,hd];refine h.mono ?_;rintro e w' ⟨v,rfl,h⟩;exact h
theorem zU {ops:Array Oper}{K:Act→World→Prop}{Q:Exit→Act→World→Prop}{a:Act}{w:World}(h:K a w):wpOps P ops (Exit.then K Q) [] a w:=h
theorem zMu {ops:Array Oper}{Q:Exit→Act→World→Prop}{a:Act}{w:World}(h:Q .normal a w):wpOps P ops Q [] a w:=h
theorem zB {a:Act}{d e:Nat}(hd:d<a.tmps.size) (v:Value):(a.put (some d) v).eval (.tmp e)=if d=e then v else a.eval (.tmp e):=by
 show (a.tmps.setIfInBounds d v).getD e undef=_;rw[Array.getD_eq_getD_getElem?,Array.getElem?_setIfInBounds]
 by_cases h:d=e
 · subst h;rw[if_pos rfl,if_pos rfl,if_pos hd]
   rfl
 · rw[if_neg h,if_neg h,← Array.getD_eq_getD_getElem?]
   rfl
theorem zT (a:Act) (d:Nat) (v:Value):(a.put (some d) v).defers=a.defers:=rfl
theorem zA (a:Act) (d:Nat) (v:Value):(a.put (some d) v).tmps.size=a.tmps.size:=by
 show (a.tmps.setIfInBounds d v).size=_;simp
def natOf:Value→Nat
 | .int _ x=>x.toNat
 | _=>0
theorem jc {T:Option Ty}{i:Nat}(h:i≤549755813888):binW .add T (.c (.int .i64 (i:Int))) (.c (.int .i64 1))=some (true,.c (.int .i64 ((i+1:Nat):Int))):=by
 have:IntKind.wrap .i64 ((i:Int)+1)=((i+1:Nat):Int):=by
  rw[Int.natCast_add];exact zD (by omega) (by omega)
 simp only[binW,intOp,if_true,this]
variable {a:Act}{w:World}{o:Oper}
theorem r_mv {x:Operand}{v:Value}(hop:o.op=.move x∨o.op=.assign x) (hx:a.eval x=v):(execOp a.eval o).run P w=.ok (.value v) w:=by
 rcases hop with h | h<;>simp[execOp,h,hx]
theorem kU {op:BinOp}{T T':TypeId}{x y:Operand}{k:IntKind}{m m':Int}{u:C}(hE:EnvTy P E) (hop:o.op=.binOp op T x y T') (hx:a.eval x=.int k m) (hy:a.eval y=.int k m')
  (hb:binW op (E.ty T) (.c (.int k m)) (.c (.int k m'))=some (true,.c u)):(execOp a.eval o).run P w=.ok (.value (cval (fun _=>⟨none,0,0⟩) u)) w:=by
 have:=(zI2 (P:=P) (ρ:=fun _=>⟨none,0,0⟩) (ob:=Objs.none) hE hb rfl trivial trivial x y w).2;simp only[wval,cval] at this;simp only[execOp,hop,hx,hy];exact zq this
theorem zIK {T e:TypeId}{x:Operand}{addr:Option Addr}{n cap:Nat}(hT:P.underlying T=some (.slice e)) (hop:o.op=.call { callee:=.builtin .len,args:=#[x],argTypes:=#[T] }) (hx:a.eval x=.slice addr n cap):
  (execOp a.eval o).run P w=.ok (.value (.int .i64 n)) w:=by
 simp[execOp,hop,resolve,hx,invoke,builtin,zEz hT]
theorem zIL {T e:TypeId}{i:TypeInfo}(hT:P.underlying T=some (.slice e)) (hi:P.info? e=some i) {x y:Operand}{b off len cap n:Nat}{k:IntKind}(hop:o.op=.indexAddr T x y) (hx:a.eval x=.slice (some ⟨b,off,none⟩) len cap)
  (hy:a.eval y=.int k (n:Int)) (hn:n<len):(execOp a.eval o).run P w=.ok (.value (.pointer (some ⟨b,off+n*i.size,none⟩))) w:=by
 have:=zBQ (P:=P) hT hi b off len cap k (n:Int) (by omega) (by omega) w;simp only[Int.toNat_natCast] at this;simp[execOp,hop,hx,hy,this]
theorem r_ld (hE:EnvTy P E) {T:TypeId}{t:Ty}(ht:E.ty T=some t) (hts:t.scalar=false) {x:Operand}{b off:Nat}{vs:List Value}(hop:o.op=.load T x) (hx:a.eval x=.pointer (some ⟨b,off,none⟩)) (hl:vs.length=t.cells)
  (hc:∀ j v,vs[j]?=some v→w.cell? ⟨b,off+j,none⟩=some v):(execOp a.eval o).run P w=.ok (.value (.agg vs.toArray)) w:=by
 have:=zBy hE ht hts hl hc;simp[execOp,hop,hx,this]
theorem r_fn {g:Nat}{x:Operand}{args:Array Operand}{tys:Array TypeId}(hop:o.op=.call { callee:=.value x,args:=args,argTypes:=tys }) (hx:a.eval x=.func (.func g) #[] #[]) (eg:∀ args w,(callFunc g args).run P w=.ok (.enter g args) w):
  (execOp a.eval o).run P w=.ok (.enter g (args.map a.eval)) w:=by
 simp[execOp,hop,resolve,hx,Deferred.ofValue,invoke,eg]
theorem zTm (hE:EnvTy P E) {T:TypeId}{t:Ty}(ht:E.ty T=some t) (hop:o.op=.alloc T):∃ cs:List Value,cs.length=t.cells ∧
  (execOp a.eval o).run P w=.ok (.value (.pointer (some ⟨w.heap.size,0,none⟩))) (w.alloc (.cells cs.toArray T)):=by
 obtain⟨i,hi,hz,hs,_,hc1,_⟩:=(hE T _ ht).base;refine⟨wcells (fun _=>⟨none,0,0⟩) t.zeroW,(jS (fun _=>⟨none,0,0⟩) (hE T _ ht) w false (fun _=>True)).len,?_⟩;rw[← zR];simp[execOp,hop,Instr.alloc,kI hi hz,newVar,newRow]
theorem zJJ {fn:Func}{d:Nat}{v:Value}(h:fn.results=#[.tmp d]) (hv:a.eval (.tmp d)=v):(results fn a.tmps).run P w=.ok v w:=by
 rw[zFh,h];have:a.tmps.getD d undef=v:=hv;simp[resF,this]
def KeepA (w w':World):Prop:=w.heap.size≤w'.heap.size∧Like w w'∧∀ b,b<w.heap.size→w'.heap[b]?=w.heap[b]?
def KeepB (blk:Nat) (w w':World):Prop:=w.heap.size≤w'.heap.size∧Like w w'∧∀ b,b<w.heap.size→b≠blk→w'.heap[b]?=w.heap[b]?
theorem KeepA.refl (w:World):KeepA w w:=⟨Nat.le_refl _,Like.refl w,fun _ _=>rfl⟩
theorem KeepA.trans {w w' w'':World}(h:KeepA w w') (g:KeepA w' w''):KeepA w w'':=
 ⟨Nat.le_trans h.1 g.1,h.2.1.trans g.2.1,fun b hb=>(g.2.2 b (Nat.lt_of_lt_of_le hb h.1)).trans (h.2.2 b hb)⟩
theorem KeepA.b {w w':World}(h:KeepA w w') (blk:Nat):KeepB blk w w':=⟨h.1,h.2.1,fun b hb _=>h.2.2 b hb⟩
theorem KeepB.trans {blk:Nat}{w w' w'':World}(h:KeepB blk w w') (g:KeepB blk w' w''):KeepB blk w w'':=
 ⟨Nat.le_trans h.1 g.1,h.2.1.trans g.2.1,fun b hb hn=>(g.2.2 b (Nat.lt_of_lt_of_le hb h.1) hn).trans (h.2.2 b hb hn)⟩
theorem kv (w:World) (x:Go.Obj):KeepA w (w.alloc x):=by
 refine⟨by rw[zi];omega,⟨rfl,rfl,rfl,Nat.le_refl _⟩,fun b hb=>by first | exact heap_alloc_old w x hb | exact heap_alloc_old w x b hb⟩
def At (w:World) (blk off k r:Nat) (ys:List Value):Prop:=∀ j v,ys[j]?=some v→w.cell? ⟨blk,off+(r*k+j),none⟩=some v
theorem At.keep {w w':World}{blk off k r:Nat}{ys:List Value}(h:At w blk off k r ys) (g:w'.heap[blk]?=w.heap[blk]?):At w' blk off k r ys:=fun j v hv=>by
 have:=h j v hv;simpa only[World.cell?,g] using this
def Row (w:World) (blk n:Nat):Prop:=∃ cs T,w.heap[blk]?=some (.cells cs T (0,0))∧cs.size=n
theorem Row.keep {w w':World}{blk n:Nat}(h:Row w blk n) (g:w'.heap[blk]?=w.heap[blk]?):Row w' blk n:=by
 obtain⟨cs,T,h1,h2⟩:=h;exact⟨cs,T,g.trans h1,h2⟩
theorem zKJ {blk off m:Nat}{vs:List Value}{W:World}(hr:Row W blk m) (hfit:off+vs.length≤m) (h1:∀ v∈vs,v.oneCell'=true):
  ∃ W',(storeCells ⟨blk,off,none⟩ vs).run P W=.ok () W'∧KeepB blk W W'∧Row W' blk m∧(∀ j v,vs[j]?=some v→W'.cell? ⟨blk,off+j,none⟩=some v) ∧
   ∀ q,q<off∨off+vs.length≤q→W'.cell? ⟨blk,q,none⟩=W.cell? ⟨blk,q,none⟩:=by
 obtain⟨cur,T,hb,hm⟩:=hr;have hst:=run_storeCells_at P blk off T vs 0 cur W hb (by simpa[hm] using hfit) h1;simp only[Nat.add_zero] at hst;have hsr:=setRow_heap W blk cur (cur.toList.take off++vs++cur.toList.drop (off+vs.length)).toArray T _ hb;have hlt:blk<W.heap.size:=(Array.getElem?_eq_some_iff.1 hb).1
 refine⟨_,hst,⟨?_,by first | exact⟨rfl,rfl,rfl,Nat.le_refl _⟩ | exact⟨rfl,rfl,rfl,Nat.le_add_right _ _⟩,fun b _ hn=>setRow_other W blk b _ hn⟩,⟨_,T,hsr,?_⟩,fun j v hv=>?_,fun q hq=>?_⟩
 · unfold World.setRow;simp
 · simp only[List.size_toArray,List.length_append,List.length_take,List.length_drop,Array.length_toList];omega
 · have hj:=(List.getElem?_eq_some_iff.1 hv).1;simp only[World.cell?,hsr,Option.isSome_none,Bool.false_eq_true,if_false,List.getElem?_toArray];rw[List.getElem?_append_left (by simp;omega),List.getElem?_append_right (by simp;omega)];have:off+j-(cur.toList.take off).length=j:=by simp;omega
   rw[this];simpa using hv
 · simp only[World.cell?,hsr,hb,Option.isSome_none,Bool.false_eq_true,if_false,List.getElem?_toArray]
   rcases hq with hq | hq
   · rw[List.getElem?_append_left (by simp;omega),List.getElem?_append_left (by simp;omega),List.getElem?_take,if_pos hq];simp
   · by_cases hq2:q<m
     · rw[List.getElem?_append_right (by simp;omega),List.getElem?_drop];have:off+vs.length+(q-(cur.toList.take off++vs).length)=q:=by simp;omega
       rw[this];simp
     · rw[List.getElem?_eq_none (by simp;omega),Array.getElem?_eq_none (by omega)]
theorem zPY (hE:EnvTy P E) {T:TypeId}{t:Ty}(ht:E.ty T=some t) {x y:Operand}{blk off m:Nat}{ys:List Value}(hop:o.op=.store T x y) (hx:a.eval x=.pointer (some ⟨blk,off,none⟩)) (hy:a.eval y=.agg ys.toArray)
  (hl:ys.length=t.cells) (h1:∀ v∈ys,v.oneCell'=true) (hr:Row w blk m) (hfit:off+ys.length≤m):
  ∃ w',(execOp a.eval o).run P w=.ok .skip w'∧KeepB blk w w'∧Row w' blk m∧(∀ j v,ys[j]?=some v→w'.cell? ⟨blk,off+j,none⟩=some v) ∧
   ∀ q,q<off∨off+ys.length≤q→w'.cell? ⟨blk,q,none⟩=w.cell? ⟨blk,q,none⟩:=by
 obtain⟨w',g1,g⟩:=zKJ (P:=P) hr hfit h1;obtain⟨i,hi,hz,hs,_,hc1,_⟩:=(hE T _ ht).base;refine⟨w',?_,g⟩;simp[execOp,hop,hx,hy,Instr.storeAt,Instr.sureAddr,storeVar,zN hi,hs,hl,Value.cells,g1]
theorem zCR {ops:Array Oper}{Q:Exit→Act→World→Prop}{i:Nat}{rest:List Nat}{d:Nat}(hE:EnvTy P E) {T:TypeId}{t:Ty}(ht:E.ty T=some t) (ho:ops[i]?=some o) (hg:o.guard=none) (hd:o.dst=some d) (hop:o.op=.alloc T)
  (h:∀ w',KeepA w w'→Row w' w.heap.size t.cells→wpOps P ops Q rest (a.put (some d) (.pointer (some ⟨w.heap.size,0,none⟩))) w'):wpOps P ops Q (i::rest) a w:=by
 obtain⟨cs,h1,h2⟩:=zTm (P:=P) (a:=a) (w:=w) hE ht hop;exact zF ho hg hd h2 (h _ (kv w _) ⟨cs.toArray,T,heap_alloc_new w _,by simpa using h1⟩)
theorem ji {ops:Array Oper}{Q:Exit→Act→World→Prop}{i:Nat}{rest:List Nat}{blk off m:Nat}{ys:List Value}(hE:EnvTy P E) {T:TypeId}{t:Ty}(ht:E.ty T=some t) (ho:ops[i]?=some o) (hg:o.guard=none) (hd:o.dst=none)
  {x y:Operand}(hop:o.op=.store T x y) (hx:a.eval x=.pointer (some ⟨blk,off,none⟩)) (hy:a.eval y=.agg ys.toArray) (hl:ys.length=t.cells) (h1:∀ v∈ys,v.oneCell'=true) (hr:Row w blk m) (hfit:off+ys.length≤m)
  (h:∀ w',KeepB blk w w'→Row w' blk m→(∀ j v,ys[j]?=some v→w'.cell? ⟨blk,off+j,none⟩=some v)→(∀ q,q<off∨off+ys.length≤q→w'.cell? ⟨blk,q,none⟩=w.cell? ⟨blk,q,none⟩)→wpOps P ops Q rest a w'):wpOps P ops Q (i::rest) a w:=by
 obtain⟨w',g1,g2,g3,g4,g5⟩:=zPY (P:=P) (o:=o) hE ht hop hx hy hl h1 hr hfit;exact zOx ho hg hd g1 (h w' g2 g3 g4 g5)
end
def kept (p:Nat→Bool) (j:Nat):List Nat:=(List.range j).filter fun i=>!p i
section
variable {P:Program}{E:Env}{w:World}
theorem zOK {fd:FD}(q4:((initPs [] fd.sig.params 0 0).2.map (·.1)).Nodup) (q5:fd.sig.params.length≤fd.fn.ntmps) (hres:fd.sig.res=[(.own,false,.bool)]) {Ts:List TypeId}{tvs:List TV}{vs:List Value}
  (h:ArgsRel P w fd.sig.params Ts tvs vs) {c:Bool}(hspec:FnSpec P E fd tvs [⟨.bool,c⟩]):Calls P fd.id vs.toArray w fun e w'=>e=.returned (.bool c)∧KeepA w w':=by
 obtain⟨ρ,hi⟩:=zOV q4 q5 h;obtain⟨hlen,hfix⟩:=h.len;refine Calls.mono (hspec w Non All ρ noCol vs hlen.symm hi) ?_;rintro e w' ⟨s',ρ',col',a',ws,rfl,hi',hfin,hws,_⟩;refine⟨?_,hi'.mono,hi'.same,fun k hk=>hi'.low k hk (fun h=>h)⟩;obtain⟨ws2,xs,us,ro,ys,vs2,_,r1,r2,r3,r4,r5,r6⟩:=zCH hfin;rw[hws] at r1;simp only[Option.some.injEq] at r1;subst r1;rw[hres] at r2
 match ws,r2 with
 | [u],r2=>
  simp only[packRes] at r2
  split at r2
  · rename_i x1 u1 v1 x2 u2 v2 h1 h2;simp only[Option.some.injEq,Prod.mk.injEq] at h2 r2;obtain⟨rfl,rfl,rfl⟩:=h2;obtain⟨rfl,_,_⟩:=r2;simp only[packRes1] at h1
    split at h1
    · rename_i x us' hp
      split at h1
      · simp only[Option.some.injEq,Prod.mk.injEq] at h1;obtain⟨rfl,_,_⟩:=h1
        cases u with
        | c cc=>
         cases cc with
         | bool b=>
          simp only[packW,Option.some.injEq,Prod.mk.injEq] at hp;obtain⟨rfl,_⟩:=hp;simp only[List.append_nil,List.cons_append,List.nil_append,List.cons.injEq,TV.mk.injEq,heq_eq_eq,true_and] at r6;rw[r6.1]
          rfl
         | _=>simp[packW] at hp
        | _=>simp[packW] at hp
      · simp at h1
    · simp at h1
  · simp at r2
 | [],r2=>simp[packRes] at r2
 | _::_::_,r2=>
  simp only[packRes] at r2
  split at r2
  · rename_i h2;simp at h2
  · simp at r2
theorem zAV {f:FuncId}{fn:Func}(h1:P.funcs[f]?=some fn) (h2:((fn.name == "runtime.NumGoroutine")||fn.body.isNone)=false):∀ args w,(callFunc f args).run P w=.ok (.enter f args) w:=by
 intro args w;simp only[Bool.or_eq_false_iff] at h2;have q2':¬ fn.name = "runtime.NumGoroutine" := by simpa using h2.1
 have q3':¬ fn.body=none:=fun e=>by rw[e] at h2;simp at h2
 simp[callFunc,h1,q2',q3']
theorem zSy {ks:List Nat}(hn:ks.Nodup) {r q:Nat}(h:ks[r]?=some q):ks.idxOf q=r:=by
 obtain⟨hr,e⟩:=List.getElem?_eq_some_iff.1 h;subst e;exact hn.idxOf_getElem r hr
end
end Go.Ev
namespace Go.Ev
section
variable {P:Program}{E:Env}
end
section
variable {P:Program}{E:Env}
end
end Go.Ev
namespace Go.Ev
def enumL:Nat→List Value→List (Nat×Value)
 | _,[]=>[]
 | n,v::r=>(n,v)::enumL (n+1) r
theorem zKl:∀ (vs:List Value) (n:Nat),(enumL n vs).length=vs.length
 | [],_=>rfl
 | v::r,n=>by simp[enumL,zKl r]
theorem zKm:∀ (vs:List Value) (n k:Nat) (p:Nat×Value),(enumL n vs)[k]?=some p→p.1=n+k∧vs[k]?=some p.2
 | [],n,k,p,h=>by simp[enumL] at h
 | v::r,n,0,p,h=>by
  simp only[enumL,List.getElem?_cons_zero,Option.some.injEq] at h;subst h;exact⟨rfl,rfl⟩
 | v::r,n,k+1,p,h=>by
  simp only[enumL,List.getElem?_cons_succ] at h;obtain⟨h1,h2⟩:=zKm r (n+1) k p h;exact⟨by omega,by simpa using h2⟩
section
variable {P:Program}{E:Env}{a:Act}{w:World}{o:Oper}
theorem zVY (hE:EnvTy P E) {T:TypeId}{t:Ty}(ht:E.ty T=some (.slice t)) (h1:t.cells=1) {parts:Array (Nat×Operand)}{len:Nat}(hop:o.op=.buildSlice T len parts) {vs:List Value}(hl:len=vs.length) (h64:vs.length≤64)
  (hp:(parts.toList.map fun p=>(p.1,a.eval p.2))=enumL 0 vs) (hc:∀ v∈vs,v.cells=#[v]):
  ∃ e,(execOp a.eval o).run P w=.ok (.value (.slice (some ⟨w.heap.size,0,none⟩) vs.length vs.length)) (w.alloc (.cells vs.toArray e)):=by
 obtain⟨_,e,hT,hte⟩:=hE.ty T _ ht;obtain⟨i,hi,hz,hs,hb,hc1,hc2⟩:=hte.base;subst hl;refine⟨e,?_⟩;have hmap:((parts.map fun p=>(p.1,a.eval p.2)).toList)=enumL 0 vs:=by rw[Array.toList_map];exact hp
 have hfl:∀ l:List Value,(l.map fun v=>[v]).flatten=l:=by
  intro l
  induction l with
  | nil=>rfl
  | cons v l ih=>simp[ih]
 have hfill:∀ init:List Value,init.length=vs.length*t.cells→Instr.fill (fun i=>some (i*t.cells,t.cells)) init.toArray (enumL 0 vs)=some vs.toArray:=by
  intro init hinit;rw[h1] at hinit ⊢
  have:=zCI 1 (vs.map fun v=>[v]) (enumL 0 vs) 0 init (fun x hx=>by obtain⟨v,_,rfl⟩:=List.mem_map.1 hx;rfl) (by simp[zKl])
   (fun k p x hk hx=>by
    obtain⟨e1,e2⟩:=zKm vs 0 k p hk;rw[List.getElem?_map,Option.map_eq_some_iff] at hx;obtain⟨v,hv,rfl⟩:=hx;rw[hv] at e2;simp only[Option.some.injEq] at e2;rw[← e2];exact⟨e1,by simpa using hc v (List.mem_of_getElem? hv)⟩) (by simp;omega)
  rw[this,hfl];simp only[Nat.zero_mul,List.take_zero,List.nil_append,Nat.zero_add,List.length_map,Nat.mul_one];rw[List.drop_of_length_le (by omega),List.append_nil]
 have hbig:¬ (16777216<vs.length*t.cells):=by rw[h1];omega
 by_cases h0:vs.length*t.cells=0
 · have hv0:vs=[]:=by
    rw[h1] at h0;exact List.eq_nil_of_length_eq_zero (by omega)
   subst hv0;have hp1:parts=#[]:=by
    have:(parts.toList.map fun p=>(p.1,a.eval p.2)).length=0:=by rw[hp];rfl
    apply Array.toList_inj.1;simpa using this
   simp[execOp,hop,Instr.buildSlice,run_underlying hT,zN hi,hs,hp1,Instr.fill,newRow,Array.range_zero']
 · have hf0:=hfill ((Array.range (vs.length*t.cells)).map (fun x=>((wval (fun _=>⟨none,0,0⟩) t.zeroW).cells)[x % ((wval (fun _=>⟨none,0,0⟩) t.zeroW).cells).size]!)).toList (by simp);simp only[Array.toArray_toList] at hf0;simp[execOp,hop,Instr.buildSlice,run_underlying hT,zN hi,hs,hbig,h0,kI hi hz,hp,hf0,newRow]
theorem zRB {ops:Array Oper}{Q:Exit→Act→World→Prop}{i:Nat}{rest:List Nat}{d:Nat}(hE:EnvTy P E) {T:TypeId}{t:Ty}(ht:E.ty T=some (.slice t)) (h1:t.cells=1) (ho:ops[i]?=some o) (hg:o.guard=none) (hd:o.dst=some d)
  {parts:Array (Nat×Operand)}{len:Nat}(hop:o.op=.buildSlice T len parts) (vs:List Value) (hl:len=vs.length) (h64:vs.length≤64) (hp:(parts.toList.map fun p=>(p.1,a.eval p.2))=enumL 0 vs) (hc:∀ v∈vs,v.cells=#[v])
  (h:∀ w',KeepA w w'→w'.heap.size=w.heap.size+1→Row w' w.heap.size vs.length→(∀ j v,vs[j]?=some v→w'.cell? ⟨w.heap.size,j,none⟩=some v) →
   wpOps P ops Q rest (a.put (some d) (.slice (some ⟨w.heap.size,0,none⟩) vs.length vs.length)) w'):wpOps P ops Q (i::rest) a w:=by
 obtain⟨e,hr⟩:=zVY (P:=P) (a:=a) (w:=w) hE ht h1 hop hl h64 hp hc;refine zF ho hg hd hr (h _ (kv w _) (zi w _) ⟨vs.toArray,e,heap_alloc_new w _,by simp⟩ (fun j v hv=>?_));rw[kN];exact hv
theorem zRD {ops:Array Oper}{Q:Exit→Act→World→Prop}{i:Nat}{rest:List Nat}{d:Nat}(hE:EnvTy P E) {T:TypeId}{t:Ty}(ht:E.ty T=some (.slice t)) (h1:t.cells=1) (ho:ops[i]?=some o) (hg:o.guard=none) (hd:o.dst=some d)
  {x y:Operand}(hop:o.op=.call { callee:=.builtin .append,args:=#[x,y],argTypes:=#[T,T] }) {addr:Option Addr}{n cap b2 cap2:Nat}{olds:List Value}{v:Value}{ok:Nat→Prop}(hx:a.eval x=.slice addr n cap) (hy:a.eval y=.slice (some ⟨b2,0,none⟩) 1 cap2)
  (hrow:RowW w true ok 1 n addr cap) (hlo:olds.length=n) (hco:∀ j v,olds[j]?=some v→cellAt w addr j=some v) (hv:w.cell? ⟨b2,0,none⟩=some v) (hv1:v.oneCell'=true) (hlim:n+1≤lim)
  (h:∀ w' addr' cap',w.heap.size≤w'.heap.size→Like w w'→(∀ b,b<w.heap.size→(∀ ad,addr=some ad→b≠ad.block)→w'.heap[b]?=w.heap[b]?)→(∀ j u,(olds++[v])[j]?=some u→cellAt w' addr' j=some u) →
   RowW w' true (fun b=>w.heap.size≤b∨ok b) 1 (n+1) addr' cap'→wpOps P ops Q rest (a.put (some d) (.slice addr' (n+1) cap')) w'):wpOps P ops Q (i::rest) a w:=by
 obtain⟨_,e,hT,hte⟩:=hE.ty T _ ht;obtain⟨ti,hi,hz,hs,hb,hc1,hc2⟩:=hte.base;have hzl:(wcells (fun _=>⟨none,0,0⟩) t.zeroW).length=t.cells:=(jS (fun _=>⟨none,0,0⟩) hte w false (fun _=>True)).len;have hzc:(wval (fun _=>⟨none,0,0⟩) t.zeroW).cells.size=ti.size:=by rw[zR,hs];simpa using hzl
 rw[h1] at hs;rw[← hs] at hrow
 obtain⟨w',addr',cap',g1,g2,g3,g4,g5,g6⟩:=jX (P:=P) (ty:=o.type) hT hi hz hzc hb (by omega) hrow (olds:=olds) (news:=[v]) (m:=1) (cap2:=cap2) (addr2:=some ⟨b2,0,none⟩) (by rw[hs];omega) hco (by rw[hs];simp)
  (fun j u hu=>by
   match j with
   | 0=>
    simp only[List.getElem?_cons_zero,Option.some.injEq] at hu;subst hu;simpa[cellAt] using hv
   | j+1=>simp at hu) (by simp) (fun ad had _=>by simp only[Option.some.injEq] at had;rw[← had]) (by simpa using hv1) hlim
 have hr:(execOp a.eval o).run P w=.ok (.value (.slice addr' (n+1) cap')) w':=by
  simp[execOp,hop,resolve,hx,hy,invoke,builtin,g1]
 refine zF ho hg hd hr (h w' addr' cap' g2 g3 (fun b hb hn=>?_) g4 ?_)
 · rcases g6 with ⟨_,_,_,q1,q2⟩ | ⟨_,_,q1,_⟩
   · cases had:addr with
     | none=>rw[q1 had]
     | some ad=>exact (q2 ad had).1 b (hn ad had)
   · exact q1 b hb
 · refine⟨g5,fun e=>?_,fun ad had _=>?_⟩
   · rcases g6 with ⟨e1,e2,_,_,_⟩ | ⟨e1,_⟩
     · have:=(hrow.2.1 (e1 ▸ e));have c0:=this.2 rfl;omega
     · rw[e1] at e;simp at e
   · rcases g6 with ⟨e1,e2,q0,_,q2⟩ | ⟨e1,q1,_,cs,T',q3,q4⟩
     · rw[e1] at had;rw[e2];obtain⟨k1,k2,k3,k4⟩:=hrow.2.2 ad had (.inr rfl);obtain⟨_,cs,T',q3,q4⟩:=q2 ad had;rw[hs] at q4;exact⟨k1,by omega,.inr k3,fun _=>⟨cs,T',q3,q4⟩⟩
     · rw[e1] at had;simp only[Option.some.injEq] at had;subst had;rw[hs] at q4;exact⟨rfl,by simp only;omega,.inl (Nat.le_refl _),fun _=>⟨cs,T',q3,by simpa using q4⟩⟩
theorem zDo (hE:EnvTy P E) {T:TypeId}{t:Ty}(ht:E.ty T=some t) (hts:t.scalar=true) {x:Operand}{b off:Nat}{v:Value}(hop:o.op=.load T x) (hx:a.eval x=.pointer (some ⟨b,off,none⟩)) (hc:w.cell? ⟨b,off,none⟩=some v):
  (execOp a.eval o).run P w=.ok (.value v) w:=by
 have:=zu hE ht hts hc;simp[execOp,hop,hx,this]
theorem zUY {ops:Array Oper}{Q:Exit→Act→World→Prop}{i:Nat}{rest:List Nat}{blk off m:Nat}{v:Value}(hE:EnvTy P E) {T:TypeId}{t:Ty}(ht:E.ty T=some t) (h1:t.cells=1) (ho:ops[i]?=some o) (hg:o.guard=none) (hd:o.dst=none)
  {x y:Operand}(hop:o.op=.store T x y) (hx:a.eval x=.pointer (some ⟨blk,off,none⟩)) (hy:a.eval y=v) (hv:v.oneCell'=true) (hvc:v.cells=#[v]) (hr:Row w blk m) (hfit:off+1≤m)
  (h:∀ w',KeepB blk w w'→Row w' blk m→w'.cell? ⟨blk,off,none⟩=some v→(∀ q,q≠off→w'.cell? ⟨blk,q,none⟩=w.cell? ⟨blk,q,none⟩)→wpOps P ops Q rest a w'):wpOps P ops Q (i::rest) a w:=by
 obtain⟨w',g1,g2,g3,g4,g5⟩:=zKJ (P:=P) hr (off:=off) (vs:=[v]) hfit (by simpa using hv);obtain⟨ti,hi,hz,hs,_,hc1,_⟩:=(hE T _ ht).base;have hrun:(execOp a.eval o).run P w=.ok .skip w':=by
  simp[execOp,hop,hx,hy,Instr.storeAt,Instr.sureAddr,storeVar,zN hi,hs,h1,hvc,g1]
 refine zOx ho hg hd hrun (h w' g2 g3 (by simpa using g4 0 v rfl) (fun q hq=>g5 q (by simp;omega)))
end
end Go.Ev
namespace Go.Ev
section
variable {P:Program}{E:Env}
theorem zCl {f:FuncId}{fn:Func}{c:Code}{S:Value}{w:World}{R:Ending→World→Prop}{m:Nat}(hf:P.funcs[f]?=some fn) (hb:fn.body=some c) (hm:fn.ntmps=m) (h2:1≤m)
  (h:∀ a:Act,a.tmps.size=m→a.defers=[]→a.eval (.tmp 0)=S→c.wp P (bodyPost P fn R) a w):Calls P f #[S] w R:=by
 refine calls_of_wp hf hb (h _ ?_ rfl ?_)
 · simp[hm];omega
 · show (_:Array Value).getD 0 undef=_;simp[Array.getD_eq_getD_getElem?,Array.getElem?_append]
end
end Go.Ev
namespace Go.Ev
section
variable {P:Program}{E:Env}
theorem zG6 {ops:Array Oper}{o oj:Oper}{a:Act}{j dj:Nat}{b c:Bool}(hg:o.guard=some (j,b)) (hj:ops[j]?=some oj) (hjd:oj.dst=some dj) (hv:a.eval (.tmp dj)=.bool c) (hlt:dj<a.tmps.size):
  Region.wanted o (yielded ops a.tmps)=(c==b):=by
 have h2:a.tmps[dj]?=some (.bool c):=by
  have h:a.tmps.getD dj undef=.bool c:=hv;rw[Array.getD_eq_getD_getElem?,Array.getElem?_eq_getElem hlt] at h;rw[Array.getElem?_eq_getElem hlt];simpa using h
 unfold Region.wanted yielded;simp[hg,hj,hjd,h2]
theorem zVS {ops:Array Oper}{Q:Exit→Act→World→Prop}{i:Nat}{rest:List Nat}{o:Oper}{a:Act}{w:World}{d:Nat}(ho:ops[i]?=some o) (hw:Region.wanted o (yielded ops a.tmps)=false) (hd:o.dst=some d)
  (h:wpOps P ops Q rest (a.put (some d) undef) w):wpOps P ops Q (i::rest) a w:=by
 rw[wpOps_cons];unfold wpOp;simp only[ho,hw,hd];simpa using h
theorem w_on {ops:Array Oper}{Q:Exit→Act→World→Prop}{i:Nat}{rest:List Nat}{o:Oper}{a:Act}{w:World}(ho:ops[i]?=some o) (hw:Region.wanted o (yielded ops a.tmps)=true) (h:o.wp P a w (wpOps P ops Q rest) Q):
  wpOps P ops Q (i::rest) a w:=by
 rw[wpOps_cons];unfold wpOp;simp only[ho,hw,if_true];exact .inl h
theorem zTK {ops:Array Oper}{Q:Exit→Act→World→Prop}{i:Nat}{rest:List Nat}{o:Oper}{a:Act}{w w':World}{d:Nat}{v:Value}(ho:ops[i]?=some o) (hg:Region.wanted o (yielded ops a.tmps)=true) (hd:o.dst=some d)
  (hr:(execOp a.eval o).run P w=.ok (.value v) w') (h:wpOps P ops Q rest (a.put (some d) v) w'):wpOps P ops Q (i::rest) a w:=w_on ho hg (by unfold Oper.wp;rw[hr,Oper.upon_value,hd];exact h)
theorem zRC {ops:Array Oper}{Q:Exit→Act→World→Prop}{i:Nat}{rest:List Nat}{o:Oper}{a:Act}{w:World}{f:FuncId}{args:Array Value}{d:Nat}(ho:ops[i]?=some o) (hg:Region.wanted o (yielded ops a.tmps)=true) (hd:o.dst=some d)
  (hr:(execOp a.eval o).run P w=.ok (.enter f args) w) (h:Calls P f args w fun e w'=>∃ v,e=.returned v∧wpOps P ops Q rest (a.put (some d) v) w'):wpOps P ops Q (i::rest) a w:=by
 refine w_on ho hg ?_;unfold Oper.wp;rw[hr,Oper.upon_enter,hd];refine h.mono ?_;rintro e w' ⟨v,rfl,h⟩;exact h
section
variable {ops:Array Oper}{Q:Exit→Act→World→Prop}{i:Nat}{rest:List Nat}{o oj:Oper}{a:Act}{w w':World}{d j dj:Nat}{b c:Bool}{v:Value}
theorem zJs (ho:ops[i]?=some o) (hg:o.guard=some (j,b)) (hj:ops[j]?=some oj) (hjd:oj.dst=some dj) (hd:o.dst=some d) (c:Bool) (hv:a.eval (.tmp dj)=.bool c) (hlt:dj<a.tmps.size) (hcb:(c==b)=false)
  (h:wpOps P ops Q rest (a.put (some d) undef) w):wpOps P ops Q (i::rest) a w:=zVS ho ((zG6 hg hj hjd hv hlt).trans hcb) hd h
theorem zMt (ho:ops[i]?=some o) (hg:o.guard=some (j,b)) (hj:ops[j]?=some oj) (hjd:oj.dst=some dj) (hd:o.dst=some d) (c:Bool) (hv:a.eval (.tmp dj)=.bool c) (hlt:dj<a.tmps.size) (hcb:(c==b)=true)
  (hr:(execOp a.eval o).run P w=.ok (.value v) w') (h:wpOps P ops Q rest (a.put (some d) v) w'):wpOps P ops Q (i::rest) a w:=zTK ho ((zG6 hg hj hjd hv hlt).trans hcb) hd hr h
theorem zTL {f:FuncId}{args:Array Value}(ho:ops[i]?=some o) (hg:o.guard=some (j,b)) (hj:ops[j]?=some oj) (hjd:oj.dst=some dj) (hd:o.dst=some d) (c:Bool) (hv:a.eval (.tmp dj)=.bool c) (hlt:dj<a.tmps.size) (hcb:(c==b)=true)
  (hr:(execOp a.eval o).run P w=.ok (.enter f args) w) (h:Calls P f args w fun e w'=>∃ v,e=.returned v∧wpOps P ops Q rest (a.put (some d) v) w'):wpOps P ops Q (i::rest) a w:=zRC ho ((zG6 hg hj hjd hv hlt).trans hcb) hd hr h
end
theorem zSg {o:Oper}{a:Act}{w:World}{c x y:Operand}{b:Bool}(hop:o.op=.pick c x y) (hc:a.eval c=.bool b):(execOp a.eval o).run P w=.ok (.value (if b then a.eval x else a.eval y)) w:=by
 cases b<;>simp[execOp,hop,hc,asBool]
theorem zTk {o:Oper}{a:Act}{w:World}{c x y:Operand}{v:Value}(hop:o.op=.pick c x y) (hc:a.eval c=.bool false) (hy:a.eval y=v):(execOp a.eval o).run P w=.ok (.value v) w:=by
 rw[zSg hop hc,← hy]
 rfl
theorem zIb {o:Oper}{a:Act}{w:World}{T e:TypeId}{i:TypeInfo}(hT:P.underlying T=some (.slice e)) (hi:P.info? e=some i) (h1:i.size=1) {x y:Operand}{b off len cap n:Nat}{k:IntKind}(hop:o.op=.indexAddr T x y) (hx:a.eval x=.slice (some ⟨b,off,none⟩) len cap)
  (hy:a.eval y=.int k (n:Int)) (hn:n<len):(execOp a.eval o).run P w=.ok (.value (.pointer (some ⟨b,off+n,none⟩))) w:=by
 have:=zIL (P:=P) (w:=w) hT hi hop hx hy hn;rwa [h1,Nat.mul_one] at this
end
end Go.Ev
