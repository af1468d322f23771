/- Texts merged: PPc7 PPt1 PPt2 PPt3 PPc8 PPc9. -/
import Derived.Test.YtlkmkabnbegfdaaGreatPXb
import Derived.Lib.SliceRun
import Derived.OrdersHeld
set_option linter.unusedVariables false
set_option linter.unusedSimpArgs false
namespace Go.Ev.YtlkmkabnbegfdaaGreatP
open Go.Ev Go.Lau
abbrev Z4:List Int:=List.replicate 4 0
noncomputable def wsub (x y:List Int):List Int:=getTV W4T ((R i_i_wide__minus [tAw4 x,tAw4 y]).getD []) 0
theorem zIT {w:World}{x y:List Int}(hx:W4 x) (hy:W4 y):W4 (wsub x y) ∧
  Calls Pg 57 #[.agg (x.map (Value.int .u64)).toArray,.agg (y.map (Value.int .u64)).toArray] w fun e w'=>e=.returned (.agg ((wsub x y).map (Value.int .u64)).toArray)∧KeepA w w':=by
 obtain⟨z,h1,h2,h3⟩:=zLy (w:=w) hx hy;have:wsub x y=z:=by
  unfold wsub;rw[h1];simp[getTV]
 rw[this];exact⟨h2,h3⟩
noncomputable def subs (q:List Int) (i:Nat):Nat→Nat→List (List Int)→List (List Int)
 | 0,_,rest=>rest
 | d+1,j,rest=>subs q i d (j+1) (rest.set (i+j) (wsub (rest.getD (i+j) Z4) q))
noncomputable def quo (n:Nat):Nat→Nat→List (List Int)→List (List Int)
 | 0,_,_=>[]
 | d+1,i,rest=>rest.getD i Z4::quo n d (i+1) (subs (rest.getD i Z4) i n 0 rest)
theorem zPJ {q:List Int}(hq:W4 q) (i:Nat):∀ (d j:Nat) (rest:List (List Int)),Wl rest→i+j+d≤rest.length→Wl (subs q i d j rest)∧(subs q i d j rest).length=rest.length
 | 0,_,rest,h,_=>⟨h,rfl⟩
 | d+1,j,rest,h,hl=>by
  have h1:=(zIT (w:=default) (h.get (show i+j<rest.length by omega)) hq).1;have:=zPJ hq i d (j+1) (rest.set (i+j) (wsub (rest.getD (i+j) Z4) q)) (h.set _ h1) (by rw[List.length_set];omega);exact⟨this.1,this.2.trans (List.length_set ..)⟩
theorem zSi (n:Nat):∀ (d i:Nat) (rest:List (List Int)),Wl rest→(d=0∨i+d+n≤rest.length+1)→i+d≤rest.length→Wl (quo n d i rest)∧(quo n d i rest).length=d
 | 0,i,rest,h,_,_=>⟨Wl.nil,rfl⟩
 | d+1,i,rest,h,hl,hl2=>by
  have h1:=h.get (show i<rest.length by omega);obtain⟨h2,h3⟩:=zPJ h1 i n 0 rest h (by omega);obtain⟨h4,h5⟩:=zSi n d (i+1) _ h2 (by omega) (by omega);exact⟨(Wl.one h1).app h4,by rw[quo,List.length_cons,h5]⟩
noncomputable def post (n:Nat) (p:Pol):Pol:=
 let t:=getTV PolT ((R i_i_poly__trim [zI (p.1,quo n (p.2.length+1-n) 0 p.2)]).getD []) 0
 if decide (0<t.2.length)&&getTV .bool ((R i_i_wide__isNegative [tAw4 (t.2.getD 0 Z4)]).getD []) 0 then getTV PolT ((R i_i_poly__negative [zI (0,t.2)]).getD []) 0 else (0,t.2)
theorem MatV.step {w:World}{G:Nat→Prop}{ad:Option Addr}{n:Nat}{rs:List Nat}{M:List (List Pol)}(h:MatV w G ad n rs M) {i r:Nat}(hi:rs[i]?=some r) {w':World}(k:KeepB r w w') {l:List Pol}(hl:RowAt w' (Gn G w w') r l):MatV w' (Gn G w w') ad n rs (M.set i l):=by
 refine⟨h.mat.setGn hi k hl,fun j r' hj=>?_,fun a ha hp=>?_⟩
 · rw[ke (w:=w) fun a ha=>?_]
   · exact h.cell j r' hj
   · obtain⟨_,h2,h3,_⟩:=h.out a ha (by have:=(List.getElem?_eq_some_iff.1 hj).1;omega);exact k.2.2 _ h2 fun e=>h3 (e ▸ List.mem_of_getElem? hi)
 · obtain⟨h1,h2,h3,h4⟩:=h.out a ha hp;exact⟨h1,Nat.lt_of_lt_of_le h2 k.1,h3,fun hg=>hg.elim h4 fun e=>by omega⟩
theorem MatV.keepA {w:World}{G:Nat→Prop}{ad:Option Addr}{n:Nat}{rs:List Nat}{M:List (List Pol)}(h:MatV w G ad n rs M) {w':World}(k:KeepA w w'):MatV w' G ad n rs M:=by
 refine⟨h.mat.keepA k,fun j r' hj=>?_,fun a ha hp=>?_⟩
 · rw[ke (w:=w) fun a ha=>?_]
   · exact h.cell j r' hj
   · obtain⟨_,h2,_,_⟩:=h.out a ha (by have:=(List.getElem?_eq_some_iff.1 hj).1;omega);exact k.2.2 _ h2
 · obtain⟨h1,h2,h3,h4⟩:=h.out a ha hp;exact⟨h1,Nat.lt_of_lt_of_le h2 k.1,h3,h4⟩
def RowsAt (m:Nat) (K:Int) (done:List Int) (x:Int) (p:Nat) (M:List (List Pol)):Prop:=
 ∀ (i:Nat) (l:List Pol),M[i]?=some l→l.length=m∧Pl (if i<p then K+1 else K) l∧rv l=if i<p then lstp m x (rwd m done (unit i)) else rwd m done (unit i)
theorem zOI {m:Nat}{M:List (List Pol)}(h:Units m M) (x:Int):RowsAt m 1 [] x 0 M:=fun i l hl=>by
 obtain⟨h1,h2,h3⟩:=h i l hl;exact⟨h1,by rw[if_neg (by omega)];exact h2,by rw[if_neg (by omega),h3];rfl⟩
theorem zPX {m:Nat}{K:Int}{done:List Int}{x:Int}{p:Nat}{M:List (List Pol)}(h:RowsAt m K done x p M) (hp:M.length≤p) (y:Int):RowsAt m (K+1) (done++[x]) y 0 M:=fun i l hl=>by
 obtain⟨h1,h2,h3⟩:=h i l hl;have:=(List.getElem?_eq_some_iff.1 hl).1
 refine⟨h1,?_,?_⟩
 · rw[if_pos (by omega)] at h2;rw[if_neg (by omega)];exact h2
 · rw[h3,if_pos (by omega),if_neg (by omega)];unfold rwd;rw[List.foldl_append]
   rfl
theorem zRT {m:Nat}{K:Int}{done:List Int}{x:Int}{M:List (List Pol)}(h:RowsAt m K done x 0 M) (y:Int):RowsAt m K done y 0 M:=fun i l hl=>by
 obtain⟨h1,h2,h3⟩:=h i l hl;exact⟨h1,h2,by rw[h3,if_neg (by omega),if_neg (by omega)]⟩
theorem zRQ {m:Nat}{K:Int}{done:List Int}{x:Int}{p:Nat}{M:List (List Pol)}(h:RowsAt m K done x p M) {l':List Pol}(h1:l'.length=m) (h2:Pl (K+1) l') (h3:rv l'=lstp m x (rwd m done (unit p))):RowsAt m K done x (p+1) (M.set p l'):=fun i l hl=>by
 by_cases hi:i=p
 · subst hi;have hlt:i<M.length:=by
    have:=(List.getElem?_eq_some_iff.1 hl).1;rwa [List.length_set] at this
   rw[List.getElem?_set_self hlt,Option.some.injEq] at hl;subst hl;exact⟨h1,by rw[if_pos (by omega)];exact h2,by rw[h3,if_pos (by omega)]⟩
 · rw[List.getElem?_set_ne (fun e=>hi e.symm)] at hl;obtain⟨q1,q2,q3⟩:=h i l hl
   by_cases hip:i<p
   · rw[if_pos hip] at q2 q3;exact⟨q1,by rw[if_pos (by omega)];exact q2,by rw[if_pos (by omega)];exact q3⟩
   · rw[if_neg hip] at q2 q3;exact⟨q1,by rw[if_neg (by omega)];exact q2,by rw[if_neg (by omega)];exact q3⟩
def RowsN (m:Nat) (K:Int) (xs:List Int) (i j:Nat) (M:List (List Pol)):Prop:=
 ∀ (k:Nat) (l:List Pol),M[k]?=some l→l.length=m∧Pl K l∧∀ c,c<m→rv l c=if k<i∨(k=i∧c<j) then Nw m xs k c else rwd m xs (unit k) c
theorem zOJ {m:Nat}{K:Int}{xs:List Int}{x:Int}{M:List (List Pol)}(h:RowsAt m K xs x 0 M):RowsN m K xs 0 0 M:=fun k l hl=>by
 obtain⟨h1,h2,h3⟩:=h k l hl;rw[if_neg (by omega)] at h2 h3;exact⟨h1,h2,fun c _=>by rw[if_neg (by omega),h3]⟩
theorem zSc {l:List Pol}{c:Nat}(hc:l.length≤c):rv l c=0:=by
 unfold rv;rw[List.getD_eq_getElem?_getD,List.getElem?_eq_none hc]
 rfl
theorem zTc {m:Nat}{K:Int}{xs:List Int}{x:Int}{M:List (List Pol)}(h:RowsAt m K xs x 0 M) {k c:Nat}(hk:k<M.length) (hc:m≤c):rwd m xs (unit k) c=0:=by
 obtain⟨h1,_,h3⟩:=h k M[k] (List.getElem?_eq_getElem hk);rw[if_neg (by omega)] at h3;rw[← h3];exact zSc (by omega)
theorem zRR {m:Nat}{K:Int}{xs:List Int}{i:Nat}{M:List (List Pol)}(h:RowsN m K xs i m M):RowsN m K xs (i+1) 0 M:=fun k l hl=>by
 obtain⟨h1,h2,h3⟩:=h k l hl;refine⟨h1,h2,fun c hc=>?_⟩;rw[h3 c hc]
 by_cases hk:k<i∨(k=i∧c<m)
 · rw[if_pos hk,if_pos (by omega)]
 · rw[if_neg hk,if_neg (by omega)]
theorem zRS {m:Nat}{K:Int}{xs:List Int}{i j:Nat}{M:List (List Pol)}(h:RowsN m K xs i j M) {l:List Pol}(hl:M[i]?=some l) (hj:j<m) {q:Pol}(hq:Pk K q) (hv:pv q=Nw m xs i j):RowsN m K xs i (j+1) (M.set i (l.set j q)):=fun k l' hl'=>by
 by_cases hk:k=i
 · subst hk;have hlt:k<M.length:=(List.getElem?_eq_some_iff.1 hl).1;rw[List.getElem?_set_self hlt,Option.some.injEq] at hl';subst hl';obtain⟨h1,h2,h3⟩:=h k l hl;refine⟨by rw[List.length_set,h1],h2.set j hq,fun c hc=>?_⟩;rw[zA4 (by omega)]
   by_cases hcj:c=j
   · subst hcj;rw[if_pos rfl,if_pos (by omega),hv]
   · rw[if_neg hcj,h3 c hc]
     by_cases hc2:k<k∨(k=k∧c<j)
     · rw[if_pos hc2,if_pos (by omega)]
     · rw[if_neg hc2,if_neg (by omega)]
 · rw[List.getElem?_set_ne (fun e=>hk e.symm)] at hl';obtain⟨h1,h2,h3⟩:=h k l' hl';refine⟨h1,h2,fun c hc=>?_⟩;rw[h3 c hc]
   by_cases hc2:k<i∨(k=i∧c<j)
   · rw[if_pos hc2,if_pos (by omega)]
   · rw[if_neg hc2,if_neg (by omega)]
theorem zR0 {m:Nat}{K:Int}{xs:List Int}{M:List (List Pol)}(hl:M.length=m) (h:RowsN m K xs m 0 M) (ho:∀ k c,k<m→m≤c→rwd m xs (unit k) c=0):det m (fun k=>rv (M.getD k []))=det m (Nw m xs):=by
 unfold det;congr 1;refine List.map_congr_left fun k hk=>funext fun c=>?_;have hkm:k<m:=List.mem_range.mp hk;have hg:M.getD k []=M[k]'(by omega):=by rw[List.getD_eq_getElem?_getD,List.getElem?_eq_getElem (by omega)];rfl
 obtain⟨h1,_,h3⟩:=h k _ (List.getElem?_eq_getElem (by omega));rw[hg]
 by_cases hc:c<m
 · rw[h3 c hc,if_pos (.inl hkm)]
 · rw[zSc (by omega)];unfold Nw unit;rw[if_neg (by omega),zero_add];have:=ho k c hkm (by omega);unfold unit at this;rw[this,zM]
theorem zQL {m:Nat}{xs:List Int}{i j:Nat}{a b:A}(ha:a=unit i j) (hb:b=rwd m xs (unit i) j):a+-b=Nw m xs i j:=by
 unfold Nw;rw[ha,hb,jB,one_mul]
theorem MatV.keepB {w:World}{G:Nat→Prop}{ad:Option Addr}{n:Nat}{rs:List Nat}{M:List (List Pol)}(h:MatV w G ad n rs M) {w':World}{r:Nat}(k:KeepB r w w') (h1:r∉rs) (h2:¬ G r) (h3:∀ a,ad=some a→a.block≠r):MatV w' G ad n rs M:=by
 refine⟨h.mat.keep k.1 fun b hb hc=>k.2.2 b hb fun e=>?_,fun j r' hj=>?_,fun a ha hp=>?_⟩
 · subst e;exact hc.elim h1 h2
 · rw[ke (w:=w) fun a ha=>?_]
   · exact h.cell j r' hj
   · obtain⟨_,q2,_,_⟩:=h.out a ha (by have:=(List.getElem?_eq_some_iff.1 hj).1;omega);exact k.2.2 _ q2 (h3 a ha)
 · obtain⟨q1,q2,q3,q4⟩:=h.out a ha hp;exact⟨q1,Nat.lt_of_lt_of_le q2 k.1,q3,q4⟩
end Go.Ev.YtlkmkabnbegfdaaGreatP
namespace Go.Ev.YtlkmkabnbegfdaaGreatP
open Go.Ev Go.Lau
def flat (l:List (List Int)):List Value:=(l.map (·.map (Value.int .u64))).flatten
theorem zFL:∀ {l:List (List Int)},(∀ x∈l,x.length=4)→∀ j,(flat l)[j]?=l[j / 4]?.bind fun x=>(x.map (Value.int .u64))[j % 4]?
 | [],_,j=>by simp[flat]
 | x::l,h,j=>by
  have ih:=zFL (l:=l) (fun y hy=>h y (by simp[hy]));have hx:x.length=4:=h x (by simp);have e:flat (x::l)=x.map (Value.int .u64)++flat l:=by simp[flat]
  rw[e]
  by_cases hj:j<4
  · rw[List.getElem?_append_left (by simpa[hx] using hj),show j / 4=0 by omega,Nat.mod_eq_of_lt hj];simp
  · rw[List.getElem?_append_right (by simp[hx];omega),List.length_map,hx,ih,show j / 4=(j-4) / 4+1 by omega,List.getElem?_cons_succ,show j % 4=(j-4) % 4 by omega]
theorem zDf:∀ {l:List (List Int)},(∀ x∈l,x.length=4)→(flat l).length=l.length*4
 | [],_=>rfl
 | x::l,h=>by
  have ih:=zDf (l:=l) (fun y hy=>h y (by simp[hy]));have hx:x.length=4:=h x (by simp);have e:flat (x::l)=x.map (Value.int .u64)++flat l:=by simp[flat]
  rw[e,List.length_append,ih,List.length_map,hx,List.length_cons];omega
theorem zNV {l:List (List Int)}:∀ v∈flat l,v.oneCell'=true:=fun v hv=>by
 simp only[flat,List.mem_flatten,List.mem_map] at hv;obtain⟨_,⟨x,_,rfl⟩,hv⟩:=hv;obtain⟨y,_,rfl⟩:=List.mem_map.1 hv
 rfl
theorem Wl.four {l:List (List Int)}(h:Wl l):∀ x∈l,x.length=4:=fun x hx=>(h x hx).len
def CRow (w:World) (ad:Option Addr) (l:List (List Int)):Prop:=∀ k x,l[k]?=some x→∀ j v,(x.map (Value.int .u64))[j]?=some v→cellAt w ad (k*4+j)=some v
theorem CRow.flat {w:World}{ad:Option Addr}{l:List (List Int)}(h:CRow w ad l) (h4:∀ x∈l,x.length=4):∀ j v,(flat l)[j]?=some v→cellAt w ad j=some v:=fun j v hv=>by
 rw[zFL h4] at hv;obtain⟨x,hx,hv⟩:=Option.bind_eq_some_iff.1 hv;have:=h _ _ hx _ _ hv;rwa [show j / 4*4+j % 4=j by omega] at this
theorem CRow.of {w:World}{ad:Option Addr}{l:List (List Int)}(h4:∀ x∈l,x.length=4) (h:∀ j v,(Go.Ev.YtlkmkabnbegfdaaGreatP.flat l)[j]?=some v→cellAt w ad j=some v):CRow w ad l:=fun k x hx j v hv=>by
 have hj:j<4:=by
  have:=(List.getElem?_eq_some_iff.1 hv).1;rwa [List.length_map,h4 x (List.mem_of_getElem? hx)] at this
 refine h _ _ ?_;rw[zFL h4,show (k*4+j) / 4=k by omega,show (k*4+j) % 4=j by omega,hx];exact hv
theorem CRow.keep {w w':World}{ad:Option Addr}{l:List (List Int)}(h:CRow w ad l) (hb:∀ a,ad=some a→0<l.length→w'.heap[a.block]?=w.heap[a.block]?):CRow w' ad l:=fun k x hx j v hv=>by
 rw[ke (w:=w) fun a ha=>hb a ha (by have:=(List.getElem?_eq_some_iff.1 hx).1;omega)];exact h k x hx j v hv
theorem CRow.elems {w:World}{G:Nat→Prop}{ad:Option Addr}{l:List (List Int)}(h:CRow w ad l) (hw:Wl l):Elems w false (fun _=>G) W4T l ad:=fun k x hx=>
 ⟨x.map (Value.int .u64),(show x.length=4∧x.map (Value.int .u64)=x.map (Value.int .u64) from ⟨(hw x (List.mem_of_getElem? hx)).len,rfl⟩),fun j v hv=>h k x hx j v hv⟩
theorem CRow.ofE {w:World}{G:Nat→Prop}{ad:Option Addr}{l:List (List Int)}(h:Elems w false (fun _=>G) W4T l ad):CRow w ad l:=fun k x hx j v hv=>by
 obtain⟨ys,h1,h2⟩:=h k x hx;have h1':x.length=4∧ys=x.map (Value.int .u64):=h1;rw[← h1'.2] at hv;exact h2 j v hv
section
variable {P:Program}{E:Env}{a:Act}{w:World}{o:Oper}
theorem zUa {ops:Array Oper}{Q:Exit→Act→World→Prop}{i:Nat}{rest:List Nat}{d:Nat}(hE:EnvTy P E) {T:TypeId}{t:Ty}(ht:E.ty T=some (.slice t)) (ho:ops[i]?=some o) (hg:o.guard=none) (hd:o.dst=some d)
  {x:Operand}(hop:o.op=.buildSlice T 1 #[(0,x)]) {ys:List Value}(hx:a.eval x=.agg ys.toArray) (hl:ys.length=t.cells)
  (h:∀ w',KeepA w w'→w'.heap.size=w.heap.size+1→Row w' w.heap.size t.cells→(∀ j v,ys[j]?=some v→w'.cell? ⟨w.heap.size,j,none⟩=some v) →
   wpOps P ops Q rest (a.put (some d) (.slice (some ⟨w.heap.size,0,none⟩) 1 1)) w'):wpOps P ops Q (i::rest) a w:=by
 obtain⟨_,e,hT,hte⟩:=hE.ty T _ ht;obtain⟨ti,hi,hz,hs,hb,hc1,hc2⟩:=hte.base;have hbig:¬ (16777216<t.cells):=by omega
 have h0:¬ (t.cells=0):=by omega
 have hfill:∀ init:List Value,init.length=t.cells→Instr.fill (fun i=>some (i*t.cells,t.cells)) init.toArray [(0,.agg ys.toArray)]=some ys.toArray:=by
  intro init hinit;have:=zCI t.cells [ys] [(0,Value.agg ys.toArray)] 0 init (by simpa using hl) rfl (fun k p vs hp hv=>by
   match k with
   | 0=>
    simp only[List.getElem?_cons_zero,Option.some.injEq] at hp hv;subst hp hv;exact⟨rfl,rfl⟩
   | k+1=>simp at hp) (by simp;omega)
  rw[this];simp only[Nat.zero_mul,List.take_zero,List.nil_append,Nat.zero_add,List.length_singleton,Nat.one_mul,List.flatten_cons,List.flatten_nil,List.append_nil];rw[List.drop_of_length_le (by omega),List.append_nil]
 have hf0:=hfill ((Array.range t.cells).map (fun x=>((wval (fun _=>⟨none,0,0⟩) t.zeroW).cells)[x % ((wval (fun _=>⟨none,0,0⟩) t.zeroW).cells).size]!)).toList (by simp);simp only[Array.toArray_toList] at hf0;have hr:(execOp a.eval o).run P w=.ok (.value (.slice (some ⟨w.heap.size,0,none⟩) 1 1)) (w.alloc (.cells ys.toArray e)):=by
  simp[execOp,hop,hx,Instr.buildSlice,run_underlying hT,zN hi,hs,hbig,h0,kI hi hz,hf0,newRow]
 refine zF ho hg hd hr (h _ (kv w _) (zi w _) ⟨ys.toArray,e,heap_alloc_new w _,by simpa using hl⟩ (fun j v hv=>?_));rw[kN];exact hv
theorem zUb {ops:Array Oper}{Q:Exit→Act→World→Prop}{i:Nat}{rest:List Nat}{d:Nat}(hE:EnvTy P E) {T:TypeId}{t:Ty}(ht:E.ty T=some (.slice t)) (ho:ops[i]?=some o) (hg:o.guard=none) (hd:o.dst=some d)
  (hop:o.op=.buildSlice T 0 #[])
  (h:∀ w',KeepA w w'→w'.heap.size=w.heap.size+1→Row w' w.heap.size 0→wpOps P ops Q rest (a.put (some d) (.slice (some ⟨w.heap.size,0,none⟩) 0 0)) w'):wpOps P ops Q (i::rest) a w:=by
 obtain⟨_,e,hT,hte⟩:=hE.ty T _ ht;obtain⟨ti,hi,hz,hs,hb,hc1,hc2⟩:=hte.base;have hr:(execOp a.eval o).run P w=.ok (.value (.slice (some ⟨w.heap.size,0,none⟩) 0 0)) (w.alloc (.cells #[] e)):=by
  simp[execOp,hop,Instr.buildSlice,run_underlying hT,zN hi,hs,Instr.fill,newRow,Array.range_zero']
 exact zF ho hg hd hr (h _ (kv w _) (zi w _) ⟨#[],e,heap_alloc_new w _,rfl⟩)
theorem zST {ops:Array Oper}{Q:Exit→Act→World→Prop}{i:Nat}{rest:List Nat}{d:Nat}(hE:EnvTy P E) {T:TypeId}{t:Ty}(ht:E.ty T=some (.slice t)) (ho:ops[i]?=some o) (hg:o.guard=none) (hd:o.dst=some d)
  {x y:Operand}(hop:o.op=.call { callee:=.builtin .append,args:=#[x,y],argTypes:=#[T,T] }) {addr addr2:Option Addr}{n cap m cap2:Nat}{olds news:List Value}{ok:Nat→Prop}(hx:a.eval x=.slice addr n cap) (hy:a.eval y=.slice addr2 m cap2)
  (hrow:RowW w true ok t.cells n addr cap) (hlo:olds.length=n*t.cells) (hco:∀ j v,olds[j]?=some v→cellAt w addr j=some v)
  (hln:news.length=m*t.cells) (hcn:∀ j v,news[j]?=some v→cellAt w addr2 j=some v) (h2n:addr2=none→news=[]) (h2s:∀ a,addr2=some a→news≠[]→a.spot=none) (hv1:∀ v∈news,v.oneCell'=true) (hlim:n+m≤lim)
  (h:∀ w' addr' cap',w.heap.size≤w'.heap.size→Like w w'→(∀ b,b<w.heap.size→(∀ ad,addr=some ad→b≠ad.block)→w'.heap[b]?=w.heap[b]?)→(∀ j u,(olds++news)[j]?=some u→cellAt w' addr' j=some u) →
   RowW w' true (fun b=>w.heap.size≤b∨ok b) t.cells (n+m) addr' cap'→(cap<n+m→addr'=some ⟨w.heap.size,0,none⟩)→wpOps P ops Q rest (a.put (some d) (.slice addr' (n+m) cap')) w'):wpOps P ops Q (i::rest) a w:=by
 obtain⟨_,e,hT,hte⟩:=hE.ty T _ ht;obtain⟨ti,hi,hz,hs,hb,hc1,hc2⟩:=hte.base;have hzl:(wcells (fun _=>⟨none,0,0⟩) t.zeroW).length=t.cells:=(jS (fun _=>⟨none,0,0⟩) hte w false (fun _=>True)).len;have hzc:(wval (fun _=>⟨none,0,0⟩) t.zeroW).cells.size=ti.size:=by rw[zR,hs];simpa using hzl
 rw[← hs] at hrow hlo hln;obtain⟨w',addr',cap',g1,g2,g3,g4,g5,g6⟩:=jX (P:=P) (ty:=o.type) hT hi hz hzc hb (by omega) hrow (olds:=olds) (news:=news) (m:=m) (cap2:=cap2) (addr2:=addr2) hlo hco hln hcn h2n h2s hv1 hlim;have hr:(execOp a.eval o).run P w=.ok (.value (.slice addr' (n+m) cap')) w':=by
  simp[execOp,hop,resolve,hx,hy,invoke,builtin,g1]
 refine zF ho hg hd hr (h w' addr' cap' g2 g3 (fun b hb hn=>?_) g4 ?_ (fun hlt=>?_))
 · rcases g6 with ⟨_,_,_,q1,q2⟩ | ⟨_,_,q1,_⟩
   · cases had:addr with
     | none=>rw[q1 had]
     | some ad=>exact (q2 ad had).1 b (hn ad had)
   · exact q1 b hb
 · rw[← hs]
   refine⟨g5,fun e=>?_,fun ad had _=>?_⟩
   · rcases g6 with ⟨e1,e2,_,_,_⟩ | ⟨e1,_⟩
     · have hh:=(hrow.2.1 (e1 ▸ e));have c0:=hh.2 rfl;exact⟨by omega,fun _=>by omega⟩
     · rw[e1] at e;simp at e
   · rcases g6 with ⟨e1,e2,q0,_,q2⟩ | ⟨e1,q1,_,cs,T',q3,q4⟩
     · rw[e1] at had;rw[e2];obtain⟨k1,k2,k3,k4⟩:=hrow.2.2 ad had (.inr rfl);obtain⟨_,cs,T',q3,q4⟩:=q2 ad had;exact⟨k1,by omega,.inr k3,fun _=>⟨cs,T',q3,q4⟩⟩
     · rw[e1] at had;simp only[Option.some.injEq] at had;subst had;exact⟨rfl,by simp only;omega,.inl (Nat.le_refl _),fun _=>⟨cs,T',q3,by simpa using q4⟩⟩
 · rcases g6 with ⟨e1,e2,_,_,_⟩ | ⟨e1,_⟩
   · omega
   · exact e1
theorem zVX {T e T':TypeId}{x:Operand}{ad:Option Addr}{n c n' c':Nat}(hT:P.underlying T=some (.slice e)) {y:Operand}(hop:o.op=.binOp .eql T x y T') (hx:a.eval x=.slice ad n c) (hy:a.eval y=.slice none n' c'):
  (execOp a.eval o).run P w=.ok (.value (.bool ad.isNone)) w:=by
 have:=Lib.run_eql_slice_nil (P:=P) w T e ad n c n' c' hT;have hg:(eqGuard .eql T x y (.slice ad n c) (.slice none n' c')).run P w=.ok () w:=by
  unfold eqGuard;simp
 simp[execOp,hop,hx,hy,this,hg]
end
section
variable {a:Act}{w:World}{o:Oper}
theorem zGm {T:TypeId}{p q:Ty}(hT:TyOK Pg (.pair p q) T) {f o':Nat}{u:Ty}(ho:(Ty.pair p q).offs f=some (o',u)) {x:Operand}{b off:Nat}(hop:o.op=.fieldAddr T x f) (hx:a.eval x=.pointer (some ⟨b,off,none⟩)):
  (execOp a.eval o).run Pg w=.ok (.value (.pointer (some ⟨b,off+o',none⟩))) w:=by
 obtain⟨_,_,fs,h1,h2,h3⟩:=hT;obtain⟨_,fld,h4,h5⟩:=h3 f o' u ho;have:=zHS (P:=Pg) (f:=f) h1 h4 (h2 fld (by
  have:=Array.mem_of_getElem? h4;simpa using this)) b off w
 rw[h5] at this;simp[execOp,hop,hx,this]
end
theorem zPo {ops:Array Oper}{Q:Exit→Act→World→Prop}{K:Act→World→Prop}{En:Env}{i:Nat}{o:Oper}{a:Act}{w:World}{blk off m:Nat}{ys:List Value}(hE:EnvTy Pg En) {T:TypeId}{t:Ty}(ht:En.ty T=some t) (ho:ops[i]?=some o) (hg:o.guard=none) (hd:o.dst=none)
  {x y:Operand}(hop:o.op=.store T x y) (hx:a.eval x=.pointer (some ⟨blk,off,none⟩)) (hy:a.eval y=.agg ys.toArray) (hl:ys.length=t.cells) (h1:∀ v∈ys,v.oneCell'=true) (hr:Row w blk m) (hfit:off+ys.length≤m)
  (h:∀ w',KeepB blk w w'→Row w' blk m→(∀ j v,ys[j]?=some v→w'.cell? ⟨blk,off+j,none⟩=some v)→(∀ q,q<off∨off+ys.length≤q→w'.cell? ⟨blk,q,none⟩=w.cell? ⟨blk,q,none⟩)→K a w'):wpOp Pg ops Q i K a w:=by
 obtain⟨w',g1,g2,g3,g4,g5⟩:=zPY (P:=Pg) (o:=o) hE ht hop hx hy hl h1 hr hfit;exact zSq ho hg hd g1 (h w' g2 g3 g4 g5)
theorem zMC {w:World}{G:Nat→Prop}{ad:Option Addr}{cp:Nat}{l:List (List Int)}(hrow:RowW w false G 4 l.length ad cp) (hc:CRow w ad l) (hw:Wl l) (hlim:l.length≤lim):
  Calls Pg 56 #[.slice ad l.length cp] w fun e w'=>∃ ad' cp',e=.returned (.slice ad' l.length cp')∧KeepA w w'∧CRow w' ad' l∧(0<l.length→∃ rb m,ad'=some ⟨rb,0,none⟩∧w.heap.size≤rb∧Row w' rb m∧4*l.length≤m):=by
 have hE:EnvTy Pg E:=envOk.ty;have h67:E.ty 67=some (.slice W4T):=by kernel_rfl
 obtain⟨_,e67,hT67,_⟩:=hE.ty _ _ h67;refine zCl Go.Proofs.Tryz.func56 rfl Go.Proofs.Tryz.ntmps56 (by omega) fun a hsz hdf h0=>?_;refine wp_seq (wp_region ?_);refine zF (d:=2) (v:=.slice none 0 0) rfl rfl rfl (r_mv (.inr rfl) rfl) (zU ?_);refine wp_seq (wp_seq (wp_region ?_));refine zF (d:=3) (v:=.slice ad l.length cp) rfl rfl rfl (r_mv (.inl rfl) (by simp[zB,zA,hsz,h0])) ?_;refine zF (d:=4) (v:=.bool ad.isNone) rfl rfl rfl (zVX (ad:=ad) (n:=l.length) (c:=cp) (n':=0) (c':=0) hT67 rfl (by simp[zB,zA,hsz]) rfl) (zU ?_)
 cases hq:ad with
 | none=>
  have hz:l.length=0:=(hrow.2.1 hq).1;refine wp_cond_true (by simp[zB,zA,hsz,hq]) (wp_seq (wp_region ?_));refine zF (d:=2) (v:=.slice none 0 0) rfl rfl rfl (r_mv (.inr rfl) rfl) (zU (wp_ret ?_));refine⟨by simp[zT,hdf],_,zJJ (v:=.slice none 0 0) rfl (by simp[zB,zA,hsz]),none,0,by rw[hz],KeepA.refl w,fun k x hx=>?_,fun h=>absurd h (by omega)⟩;have:=(List.getElem?_eq_some_iff.1 hx).1;omega
 | some y=>
  subst hq;refine wp_cond_false (by simp[zB,zA,hsz]) (wp_skip (wp_seq (wp_region ?_)));refine zUb (d:=5) hE h67 rfl rfl rfl rfl fun w1 hk1 hs1 hr1=>?_;refine zF (d:=6) (v:=.slice (some y) l.length cp) rfl rfl rfl (r_mv (.inl rfl) (by simp[zB,zA,hsz,h0])) ?_;have hcw:CRow w1 (some y) l:=hc.keep fun a ha hp=>hk1.2.2 _ (hrow.2.2 a ha (.inl hp)).2.1
  refine zST (d:=7) (olds:=[]) (news:=flat l) (addr:=some ⟨w.heap.size,0,none⟩) (addr2:=some y) (n:=0) (cap:=0) (m:=l.length) (cap2:=cp) (ok:=fun _=>True) hE h67 rfl rfl rfl rfl (by simp[zB,zA,hsz]) (by simp[zB,zA,hsz]) ?_ rfl (fun j v hv=>by simp at hv) (zDf hw.four) (hcw.flat hw.four) (fun e=>by simp at e) (fun a ha hne=>?_) zNV (by omega) fun w2 ad2 cp2 hs2 hl2 hh2 hc2 hr2 hn2=>?_
  · refine⟨Nat.le_refl _,fun e=>by simp at e,fun a ha _=>?_⟩;simp only[Option.some.injEq] at ha;subst ha;obtain⟨cs,T,g1,g2⟩:=hr1;exact⟨rfl,by simp only;omega,trivial,fun _=>⟨cs,T,g1,by simp⟩⟩
  · refine (hrow.2.2 a ha (.inl ?_)).1
    cases l with
    | nil=>exact absurd rfl hne
    | cons _ _=>simp
  · refine zF (d:=2) (v:=.slice ad2 l.length cp2) rfl rfl rfl (r_mv (.inr rfl) (by simp[zB,zA,hsz])) (zU (wp_ret ?_));have hk2:KeepA w w2:=⟨by have:=hk1.1;omega,hk1.2.1.trans hl2,fun b hb=>(hh2 b (by omega) (fun ad had=>by simp only[Option.some.injEq] at had;subst had;simp only;omega)).trans (hk1.2.2 b hb)⟩;refine⟨by simp[zT,hdf],_,zJJ (v:=.slice ad2 l.length cp2) rfl (by simp[zB,zA,hsz]),ad2,cp2,rfl,hk2,CRow.of hw.four hc2,fun hp=>?_⟩;have e2:=hn2 (by omega);obtain⟨k1,k2,k3,k4⟩:=hr2.2.2 _ e2 (.inr rfl);obtain⟨cs,T,g1,g2⟩:=k4 rfl;refine⟨w1.heap.size,cs.size,e2,by omega,⟨cs,T,g1,rfl⟩,?_⟩;have h1:l.length≤cp2:=by have:=hr2.1;omega
    have h2:W4T.cells=4:=rfl;rw[h2] at g2;simp only[Nat.zero_add] at g2;omega
end Go.Ev.YtlkmkabnbegfdaaGreatP
namespace Go.Ev.YtlkmkabnbegfdaaGreatP
open Go.Ev Go.Lau
def snd:Code→Code
 | .seq _ b=>b
 | c=>c
noncomputable def tailC:Code:=snd (snd (snd (snd (snd (snd (snd (Go.Proofs.Tryz.f33.body.getD .skip)))))))
theorem zCJ {a:Act}{d e:Nat}{u v:Value}(h:d≠e) (hv:a.eval (.tmp e)=v):(a.put (some d) u).eval (.tmp e)=v:=by
 rw[← hv];show (a.tmps.setIfInBounds d u).getD e undef=a.tmps.getD e undef;rw[Array.getD_eq_getD_getElem?,Array.getD_eq_getD_getElem?,Array.getElem?_setIfInBounds,if_neg h]
structure Tw (W:World) (b14 rb:Nat) (low:Int) (L:Nat) (rad:Option Addr) (rest qs:List (List Int)) (qa:Option Addr) (qc:Nat) (V:World):Prop where
 keep:KeepB b14 W V
 rl:rest.length=L
 rw:Wl rest
 qw:Wl qs
 rc:CRow V rad rest
 rr:0<L→rad=some ⟨rb,0,none⟩∧W.heap.size≤rb∧∃ m,Row V rb m∧4*L≤m
 lt:b14<W.heap.size
 bx:Row V b14 2
 bl:V.cell? ⟨b14,0,none⟩=some (.int .i64 low)
 bq:V.cell? ⟨b14,1,none⟩=some (.slice qa qs.length qc)
 qr:RowW V true (fun b=>W.heap.size≤b∧b≠rb) 4 qs.length qa qc
 qcr:CRow V qa qs
section
variable {W:World}{b14 rb:Nat}{low:Int}{L:Nat}{rad:Option Addr}{rest qs:List (List Int)}{qa:Option Addr}{qc:Nat}{V V':World}
theorem jN {w:World}{b n:Nat}(h:Row w b n):b<w.heap.size:=by
 obtain⟨cs,T,g,_⟩:=h;exact (Array.getElem?_eq_some_iff.1 g).1
theorem zh {w w':World}{b q:Nat}{v:Value}(h:w.cell? ⟨b,q,none⟩=some v) (e:w'.heap[b]?=w.heap[b]?):w'.cell? ⟨b,q,none⟩=some v:=by
 simp only[World.cell?,e] at h ⊢;exact h
theorem Tw.frame (h:Tw W b14 rb low L rad rest qs qa qc V) (k:KeepA V V'):Tw W b14 rb low L rad rest qs qa qc V':=by
 have hb:=jN h.bx
 refine⟨h.keep.trans (k.b b14),h.rl,h.rw,h.qw,h.rc.keep fun a ha hp=>?_,fun hL=>?_,h.lt,h.bx.keep (k.2.2 _ hb),zh h.bl (k.2.2 _ hb),zh h.bq (k.2.2 _ hb),h.qr.frame id k.1 (fun b hb hg=>⟨hg,k.2.2 b hb⟩),h.qcr.keep fun a ha hp=>?_⟩
 · obtain⟨e,_,m,hr,_⟩:=h.rr (by rw[← h.rl];exact hp);rw[ha,Option.some.injEq] at e;subst e;exact k.2.2 _ (jN hr)
 · obtain⟨e,h1,m,hr,hm⟩:=h.rr hL;exact⟨e,h1,m,hr.keep (k.2.2 _ (jN hr)),hm⟩
 · exact k.2.2 _ (h.qr.2.2 a ha (.inr rfl)).2.1
theorem Tw.set (h:Tw W b14 rb low L rad rest qs qa qc V) {k:Nat}(hk:k<L) (kb:KeepB rb V V') {m:Nat}(hm:4*L≤m) (hr:Row V' rb m) {z:List Int}(hz:W4 z)
  (h1:∀ j v,(z.map (Value.int .u64))[j]?=some v→V'.cell? ⟨rb,k*4+j,none⟩=some v) (h2:∀ q,q<k*4∨k*4+4≤q→V'.cell? ⟨rb,q,none⟩=V.cell? ⟨rb,q,none⟩):Tw W b14 rb low L rad (rest.set k z) qs qa qc V':=by
 have hb:=jN h.bx;have hlt:=h.lt;obtain⟨e,hrb,m0,hr0,_⟩:=h.rr (by omega);have hne:b14≠rb:=by omega
 have keep':KeepB b14 W V':=⟨Nat.le_trans h.keep.1 kb.1,h.keep.2.1.trans kb.2.1,fun b hbW hbn=>(kb.2.2 b (Nat.lt_of_lt_of_le hbW h.keep.1) (by omega)).trans (h.keep.2.2 b hbW hbn)⟩
 refine⟨keep',by rw[List.length_set,h.rl],h.rw.set k hz,h.qw,fun i x hx j v hv=>?_,fun _=>⟨e,hrb,m,hr,hm⟩,h.lt,h.bx.keep (kb.2.2 _ hb hne),zh h.bl (kb.2.2 _ hb hne),zh h.bq (kb.2.2 _ hb hne),h.qr.frame id kb.1 (fun b hb hg=>⟨hg,kb.2.2 b hb hg.2⟩),h.qcr.keep fun a ha hp=>?_⟩
 · rw[e];simp only[cellAt,Option.bind_some,Nat.zero_add]
   by_cases hik:i=k
   · subst hik;rw[List.getElem?_set_self (by rw[h.rl];exact hk),Option.some.injEq] at hx;subst hx;exact h1 j v hv
   · rw[List.getElem?_set_ne (fun e=>hik e.symm)] at hx;have hj:j<4:=by
      have:=(List.getElem?_eq_some_iff.1 hv).1;rwa [List.length_map,(h.rw x (List.mem_of_getElem? hx)).len] at this
     rw[h2 _ (by omega)];have:=h.rc i x hx j v hv;rw[e] at this;simpa only[cellAt,Option.bind_some,Nat.zero_add] using this
 · have:=h.qr.2.2 a ha (.inr rfl);exact kb.2.2 _ this.2.1 this.2.2.1.2
theorem Tw.app (h:Tw W b14 rb low L rad rest qs qa qc V) (hL:0<L) {x:List Int}(hx:W4 x) {qa':Option Addr}{qc':Nat}{V1:World}(hs:V.heap.size≤V1.heap.size) (hl:Like V V1) (hh:∀ b,b<V.heap.size→(∀ ad,qa=some ad→b≠ad.block)→V1.heap[b]?=V.heap[b]?)
  (hc:∀ j u,(flat qs++flat [x])[j]?=some u→cellAt V1 qa' j=some u) (hr:RowW V1 true (fun b=>V.heap.size≤b∨(W.heap.size≤b∧b≠rb)) 4 (qs.length+1) qa' qc') (kb:KeepB b14 V1 V') (hbx:Row V' b14 2) (h1:V'.cell? ⟨b14,1,none⟩=some (.slice qa' (qs.length+1) qc'))
  (h2:∀ q,q≠1→V'.cell? ⟨b14,q,none⟩=V1.cell? ⟨b14,q,none⟩):Tw W b14 rb low L rad rest (qs++[x]) qa' qc' V':=by
 have hb:=jN h.bx;have hlt:=h.lt;have hWV:=h.keep.1;obtain⟨e,hrb,m0,hr0,hm0⟩:=h.rr hL;have hq:∀ ad,qa=some ad→W.heap.size≤ad.block∧ad.block≠rb:=fun ad had=>(h.qr.2.2 ad had (.inr rfl)).2.2.1;have hb14:∀ ad,qa=some ad→b14≠ad.block:=fun ad had=>by have:=hq ad had;omega
 have hrl:=jN hr0;have hold:∀ b,b<V.heap.size→(∀ ad,qa=some ad→b≠ad.block)→b≠b14→V'.heap[b]?=V.heap[b]?:=fun b hb1 hb2 hb3=>(kb.2.2 b (by omega) hb3).trans (hh b hb1 hb2)
 have hrbk:V'.heap[rb]?=V.heap[rb]?:=hold rb hrl (fun ad had e=>(hq ad had).2 e.symm) (by omega);have hw':Wl (qs++[x]):=h.qw.app (Wl.one hx);have hlen:(qs++[x]).length=qs.length+1:=by simp
 refine⟨⟨by have:=kb.1;omega,(h.keep.2.1.trans hl).trans kb.2.1,fun b hbW hbn=>(hold b (by omega) (fun ad had e=>by have:=hq ad had;omega) hbn).trans (h.keep.2.2 b hbW hbn)⟩,h.rl,h.rw,hw',h.rc.keep fun a ha _=>?_,fun _=>⟨e,hrb,m0,hr0.keep hrbk,hm0⟩,h.lt,hbx,?_,by rw[hlen];exact h1,?_,CRow.of hw'.four fun j v hv=>?_⟩
 · rw[ha,Option.some.injEq] at e;subst e;exact hrbk
 · rw[h2 0 (by omega)];exact zh h.bl (hh _ hb hb14)
 · rw[hlen]
   refine hr.frame id kb.1 fun b hb1 hb2=>⟨?_,kb.2.2 b hb1 fun e=>?_⟩
   · rcases hb2 with hb2 | hb2
     · exact⟨by omega,by omega⟩
     · exact hb2
   · subst e;omega
 · have hf:flat (qs++[x])=flat qs++flat [x]:=by simp[flat]
   rw[hf] at hv;have:=hc j v hv
   rw[ke (w:=V1) fun a ha=>kb.2.2 _ (hr.2.2 a ha (.inr rfl)).2.1 fun e=>?_]
   · exact this
   · have:=(hr.2.2 a ha (.inr rfl)).2.2.1;omega
end
theorem ty26:TyOK Pg (.pair (.int .i64) (.slice (.int .i64))) 26:=envOk.ty 26 _ (by kernel_rfl)
def ResAt (w w':World) (p:Pol) (ys:List Value):Prop:=KeepA w w'∧PolAt w' (fun b=>w.heap.size≤b) p ys∧∃ b,w.heap.size≤b∧∀ j v,ys[j]?=some v→w'.cell? ⟨b,0+j,none⟩=some v
noncomputable def trimC:Code:=snd (snd tailC)
noncomputable def finC:Code:=snd (snd (snd trimC))
theorem PolAt.mk {w:World}{G:Nat→Prop}{low:Int}{l:List (List Int)}{ad:Option Addr}{cp:Nat}(hw:Wl l) (hr:RowW w false G 4 l.length ad cp) (hc:CRow w ad l):PolAt w G (low,l) [.int .i64 low,.slice ad l.length cp]:=by
 unfold PolAt;simp only[TRep];exact⟨[.int .i64 low],[.slice ad l.length cp],rfl,rfl,ad,cp,rfl,hr,CRow.elems (G:=G) hc hw⟩
theorem PolAt.low {w:World}{G:Nat→Prop}{low low':Int}{l:List (List Int)}{ad:Option Addr}{cp:Nat}(h:PolAt w G (low,l) [.int .i64 low,.slice ad l.length cp]):PolAt w G (low',l) [.int .i64 low',.slice ad l.length cp]:=by
 obtain⟨ad',cp',e,h1,h2⟩:=h.split;simp only[List.cons.injEq,Value.slice.injEq,and_true,true_and] at e;obtain⟨rfl,rfl⟩:=e;unfold PolAt;simp only[TRep];exact⟨[.int .i64 low'],[.slice ad l.length cp],rfl,rfl,ad,cp,rfl,h1,h2⟩
theorem zS0 {R:Ending→World→Prop}{w W:World}{a:Act}{b2 b14:Nat}{p:Pol}{ys:List Value}(hsz:a.tmps.size=141) (hdf:a.defers=[]) (h2:a.eval (.tmp 2)=.pointer (some ⟨b2,0,none⟩)) (h14:a.eval (.tmp 14)=.pointer (some ⟨b14,0,none⟩))
  (hr2:Row W b2 2) (hc:∀ j v,ys[j]?=some v→W.cell? ⟨b14,0+j,none⟩=some v) (hk:KeepA w W) (hw2:w.heap.size≤b2) (hp:PolAt W (fun b=>w.heap.size≤b∧b≠b2) p ys)
  (hR:∀ w' ys,ResAt w w' p ys→R (.returned (.agg ys.toArray)) w'):finC.wp Pg (bodyPost Pg Go.Proofs.Tryz.f33 R) a W:=by
 have hE:EnvTy Pg E:=envOk.ty;have h69:E.ty 69=some PolT:=by kernel_rfl
 refine wp_seq (wp_region ?_);refine zF (d:=140) (v:=.agg ys.toArray) rfl rfl rfl (r_ld hE h69 rfl (b:=b14) (off:=0) rfl (by simp[zB,zA,hsz,h14]) (by rw[hp.len];rfl) hc) ?_;refine ji (blk:=b2) (off:=0) (m:=2) (ys:=ys) hE h69 rfl rfl rfl rfl (by simp[zB,zA,hsz,h2]) (by simp[zB,zA,hsz]) (by rw[hp.len];rfl) (TRep.oneCell hp) hr2 (by rw[hp.len];omega) fun W' hk' hr' hc' _=>?_;refine zU (wp_ret ?_);exact⟨by simp[zT,hdf],_,zM5 ty69 rfl rfl (by simp[zB,zA,hsz,h2]) (by rw[hp.len];rfl) hc',hR W' ys ⟨⟨Nat.le_trans hk.1 hk'.1,hk.2.1.trans hk'.2.1,fun b hb=>(hk'.2.2 b (Nat.lt_of_lt_of_le hb hk.1) (by omega)).trans (hk.2.2 b hb)⟩,(hp.keepB (fun h=>h.2 rfl) hk').up fun b _ h=>h.1,b2,hw2,hc'⟩⟩
noncomputable def post2 (p:Pol):Pol:=
 let t:=getTV PolT ((R i_i_poly__trim [zI p]).getD []) 0
 if decide (0<t.2.length)&&getTV .bool ((R i_i_wide__isNegative [tAw4 (t.2.getD 0 Z4)]).getD []) 0 then getTV PolT ((R i_i_poly__negative [zI (0,t.2)]).getD []) 0 else (0,t.2)
theorem zPe (n:Nat) (p:Pol):post n p=post2 (p.1,quo n (p.2.length+1-n) 0 p.2):=rfl
set_option maxHeartbeats 4000000 in
theorem zTS {R_:Ending→World→Prop}{w W:World}{a:Act}{b2 b14:Nat}{low:Int}{l:List (List Int)}{ad:Option Addr}{cp:Nat}{K:Int}(hsz:a.tmps.size=141) (hdf:a.defers=[]) (h2:a.eval (.tmp 2)=.pointer (some ⟨b2,0,none⟩)) (h14:a.eval (.tmp 14)=.pointer (some ⟨b14,0,none⟩))
  (hr2:Row W b2 2) (hr14:Row W b14 2) (hc:∀ j v,[Value.int .i64 low,.slice ad l.length cp][j]?=some v→W.cell? ⟨b14,0+j,none⟩=some v) (hk:KeepA w W) (hw2:w.heap.size≤b2) (hw14:w.heap.size≤b14) (hne:b2≠b14) (hw:Wl l)
  (hp:PolAt W (fun b=>w.heap.size≤b∧b≠b2∧b≠b14) (low,l) [.int .i64 low,.slice ad l.length cp]) (hlo:-K≤low) (hhi:low+(l.length:Int)≤K) (hK:2*K<100000000)
  (hR:∀ w' ys,ResAt w w' (post2 (low,l)) ys→R_ (.returned (.agg ys.toArray)) w'):trimC.wp Pg (bodyPost Pg Go.Proofs.Tryz.f33 R_) a W:=by
 have hE:EnvTy Pg E:=envOk.ty;have h67:E.ty 67=some (.slice W4T):=by kernel_rfl
 have h98:E.ty 98=some W4T:=by kernel_rfl
 have h69:E.ty 69=some PolT:=by kernel_rfl
 have h2t:E.ty 2=some (.int .i64):=by kernel_rfl
 obtain⟨_,e67,hT67,hte67⟩:=hE.ty _ _ h67;obtain⟨i67,hi67,_,hs67,_,_,_⟩:=hte67.base;have hs67':i67.size=4:=hs67;have hK0:0≤K:=by omega
 obtain⟨t,ht,hwt,het,hzt,hvt⟩:=zNg (p:=(low,l)) hw (by unfold Sm;constructor<;>simp only<;>omega) (by unfold Sm;constructor<;>simp only<;>omega);have htP:Pk K t:=Pk.of hK0 hwt het hzt fun k hk=>by
  rw[hvt];unfold pv;exact zBg (by rw[List.length_map];simp only;omega)
 have hsP:Pk (2*K) ((0,t.2):Pol):=⟨hwt,het,fun _=>rfl,by simp only;omega,by
  have:=htP.lo;have:=htP.hi;simp only;omega⟩
 have hpost:post2 (low,l)=if decide (0<t.2.length)&&getTV .bool ((R i_i_wide__isNegative [tAw4 (t.2.getD 0 Z4)]).getD []) 0 then getTV PolT ((R i_i_poly__negative [zI (0,t.2)]).getD []) 0 else (0,t.2):=by
  unfold post2;rw[ht]
  rfl
 have hl2:=jN hr2;have hl14:=jN hr14;have hwW:=hk.1;refine wp_seq (wp_region ?_);refine zF (d:=124) (v:=.agg #[.int .i64 low,.slice ad l.length cp]) rfl rfl rfl (r_ld hE h69 rfl (b:=b14) (off:=0) (vs:=[.int .i64 low,.slice ad l.length cp]) rfl (by simp[zB,zA,hsz,h14]) rfl hc) ?_;refine zCz (f:=58) (args:=#[.agg #[.int .i64 low,.slice ad l.length cp]]) (d:=125) rfl rfl rfl (by rw[r_fn (g:=58) rfl rfl (zAV Go.Proofs.Tryz.func58 (by kernel_rfl))];simp[zB,zA,hsz]) ?_;refine (zFk (f:=58) (fd:=fd58) (by kernel_rfl) rfl rfl rfl hp ht).mono ?_;rintro e1 V ⟨yt,rfl,hk1,hpt0⟩;refine⟨_,rfl,?_⟩;have hk1s:=hk1.1;have hpt:PolAt V (fun b=>w.heap.size≤b∧b≠b2∧b≠b14) t yt:=hpt0.up fun b _ hb=>by
  rcases hb with hb | hb
  · exact hb
  · exact⟨by omega,by omega,by omega⟩
 obtain⟨tad,tcp,rfl,htr,hte⟩:=hpt.split;refine ji (blk:=b14) (off:=0) (m:=2) (ys:=[.int .i64 t.1,.slice tad t.2.length tcp]) hE h69 rfl rfl rfl rfl (by simp[zB,zA,hsz,h14]) (by simp[zB,zA,hsz]) rfl (by simp[Value.oneCell']) (hr14.keep (hk1.2.2 _ hl14)) (by simp) fun V1 hk2 hr2' hc2 _=>?_;refine zU (wp_seq (wp_region ?_));refine zF (d:=126) (v:=.pointer (some ⟨b14,0,none⟩)) rfl rfl rfl (zGm ty69 (o':=0) rfl rfl (by simp[zB,zA,hsz,h14])) ?_;refine zUY (blk:=b14) (off:=0) (m:=2) (v:=.int .i64 0) hE h2t rfl rfl rfl rfl rfl (by simp[zB,zA,hsz]) rfl rfl rfl hr2' (by omega) fun V2 hk3 hr3 hc3 hd3=>?_;refine zU ?_;have hc4:∀ j v,[Value.int .i64 0,.slice tad t.2.length tcp][j]?=some v→V2.cell? ⟨b14,0+j,none⟩=some v:=fun j v hv=>by
  match j with
  | 0=>
   simp only[List.getElem?_cons_zero,Option.some.injEq] at hv;subst hv;exact hc3
  | 1=>
   rw[hd3 (0+1) (by omega)];exact hc2 1 v hv
  | j+2=>simp at hv
 have hps:PolAt V2 (fun b=>w.heap.size≤b∧b≠b2∧b≠b14) (0,t.2) [.int .i64 0,.slice tad t.2.length tcp]:=((PolAt.low (low:=t.1) hpt).keepB (fun h=>h.2.2 rfl) hk2).keepB (fun h=>h.2.2 rfl) hk3;have hkV:KeepA w V2:=by
  have h12:=hk2.trans hk3;exact⟨by have:=h12.1;omega,(hk.2.1.trans hk1.2.1).trans h12.2.1,fun b hb=>(h12.2.2 b (by omega) (by omega)).trans ((hk1.2.2 b (by omega)).trans (hk.2.2 b hb))⟩
 have hr2V:Row V2 b2 2:=((hr2.keep (hk1.2.2 _ hl2)).keep (hk2.2.2 _ (by omega) hne)).keep (hk3.2.2 _ (by have:=hk2.1;omega) hne);clear hc2 hd3 hc3 hpt0 hpt hc;refine wp_seq (wp_seq (wp_region ?_));refine zF (d:=127) (v:=.pointer (some ⟨b14,1,none⟩)) rfl rfl rfl (zGm ty69 (o':=1) rfl rfl (by simp[zB,zA,hsz,h14])) ?_;refine zF (d:=128) (v:=.slice tad t.2.length tcp) rfl rfl rfl (zDo hE h67 rfl (b:=b14) (off:=1) rfl (by simp[zB,zA,hsz]) (hc4 1 _ rfl)) ?_;refine zF (d:=129) (v:=.int .i64 t.2.length) rfl rfl rfl (zIK (addr:=tad) (cap:=tcp) hT67 rfl (by simp[zB,zA,hsz])) ?_;refine zF (d:=130) (v:=.bool (decide ((0:Int)<t.2.length))) rfl rfl rfl (kU (k:=.i64) (m:=(t.2.length:Int)) (m':=0) (u:=.bool _) hE rfl (by simp[zB,zA,hsz]) rfl rfl) ?_;refine zF (d:=131) (v:=.bool (decide ((0:Int)<t.2.length))) rfl rfl rfl (r_mv (.inl rfl) (by simp[zB,zA,hsz])) ?_;generalize ha:Act.put _ (some 131) (Value.bool _)=aa;have fsz:aa.tmps.size=141:=by rw[← ha];simp[zA,hsz]
 have fdf:aa.defers=[]:=by rw[← ha];simp[zT,hdf]
 have f2:aa.eval (.tmp 2)=.pointer (some ⟨b2,0,none⟩):=by rw[← ha];simp[zB,zA,hsz,h2]
 have f14:aa.eval (.tmp 14)=.pointer (some ⟨b14,0,none⟩):=by rw[← ha];simp[zB,zA,hsz,h14]
 have f131:aa.eval (.tmp 131)=.bool (decide ((0:Int)<t.2.length)):=by rw[← ha];simp[zB,zA,hsz]
 clear ha hsz hdf h2 h14;have hfin:∀ (x:Act) (V3:World),x.tmps.size=141→x.defers=[]→x.eval (.tmp 2)=.pointer (some ⟨b2,0,none⟩)→x.eval (.tmp 14)=.pointer (some ⟨b14,0,none⟩)→KeepA V2 V3→post2 (low,l)=(0,t.2)→finC.wp Pg (bodyPost Pg Go.Proofs.Tryz.f33 R_) x V3:=fun x V3 g1 g2 g3 g4 g5 g6=>
  zS0 (p:=(0,t.2)) (ys:=[.int .i64 0,.slice tad t.2.length tcp]) g1 g2 g3 g4 (hr2V.keep (g5.2.2 _ (jN hr2V))) (fun j v hv=>zh (hc4 j v hv) (g5.2.2 _ (jN hr3))) (hkV.trans g5) hw2 ((hps.keepA g5).up fun b _ h=>⟨h.1,h.2.1⟩) (fun w' ys h=>hR w' ys (by rw[g6];exact h))
 cases hb:decide ((0:Int)<t.2.length) with
 | false=>
  rw[hb] at f131;refine zJs (d:=132) rfl rfl rfl rfl rfl false f131 (by simp[fsz]) rfl ?_;refine zJs (d:=133) rfl rfl rfl rfl rfl false (zCJ (by decide) f131) (by simp[zA,fsz]) rfl ?_;refine zJs (d:=134) rfl rfl rfl rfl rfl false (zCJ (by decide) (zCJ (by decide) f131)) (by simp[zA,fsz]) rfl ?_;refine zJs (d:=135) rfl rfl rfl rfl rfl false (zCJ (by decide) (zCJ (by decide) (zCJ (by decide) f131))) (by simp[zA,fsz]) rfl ?_;refine zJs (d:=136) rfl rfl rfl rfl rfl false (zCJ (by decide) (zCJ (by decide) (zCJ (by decide) (zCJ (by decide) f131)))) (by simp[zA,fsz]) rfl ?_;refine zF (d:=137) (v:=.bool false) rfl rfl rfl (zTk (c:=.tmp 131) rfl (by simp[zB,zA,fsz,f131]) rfl) (zU ?_);refine wp_cond_false (by simp[zB,zA,fsz]) (wp_skip ?_);refine hfin _ V2 (by simp[zA,fsz]) (by simp[zT,fdf]) (by simp[zB,zA,fsz,f2]) (by simp[zB,zA,fsz,f14]) (KeepA.refl V2) ?_;rw[hpost,decide_eq_false (by have:=of_decide_eq_false hb;omega)]
  rfl
 | true=>
  rw[hb] at f131;have hpos:0<t.2.length:=by have:=of_decide_eq_true hb;omega
  have hx0:W4 (t.2.getD 0 Z4):=hwt.get hpos;obtain⟨nb,hnb,hcall⟩:=zL1 (w:=V2) hx0;obtain⟨ca,hca⟩:∃ ca,tad=some ca:=by
   cases hq:tad with
   | none=>have:=(htr.2.1 hq).1;omega
   | some y=>exact⟨y,rfl⟩
  obtain⟨cs1,cs2,cs3,_⟩:=htr.2.2 ca hca (.inl hpos);obtain⟨cb,co',rfl⟩:∃ cb co',ca=⟨cb,co',none⟩:=⟨ca.block,ca.off,by cases ca;simp only at cs1;subst cs1;rfl⟩;simp only at cs2 cs3;subst hca;have hxe:t.2[0]?=some (t.2.getD 0 Z4):=by rw[List.getD_eq_getElem?_getD,List.getElem?_eq_getElem hpos];rfl
  have hxc:∀ j v,((t.2.getD 0 Z4).map (Value.int .u64))[j]?=some v→V2.cell? ⟨cb,co'+j,none⟩=some v:=fun j v hv=>by
   have:=CRow.ofE hte 0 _ hxe j v hv;simp only[cellAt,Option.bind_some,Nat.zero_mul,Nat.zero_add] at this;exact zh (zh this (hk2.2.2 _ cs2 cs3.2.2)) (hk3.2.2 _ (by have:=hk2.1;omega) cs3.2.2)
  refine zMt (d:=132) (v:=.pointer (some ⟨b14,1,none⟩)) rfl rfl rfl rfl rfl true f131 (by simp[fsz]) rfl (zGm ty69 (o':=1) rfl rfl (by simp[f14])) ?_;refine zMt (d:=133) (v:=.slice (some ⟨cb,co',none⟩) t.2.length tcp) rfl rfl rfl rfl rfl true (zCJ (by decide) f131) (by simp[zA,fsz]) rfl (zDo hE h67 rfl (b:=b14) (off:=1) rfl (by simp[zB,zA,fsz]) (hc4 1 _ rfl)) ?_;refine zMt (d:=134) (v:=.pointer (some ⟨cb,co',none⟩)) rfl rfl rfl rfl rfl true (zCJ (by decide) (zCJ (by decide) f131)) (by simp[zA,fsz]) rfl (by rw[zIL (b:=cb) (off:=co') (n:=0) (k:=.i64) (len:=t.2.length) (cap:=tcp) hT67 hi67 rfl (by simp[zB,zA,fsz]) rfl hpos,Nat.zero_mul,Nat.add_zero]) ?_;refine zMt (d:=135) (v:=.agg ((t.2.getD 0 Z4).map (Value.int .u64)).toArray) rfl rfl rfl rfl rfl true (zCJ (by decide) (zCJ (by decide) (zCJ (by decide) f131))) (by simp[zA,fsz]) rfl (r_ld hE h98 rfl (b:=cb) (off:=co') rfl (by simp[zB,zA,fsz]) (by rw[List.length_map,hx0.len];rfl) hxc) ?_;refine zTL (f:=59) (args:=#[.agg ((t.2.getD 0 Z4).map (Value.int .u64)).toArray]) (d:=136) rfl rfl rfl rfl rfl true (zCJ (by decide) (zCJ (by decide) (zCJ (by decide) (zCJ (by decide) f131)))) (by simp[zA,fsz]) rfl (by rw[r_fn (g:=59) rfl rfl (zAV Go.Proofs.Tryz.func59 (by kernel_rfl))];simp[zB,zA,fsz]) ?_;refine hcall.mono ?_;rintro e2 V3 ⟨rfl,hk4⟩;refine⟨_,rfl,?_⟩;refine zF (d:=137) (v:=.bool nb) (w':=V3) rfl rfl rfl (by rw[zSg (c:=.tmp 131) (b:=true) rfl (by simp[zB,zA,fsz,f131])];simp[zB,zA,fsz]) (zU ?_);have hdn:decide (0<t.2.length)=true:=decide_eq_true hpos;rw[hdn,hnb] at hpost
  cases nb with
  | false=>
   refine wp_cond_false (by simp[zB,zA,fsz]) (wp_skip ?_);exact hfin _ V3 (by simp[zA,fsz]) (by simp[zT,fdf]) (by simp[zB,zA,fsz,f2]) (by simp[zB,zA,fsz,f14]) hk4 hpost
  | true=>
   obtain⟨q,hq,_,_⟩:=zQZ hsP hK;rw[hq] at hpost;have hpost':post2 (low,l)=q:=hpost;have hrl3:=jN hr3;refine wp_cond_true (by simp[zB,zA,fsz]) (wp_region ?_);refine zF (d:=138) (v:=.agg #[.int .i64 0,.slice (some ⟨cb,co',none⟩) t.2.length tcp]) rfl rfl rfl (r_ld hE h69 rfl (b:=b14) (off:=0) (vs:=[.int .i64 0,.slice (some ⟨cb,co',none⟩) t.2.length tcp]) rfl (by simp[zB,zA,fsz,f14]) rfl (fun j v hv=>zh (hc4 j v hv) (hk4.2.2 _ hrl3))) ?_;refine zCz (f:=54) (args:=#[.agg #[.int .i64 0,.slice (some ⟨cb,co',none⟩) t.2.length tcp]]) (d:=139) rfl rfl rfl (by rw[r_fn (g:=54) rfl rfl (zAV Go.Proofs.Tryz.func54 (by kernel_rfl))];simp[zB,zA,fsz]) ?_;refine (zFk (f:=54) (fd:=fd54) (by kernel_rfl) rfl rfl rfl (hps.keepA hk4) hq).mono ?_;rintro e3 V4 ⟨yq,rfl,hk5,hpq0⟩;refine⟨_,rfl,?_⟩;have hk45:=hk4.trans hk5;have hsV:=hkV.1;have hb2V:=jN hr2V;have hpq:PolAt V4 (fun b=>w.heap.size≤b∧b≠b2∧b≠b14) q yq:=hpq0.up fun b _ hb=>by
    rcases hb with hb | hb
    · exact hb
    · have:=hk4.1;exact⟨by omega,by omega,by omega⟩
   refine ji (blk:=b14) (off:=0) (m:=2) (ys:=yq) hE h69 rfl rfl rfl rfl (by simp[zB,zA,fsz,f14]) (by simp[zB,zA,fsz]) (by rw[hpq.len];rfl) (TRep.oneCell hpq) (hr3.keep (hk45.2.2 _ hrl3)) (by rw[hpq.len];omega) fun V5 hk6 hr6 hc6 _=>?_;refine zU ?_;have hk5s:=hk45.1;refine zS0 (p:=q) (ys:=yq) (by simp[zA,fsz]) (by simp[zT,fdf]) (by simp[zB,zA,fsz,f2]) (by simp[zB,zA,fsz,f14]) ((hr2V.keep (hk45.2.2 _ hb2V)).keep (hk6.2.2 _ (by omega) hne)) hc6 ?_ hw2 ((hpq.keepB (fun h=>h.2.2 rfl) hk6).up fun b _ h=>⟨h.1,h.2.1⟩) (fun w' ys h=>hR w' ys (by rw[hpost'];exact h));have h12:=hkV.trans hk45;exact⟨Nat.le_trans h12.1 hk6.1,h12.2.1.trans hk6.2.1,fun b hb=>(hk6.2.2 b (Nat.lt_of_lt_of_le hb h12.1) (by omega)).trans (h12.2.2 b hb)⟩
end Go.Ev.YtlkmkabnbegfdaaGreatP
namespace Go.Ev.YtlkmkabnbegfdaaGreatP
open Go.Ev Go.Lau
theorem zUK {T:Option Ty}{x y:Int}(h1:-9223372036854775808≤x-y) (h2:x-y≤9223372036854775807):binW .sub T (.c (.int .i64 x)) (.c (.int .i64 y))=some (true,.c (.int .i64 (x-y))):=by
 have hw:IntKind.wrap .i64 (x-y)=x-y:=zD h1 h2;simp only[binW,if_true,intOp,hw]
theorem zQx {T:Option Ty}{x y:Int}(h1:-9223372036854775808≤x+y) (h2:x+y≤9223372036854775807):binW .add T (.c (.int .i64 x)) (.c (.int .i64 y))=some (true,.c (.int .i64 (x+y))):=by
 have hw:IntKind.wrap .i64 (x+y)=x+y:=zD h1 h2;simp only[binW,if_true,intOp,hw]
set_option maxHeartbeats 4000000 in
theorem zTU {R:Ending→World→Prop}{w W:World}{a:Act}{n b1 b2 b13 b14:Nat}{q:Pol}{qad:Option Addr}{qcp:Nat}{G:Nat→Prop}{K:Int}(hn:1≤n) (hn2:n≤50) (hqP:Pk K q) (hK:2*K<100000000)
  (hsz:a.tmps.size=141) (hdf:a.defers=[]) (h1:a.eval (.tmp 1)=.pointer (some ⟨b1,0,none⟩)) (h2:a.eval (.tmp 2)=.pointer (some ⟨b2,0,none⟩)) (h13:a.eval (.tmp 13)=.pointer (some ⟨b13,0,none⟩)) (h14:a.eval (.tmp 14)=.pointer (some ⟨b14,0,none⟩))
  (hb1:W.cell? ⟨b1,0,none⟩=some (.int .i64 (n:Int))) (hb13:W.cell? ⟨b13,1,none⟩=some (.slice qad q.2.length qcp)) (hr14:Row W b14 2) (hl14:W.cell? ⟨b14,0,none⟩=some (.int .i64 q.1)) (hq14:W.cell? ⟨b14,1,none⟩=some (.slice none 0 0))
  (hr2:Row W b2 2) (hqrow:RowW W false G 4 q.2.length qad qcp) (hqel:CRow W qad q.2) (hb1l:b1<W.heap.size) (hd1:b1≠b14) (hd2:b2≠b14) (hd3:b1≠b2) (hk:KeepA w W) (hw2:w.heap.size≤b2) (hw14:w.heap.size≤b14)
  (hR:∀ w' ys,ResAt w w' (post n q) ys→R (.returned (.agg ys.toArray)) w'):tailC.wp Pg (bodyPost Pg Go.Proofs.Tryz.f33 R) a W:=by
 have hE:EnvTy Pg E:=envOk.ty;have h67:E.ty 67=some (.slice W4T):=by kernel_rfl
 have h98:E.ty 98=some W4T:=by kernel_rfl
 have h69:E.ty 69=some PolT:=by kernel_rfl
 have h2t:E.ty 2=some (.int .i64):=by kernel_rfl
 obtain⟨_,e67,hT67,hte67⟩:=hE.ty _ _ h67;obtain⟨i67,hi67,_,hs67,_,_,_⟩:=hte67.base;have hs67':i67.size=4:=hs67;have hlo:=hqP.lo;have hhi:=hqP.hi;have hKp:=hqP.pos;refine wp_seq (wp_region ?_);refine zF (d:=82) (v:=.pointer (some ⟨b13,1,none⟩)) rfl rfl rfl (zGm ty69 (o':=1) rfl rfl (by simp[zB,zA,hsz,h13])) ?_;refine zF (d:=83) (v:=.slice qad q.2.length qcp) rfl rfl rfl (zDo hE h67 rfl (b:=b13) (off:=1) rfl (by simp[zB,zA,hsz]) hb13) ?_;refine zCz (f:=56) (args:=#[.slice qad q.2.length qcp]) (d:=84) rfl rfl rfl (by rw[r_fn (g:=56) rfl rfl (zAV Go.Proofs.Tryz.func56 (by kernel_rfl))];simp[zB,zA,hsz]) ?_;refine (zMC hqrow hqel hqP.w (by unfold lim;omega)).mono ?_;rintro e1 V ⟨rad,rcp,rfl,hkV,hcV,hrV⟩;refine⟨_,rfl,?_⟩;refine zF (d:=15) (v:=.slice rad q.2.length rcp) rfl rfl rfl (r_mv (.inr rfl) (by simp[zB,zA,hsz])) (zU ?_);obtain⟨rb,hrb⟩:∃ rb,0<q.2.length→rad=some ⟨rb,0,none⟩∧W.heap.size≤rb∧∃ m,Row V rb m∧4*q.2.length≤m:=by
  by_cases hL:0<q.2.length
  · obtain⟨rb,m,e1,e2,e3,e4⟩:=hrV hL;exact⟨rb,fun _=>⟨e1,e2,m,e3,e4⟩⟩
  · exact⟨0,fun h=>absurd h hL⟩
 have hlt14:=jN hr14;have hT:Tw W b14 rb q.1 q.2.length rad q.2 [] none 0 V:=⟨hkV.b b14,rfl,hqP.w,Wl.nil,hcV,hrb,hlt14,hr14.keep (hkV.2.2 _ hlt14),zh hl14 (hkV.2.2 _ hlt14),zh hq14 (hkV.2.2 _ hlt14),⟨Nat.le_refl _,fun _=>⟨rfl,fun _=>rfl⟩,fun a ha=>by simp at ha⟩,fun i x hx=>by simp at hx⟩;clear hcV hrV hb13 hqrow hqel hl14 hq14 hrb;generalize hLL:q.2.length=L at *;refine wp_seq (wp_seq (wp_region ?_));refine zF (d:=85) (v:=.slice rad L rcp) rfl rfl rfl (r_mv (.inl rfl) (by simp[zB,zA,hsz])) ?_;refine zF (d:=86) (v:=.int .i64 L) rfl rfl rfl (zIK (addr:=rad) (cap:=rcp) hT67 rfl (by simp[zB,zA,hsz])) ?_;refine zF (d:=87) (v:=.pointer (some ⟨b1,0,none⟩)) rfl rfl rfl (zGm ty26 (o':=0) rfl rfl (by simp[zB,zA,hsz,h1])) ?_;refine zF (d:=88) (v:=.int .i64 (n:Int)) rfl rfl rfl (zDo hE h2t rfl (b:=b1) (off:=0) rfl (by simp[zB,zA,hsz]) (zh hb1 (hkV.2.2 _ hb1l))) ?_;refine zF (d:=89) (v:=.int .i64 ((L:Int)-n)) rfl rfl rfl (kU (k:=.i64) (m:=(L:Int)) (m':=(n:Int)) (u:=.int .i64 _) hE rfl (by simp[zB,zA,hsz]) (by simp[zB,zA,hsz]) (zUK (by omega) (by omega))) ?_;refine zF (d:=90) (v:=.int .i64 ((L:Int)-n+1)) rfl rfl rfl (kU (k:=.i64) (m:=(L:Int)-n) (m':=1) (u:=.int .i64 _) hE rfl (by simp[zB,zA,hsz]) rfl (zQx (by omega) (by omega))) ?_;refine zF (d:=91) (v:=.int .i64 0) rfl rfl rfl (r_mv (.inl rfl) rfl) (zU ?_)
 refine wp_block (wp_loop (I:=fun a V=>a.tmps.size=141∧a.defers=[]∧a.eval (.tmp 1)=.pointer (some ⟨b1,0,none⟩)∧a.eval (.tmp 2)=.pointer (some ⟨b2,0,none⟩)∧a.eval (.tmp 14)=.pointer (some ⟨b14,0,none⟩)∧a.eval (.tmp 15)=.slice rad L rcp∧a.eval (.tmp 90)=.int .i64 ((L:Int)-n+1) ∧
  ∃ (i:Nat) (rest qs:List (List Int)) (qa:Option Addr) (qc:Nat),i≤L+1-n∧qs.length=i∧a.eval (.tmp 91)=.int .i64 i∧Tw W b14 rb q.1 L rad rest qs qa qc V∧qs++quo n (L+1-n-i) i rest=quo n (L+1-n) 0 q.2) (fun a V=>L+1-n-natOf (a.eval (.tmp 91))) ?_ ?_)
 · exact⟨by simp[zA,hsz],by simp[zT,hdf],by simp[zB,zA,hsz,h1],by simp[zB,zA,hsz,h2],by simp[zB,zA,hsz,h14],by simp[zB,zA,hsz],by simp[zB,zA,hsz],0,q.2,[],none,0,by omega,rfl,by simp[zB,zA,hsz],hT,rfl⟩
 · clear hT hkV;rintro a V ⟨hsz,hdf,h1,h2,h14,h15,h90,i,rest,qs,qa,qc,hiD,hqi,h91,hT,hQ⟩;refine wp_seq (wp_region ?_);refine zF (d:=92) (v:=.bool (decide ((i:Int)<(L:Int)-n+1))) rfl rfl rfl (kU (k:=.i64) (m:=(i:Int)) (m':=(L:Int)-n+1) (u:=.bool _) hE rfl (by simp[h91]) (by simp[h90]) rfl) (zU ?_);have h91o:=h91
   by_cases hil:i<L+1-n
   · refine wp_seq (wp_cond_true (by simp[zB,zA,hsz];omega) (wp_skip ?_));have hDL:i<L:=by omega
     have hL0:0<L:=by omega
     obtain⟨erad,hrbW,m,hrm,hm⟩:=hT.rr hL0;have hi':i<rest.length:=by rw[hT.rl];exact hDL
     obtain⟨x,hx⟩:∃ x,rest[i]?=some x:=⟨rest[i],List.getElem?_eq_getElem hi'⟩;have hxW:W4 x:=hT.rw x (List.mem_of_getElem? hx);have hxd:rest.getD i Z4=x:=by rw[List.getD_eq_getElem?_getD,hx];rfl
     have hxc:=hT.rc i x hx;rw[erad] at hxc;simp only[cellAt,Option.bind_some,Nat.zero_add] at hxc;have hx4:(x.map (Value.int .u64)).length=W4T.cells:=by rw[List.length_map,hxW.len];rfl
     have hx1:∀ v∈x.map (Value.int .u64),v.oneCell'=true:=fun v hv=>by
      obtain⟨y,_,rfl⟩:=List.mem_map.1 hv
      rfl
     refine wp_seq (wp_block (wp_seq (wp_region ?_)));refine zF (d:=93) (v:=.int .i64 i) rfl rfl rfl (r_mv (.inl rfl) (by simp[zB,zA,hsz,h91])) ?_;refine zF (d:=16) (v:=.int .i64 i) rfl rfl rfl (r_mv (.inr rfl) (by simp[zB,zA,hsz])) (zU ?_);refine wp_seq (wp_region ?_);refine zF (d:=94) (v:=.slice rad L rcp) rfl rfl rfl (r_mv (.inl rfl) (by simp[zB,zA,hsz,h15])) ?_;refine zF (d:=95) (v:=.int .i64 i) rfl rfl rfl (r_mv (.inl rfl) (by simp[zB,zA,hsz])) ?_;refine zF (d:=96) (v:=.pointer (some ⟨rb,i*4,none⟩)) rfl rfl rfl (by rw[zIL (b:=rb) (off:=0) (n:=i) (k:=.i64) (len:=L) (cap:=rcp) hT67 hi67 rfl (by simp[zB,zA,hsz,erad]) (by simp[zB,zA,hsz]) hDL,hs67',Nat.zero_add]) ?_;refine zF (d:=97) (v:=.agg (x.map (Value.int .u64)).toArray) rfl rfl rfl (r_ld hE h98 rfl (b:=rb) (off:=i*4) rfl (by simp[zB,zA,hsz]) hx4 hxc) ?_;refine zCR (d:=17) hE h98 rfl rfl rfl rfl fun V1 hk1 hr1=>?_;generalize hb17:V.heap.size=b17 at *;refine ji (blk:=b17) (off:=0) (m:=4) (ys:=x.map (Value.int .u64)) hE h98 rfl rfl rfl rfl (by simp[zB,zA,hsz]) (by simp[zB,zA,hsz]) hx4 hx1 hr1 (by rw[List.length_map,hxW.len];exact Nat.le_refl _) fun V2 hk2 hr17 hc2 _=>?_;refine zU ?_;have hA2:KeepA V V2:=⟨Nat.le_trans hk1.1 hk2.1,hk1.2.1.trans hk2.2.1,fun b hb=>(hk2.2.2 b (Nat.lt_of_lt_of_le hb hk1.1) (by omega)).trans (hk1.2.2 b hb)⟩;have hT2:=hT.frame hA2;have hVW:W.heap.size≤b17:=by have:=hT.keep.1;omega
     have hrbl:rb<b17:=by have:=jN hrm;omega
     have h17V2:b17<V2.heap.size:=jN hr17;refine wp_seq (wp_region ?_);refine zF (d:=98) (v:=.pointer (some ⟨b14,1,none⟩)) rfl rfl rfl (zGm ty69 (o':=1) rfl rfl (by simp[zB,zA,hsz,h14])) ?_;refine zF (d:=99) (v:=.slice qa qs.length qc) rfl rfl rfl (zDo hE h67 rfl (b:=b14) (off:=1) rfl (by simp[zB,zA,hsz]) hT2.bq) ?_;refine zF (d:=100) (v:=.agg (x.map (Value.int .u64)).toArray) rfl rfl rfl (r_ld hE h98 rfl (b:=b17) (off:=0) rfl (by simp[zB,zA,hsz]) hx4 hc2) ?_;refine zUa (d:=101) (ys:=x.map (Value.int .u64)) hE h67 rfl rfl rfl rfl (by simp[zB,zA,hsz]) hx4 fun V3 hk3 hs3 hr3 hc3=>?_;have hT3:=hT2.frame hk3;have hf1:flat [x]=x.map (Value.int .u64):=by simp[flat]
     have hqa:∀ ad,qa=some ad→ad.block<b17:=fun ad had=>by
      have:=(hT.qr.2.2 ad had (.inr rfl)).2.1;omega
     refine zST (d:=102) (olds:=flat qs) (news:=flat [x]) (addr:=qa) (addr2:=some ⟨V2.heap.size,0,none⟩) (n:=qs.length) (cap:=qc) (m:=1) (cap2:=1) (ok:=fun b=>W.heap.size≤b∧b≠rb) hE h67 rfl rfl rfl rfl (by simp[zB,zA,hsz]) (by simp[zB,zA,hsz]) hT3.qr (zDf hT.qw.four) (hT3.qcr.flat hT.qw.four) (zDf (Wl.one hxW).four) ?_ (fun e=>by simp at e) (fun ad had _=>by simp only[Option.some.injEq] at had;subst had;rfl) zNV (by unfold lim;omega) fun V4 qa' qc' hs4 hl4 hh4 hc4 hr4 _=>?_
     · intro j v hv;rw[hf1] at hv;simpa[cellAt] using hc3 j v hv
     refine zF (d:=103) (v:=.pointer (some ⟨b14,1,none⟩)) rfl rfl rfl (zGm ty69 (o':=1) rfl rfl (by simp[zB,zA,hsz,h14])) ?_;have hl3:=hk3.1;have hb14V:=jN hT3.bx;have hne14:∀ ad,qa=some ad→b14≠ad.block:=fun ad had=>by
      have:=(hT.qr.2.2 ad had (.inr rfl)).2.2.1;omega
     refine zUY (blk:=b14) (off:=1) (m:=2) (v:=.slice qa' (qs.length+1) qc') hE h67 rfl rfl rfl rfl rfl (by simp[zB,zA,hsz]) (by simp[zB,zA,hsz]) rfl rfl (hT3.bx.keep (hh4 _ hb14V hne14)) (by omega) fun V5 hk5 hr5 hc5 hd5=>?_;refine zU ?_;have hT5:=hT3.app hL0 hxW hs4 hl4 hh4 hc4 hr4 hk5 hr5 hc5 hd5;have hx5:∀ j v,(x.map (Value.int .u64))[j]?=some v→V5.cell? ⟨b17,0+j,none⟩=some v:=fun j v hv=>
      zh (zh (zh (hc2 j v hv) (hk3.2.2 _ h17V2)) (hh4 _ (by omega) fun ad had e=>by have:=hqa ad had;omega)) (hk5.2.2 _ (by omega) (by omega))
     have hn1:V5.cell? ⟨b1,0,none⟩=some (.int .i64 (n:Int)):=zh hb1 (hT5.keep.2.2 b1 hb1l hd1);clear hc2 hc3 hc4 hd5 hh4 hr4 hT2 hT3 hk1 hk2 hk3 hk5 hr1 hr3 hr5 hl4 hs4 hs3 hl3 hb14V hne14 hA2 hc5 hr17 h17V2;refine wp_seq (wp_region ?_);refine zF (d:=104) (v:=.pointer (some ⟨b1,0,none⟩)) rfl rfl rfl (zGm ty26 (o':=0) rfl rfl (by simp[zB,zA,hsz,h1])) ?_;refine zF (d:=105) (v:=.int .i64 (n:Int)) rfl rfl rfl (zDo hE h2t rfl (b:=b1) (off:=0) rfl (by simp[zB,zA,hsz]) hn1) ?_;refine zF (d:=106) (v:=.int .i64 0) rfl rfl rfl (r_mv (.inl rfl) rfl) (zU ?_)
     refine wp_block (wp_loop (I:=fun a V=>a.tmps.size=141∧a.defers=[]∧a.eval (.tmp 1)=.pointer (some ⟨b1,0,none⟩)∧a.eval (.tmp 2)=.pointer (some ⟨b2,0,none⟩)∧a.eval (.tmp 14)=.pointer (some ⟨b14,0,none⟩)∧a.eval (.tmp 15)=.slice rad L rcp∧a.eval (.tmp 90)=.int .i64 ((L:Int)-n+1) ∧
      a.eval (.tmp 91)=.int .i64 i∧a.eval (.tmp 16)=.int .i64 i∧a.eval (.tmp 17)=.pointer (some ⟨b17,0,none⟩)∧a.eval (.tmp 105)=.int .i64 n ∧
      ∃ (j:Nat) (rest':List (List Int)),j≤n∧a.eval (.tmp 106)=.int .i64 j∧Tw W b14 rb q.1 L rad rest' (qs++[x]) qa' qc' V∧(∀ j v,(x.map (Value.int .u64))[j]?=some v→V.cell? ⟨b17,0+j,none⟩=some v)∧subs x i (n-j) j rest'=subs x i n 0 rest) (fun a V=>n-natOf (a.eval (.tmp 106))) ?_ ?_)
     · exact⟨by simp[zA,hsz],by simp[zT,hdf],by simp[zB,zA,hsz,h1],by simp[zB,zA,hsz,h2],by simp[zB,zA,hsz,h14],by simp[zB,zA,hsz,h15],by simp[zB,zA,hsz,h90],by simp[zB,zA,hsz,h91],by simp[zB,zA,hsz],by simp[zB,zA,hsz],by simp[zB,zA,hsz],0,rest,by omega,by simp[zB,zA,hsz],hT5,hx5,rfl⟩
     · clear hT5 hx5 hn1 hxc hrm hT;rintro a V ⟨hsz,hdf,h1,h2,h14,h15,h90,h91,h16,h17,h105,j,rest',hjn,h106,hT,hx5,hS⟩;refine wp_seq (wp_region ?_);refine zF (d:=107) (v:=.bool (decide ((j:Int)<(n:Int)))) rfl rfl rfl (kU (k:=.i64) (m:=(j:Int)) (m':=(n:Int)) (u:=.bool _) hE rfl (by simp[h106]) (by simp[h105]) rfl) (zU ?_);have h106o:=h106
       by_cases hjl:j<n
       · refine wp_seq (wp_cond_true (by simp[zB,zA,hsz];omega) (wp_skip ?_));have hij:i+j<L:=by omega
         have hij':i+j<rest'.length:=by rw[hT.rl];exact hij
         obtain⟨m,hrm,hm⟩:=(hT.rr hL0).2.2;obtain⟨y,hy⟩:∃ y,rest'[i+j]?=some y:=⟨rest'[i+j],List.getElem?_eq_getElem hij'⟩;have hyW:W4 y:=hT.rw y (List.mem_of_getElem? hy);have hyd:rest'.getD (i+j) Z4=y:=by rw[List.getD_eq_getElem?_getD,hy];rfl
         have hyc:=hT.rc (i+j) y hy;rw[erad] at hyc;simp only[cellAt,Option.bind_some,Nat.zero_add] at hyc;have hy4:(y.map (Value.int .u64)).length=W4T.cells:=by rw[List.length_map,hyW.len];rfl
         have h17V:b17<V.heap.size:=by
          have hx0:0<(x.map (Value.int .u64)).length:=by rw[List.length_map,hxW.len];omega
          have:=hx5 0 _ (List.getElem?_eq_getElem hx0)
          rcases Nat.lt_or_ge b17 V.heap.size with h | h
          · exact h
          · simp[World.cell?,Array.getElem?_eq_none h] at this
         obtain⟨hzW,hsub⟩:=zIT (w:={ V with drawn:=V.drawn+1 }) hyW hxW;refine wp_seq (wp_block (wp_seq (wp_region ?_)));refine zF (d:=108) (v:=.int .i64 j) rfl rfl rfl (r_mv (.inl rfl) (by simp[zB,zA,hsz,h106])) ?_;refine zF (d:=18) (v:=.int .i64 j) rfl rfl rfl (r_mv (.inr rfl) (by simp[zB,zA,hsz])) (zU ?_);have hadd:∀ T:Option Ty,binW .add T (.c (.int .i64 (i:Int))) (.c (.int .i64 (j:Int)))=some (true,.c (.int .i64 ((i+j:Nat):Int))):=fun T=>by
          rw[zQx (by omega) (by omega),Int.natCast_add]
         refine wp_region_held (S:=fun w'=>∀ b,b<V.heap.size→b≠rb→w'.heap[b]?=V.heap[b]?) envOk.mixed ?_;refine wpAnyH_take (i:=0) (v:=.slice rad L rcp) (fuel:=13) rfl (by kernel_rfl) (by kernel_rfl) (by kernel_rfl) (fun _ _ _ h=>h) (.inl ⟨rfl,fun w' hS=>r_mv (.inl rfl) (by simp[zB,zA,hsz,h15])⟩) (fun _ _ _=>rfl) ?_;refine wpAnyH_take (i:=1) (v:=.int .i64 i) (fuel:=12) rfl (by kernel_rfl) (by kernel_rfl) (by kernel_rfl) (fun _ _ _ h=>h) (.inl ⟨rfl,fun w' hS=>r_mv (.inl rfl) (by simp[zB,zA,hsz,h16])⟩) (fun _ _ _=>rfl) ?_;refine wpAnyH_take (i:=2) (v:=.int .i64 j) (fuel:=11) rfl (by kernel_rfl) (by kernel_rfl) (by kernel_rfl) (fun _ _ _ h=>h) (.inl ⟨rfl,fun w' hS=>r_mv (.inl rfl) (by simp[zB,zA,hsz])⟩) (fun _ _ _=>rfl) ?_;refine wpAnyH_take (i:=3) (v:=.int .i64 ((i+j:Nat):Int)) (fuel:=10) rfl (by kernel_rfl) (by kernel_rfl) (by kernel_rfl) (fun _ _ _ h=>h) (.inl ⟨rfl,fun w' hS=>kU (k:=.i64) (m:=(i:Int)) (m':=(j:Int)) (u:=.int .i64 _) hE rfl (by simp[zB,zA,hsz]) (by simp[zB,zA,hsz]) (hadd _)⟩) (fun _ _ _=>rfl) ?_;refine wpAnyH_take (i:=4) (v:=.slice rad L rcp) (fuel:=9) rfl (by kernel_rfl) (by kernel_rfl) (by kernel_rfl) (fun _ _ _ h=>h) (.inl ⟨rfl,fun w' hS=>r_mv (.inl rfl) (by simp[zB,zA,hsz,h15])⟩) (fun _ _ _=>rfl) ?_;refine wpAnyH_take (i:=5) (v:=.int .i64 i) (fuel:=8) rfl (by kernel_rfl) (by kernel_rfl) (by kernel_rfl) (fun _ _ _ h=>h) (.inl ⟨rfl,fun w' hS=>r_mv (.inl rfl) (by simp[zB,zA,hsz,h16])⟩) (fun _ _ _=>rfl) ?_;refine wpAnyH_take (i:=6) (v:=.int .i64 j) (fuel:=7) rfl (by kernel_rfl) (by kernel_rfl) (by kernel_rfl) (fun _ _ _ h=>h) (.inl ⟨rfl,fun w' hS=>r_mv (.inl rfl) (by simp[zB,zA,hsz])⟩) (fun _ _ _=>rfl) ?_;refine wpAnyH_take (i:=7) (v:=.int .i64 ((i+j:Nat):Int)) (fuel:=6) rfl (by kernel_rfl) (by kernel_rfl) (by kernel_rfl) (fun _ _ _ h=>h) (.inl ⟨rfl,fun w' hS=>kU (k:=.i64) (m:=(i:Int)) (m':=(j:Int)) (u:=.int .i64 _) hE rfl (by simp[zB,zA,hsz]) (by simp[zB,zA,hsz]) (hadd _)⟩) (fun _ _ _=>rfl) ?_;refine wpAnyH_take (i:=8) (v:=.pointer (some ⟨rb,(i+j)*4,none⟩)) (fuel:=5) rfl (by kernel_rfl) (by kernel_rfl) (by kernel_rfl) (fun _ _ _ h=>h) (.inl ⟨rfl,fun w' hS=>by rw[zIL (b:=rb) (off:=0) (n:=i+j) (k:=.i64) (len:=L) (cap:=rcp) hT67 hi67 rfl (by simp[zB,zA,hsz,erad]) (by simp[zB,zA,hsz]) hij,hs67',Nat.zero_add]⟩) (fun _ _ _=>rfl) ?_
         refine wpAnyH_take (i:=10) (v:=.agg (x.map (Value.int .u64)).toArray) (fuel:=4) rfl (by kernel_rfl) (by kernel_rfl) (by kernel_rfl) (fun _ _ _ h=>h) (.inl ⟨rfl,fun w' hS=>r_ld hE h98 rfl (b:=b17) (off:=0) rfl (by simp[zB,zA,hsz,h17]) hx4 (fun q v hv=>zh (hx5 q v hv) (hS b17 h17V (by omega)))⟩) (fun _ _ _=>rfl) ?_;refine wpAnyH_all (rs:=[9]) (by kernel_rfl) (by simp) fun z hz=>?_;obtain rfl:z=9:=by simpa using hz
         refine zLt (d:=118) (v:=.agg (y.map (Value.int .u64)).toArray) (w':={ V with drawn:=V.drawn+1 }) rfl rfl rfl (r_ld hE h98 rfl (b:=rb) (off:=(i+j)*4) rfl (by simp[zB,zA,hsz]) hy4 hyc) ?_;refine⟨fun _ _ _=>rfl,?_⟩;refine wpAnyH_all (rs:=[11]) (by kernel_rfl) (by simp) fun z hz=>?_;obtain rfl:z=11:=by simpa using hz
         refine zNC (f:=57) (args:=#[.agg (y.map (Value.int .u64)).toArray,.agg (x.map (Value.int .u64)).toArray]) (d:=120) rfl rfl rfl (by rw[r_fn (g:=57) rfl rfl (zAV Go.Proofs.Tryz.func57 (by kernel_rfl))];simp[zB,zA,hsz]) ?_;refine hsub.mono ?_;rintro e1 V6 ⟨rfl,hk6⟩;have hk6':KeepA V V6:=(zAu V).trans hk6;refine⟨_,rfl,fun b hb _=>hk6'.2.2 b hb,?_⟩;refine wpAnyH_all (rs:=[12]) (by kernel_rfl) (by simp) fun z hz=>?_;obtain rfl:z=12:=by simpa using hz
         refine zLt (d:=121) (v:=.pointer (some ⟨rb,(i+j)*4,none⟩)) (w':=V6) rfl rfl rfl (by rw[zIL (b:=rb) (off:=0) (n:=i+j) (k:=.i64) (len:=L) (cap:=rcp) hT67 hi67 rfl (by simp[zB,zA,hsz,erad]) (by simp[zB,zA,hsz]) hij,hs67',Nat.zero_add]) ?_;refine⟨fun b hb _=>hk6'.2.2 b hb,?_⟩;refine wpAnyH_all (rs:=[13]) (by kernel_rfl) (by simp) fun z hz=>?_;obtain rfl:z=13:=by simpa using hz
         have hT6:=hT.frame hk6';have hz4:((wsub y x).map (Value.int .u64)).length=W4T.cells:=by rw[List.length_map,hzW.len];rfl
         refine zPo (blk:=rb) (off:=(i+j)*4) (m:=m) (ys:=(wsub y x).map (Value.int .u64)) hE h98 rfl rfl rfl rfl (by simp[zB,zA,hsz]) (by simp[zB,zA,hsz]) hz4 (fun v hv=>by obtain⟨y',_,rfl⟩:=List.mem_map.1 hv;rfl) (hrm.keep (hk6'.2.2 _ (jN hrm))) (by rw[List.length_map,hzW.len];omega) fun V7 hk7 hr7 hc7 hd7=>?_;refine⟨fun b hb hbr=>(hk7.2.2 b (Nat.lt_of_lt_of_le hb hk6'.1) hbr).trans (hk6'.2.2 b hb),?_⟩;have hT7:=hT6.set hij hk7 hm hr7 hzW hc7 (fun q hq=>hd7 q (by rw[List.length_map,hzW.len];exact hq));refine wpAnyH_done (by kernel_rfl) (wp_region ?_) _;refine zF (d:=122) (v:=.int .i64 (j+1:Nat)) rfl rfl rfl (kU (k:=.i64) (m:=(j:Int)) (m':=1) (u:=.int .i64 _) hE rfl (by simp[zB,zA,hsz,h106]) rfl (jc (by omega))) ?_;refine zF (d:=106) (v:=.int .i64 (j+1:Nat)) rfl rfl rfl (r_mv (.inl rfl) (by simp[zB,zA,hsz])) (zU ?_)
         refine⟨⟨by simp[zA,hsz],by simp[zT,hdf],by simp[zB,zA,hsz,h1],by simp[zB,zA,hsz,h2],by simp[zB,zA,hsz,h14],by simp[zB,zA,hsz,h15],by simp[zB,zA,hsz,h90],by simp[zB,zA,hsz,h91],by simp[zB,zA,hsz,h16],by simp[zB,zA,hsz,h17],by simp[zB,zA,hsz,h105],j+1,_,by omega,by simp[zB,zA,hsz],hT7,fun q v hv=>zh (zh (hx5 q v hv) (hk6'.2.2 _ h17V)) (hk7.2.2 _ (Nat.lt_of_lt_of_le h17V hk6'.1) (by omega)),?_⟩,?_⟩
         · rw[← hS,show n-j=(n-(j+1))+1 by omega,subs,hyd]
         · simp[zB,zA,hsz,h106o,natOf];omega
       · refine wp_seq (wp_cond_false (by simp[zB,zA,hsz];omega) (wp_exit (wp_region ?_)));have hje:j=n:=by omega
         rw[hje,Nat.sub_self] at hS;have hS':rest'=subs x i n 0 rest:=hS;refine zF (d:=123) (v:=.int .i64 (i+1:Nat)) rfl rfl rfl (kU (k:=.i64) (m:=(i:Int)) (m':=1) (u:=.int .i64 _) hE rfl (by simp[zB,zA,hsz,h91]) rfl (jc (by omega))) ?_;refine zF (d:=91) (v:=.int .i64 (i+1:Nat)) rfl rfl rfl (r_mv (.inl rfl) (by simp[zB,zA,hsz])) (zU ?_)
         refine⟨⟨by simp[zA,hsz],by simp[zT,hdf],by simp[zB,zA,hsz,h1],by simp[zB,zA,hsz,h2],by simp[zB,zA,hsz,h14],by simp[zB,zA,hsz,h15],by simp[zB,zA,hsz,h90],i+1,rest',qs++[x],qa',qc',by omega,by simp[hqi],by simp[zB,zA,hsz],hT,?_⟩,?_⟩
         · rw[← hQ,show L+1-n-i=(L+1-n-(i+1))+1 by omega,quo,hxd,← hS',List.append_assoc]
           rfl
         · simp[zB,zA,hsz,h91o,natOf];omega
   · refine wp_seq (wp_cond_false (by simp[zB,zA,hsz];omega) (wp_exit ?_));have hie:i=L+1-n:=by omega
     rw[hie,Nat.sub_self] at hQ;have hQ':qs=quo n (L+1-n) 0 q.2:=by
      rw[← hQ];simp[quo]
     have hkW:=hT.keep;have hkw:=hk.1
     refine zTS (low:=q.1) (l:=qs) (ad:=qa) (cp:=qc) (K:=K) (b2:=b2) (b14:=b14) (w:=w) (by simp[zA,hsz]) (by simp[zT,hdf]) (by simp[zB,zA,hsz,h2]) (by simp[zB,zA,hsz,h14]) (hr2.keep (hkW.2.2 _ (jN hr2) hd2)) hT.bx ?_ ?_ hw2 hw14 hd2 hT.qw ?_ hlo (by omega) hK (fun w' ys h=>hR w' ys (by rw[zPe,hLL,← hQ'];exact h))
     · intro j v hv
       match j with
       | 0=>
        simp only[List.getElem?_cons_zero,Option.some.injEq] at hv;subst hv;exact hT.bl
       | 1=>
        simp only[List.getElem?_cons_succ,List.getElem?_cons_zero,Option.some.injEq] at hv;subst hv;exact hT.bq
       | j+2=>simp at hv
     · exact⟨Nat.le_trans hk.1 hkW.1,hk.2.1.trans hkW.2.1,fun b hb=>(hkW.2.2 b (Nat.lt_of_lt_of_le hb hk.1) (by omega)).trans (hk.2.2 b hb)⟩
     · exact PolAt.mk hT.qw (hT.qr.frame (by simp) (Nat.le_refl _) fun b _ hb=>⟨⟨by omega,by have:=jN hr2;omega,by omega⟩,rfl⟩) hT.qcr
end Go.Ev.YtlkmkabnbegfdaaGreatP
namespace Go.Ev.YtlkmkabnbegfdaaGreatP
open Go.Ev Go.Lau
theorem zUI (x:Int) (w:World):(Instr.build 69 #[(0,.int .i64 x)]).run Pg w=.ok (.agg #[.int .i64 x,.slice none 0 0]) w:=run_build w 69 _ _ (by kernel_rfl)
structure Aw (w:World) (b1 b2 n:Nat) (ad:Option Addr) (m:Nat) (rs:List Nat) (G:Nat→Prop) (M:List (List Pol)) (W:World):Prop where
 keep:KeepA w W
 mv:MatV W G ad m rs M
 gn:∀ b,G b→w.heap.size≤b
 rn:∀ r∈rs,w.heap.size≤r∧r≠b1∧r≠b2
 bx:W.cell? ⟨b1,0,none⟩=some (.int .i64 (n:Int))∧b1<W.heap.size∧¬ G b1
 res:Row W b2 2∧b2<W.heap.size∧¬ G b2∧w.heap.size≤b2∧w.heap.size≤b1
theorem Aw.step {w:World}{b1 b2 n:Nat}{ad:Option Addr}{m:Nat}{rs:List Nat}{G:Nat→Prop}{M:List (List Pol)}{W W':World}(h:Aw w b1 b2 n ad m rs G M W) {i r:Nat}(hi:rs[i]?=some r) (k:KeepB r W W') {l:List Pol}(hl:RowAt W' (Gn G W W') r l):
  Aw w b1 b2 n ad m rs (Gn G W W') (M.set i l) W':=by
 obtain⟨q1,q2,q3⟩:=h.rn r (List.mem_of_getElem? hi);obtain⟨c1,c2,c3⟩:=h.bx;obtain⟨d1,d2,d3,d4,d5⟩:=h.res;refine⟨⟨Nat.le_trans h.keep.1 k.1,h.keep.2.1.trans k.2.1,fun b hb=>(k.2.2 b (Nat.lt_of_lt_of_le hb h.keep.1) (by omega)).trans (h.keep.2.2 b hb)⟩,h.mv.step hi k hl,fun b hb=>hb.elim (h.gn b) fun e=>Nat.le_trans h.keep.1 e.1,h.rn,⟨?_,Nat.lt_of_lt_of_le c2 k.1,fun hg=>hg.elim c3 fun e=>by omega⟩,⟨d1.keep (k.2.2 _ d2 fun e=>q3 e.symm),Nat.lt_of_lt_of_le d2 k.1,fun hg=>hg.elim d3 fun e=>by omega,d4,d5⟩⟩;simp only[World.cell?,k.2.2 b1 c2 (fun e=>q2 e.symm)] at c1 ⊢;exact c1
theorem Aw.keepA {w:World}{b1 b2 n:Nat}{ad:Option Addr}{m:Nat}{rs:List Nat}{G:Nat→Prop}{M:List (List Pol)}{W W':World}(h:Aw w b1 b2 n ad m rs G M W) (k:KeepA W W'):Aw w b1 b2 n ad m rs G M W':=by
 obtain⟨c1,c2,c3⟩:=h.bx;obtain⟨d1,d2,d3,d4,d5⟩:=h.res;refine⟨h.keep.trans k,h.mv.keepA k,h.gn,h.rn,⟨?_,Nat.lt_of_lt_of_le c2 k.1,c3⟩,d1.keep (k.2.2 _ d2),Nat.lt_of_lt_of_le d2 k.1,d3,d4,d5⟩;simp only[World.cell?,k.2.2 b1 c2] at c1 ⊢;exact c1
theorem Aw.up {w:World}{b1 b2 n:Nat}{ad:Option Addr}{m:Nat}{rs:List Nat}{G G2:Nat→Prop}{M:List (List Pol)}{W:World}{N:Nat}(h:Aw w b1 b2 n ad m rs G M W) (hw:w.heap.size≤N) (h2:∀ b,G2 b→N≤b∧b<W.heap.size) (hr:∀ r∈rs,r<N) (hb:b1<N∧b2<N) (ha:∀ a,ad=some a→0<rs.length→a.block<N):
  Aw w b1 b2 n ad m rs (fun b=>G b∨G2 b) M W:=by
 obtain⟨c1,c2,c3⟩:=h.bx;obtain⟨d1,d2,d3,d4,d5⟩:=h.res
 refine⟨h.keep,⟨h.mv.mat.up (fun b hb=>.inl hb) (fun r hr' hg=>hg.elim (h.mv.mat.ng r hr') fun e=>?_) (fun b hb=>hb.elim (h.mv.mat.lt b) fun e=>(h2 b e).2),h.mv.cell,fun a ha' hp=>?_⟩,fun b hb=>hb.elim (h.gn b) fun e=>Nat.le_trans hw (h2 b e).1,h.rn,⟨c1,c2,fun hg=>hg.elim c3 fun e=>?_⟩,d1,d2,fun hg=>hg.elim d3 fun e=>?_,d4,d5⟩
 · have:=h2 r e;have:=hr r hr';omega
 · obtain⟨q1,q2,q3,q4⟩:=h.mv.out a ha' hp;exact⟨q1,q2,q3,fun hg=>hg.elim q4 fun e=>by have:=h2 _ e;have:=ha a ha' hp;omega⟩
 · have:=h2 _ e;omega
 · have:=h2 _ e;omega
set_option maxHeartbeats 4000000 in
theorem zOp {w:World}{n:Nat}{xs:List Int}{lad:Option Addr}{lcp:Nat}(hn:1≤n) (hn2:n≤50) (hlet:∀ x∈xs,x≠0∧x.natAbs<n) (hlen:xs.length≤1000000) (hrw:RowW w false (fun _=>True) 1 xs.length lad lcp) (hlad:∀ k x,xs[k]?=some x→cellAt w lad k=some (.int .i64 x)):
  Calls Pg 33 #[.agg #[.int .i64 (n:Int),.slice lad xs.length lcp]] w fun e w'=>∃ q ys,e=.returned (.agg ys.toArray)∧ResAt w w' (post n q) ys∧Pk 49000050 q∧pv q=det (n-1) (Nw (n-1) xs):=by
 have hE:EnvTy Pg E:=envOk.ty;have h89:E.ty 89=some (.slice LPT):=by kernel_rfl
 have h91:E.ty 91=some LPT:=by kernel_rfl
 have h69:E.ty 69=some PolT:=by kernel_rfl
 have h24:E.ty 24=some (.slice (.int .i64)):=by kernel_rfl
 have h2t:E.ty 2=some (.int .i64):=by kernel_rfl
 have h26:TyOK Pg (.pair (.int .i64) (.slice (.int .i64))) 26:=envOk.ty 26 _ (by kernel_rfl);obtain⟨_,e91,hT91,hte91⟩:=hE.ty _ _ h91;obtain⟨i91,hi91,_,hs91,_,_,_⟩:=hte91.base;have hs91':i91.size=2:=hs91;obtain⟨_,e89,hT89,hte89⟩:=hE.ty _ _ h89;obtain⟨i89,hi89,_,hs89,_,_,_⟩:=hte89.base;have hs89':i89.size=1:=hs89;obtain⟨_,e24,hT24,hte24⟩:=hE.ty _ _ h24;obtain⟨i24,hi24,_,hs24,_,_,_⟩:=hte24.base;have hs24':i24.size=1:=hs24;obtain⟨m,rfl⟩:∃ m,n=m+1:=⟨n-1,by omega⟩;rw[show m+1-1=m by omega];refine zCl Go.Proofs.Tryz.func33 rfl Go.Proofs.Tryz.ntmps33 (by omega) fun a hsz hdf h0=>?_;refine wp_seq (wp_region ?_);refine zF (d:=1) (v:=.pointer (some ⟨w.heap.size,0,none⟩)) rfl rfl rfl (zUs rfl h0) ?_;have hkb:KeepA w (w.alloc (.cells (Value.agg #[.int .i64 ((m+1:Nat):Int),.slice lad xs.length lcp]).cells 26)):=kv w _;have hzb:=zi w (.cells (Value.agg #[.int .i64 ((m+1:Nat):Int),.slice lad xs.length lcp]).cells 26);have hcb:∀ j,(w.alloc (.cells (Value.agg #[.int .i64 ((m+1:Nat):Int),.slice lad xs.length lcp]).cells 26)).cell? ⟨w.heap.size,j,none⟩=[Value.int .i64 ((m+1:Nat):Int),.slice lad xs.length lcp][j]?:=fun j=>kN w [Value.int .i64 ((m+1:Nat):Int),.slice lad xs.length lcp] 26 j;generalize hwb:w.alloc (.cells (Value.agg #[.int .i64 ((m+1:Nat):Int),.slice lad xs.length lcp]).cells 26)=wb at *;generalize hb1:w.heap.size=b1 at *;refine zCR (d:=2) hE h69 rfl rfl rfl rfl fun wa hka hra=>?_;generalize hb2:wb.heap.size=b2 at *;refine zU ?_;have hc0:∀ j v,[Value.int .i64 ((m+1:Nat):Int),.slice lad xs.length lcp][j]?=some v→wa.cell? ⟨b1,j,none⟩=some v:=fun j v hv=>by
  have:=hcb j;simp only[World.cell?,hka.2.2 b1 (by omega)] at this ⊢;rw[this];exact hv
 have hb2a:b2<wa.heap.size:=by obtain⟨cs,T,g,_⟩:=hra;exact (Array.getElem?_eq_some_iff.1 g).1
 refine wp_seq (wp_region ?_);refine zF (d:=19) (v:=.pointer (some ⟨b1,0,none⟩)) rfl rfl rfl (zGm h26 (o':=0) rfl rfl (by simp[zB,zA,hsz])) ?_;refine zF (d:=20) (v:=.int .i64 ((m+1:Nat):Int)) rfl rfl rfl (zDo hE h2t rfl (b:=b1) (off:=0) rfl (by simp[zB,zA,hsz]) (hc0 0 _ rfl)) ?_;have hsub:∀ T:Option Ty,binW .sub T (.c (.int .i64 ((m+1:Nat):Int))) (.c (.int .i64 1))=some (true,.c (.int .i64 (m:Int))):=fun T=>by
  have hw:IntKind.wrap .i64 (((m+1:Nat):Int)-1)=(m:Int):=by
   rw[show ((m+1:Nat):Int)-1=(m:Int) by omega];exact zD (by omega) (by omega)
  simp only[binW,if_true,intOp,hw]
 refine zF (d:=21) (v:=.int .i64 (m:Int)) rfl rfl rfl (kU (k:=.i64) (m:=((m+1:Nat):Int)) (m':=1) (u:=.int .i64 _) hE rfl (by simp[zB,zA,hsz]) rfl (hsub _)) ?_;refine zCz (f:=51) (args:=#[.int .i64 (m:Int)]) (d:=22) rfl rfl rfl (by rw[r_fn (g:=51) rfl rfl (zAV Go.Proofs.Tryz.func51 (by kernel_rfl))];simp[zB,zA,hsz]) ?_;refine (zIW (n:=m) (by omega)).mono ?_;rintro x w2 ⟨ad,cp,rs,M,G,rfl,hk2,hG2,hr2,hrl,hV2,hU2,had2⟩;refine⟨_,rfl,?_⟩;refine zF (d:=3) (v:=.slice ad m cp) rfl rfl rfl (r_mv (.inr rfl) (by simp[zB,zA,hsz])) (zU ?_);have hA2:KeepA w w2:=(hkb.trans hka).trans hk2;have hc2:∀ j v,[Value.int .i64 ((m+1:Nat):Int),.slice lad xs.length lcp][j]?=some v→w2.cell? ⟨b1,j,none⟩=some v:=fun j v hv=>by
  have:=hc0 j v hv;simp only[World.cell?,hk2.2.2 b1 (by omega)] at this ⊢;exact this
 have hAw0:Aw w b1 b2 (m+1) ad m rs G M w2:=by
  have hka1:=hka.1;refine⟨hA2,hV2,fun b hb=>by have:=hG2 b hb;omega,fun r hr=>by have:=hr2 r hr;omega,⟨hc2 0 _ rfl,by have:=hA2.1;have:=hk2.1;omega,fun hg=>by have:=hG2 _ hg;omega⟩,⟨hra.keep (hk2.2.2 _ hb2a),Nat.lt_of_lt_of_le hb2a hk2.1,fun hg=>by have:=hG2 _ hg;omega,by omega,by omega⟩⟩
 refine wp_seq (wp_seq (wp_region ?_));refine zF (d:=23) (v:=.pointer (some ⟨b1,1,none⟩)) rfl rfl rfl (zGm h26 (o':=1) rfl rfl (by simp[zB,zA,hsz])) ?_;refine zF (d:=24) (v:=.slice lad xs.length lcp) rfl rfl rfl (zDo hE h24 rfl (b:=b1) (off:=1) rfl (by simp[zB,zA,hsz]) (hc2 1 _ rfl)) ?_;refine zF (d:=25) (v:=.int .i64 xs.length) rfl rfl rfl (zIK (addr:=lad) (cap:=lcp) hT24 rfl (by simp[zB,zA,hsz])) ?_;refine zF (d:=26) (v:=.int .i64 0) rfl rfl rfl (r_mv (.inl rfl) rfl) (zU ?_)
 refine wp_block (wp_loop (I:=fun a W=>a.tmps.size=141∧a.defers=[]∧a.eval (.tmp 1)=.pointer (some ⟨b1,0,none⟩)∧a.eval (.tmp 2)=.pointer (some ⟨b2,0,none⟩)∧a.eval (.tmp 3)=.slice ad m cp∧a.eval (.tmp 24)=.slice lad xs.length lcp∧a.eval (.tmp 25)=.int .i64 xs.length ∧
  ∃ (t:Nat) (G:Nat→Prop) (M:List (List Pol)),t≤xs.length∧a.eval (.tmp 26)=.int .i64 t∧Aw w b1 b2 (m+1) ad m rs G M W∧RowsAt m (t+1:Nat) (xs.take t) 0 0 M) (fun a W=>xs.length-natOf (a.eval (.tmp 26))) ?_ ?_)
 · exact⟨by simp[zA,hsz],by simp[zT,hdf],by simp[zB,zA,hsz],by simp[zB,zA,hsz],by simp[zB,zA,hsz],by simp[zB,zA,hsz],by simp[zB,zA,hsz],0,G,M,by omega,by simp[zB,zA,hsz],hAw0,zOI hU2 0⟩
 · clear hAw0 hV2 hU2;rintro a W ⟨hsz,hdf,h1,h2,h3,h24v,h25,t,G,M,htn,h26v,hA,hR⟩;refine wp_seq (wp_region ?_);refine zF (d:=27) (v:=.bool (decide ((t:Int)<xs.length))) rfl rfl rfl (kU (k:=.i64) (m:=(t:Int)) (m':=(xs.length:Int)) (u:=.bool _) hE rfl (by simp[h26v]) (by simp[h25]) rfl) (zU ?_);have h26o:=h26v
   by_cases hlt:t<xs.length
   · refine wp_seq (wp_cond_true (by simp[zB,zA,hsz];omega) (wp_skip ?_));obtain⟨x,hx⟩:∃ x,xs[t]?=some x:=⟨xs[t],List.getElem?_eq_getElem hlt⟩;obtain⟨hx0,hxn⟩:=hlet x (List.mem_of_getElem? hx);have hcw:=hlad t x hx;obtain⟨ob,oo,rfl⟩:∃ ob oo,lad=some ⟨ob,oo,none⟩:=by
      cases hq:lad with
      | none=>rw[hq] at hcw;simp[cellAt] at hcw
      | some y=>
       obtain⟨e,_⟩:=hrw.2.2 y hq (.inl (by omega));exact⟨y.block,y.off,by cases y;simp only at e;subst e;rfl⟩
     have hob:ob<w.heap.size:=(hrw.2.2 _ rfl (.inl (by omega))).2.1;simp only[cellAt,Option.bind_some] at hcw;have hcW:W.cell? ⟨ob,oo+t,none⟩=some (.int .i64 x):=by
      simp only[World.cell?,hA.keep.2.2 _ hob] at hcw ⊢;exact hcw
     refine wp_seq (wp_block (wp_seq (wp_region ?_)));refine zF (d:=28) (v:=.pointer (some ⟨ob,oo+t,none⟩)) rfl rfl rfl (zIb hT24 hi24 hs24' (b:=ob) (off:=oo) (n:=t) (k:=.i64) (len:=xs.length) (cap:=lcp) rfl (by simp[zB,zA,hsz,h24v]) (by simp[zB,zA,hsz,h26v]) hlt) ?_;refine zF (d:=29) (v:=.int .i64 x) rfl rfl rfl (zDo hE h2t rfl (b:=ob) (off:=oo+t) rfl (by simp[zB,zA,hsz]) hcW) ?_;refine zF (d:=5) (v:=.int .i64 x) rfl rfl rfl (r_mv (.inr rfl) (by simp[zB,zA,hsz])) (zU ?_);refine wp_seq (wp_region ?_);refine zF (d:=30) (v:=.slice ad m cp) rfl rfl rfl (r_mv (.inl rfl) (by simp[zB,zA,hsz,h3])) ?_;refine zF (d:=31) (v:=.int .i64 m) rfl rfl rfl (zIK (addr:=ad) (cap:=cp) hT89 rfl (by simp[zB,zA,hsz])) ?_;refine zF (d:=32) (v:=.int .i64 0) rfl rfl rfl (r_mv (.inl rfl) rfl) (zU ?_)
     refine wp_block (wp_loop (I:=fun a W=>a.tmps.size=141∧a.defers=[]∧a.eval (.tmp 1)=.pointer (some ⟨b1,0,none⟩)∧a.eval (.tmp 2)=.pointer (some ⟨b2,0,none⟩)∧a.eval (.tmp 3)=.slice ad m cp∧a.eval (.tmp 24)=.slice (some ⟨ob,oo,none⟩) xs.length lcp∧a.eval (.tmp 25)=.int .i64 xs.length∧a.eval (.tmp 26)=.int .i64 t ∧
      a.eval (.tmp 5)=.int .i64 x∧a.eval (.tmp 30)=.slice ad m cp∧a.eval (.tmp 31)=.int .i64 m ∧
      ∃ (i:Nat) (G:Nat→Prop) (M:List (List Pol)),i≤m∧a.eval (.tmp 32)=.int .i64 i∧Aw w b1 b2 (m+1) ad m rs G M W∧RowsAt m (t+1:Nat) (xs.take t) x i M) (fun a W=>m-natOf (a.eval (.tmp 32))) ?_ ?_)
     · exact⟨by simp[zA,hsz],by simp[zT,hdf],by simp[zB,zA,hsz,h1],by simp[zB,zA,hsz,h2],by simp[zB,zA,hsz,h3],by simp[zB,zA,hsz,h24v],by simp[zB,zA,hsz,h25],by simp[zB,zA,hsz,h26v],by simp[zB,zA,hsz],by simp[zB,zA,hsz],by simp[zB,zA,hsz],0,G,M,by omega,by simp[zB,zA,hsz],hA,zRT hR x⟩
     · clear hA hR hcW;rintro a W ⟨hsz,hdf,h1,h2,h3,h24v,h25,h26v,h5,h30,h31,i,G,M,him,h32,hA,hR⟩;refine wp_seq (wp_region ?_);refine zF (d:=33) (v:=.bool (decide ((i:Int)<m))) rfl rfl rfl (kU (k:=.i64) (m:=(i:Int)) (m':=(m:Int)) (u:=.bool _) hE rfl (by simp[h32]) (by simp[h31]) rfl) (zU ?_);have h32o:=h32
       by_cases hil:i<m
       · refine wp_seq (wp_cond_true (by simp[zB,zA,hsz];omega) (wp_skip ?_));obtain⟨r,hr⟩:∃ r,rs[i]?=some r:=⟨rs[i]'(by omega),List.getElem?_eq_getElem (by omega)⟩;have hMl:M.length=m:=by rw[← hA.mv.mat.len];exact hrl
         obtain⟨l,hl⟩:∃ l,M[i]?=some l:=⟨M[i]'(by omega),List.getElem?_eq_getElem (by omega)⟩;have hrow:=hA.mv.mat.row i r l hr hl;obtain⟨hll,hlP,hlv⟩:=hR i l hl;rw[if_neg (by omega)] at hlv hlP;have hcr:=hA.mv.cell i r hr;obtain⟨ab,ao,had⟩:∃ ab ao,ad=some ⟨ab,ao,none⟩:=by
          cases hq:ad with
          | none=>rw[hq] at hcr;simp[cellAt] at hcr
          | some y=>
           obtain⟨e,_⟩:=hA.mv.out y hq (by omega);exact⟨y.block,y.off,by cases y;simp only at e;subst e;rfl⟩
         rw[had] at hcr;simp only[cellAt,Option.bind_some] at hcr;obtain⟨l',hst,hlP',hll',hlv'⟩:=zU9 (K:=((t+1:Nat):Int)) (l:=l) (x:=x) hlP hx0 (by omega) (by omega) (by omega);refine wp_seq (wp_block (wp_seq (wp_region ?_)));refine zF (d:=34) (v:=.pointer (some ⟨ab,ao+i,none⟩)) rfl rfl rfl (zIb hT89 hi89 hs89' (b:=ab) (off:=ao) (n:=i) (k:=.i64) (len:=m) (cap:=cp) rfl (by simp[zB,zA,hsz,h30,had]) (by simp[zB,zA,hsz,h32]) hil) ?_;refine zF (d:=35) (v:=.slice (some ⟨r,0,none⟩) m m) rfl rfl rfl (zDo hE h91 rfl (b:=ab) (off:=ao+i) rfl (by simp[zB,zA,hsz]) hcr) ?_;refine zF (d:=7) (v:=.slice (some ⟨r,0,none⟩) m m) rfl rfl rfl (r_mv (.inr rfl) (by simp[zB,zA,hsz])) (zU ?_);refine wp_region ?_;refine zF (d:=36) (v:=.slice (some ⟨r,0,none⟩) m m) rfl rfl rfl (r_mv (.inl rfl) (by simp[zB,zA,hsz])) ?_;refine zF (d:=37) (v:=.int .i64 x) rfl rfl rfl (r_mv (.inl rfl) (by simp[zB,zA,hsz,h5])) ?_;have hsc:=zOA hrow (hA.mv.mat.ng r (List.mem_of_getElem? hr)) (cap:=m) hll.symm hst hll';rw[hll] at hsc;refine zCz (f:=52) (args:=#[.slice (some ⟨r,0,none⟩) m m,.int .i64 x]) (d:=38) rfl rfl rfl (by rw[r_fn (g:=52) rfl rfl (zAV Go.Proofs.Tryz.func52 (by kernel_rfl))];simp[zB,zA,hsz]) ?_;refine hsc.mono ?_;rintro e' W2 ⟨rfl,hk2',hrow2⟩;refine⟨_,rfl,zMu (wp_region ?_)⟩;refine zF (d:=39) (v:=.int .i64 (i+1:Nat)) rfl rfl rfl (kU (k:=.i64) (m:=(i:Int)) (m':=1) (u:=.int .i64 _) hE rfl (by simp[zB,zA,hsz,h32]) rfl (jc (by omega))) ?_;refine zF (d:=32) (v:=.int .i64 (i+1:Nat)) rfl rfl rfl (r_mv (.inl rfl) (by simp[zB,zA,hsz])) (zU ?_);refine⟨⟨by simp[zA,hsz],by simp[zT,hdf],by simp[zB,zA,hsz,h1],by simp[zB,zA,hsz,h2],by simp[zB,zA,hsz,h3],by simp[zB,zA,hsz,h24v],by simp[zB,zA,hsz,h25],by simp[zB,zA,hsz,h26v],by simp[zB,zA,hsz,h5],by simp[zB,zA,hsz,h30],by simp[zB,zA,hsz,h31],i+1,_,M.set i l',by omega,by simp[zB,zA,hsz],hA.step hr hk2' hrow2,zRQ hR (by rw[hll',hll]) hlP' (by rw[hlv',hlv,hll])⟩,?_⟩;simp[zB,zA,hsz,h32o,natOf];omega
       · refine wp_seq (wp_cond_false (by simp[zB,zA,hsz];omega) (wp_exit (wp_region ?_)));refine zF (d:=40) (v:=.int .i64 (t+1:Nat)) rfl rfl rfl (kU (k:=.i64) (m:=(t:Int)) (m':=1) (u:=.int .i64 _) hE rfl (by simp[zB,zA,hsz,h26v]) rfl (jc (by omega))) ?_;refine zF (d:=26) (v:=.int .i64 (t+1:Nat)) rfl rfl rfl (r_mv (.inl rfl) (by simp[zB,zA,hsz])) (zU ?_);have hMl:M.length=m:=by rw[← hA.mv.mat.len];exact hrl
         have htk:xs.take (t+1)=xs.take t++[x]:=by rw[List.take_add_one,hx];rfl
         refine⟨⟨by simp[zA,hsz],by simp[zT,hdf],by simp[zB,zA,hsz,h1],by simp[zB,zA,hsz,h2],by simp[zB,zA,hsz,h3],by simp[zB,zA,hsz,h24v],by simp[zB,zA,hsz,h25],t+1,G,M,by omega,by simp[zB,zA,hsz],hA,by rw[htk];exact zPX hR (by omega) 0⟩,?_⟩;simp[zB,zA,hsz,h26o,natOf];omega
   · refine wp_seq (wp_cond_false (by simp[zB,zA,hsz];omega) (wp_exit ?_));have hte:t=xs.length:=by omega
     subst hte;rw[List.take_length] at hR;refine wp_seq (wp_region ?_);refine zF (d:=41) (v:=.pointer (some ⟨b1,0,none⟩)) rfl rfl rfl (zGm h26 (o':=0) rfl rfl (by simp[zB,zA,hsz,h1])) ?_;refine zF (d:=42) (v:=.int .i64 ((m+1:Nat):Int)) rfl rfl rfl (zDo hE h2t rfl (b:=b1) (off:=0) rfl (by simp[zB,zA,hsz]) hA.bx.1) ?_;refine zF (d:=43) (v:=.int .i64 (m:Int)) rfl rfl rfl (kU (k:=.i64) (m:=((m+1:Nat):Int)) (m':=1) (u:=.int .i64 _) hE rfl (by simp[zB,zA,hsz]) rfl (hsub _)) ?_;refine zCz (f:=51) (args:=#[.int .i64 (m:Int)]) (d:=44) rfl rfl rfl (by rw[r_fn (g:=51) rfl rfl (zAV Go.Proofs.Tryz.func51 (by kernel_rfl))];simp[zB,zA,hsz]) ?_;refine (zIW (n:=m) (by omega)).mono ?_;rintro y W2 ⟨ad2,cp2,rs2,M2,G2,rfl,hk2',hG2',hr2',hrl2,hV2,hU2,had2'⟩;refine⟨_,rfl,?_⟩;refine zF (d:=8) (v:=.slice ad2 m cp2) rfl rfl rfl (r_mv (.inr rfl) (by simp[zB,zA,hsz])) (zU ?_);have hA2':=hA.keepA hk2';have hA2:=Aw.up (G2:=G2) (N:=W.heap.size) hA2' hA.keep.1 (fun b hb=>⟨hG2' b hb,hV2.mat.lt b hb⟩) (fun r hr=>hA.mv.mat.rlt hr) ⟨hA.bx.2.1,hA.res.2.1⟩ (fun a ha hp=>(hA.mv.out a ha hp).2.1);clear hA2';refine wp_seq (wp_seq (wp_region ?_));refine zF (d:=45) (v:=.slice ad m cp) rfl rfl rfl (r_mv (.inl rfl) (by simp[zB,zA,hsz,h3])) ?_;refine zF (d:=46) (v:=.int .i64 m) rfl rfl rfl (zIK (addr:=ad) (cap:=cp) hT89 rfl (by simp[zB,zA,hsz])) ?_;refine zF (d:=47) (v:=.int .i64 0) rfl rfl rfl (r_mv (.inl rfl) rfl) (zU ?_);have hMl:M.length=m:=by rw[← hA.mv.mat.len];exact hrl
     have hout:∀ k c,k<m→m≤c→rwd m xs (unit k) c=0:=fun k c hk hc=>zTc hR (by omega) hc
     have hlow:∀ r∈rs,r∉rs2∧¬ G2 r∧∀ a,ad2=some a→a.block≠r:=fun r hr=>by
      have h1:=hA.mv.mat.rlt hr;exact⟨fun h=>by have:=hr2' r h;omega,fun h=>by have:=hG2' r h;omega,fun a ha e=>by have:=had2' a ha;omega⟩
     have hR0:=zOJ hR
     refine wp_block (wp_loop (I:=fun a W=>a.tmps.size=141∧a.defers=[]∧a.eval (.tmp 1)=.pointer (some ⟨b1,0,none⟩)∧a.eval (.tmp 2)=.pointer (some ⟨b2,0,none⟩)∧a.eval (.tmp 3)=.slice ad m cp∧a.eval (.tmp 8)=.slice ad2 m cp2∧a.eval (.tmp 45)=.slice ad m cp∧a.eval (.tmp 46)=.int .i64 m ∧
      ∃ (i:Nat) (G:Nat→Prop) (M:List (List Pol)),i≤m∧a.eval (.tmp 47)=.int .i64 i∧Aw w b1 b2 (m+1) ad m rs G M W∧MatV W G2 ad2 m rs2 M2∧(∀ b,G2 b→G b)∧RowsN m (xs.length+1:Nat) xs i 0 M) (fun a W=>m-natOf (a.eval (.tmp 47))) ?_ ?_)
     · exact⟨by simp[zA,hsz],by simp[zT,hdf],by simp[zB,zA,hsz,h1],by simp[zB,zA,hsz,h2],by simp[zB,zA,hsz,h3],by simp[zB,zA,hsz],by simp[zB,zA,hsz],by simp[zB,zA,hsz],0,_,M,by omega,by simp[zB,zA,hsz],hA2,hV2,fun b hb=>.inr hb,hR0⟩
     · clear hA2 hV2 hR0 hA hR hMl;rintro a W ⟨hsz,hdf,h1,h2,h3,h8,h45,h46,i,G,M,him,h47,hA,hV2,hGG,hR⟩;refine wp_seq (wp_region ?_);refine zF (d:=48) (v:=.bool (decide ((i:Int)<m))) rfl rfl rfl (kU (k:=.i64) (m:=(i:Int)) (m':=(m:Int)) (u:=.bool _) hE rfl (by simp[h47]) (by simp[h46]) rfl) (zU ?_);have h47o:=h47;have hMl:M.length=m:=by rw[← hA.mv.mat.len];exact hrl
       by_cases hil:i<m
       · refine wp_seq (wp_cond_true (by simp[zB,zA,hsz];omega) (wp_skip ?_));obtain⟨r,hr⟩:∃ r,rs[i]?=some r:=⟨rs[i]'(by omega),List.getElem?_eq_getElem (by omega)⟩;have hcr:=hA.mv.cell i r hr;obtain⟨ab,ao,had⟩:∃ ab ao,ad=some ⟨ab,ao,none⟩:=by
          cases hq:ad with
          | none=>rw[hq] at hcr;simp[cellAt] at hcr
          | some y=>
           obtain⟨e,_⟩:=hA.mv.out y hq (by omega);exact⟨y.block,y.off,by cases y;simp only at e;subst e;rfl⟩
         have hcr':=hcr;rw[had] at hcr';simp only[cellAt,Option.bind_some] at hcr';refine wp_seq (wp_block (wp_seq (wp_region ?_)));refine zF (d:=49) (v:=.int .i64 i) rfl rfl rfl (r_mv (.inl rfl) (by simp[zB,zA,hsz,h47])) ?_;refine zF (d:=50) (v:=.pointer (some ⟨ab,ao+i,none⟩)) rfl rfl rfl (zIb hT89 hi89 hs89' (b:=ab) (off:=ao) (n:=i) (k:=.i64) (len:=m) (cap:=cp) rfl (by simp[zB,zA,hsz,h45,had]) (by simp[zB,zA,hsz,h47]) hil) ?_;refine zF (d:=51) (v:=.slice (some ⟨r,0,none⟩) m m) rfl rfl rfl (zDo hE h91 rfl (b:=ab) (off:=ao+i) rfl (by simp[zB,zA,hsz]) hcr') ?_;refine zF (d:=9) (v:=.int .i64 i) rfl rfl rfl (r_mv (.inr rfl) (by simp[zB,zA,hsz])) ?_;refine zF (d:=10) (v:=.slice (some ⟨r,0,none⟩) m m) rfl rfl rfl (r_mv (.inr rfl) (by simp[zB,zA,hsz])) (zU ?_);refine wp_seq (wp_region ?_);refine zF (d:=52) (v:=.slice (some ⟨r,0,none⟩) m m) rfl rfl rfl (r_mv (.inl rfl) (by simp[zB,zA,hsz])) ?_;refine zF (d:=53) (v:=.int .i64 m) rfl rfl rfl (zIK (addr:=some ⟨r,0,none⟩) (cap:=m) hT91 rfl (by simp[zB,zA,hsz])) ?_;refine zF (d:=54) (v:=.int .i64 0) rfl rfl rfl (r_mv (.inl rfl) rfl) (zU ?_)
         refine wp_block (wp_loop (I:=fun a W=>a.tmps.size=141∧a.defers=[]∧a.eval (.tmp 1)=.pointer (some ⟨b1,0,none⟩)∧a.eval (.tmp 2)=.pointer (some ⟨b2,0,none⟩)∧a.eval (.tmp 3)=.slice ad m cp∧a.eval (.tmp 8)=.slice ad2 m cp2∧a.eval (.tmp 45)=.slice ad m cp∧a.eval (.tmp 46)=.int .i64 m∧a.eval (.tmp 47)=.int .i64 i ∧
          a.eval (.tmp 9)=.int .i64 i∧a.eval (.tmp 52)=.slice (some ⟨r,0,none⟩) m m∧a.eval (.tmp 53)=.int .i64 m ∧
          ∃ (j:Nat) (G:Nat→Prop) (M:List (List Pol)),j≤m∧a.eval (.tmp 54)=.int .i64 j∧Aw w b1 b2 (m+1) ad m rs G M W∧MatV W G2 ad2 m rs2 M2∧(∀ b,G2 b→G b)∧RowsN m (xs.length+1:Nat) xs i j M) (fun a W=>m-natOf (a.eval (.tmp 54))) ?_ ?_)
         · exact⟨by simp[zA,hsz],by simp[zT,hdf],by simp[zB,zA,hsz,h1],by simp[zB,zA,hsz,h2],by simp[zB,zA,hsz,h3],by simp[zB,zA,hsz,h8],by simp[zB,zA,hsz,h45],by simp[zB,zA,hsz,h46],by simp[zB,zA,hsz,h47],by simp[zB,zA,hsz],by simp[zB,zA,hsz],by simp[zB,zA,hsz],0,G,M,by omega,by simp[zB,zA,hsz],hA,hV2,hGG,hR⟩
         · clear hA hV2 hGG hR hMl hcr hcr';rintro a W ⟨hsz,hdf,h1,h2,h3,h8,h45,h46,h47,h9,h52,h53,j,G,M,hjm,h54,hA,hV2,hGG,hR⟩;refine wp_seq (wp_region ?_);refine zF (d:=55) (v:=.bool (decide ((j:Int)<m))) rfl rfl rfl (kU (k:=.i64) (m:=(j:Int)) (m':=(m:Int)) (u:=.bool _) hE rfl (by simp[h54]) (by simp[h53]) rfl) (zU ?_);have h54o:=h54;have hMl:M.length=m:=by rw[← hA.mv.mat.len];exact hrl
           by_cases hjl:j<m
           · refine wp_seq (wp_cond_true (by simp[zB,zA,hsz];omega) (wp_skip ?_));obtain⟨l,hl⟩:∃ l,M[i]?=some l:=⟨M[i]'(by omega),List.getElem?_eq_getElem (by omega)⟩;have hrow:=hA.mv.mat.row i r l hr hl;obtain⟨hll,hlP,hlv⟩:=hR i l hl;have hlvj:=hlv j hjl;rw[if_neg (by omega)] at hlvj;obtain⟨pj,hpj⟩:∃ pj,l[j]?=some pj:=⟨l[j]'(by omega),List.getElem?_eq_getElem (by omega)⟩;obtain⟨yj,hyj,haj⟩:=hrow.els j pj hpj;have hPj:Pk ((xs.length+1:Nat):Int) pj:=hlP pj (List.mem_of_getElem? hpj);have hng:=hA.mv.mat.ng r (List.mem_of_getElem? hr);refine wp_seq (wp_block (wp_seq (wp_region ?_)));refine zF (d:=56) (v:=.int .i64 j) rfl rfl rfl (r_mv (.inl rfl) (by simp[zB,zA,hsz,h54])) ?_;refine zF (d:=57) (v:=.pointer (some ⟨r,j*2,none⟩)) rfl rfl rfl (by rw[zIL (b:=r) (off:=0) (n:=j) (k:=.i64) (len:=m) (cap:=m) hT91 hi91 rfl (by simp[zB,zA,hsz,h52]) (by simp[zB,zA,hsz,h54]) hjl,hs91',Nat.zero_add]) ?_;refine zF (d:=58) (v:=.agg yj.toArray) rfl rfl rfl (r_ld hE h69 rfl (b:=r) (off:=j*2) rfl (by simp[zB,zA,hsz]) (by rw[hyj.len];rfl) (fun q v hv=>by have:=haj q v hv;rwa [Nat.zero_add] at this)) ?_;refine zCR (d:=12) hE h69 rfl rfl rfl rfl fun W2 hk2 hr2=>?_;generalize hb12:W.heap.size=b12 at *;refine zF (d:=11) (v:=.int .i64 j) rfl rfl rfl (r_mv (.inr rfl) (by simp[zB,zA,hsz])) ?_;refine ji (blk:=b12) (off:=0) (m:=2) (ys:=yj) hE h69 rfl rfl rfl rfl (by simp[zB,zA,hsz]) (by simp[zB,zA,hsz]) (by rw[hyj.len];rfl) (TRep.oneCell hyj) hr2 (by rw[hyj.len];omega) fun W3 hk3 hr3 hc3 _=>?_;refine zU ?_;have hA3:KeepA W W3:=⟨Nat.le_trans hk2.1 hk3.1,hk2.2.1.trans hk3.2.1,fun b hb=>(hk3.2.2 b (Nat.lt_of_lt_of_le hb hk2.1) (by omega)).trans (hk2.2.2 b hb)⟩;obtain⟨r2,hr2e⟩:∃ r2,rs2[i]?=some r2:=⟨rs2[i]'(by omega),List.getElem?_eq_getElem (by omega)⟩;have hM2l:M2.length=m:=by rw[← hV2.mat.len];exact hrl2
             obtain⟨l2,hl2⟩:∃ l2,M2[i]?=some l2:=⟨M2[i]'(by omega),List.getElem?_eq_getElem (by omega)⟩;obtain⟨hl2l,hl2P,hl2v⟩:=hU2 i l2 hl2;have hrow2:=hV2.mat.row i r2 l2 hr2e hl2;obtain⟨p2,hp2⟩:∃ p2,l2[j]?=some p2:=⟨l2[j]'(by omega),List.getElem?_eq_getElem (by omega)⟩;obtain⟨y2,hy2,ha2⟩:=hrow2.els j p2 hp2;have hcr:=hA.mv.cell i r hr;have hcr2:=hV2.cell i r2 hr2e;obtain⟨ub,uo,had2e⟩:∃ ub uo,ad2=some ⟨ub,uo,none⟩:=by
              cases hq:ad2 with
              | none=>rw[hq] at hcr2;simp[cellAt] at hcr2
              | some y=>
               obtain⟨e,_⟩:=hV2.out y hq (by omega);exact⟨y.block,y.off,by cases y;simp only at e;subst e;rfl⟩
             obtain⟨_,hab,habr,_⟩:=hA.mv.out _ had (by omega);obtain⟨_,hub,_,_⟩:=hV2.out _ had2e (by omega);obtain⟨lw1,lw2,lw3⟩:=hlow r (List.mem_of_getElem? hr);have hubr:=lw3 _ had2e;have habr':ab≠r:=fun e=>habr (by rw[show (⟨ab,ao,none⟩:Addr).block=r from e];exact List.mem_of_getElem? hr)
             have hr2r:r2≠r:=fun e=>lw1 (e ▸ List.mem_of_getElem? hr2e);rw[had] at hcr;rw[had2e] at hcr2;simp only[cellAt,Option.bind_some] at hcr hcr2;have hsz3:W.heap.size≤W3.heap.size:=hA3.1;have hrl':r<W.heap.size:=hrow.lt;have hb12W:b12<W3.heap.size:=by
              obtain⟨cs,T,g,_⟩:=hr3;exact (Array.getElem?_eq_some_iff.1 g).1
             have cl:∀ (w':World),(∀ b,b<W3.heap.size→b≠r→w'.heap[b]?=W3.heap[b]?)→∀ b q v,b<W.heap.size→b≠r→W.cell? ⟨b,q,none⟩=some v→w'.cell? ⟨b,q,none⟩=some v:=fun w' hS b q v hb hbr hc=>by
              simp only[World.cell?,hS b (by omega) hbr,hA3.2.2 b hb] at hc ⊢;exact hc
             refine wp_region_held (S:=fun w'=>∀ b,b<W3.heap.size→b≠r→w'.heap[b]?=W3.heap[b]?) envOk.mixed ?_;refine wpAnyH_take (i:=0) (v:=.slice ad m cp) (fuel:=16) rfl (by kernel_rfl) (by kernel_rfl) (by kernel_rfl) (fun _ _ _ h=>h) (.inl ⟨rfl,fun w' hS=>r_mv (.inl rfl) (by simp[zB,zA,hsz,h3])⟩) (fun _ _ _=>rfl) ?_;refine wpAnyH_take (i:=1) (v:=.int .i64 i) (fuel:=15) rfl (by kernel_rfl) (by kernel_rfl) (by kernel_rfl) (fun _ _ _ h=>h) (.inl ⟨rfl,fun w' hS=>r_mv (.inl rfl) (by simp[zB,zA,hsz,h9])⟩) (fun _ _ _=>rfl) ?_;refine wpAnyH_take (i:=2) (v:=.pointer (some ⟨ab,ao+i,none⟩)) (fuel:=14) rfl (by kernel_rfl) (by kernel_rfl) (by kernel_rfl) (fun _ _ _ h=>h) (.inl ⟨rfl,fun w' hS=>zIb hT89 hi89 hs89' (b:=ab) (off:=ao) (n:=i) (k:=.i64) (len:=m) (cap:=cp) rfl (by simp[zB,zA,hsz,had]) (by simp[zB,zA,hsz]) hil⟩) (fun _ _ _=>rfl) ?_;refine wpAnyH_take (i:=3) (v:=.slice (some ⟨r,0,none⟩) m m) (fuel:=13) rfl (by kernel_rfl) (by kernel_rfl) (by kernel_rfl) (fun _ _ _ h=>h) (.inl ⟨rfl,fun w' hS=>zDo hE h91 rfl (b:=ab) (off:=ao+i) rfl (by simp[zB,zA,hsz]) (cl w' hS ab _ _ hab habr' hcr)⟩) (fun _ _ _=>rfl) ?_;refine wpAnyH_take (i:=4) (v:=.int .i64 j) (fuel:=12) rfl (by kernel_rfl) (by kernel_rfl) (by kernel_rfl) (fun _ _ _ h=>h) (.inl ⟨rfl,fun w' hS=>r_mv (.inl rfl) (by simp[zB,zA,hsz])⟩) (fun _ _ _=>rfl) ?_;refine wpAnyH_take (i:=5) (v:=.slice ad2 m cp2) (fuel:=11) rfl (by kernel_rfl) (by kernel_rfl) (by kernel_rfl) (fun _ _ _ h=>h) (.inl ⟨rfl,fun w' hS=>r_mv (.inl rfl) (by simp[zB,zA,hsz,h8])⟩) (fun _ _ _=>rfl) ?_;refine wpAnyH_take (i:=6) (v:=.int .i64 i) (fuel:=10) rfl (by kernel_rfl) (by kernel_rfl) (by kernel_rfl) (fun _ _ _ h=>h) (.inl ⟨rfl,fun w' hS=>r_mv (.inl rfl) (by simp[zB,zA,hsz,h9])⟩) (fun _ _ _=>rfl) ?_;refine wpAnyH_take (i:=7) (v:=.pointer (some ⟨ub,uo+i,none⟩)) (fuel:=9) rfl (by kernel_rfl) (by kernel_rfl) (by kernel_rfl) (fun _ _ _ h=>h) (.inl ⟨rfl,fun w' hS=>zIb hT89 hi89 hs89' (b:=ub) (off:=uo) (n:=i) (k:=.i64) (len:=m) (cap:=cp2) rfl (by simp[zB,zA,hsz,had2e]) (by simp[zB,zA,hsz]) hil⟩) (fun _ _ _=>rfl) ?_;refine wpAnyH_take (i:=8) (v:=.slice (some ⟨r2,0,none⟩) m m) (fuel:=8) rfl (by kernel_rfl) (by kernel_rfl) (by kernel_rfl) (fun _ _ _ h=>h) (.inl ⟨rfl,fun w' hS=>zDo hE h91 rfl (b:=ub) (off:=uo+i) rfl (by simp[zB,zA,hsz]) (cl w' hS ub _ _ hub hubr hcr2)⟩) (fun _ _ _=>rfl) ?_;refine wpAnyH_take (i:=9) (v:=.int .i64 j) (fuel:=7) rfl (by kernel_rfl) (by kernel_rfl) (by kernel_rfl) (fun _ _ _ h=>h) (.inl ⟨rfl,fun w' hS=>r_mv (.inl rfl) (by simp[zB,zA,hsz])⟩) (fun _ _ _=>rfl) ?_
             refine wpAnyH_take (i:=10) (v:=.pointer (some ⟨r2,j*2,none⟩)) (fuel:=6) rfl (by kernel_rfl) (by kernel_rfl) (by kernel_rfl) (fun _ _ _ h=>h) (.inl ⟨rfl,fun w' hS=>by rw[zIL (b:=r2) (off:=0) (n:=j) (k:=.i64) (len:=m) (cap:=m) hT91 hi91 rfl (by simp[zB,zA,hsz]) (by simp[zB,zA,hsz]) hjl,hs91',Nat.zero_add]⟩) (fun _ _ _=>rfl) ?_;refine wpAnyH_take (i:=11) (v:=.agg y2.toArray) (fuel:=5) rfl (by kernel_rfl) (by kernel_rfl) (by kernel_rfl) (fun _ _ _ h=>h) (.inl ⟨rfl,fun w' hS=>r_ld hE h69 rfl (b:=r2) (off:=j*2) rfl (by simp[zB,zA,hsz]) (by rw[hy2.len];rfl) (fun q v hv=>cl w' hS r2 _ _ hrow2.lt hr2r (by have:=ha2 q v hv;rwa [Nat.zero_add] at this))⟩) (fun _ _ _=>rfl) ?_;refine wpAnyH_take (i:=12) (v:=.agg yj.toArray) (fuel:=4) rfl (by kernel_rfl) (by kernel_rfl) (by kernel_rfl) (fun _ _ _ h=>h) (.inl ⟨rfl,fun w' hS=>r_ld hE h69 rfl (b:=b12) (off:=0) rfl (by simp[zB,zA,hsz]) (by rw[hyj.len];rfl) (fun q v hv=>by have:=hc3 q v hv;simp only[World.cell?,hS b12 hb12W (by omega)] at this ⊢;exact this)⟩) (fun _ _ _=>rfl) ?_;have hq1:PolAt W3 G pj yj:=hyj.keepA hA3;refine wpAnyH_all (rs:=[13]) (by kernel_rfl) (by simp) fun z hz=>?_;obtain rfl:z=13:=by simpa using hz
             refine zNC (f:=54) (args:=#[.agg yj.toArray]) (d:=72) rfl rfl rfl (by rw[r_fn (g:=54) rfl rfl (zAV Go.Proofs.Tryz.func54 (by kernel_rfl))];simp[zB,zA,hsz]) ?_;refine (zKW (hq1.keepA (zAu W3)) hPj (by omega)).mono ?_;rintro e1 W4 ⟨q4,y4,rfl,hk4,hq4,hqP4,hqv4⟩;have hk4':KeepA W3 W4:=(zAu W3).trans hk4;refine⟨_,rfl,fun b hb _=>hk4'.2.2 b hb,?_⟩;refine wpAnyH_all (rs:=[14]) (by kernel_rfl) (by simp) fun z hz=>?_;obtain rfl:z=14:=by simpa using hz
             refine zNC (f:=53) (args:=#[.agg y2.toArray,.agg y4.toArray]) (d:=73) rfl rfl rfl (by rw[r_fn (g:=53) rfl rfl (zAV Go.Proofs.Tryz.func53 (by kernel_rfl))];simp[zB,zA,hsz]) ?_;have hz3:({ W3 with drawn:=W3.drawn+1 }:World).heap.size=W3.heap.size:=rfl;have hy24:PolAt W4 (Gn G { W3 with drawn:=W3.drawn+1 } W4) p2 y2:=((hy2.keepA hA3).keepA hk4').up fun b _ hb=>.inl (hGG b hb);have hp2P:Pk ((xs.length+1:Nat):Int) p2:=(hl2P p2 (List.mem_of_getElem? hp2)).up (by omega);refine (zLH hy24 hq4 hp2P hqP4 (by omega)).mono ?_;rintro e2 W5 ⟨q5,y5,rfl,hk5,hq5,hqP5,hqv5⟩;have hk5':KeepA W3 W5:=hk4'.trans hk5;refine⟨_,rfl,fun b hb _=>hk5'.2.2 b hb,?_⟩;refine wpAnyH_all (rs:=[15]) (by kernel_rfl) (by simp) fun z hz=>?_;obtain rfl:z=15:=by simpa using hz
             refine zLt (d:=74) (v:=.pointer (some ⟨r,j*2,none⟩)) (w':=W5) rfl rfl rfl (by rw[zIL (b:=r) (off:=0) (n:=j) (k:=.i64) (len:=m) (cap:=m) hT91 hi91 rfl (by simp[zB,zA,hsz]) (by simp[zB,zA,hsz]) hjl,hs91',Nat.zero_add]) ?_;refine⟨fun b hb _=>hk5'.2.2 b hb,?_⟩;refine wpAnyH_all (rs:=[16]) (by kernel_rfl) (by simp) fun z hz=>?_;obtain rfl:z=16:=by simpa using hz
             have hkW5:KeepA W W5:=hA3.trans hk5';have hrow5:=hrow.keepA hkW5;obtain⟨mm,hmm,hblk5⟩:=hrow5.blk;refine zPo (blk:=r) (off:=j*2) (m:=mm) (ys:=y5) hE h69 rfl rfl rfl rfl (by simp[zB,zA,hsz]) (by simp[zB,zA,hsz]) (by rw[hq5.len];rfl) (TRep.oneCell hq5) hblk5 (by rw[hq5.len];omega) fun W6 hk6 hblk6 hc6 hd6=>?_;refine⟨fun b hb hbr=>(hk6.2.2 b (Nat.lt_of_lt_of_le hb hk5'.1) hbr).trans (hk5'.2.2 b hb),?_⟩;refine wpAnyH_done (by kernel_rfl) (wp_region ?_) _;refine zF (d:=75) (v:=.int .i64 (j+1:Nat)) rfl rfl rfl (kU (k:=.i64) (m:=(j:Int)) (m':=1) (u:=.int .i64 _) hE rfl (by simp[zB,zA,hsz,h54]) rfl (jc (by omega))) ?_;refine zF (d:=54) (v:=.int .i64 (j+1:Nat)) rfl rfl rfl (r_mv (.inl rfl) (by simp[zB,zA,hsz])) (zU ?_);have hkB:KeepB r W W6:=⟨Nat.le_trans hkW5.1 hk6.1,hkW5.2.1.trans hk6.2.1,fun b hb hbr=>(hk6.2.2 b (Nat.lt_of_lt_of_le hb hkW5.1) hbr).trans (hkW5.2.2 b hb)⟩;have h45s:W4.heap.size≤W5.heap.size:=hk5.1;have h34s:W3.heap.size≤W4.heap.size:=hk4.1;have h56s:W5.heap.size≤W6.heap.size:=hk6.1;have hq5':PolAt W5 (Gn G W W6) q5 y5:=hq5.up fun b hb hg=>by
              rcases hg with (hg | hg) | hg
              · exact .inl hg
              · exact .inr (by have h:=hg.1;rw[hz3] at h;omega)
              · exact .inr (by omega)
             have hng6:¬ Gn G W W6 r:=fun h=>h.elim hng fun h=>by omega
             have hrow6:=(hrow5.up (G':=Gn G W W6) fun b _ hb=>.inl hb).stored hng6 (i:=j) (by omega) hq5' hk6 hmm hblk6 (fun q v hv=>by rw[Nat.mul_comm 2 j];exact hc6 q v hv) (fun q hq=>hd6 q (by rw[hq5.len];omega));have v1:pv pj=rv l j:=by
              unfold rv;rw[List.getD_eq_getElem?_getD,hpj]
              rfl
             have v2:pv p2=rv l2 j:=by
              unfold rv;rw[List.getD_eq_getElem?_getD,hp2]
              rfl
             refine⟨⟨by simp[zA,hsz],by simp[zT,hdf],by simp[zB,zA,hsz,h1],by simp[zB,zA,hsz,h2],by simp[zB,zA,hsz,h3],by simp[zB,zA,hsz,h8],by simp[zB,zA,hsz,h45],by simp[zB,zA,hsz,h46],by simp[zB,zA,hsz,h47],by simp[zB,zA,hsz,h9],by simp[zB,zA,hsz,h52],by simp[zB,zA,hsz,h53],j+1,_,M.set i (l.set j q5),by omega,by simp[zB,zA,hsz],hA.step hr hkB hrow6,(hV2.keepA hkW5).keepB hk6 lw1 lw2 lw3,fun b hb=>.inl (hGG b hb),zRS hR hl hjl hqP5 (by rw[hqv5,hqv4];exact zQL (by rw[v2,hl2v]) (by rw[v1,hlvj]))⟩,?_⟩;simp[zB,zA,hsz,h54o,natOf];omega
           · refine wp_seq (wp_cond_false (by simp[zB,zA,hsz];omega) (wp_exit (wp_region ?_)));have hje:j=m:=by omega
             rw[hje] at hR;refine zF (d:=76) (v:=.int .i64 (i+1:Nat)) rfl rfl rfl (kU (k:=.i64) (m:=(i:Int)) (m':=1) (u:=.int .i64 _) hE rfl (by simp[zB,zA,hsz,h47]) rfl (jc (by omega))) ?_;refine zF (d:=47) (v:=.int .i64 (i+1:Nat)) rfl rfl rfl (r_mv (.inl rfl) (by simp[zB,zA,hsz])) (zU ?_);refine⟨⟨by simp[zA,hsz],by simp[zT,hdf],by simp[zB,zA,hsz,h1],by simp[zB,zA,hsz,h2],by simp[zB,zA,hsz,h3],by simp[zB,zA,hsz,h8],by simp[zB,zA,hsz,h45],by simp[zB,zA,hsz,h46],i+1,G,M,by omega,by simp[zB,zA,hsz],hA,hV2,hGG,zRR hR⟩,?_⟩;simp[zB,zA,hsz,h47o,natOf];omega
       · refine wp_seq (wp_cond_false (by simp[zB,zA,hsz];omega) (wp_exit ?_));have hie:i=m:=by omega
         subst hie;have hMm:∀ l∈M,l.length=i∧Pl ((xs.length+1:Nat):Int) l:=fun l hl=>by
          obtain⟨q,hq,rfl⟩:=List.mem_iff_getElem.mp hl;obtain⟨h1,h2,_⟩:=hR q _ (List.getElem?_eq_getElem hq);exact⟨h1,h2⟩
         have hKK:(i:Int)*((xs.length+1:Nat):Int)+1<100000000:=by
          have:(i:Int)*((xs.length+1:Nat):Int)≤49*1000001:=Int.mul_le_mul (by omega) (by omega) (by omega) (by omega);omega
         refine wp_seq (wp_region ?_);refine zF (d:=77) (v:=.slice ad i cp) rfl rfl rfl (r_mv (.inl rfl) (by simp[zB,zA,hsz,h3])) ?_;refine zCz (f:=55) (args:=#[.slice ad i cp]) (d:=78) rfl rfl rfl (by rw[r_fn (g:=55) rfl rfl (zAV Go.Proofs.Tryz.func55 (by kernel_rfl))];simp[zB,zA,hsz]) ?_;refine (zQP hA.mv hrl (by omega) hKK (by omega) hMm).mono ?_;rintro e1 W3 ⟨q,yq,rfl,hk3,hq3,hqP,hqv⟩;refine⟨_,rfl,?_⟩;rw[zR0 hMl hR hout] at hqv;refine zCR (d:=13) hE h69 rfl rfl rfl rfl fun W4 hk4 hr4=>?_;generalize hb13:W3.heap.size=b13 at *;refine ji (blk:=b13) (off:=0) (m:=2) (ys:=yq) hE h69 rfl rfl rfl rfl (by simp[zB,zA,hsz]) (by simp[zB,zA,hsz]) (by rw[hq3.len];rfl) (TRep.oneCell hq3) hr4 (by rw[hq3.len];omega) fun W5 hk5 hr5 hc5 _=>?_;refine zU ?_;obtain⟨qad,qcp,hyq,hqrow,hqel⟩:=hq3.split;refine wp_seq (wp_region ?_);refine zF (d:=79) (v:=.pointer (some ⟨b13,0,none⟩)) rfl rfl rfl (zGm ty69 (o':=0) rfl rfl (by simp[zB,zA,hsz])) ?_;refine zF (d:=80) (v:=.int .i64 q.1) rfl rfl rfl (zDo hE h2t rfl (b:=b13) (off:=0) rfl (by simp[zB,zA,hsz]) (hc5 0 _ (by rw[hyq];rfl))) ?_;refine zF (d:=81) (v:=.agg #[.int .i64 q.1,.slice none 0 0]) rfl rfl rfl (zLo (T:=69) rfl (by simpa[zB,zA,hsz] using zUI q.1 _)) ?_;refine zCR (d:=14) hE h69 rfl rfl rfl rfl fun W6 hk6 hr6=>?_;generalize hb14:W5.heap.size=b14 at *;refine ji (blk:=b14) (off:=0) (m:=2) (ys:=[.int .i64 q.1,.slice none 0 0]) hE h69 rfl rfl rfl rfl (by simp[zB,zA,hsz]) (by simp[zB,zA,hsz]) rfl (by simp[Value.oneCell']) hr6 (by simp) fun W7 hk7 hr7 hc7 _=>?_;refine zU ?_;have kA5:KeepA W3 W5:=⟨Nat.le_trans hk4.1 hk5.1,hk4.2.1.trans hk5.2.1,fun b hb=>(hk5.2.2 b (Nat.lt_of_lt_of_le hb hk4.1) (by omega)).trans (hk4.2.2 b hb)⟩;have kA7:KeepA W5 W7:=⟨Nat.le_trans hk6.1 hk7.1,hk6.2.1.trans hk7.2.1,fun b hb=>(hk7.2.2 b (Nat.lt_of_lt_of_le hb hk6.1) (by omega)).trans (hk6.2.2 b hb)⟩;have hk37:=kA5.trans kA7;have hAf:=hA.keepA (hk3.trans hk37);have h5s:=kA5.1;have hK2:(i:Int)*((xs.length+1:Nat):Int)≤49*1000001:=Int.mul_le_mul (by omega) (by omega) (by omega) (by omega);have h3s:=hk3.1;have hb1W:=hA.bx.2.1;have hb2W:=hA.res.2.1;have hwW:=hA.keep.1
         exact zTU (w:=w) (W:=W7) (n:=i+1) (b1:=b1) (b2:=b2) (b13:=b13) (b14:=b14) (q:=q) (by omega) hn2 hqP (by omega) (by simp[zA,hsz]) (by simp[zT,hdf]) (by simp[zB,zA,hsz,h1]) (by simp[zB,zA,hsz,h2]) (by simp[zB,zA,hsz]) (by simp[zB,zA,hsz])
          hAf.bx.1 (zh (hc5 1 _ (by rw[hyq];rfl)) (kA7.2.2 _ (jN hr5))) hr7 (hc7 0 _ rfl) (hc7 1 _ rfl) hAf.res.1 (hqrow.frame id hk37.1 (fun b hb hg=>⟨hg,hk37.2.2 b hb⟩)) ((CRow.ofE hqel).keep (fun a ha hp=>hk37.2.2 _ (hqrow.2.2 a ha (.inl hp)).2.1)) hAf.bx.2.1 (by omega) (by omega) (by omega) hAf.keep hAf.res.2.2.2.1 (by omega)
          (fun w' ys h=>⟨q,ys,rfl,h,hqP.up (by omega),hqv⟩)
end Go.Ev.YtlkmkabnbegfdaaGreatP
namespace Go.Ev.YtlkmkabnbegfdaaGreatP
open Go.Ev Go.Lau
abbrev BrT:Ty:=.pair (.int .i64) (.slice (.int .i64))
open Classical in
noncomputable def alexQ (D:A):Pol:=if h:∃ q,Pk 49000050 q∧pv q=D then Classical.choose h else (0,[])
theorem zSL {q:Pol}{D:A}(h:Pk 49000050 q) (hv:pv q=D):alexQ D=q:=by
 unfold alexQ;have hx:∃ q,Pk 49000050 q∧pv q=D:=⟨q,h,hv⟩;rw[dif_pos hx];obtain⟨h1,h2⟩:=Classical.choose_spec hx;exact h1.inj h (h2.trans hv.symm)
theorem zSM (D:A):Pk 49000050 (alexQ D):=by
 unfold alexQ
 split
 · rename_i h;exact (Classical.choose_spec h).1
 · exact Pk.zero.up (by omega)
theorem zRZ {n:Nat}(hn:1≤n) {q:Pol}(hq:Pk 49000050 q):(post n q).2.length<1000000000:=by
 have hlo:=hq.lo;have hhi:=hq.hi;obtain⟨hw,hl⟩:=zSi n (q.2.length+1-n) 0 q.2 hq.w (by omega) (by omega);rw[zPe];generalize quo n (q.2.length+1-n) 0 q.2=l at *;obtain⟨t,ht,hwt,het,hzt,hvt⟩:=zNg (p:=(q.1,l)) hw (by unfold Sm;constructor<;>simp only<;>omega) (by unfold Sm;constructor<;>simp only<;>omega);have htP:Pk 49000050 t:=Pk.of (by omega) hwt het hzt fun k hk=>by
  rw[hvt];unfold pv;exact zBg (by rw[List.length_map];simp only;omega)
 have h1:=htP.lo;have h2:=htP.hi;have hsP:Pk 98000100 ((0,t.2):Pol):=⟨hwt,het,fun _=>rfl,by simp only;omega,by simp only;omega⟩;unfold post2;rw[ht];simp only[Option.getD_some,getTV_here]
 split
 · obtain⟨r,hr,hrP,_⟩:=zQZ hsP (by omega);have h3:=hrP.lo;have h4:=hrP.hi;rw[hr];simp only[Option.getD_some,getTV_here];omega
 · simp only;omega
noncomputable def alexP (b:BrT.den):Pol:=post b.1.toNat (alexQ (det (b.1.toNat-1) (Nw (b.1.toNat-1) b.2)))
def alexG (b:BrT.den):Bool:=decide (1≤b.1)&&decide (b.1≤50)&&decide (b.2.length≤1000000)&&b.2.all fun x=>decide (x≠0)&&decide (x.natAbs<b.1.toNat)
theorem alexP_len {b:BrT.den}(h:alexG b=true):(alexP b).2.length<1000000000:=by
 unfold alexG at h;simp only[Bool.and_eq_true,decide_eq_true_eq] at h;have h1:(1:Int)≤b.1:=h.1.1.1;exact zRZ (by omega) (zSM _)
noncomputable def alexF (tvs:List TV):Option (List TV):=if alexG (getTV BrT tvs 0) then some [⟨PolT,alexP (getTV BrT tvs 0)⟩] else none
theorem alex_ok {En:Env}{fd:FD}(hid:fd.id=33) (hp:fd.sig.params=[.ro BrT]) (hr:fd.sig.res=[(.ro,false,PolT)]) (hres:fd.fn.results=#[.cell 2 69]) (hty:En.ty 69=some PolT) (hn2:3≤fd.fn.ntmps):ExtOk Pg En fd (.val alexF):=by
 intro call tvs outs hcall hx w0 X Y0 ρ col args hal hin;have hinit:fd.init tvs=⟨[.w (.st [.int .i64 (getTV BrT tvs 0).1,.sl 1000])]++List.replicate (fd.fn.ntmps-1) .undef,Objs.none.upd 1000 (.row .ro (.int .i64) (getTV BrT tvs 0).2)⟩:=by
  simp[FD.init,hp,initPs,PK.init,unpackW,unpackC,Objs.upds,idOf]
 rw[hinit] at hin;simp only[extE,alexF] at hx;generalize hxs:getTV BrT tvs 0=x at hx hin;obtain⟨xn,xl,rfl⟩:∃ (xn:Int) (xl:List Int),x=(xn,xl):=⟨x.1,x.2,rfl⟩;simp only at hin;have hal2:args.length=1:=by rw[hal,hp];rfl
 obtain⟨a0,rfl⟩:∃ a0,args=[a0]:=by
  match args,hal2 with
  | [a0],_=>exact⟨a0,rfl⟩
 have e0:a0=.agg #[.int .i64 xn,.slice (ρ 1000).addr (ρ 1000).len (ρ 1000).cap]:=by
  have:=hin.tmps 0 (.w (.st [.int .i64 xn,.sl 1000])) (by simp)
  rcases this with h | ⟨_,h⟩
  · simp at h
  · simpa[vval,wval,wcells,cval,Array.getD_eq_getD_getElem?,Array.getElem?_append] using h
 subst e0;obtain⟨k1,k2,k3⟩:=hin.objs 1000 (.row .ro (.int .i64) xl) (by simp[Objs.upd]);have hlen:(ρ 1000).len=xl.length:=k1;rw[hlen] at hin ⊢
 split at hx
 · rename_i hg;simp only[Option.some.injEq] at hx;subst hx;unfold alexG at hg;simp only[Bool.and_eq_true,decide_eq_true_eq,List.all_eq_true] at hg;obtain⟨⟨⟨g1,g2⟩,g3⟩,g4⟩:=hg;have g1':(1:Int)≤xn:=g1;have g2':xn≤(50:Int):=g2;obtain⟨n,hn⟩:∃ n:Nat,xn=n:=⟨xn.toNat,by omega⟩;have hnt:xn.toNat=n:=by omega
   rw[hid];have hc:=zOp (w:=w0) (n:=n) (xs:=xl) (lad:=(ρ 1000).addr) (lcp:=(ρ 1000).cap) (by omega) (by omega) (fun y hy=>by have:=g4 y hy;rw[hnt] at this;exact this) g3 (k2.frame (fun h=>absurd h (by simp)) (Nat.le_refl _) (fun b _ _=>⟨trivial,rfl⟩)) (fun k y hk=>by
    obtain⟨ys,e1,e2⟩:=k3 k y hk;have e1':ys=[.int .i64 y]:=e1;subst e1';have:=e2 0 _ rfl;simpa[Ty.cells] using this)
   rw[← hn] at hc;refine hc.mono ?_;rintro e w' ⟨q,ys,rfl,⟨hk,hpa,b,hbw,hbc⟩,hqP,hqv⟩;have hP:alexP (xn,xl)=post n q:=by
    unfold alexP;simp only;rw[hnt,← hqv,zSL hqP rfl]
   rw[hP];generalize post n q=p at hpa;obtain⟨ad,cp,rfl,hrow,hel⟩:=hpa.split;obtain⟨q1,q2,q3⟩:=hk;generalize (ρ 1000).addr=addr at hin k2 k3 ⊢;generalize (ρ 1000).cap=cap at hin k2 ⊢;have hsz:(⟨[Value.agg #[.int .i64 xn,.slice addr xl.length cap]].toArray++Array.replicate (fd.fn.ntmps-[Value.agg #[.int .i64 xn,.slice addr xl.length cap]].length) undef,[]⟩:Act).tmps.size=fd.fn.ntmps:=by
    simp;omega
   have hcolN:∀ b,w0.heap.size≤b→col b=none:=fun b hb=>by
    cases hh:col b with
    | none=>rfl
    | some y=>have:=(hin.cold b y.1 y.2 hh).2.1;omega
   have hbl:b<w'.heap.size:=by
    have:=hbc 0 _ rfl
    rcases Nat.lt_or_ge b w'.heap.size with h | h
    · exact h
    · simp[World.cell?,Array.getElem?_eq_none h] at this
   have g2:((List.replicate fd.fn.ntmps V.undef).set 2 (.w (.c (.ptr 1001 0 0 0)))).getD 2 .undef=.w (.c (.ptr 1001 0 0 0)):=by
    rw[List.getD_eq_getElem?_getD,List.getElem?_set_self (by simp;omega)]
    rfl
   have h1:resWs En ⟨(List.replicate fd.fn.ntmps .undef).set 2 (.w (.c (.ptr 1001 0 0 0))),(Objs.none.upd 1000 (.row .ro W4T p.2)).upd 1001 (.box .ro (.st [.int .i64 p.1,.sl 1000]))⟩ fd.fn.results.toList=some [.st [.int .i64 p.1,.sl 1000]]:=by
    rw[hres];show resWs En _ [.cell 2 69]=_;simp only[resWs,resW,g2,hty];simp[Objs.upd,W.fits,fitsC,C.fits]
   refine⟨⟨(List.replicate fd.fn.ntmps .undef).set 2 (.w (.c (.ptr 1001 0 0 0))),(Objs.none.upd 1000 (.row .ro W4T p.2)).upd 1001 (.box .ro (.st [.int .i64 p.1,.sl 1000]))⟩,fun o=>if o=1001 then ⟨some ⟨b,0,none⟩,2,2⟩ else ⟨ad,p.2.length,cp⟩,fun b=>if b<w0.heap.size then none else col b,
    ((⟨[Value.agg #[.int .i64 xn,.slice addr xl.length cap]].toArray++Array.replicate (fd.fn.ntmps-[Value.agg #[.int .i64 xn,.slice addr xl.length cap]].length) undef,[]⟩:Act).put (some 2) (.pointer (some ⟨b,0,none⟩))),[.st [.int .i64 p.1,.sl 1000]],rfl,
     ⟨hin.defers,?_,fun i v hi=>?_,fun o y hy=>?_,fun b o c hb=>?_,fun b hb _=>q3 b hb,q1,fun q hq=>?_,q2⟩,?_,?_,fun x hx=>?_⟩
   · rw[zA,hsz];simp
   · rw[List.getElem?_set] at hi
     split at hi
     · rename_i e;subst e;rw[if_pos (by simp;omega)] at hi;simp only[Option.some.injEq] at hi;subst hi;exact .inr ⟨by simp[wfV,wfW,wfC,Objs.upd],(zB (by rw[hsz];omega) _).trans (if_pos rfl)⟩
     · rw[List.getElem?_replicate] at hi
       split at hi
       · simp only[Option.some.injEq] at hi;exact .inl hi.symm
       · simp at hi
   · have hnew:∀ b,w0.heap.size≤b→RO (fun b=>if b<w0.heap.size then none else col b) (fun b=>Y0 b∨w0.heap.size≤b∨X b) b:=fun b hb=>⟨.inl (by simp[hcolN b hb]),.inr (.inl hb)⟩
     by_cases ho1:o=1001
     · subst ho1;simp only[Objs.upd,if_true,Option.some.injEq] at hy;subst hy;refine⟨b,rfl,hbl,by simp[wfW,wfC,Objs.upd],rfl,fun j v hv=>?_,hnew b hbw,fun h=>by simp[Mode.mine] at h⟩;have:=hbc j v hv;rwa [Nat.zero_add] at this
     · have ho:o=1000:=by
        simp only[Objs.upd,Objs.none,if_neg ho1] at hy
        split at hy
        · assumption
        · simp at hy
       subst ho;simp only[Objs.upd,if_true,if_neg ho1,Option.some.injEq] at hy;subst hy;exact⟨rfl,hrow.frame id (Nat.le_refl _) (fun b _ hb=>⟨hnew b hb,rfl⟩),hel.frame id (Nat.le_refl _) (fun _ _ b _ hb=>⟨hnew b hb,rfl⟩) (fun _ _ _=>rfl)⟩
   · split at hb
     · simp at hb
     · rename_i h;rw[hcolN b (by omega)] at hb;simp at hb
   · simp[fixOf,hp,fixedGo,PK.isFixed] at hq
   · unfold FD.finish;rw[h1,hr,hp];simp[packRes,packRes1,backPs,PK.back,packW,packC,rowAs,Objs.upd,apart,Mode.le,Mode.mine]
   · exact h1
   · rw[List.mem_singleton] at hx;subst hx;simp[wfW,wfC,Objs.upd]
 · simp at hx
end Go.Ev.YtlkmkabnbegfdaaGreatP
