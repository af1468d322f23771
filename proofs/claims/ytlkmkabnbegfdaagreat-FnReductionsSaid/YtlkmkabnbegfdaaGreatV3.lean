/- The evaluator's soundness, second part. -/
import Derived.Test.YtlkmkabnbegfdaaGreatV2
import Derived.LoopN
set_option linter.unusedSimpArgs false
set_option linter.unusedVariables false
namespace Go.Ev
section
variable {E:Env}{fd:FD}{call:Oracle}
def Pack.ids (p:Pack):List Nat:=p.ro.map (·.1)++p.excl
theorem Pack.ids_add {p q:Pack}{id:Nat}:id∈(p.add q).ids↔id∈p.ids∨id∈q.ids:=by
 simp only[Pack.ids,Pack.excl,Pack.mutIds,Pack.add,List.map_append,List.flatMap_append,List.mem_append]
 constructor
 · rintro ((h | h) | (((h | h) | (h | h)) | (h | h)))<;>simp[h]
 · rintro ((h | ((h | h) | h)) | (h | ((h | h) | h)))<;>simp[h]
theorem zDB {ob:Objs}:∀ {t:Ty}{cs:List C}{x:t.den}{us:List (Nat×Mode)}{r:List C},packC ob t cs=some (x,us,r) →
  ∃ L:List (Option Nat),C.slices cs=L++C.slices r∧L.filterMap id=us.map (·.1)
 | .int k,cs,x,us,r,h=>by
  match cs,h with
  | .int k' n::r',h=>
   simp only[packC] at h
   split at h
   · simp only[Option.some.injEq,Prod.mk.injEq] at h;obtain⟨rfl,rfl,rfl⟩:=h;exact⟨[],rfl,rfl⟩
   · simp at h
 | .bool,cs,x,us,r,h=>by
  match cs,h with
  | .bool b::r',h=>
   simp only[packC,Option.some.injEq,Prod.mk.injEq] at h;obtain⟨rfl,rfl,rfl⟩:=h;exact⟨[],rfl,rfl⟩
 | .arr k m,cs,x,us,r,h=>by
  match cs,h with
  | [],h=>simp[packC] at h
  | c::cs,h=>cases c<;>simp[packC] at h
 | .barr m,cs,x,us,r,h=>by
  match cs,h with
  | [],h=>simp[packC] at h
  | c::cs,h=>cases c<;>simp[packC] at h
 | .slice t,cs,x,us,r,h=>by
  match cs,h with
  | .nil::r',h=>
   simp only[packC,Option.some.injEq,Prod.mk.injEq] at h;obtain⟨rfl,rfl,rfl⟩:=h;exact⟨[none],rfl,rfl⟩
  | .sl o::r',h=>
   simp only[packC] at h
   split at h
   · rename_i m ys hr;simp only[Option.some.injEq,Prod.mk.injEq] at h;obtain⟨rfl,rfl,rfl⟩:=h;exact⟨[some o],rfl,rfl⟩
   · simp at h
 | .pair a b,cs,x,us,r,h=>by
  simp only[packC] at h
  split at h
  · rename_i x1 us1 r1 h1
    split at h
    · rename_i x2 us2 r2 h2;simp only[Option.some.injEq,Prod.mk.injEq] at h;obtain⟨rfl,rfl,rfl⟩:=h;obtain⟨L1,e1,f1⟩:=zDB h1;obtain⟨L2,e2,f2⟩:=zDB h2;exact⟨L1++L2,by rw[e1,e2,List.append_assoc],by simp[f1,f2]⟩
    · simp at h
  · simp at h
theorem zBR {ob:Objs}{t:Ty}{w:W}{x:t.den}{us:List (Nat×Mode)}(h:packW ob t w=some (x,us)):(w.slices).filterMap id=us.map (·.1):=by
 cases t with
 | int k=>cases w with
  | c c=>cases c<;>simp_all [packW,W.slices,C.slices]
  | _=>simp[packW] at h
 | bool=>cases w with
  | c c=>cases c<;>simp_all [packW,W.slices,C.slices]
  | _=>simp[packW] at h
 | arr k m=>cases w<;>simp_all [packW,W.slices]
 | barr m=>cases w<;>simp_all [packW,W.slices]
 | slice t=>cases w with
  | c c=>
   cases c with
   | nil=>simp only[packW,Option.some.injEq,Prod.mk.injEq] at h;obtain⟨rfl,rfl⟩:=h;rfl
   | sl o=>
    simp only[packW] at h
    split at h
    · simp only[Option.some.injEq,Prod.mk.injEq] at h;obtain⟨rfl,rfl⟩:=h
      rfl
    · simp at h
   | _=>simp[packW] at h
  | _=>simp[packW] at h
 | pair a b=>cases w with
  | st cs=>
   simp only[packW] at h
   split at h
   · rename_i x1 us1 h1;simp only[Option.some.injEq,Prod.mk.injEq] at h;obtain⟨rfl,rfl⟩:=h;obtain⟨L,e,f⟩:=zDB h1;simp only[W.slices,e,C.slices,List.append_nil,f]
   · simp at h
  | _=>simp[packW] at h
section
variable {ob ob':Objs}
theorem zGX {t:Ty}{w:W}{p:Pack}(h:packRo ob t w=some p) (hu:∀ o∈p.ids,ob' o=ob o):packRo ob' t w=some p:=by
 unfold packRo at h ⊢
 split at h
 · rename_i x us hp;simp only[Option.some.injEq] at h;subst h;rw[kc hp (fun q hq=>hu q.1 (by simp only[Pack.ids,List.mem_append];exact .inl (List.mem_map_of_mem hq)))]
 · simp at h
theorem zFA {t:Ty}{w:W}{p:Pack}(h:packBox ob t w=some p) (hu:∀ o∈p.ids,ob' o=ob o):packBox ob' t w=some p:=by
 unfold packBox at h ⊢
 split at h
 · rename_i o
   split at h
   · rename_i w hb
     split at h
     · rename_i x us hp
       split at h
       · rename_i hc;simp only[Option.some.injEq] at h;subst h;have h1:ob' o=ob o:=hu o (by simp[Pack.ids,Pack.excl,Pack.mutIds]);have h2:∀ q∈us,ob' q.1=ob q.1:=fun q hq=>hu q.1 (by simp only[Pack.ids,Pack.excl,List.mem_append];exact .inr (.inl (.inl (List.mem_map_of_mem hq))))
         simp only[h1,hb,kc hp h2,if_pos hc]
       · simp at h
     · simp at h
   · simp at h
 · simp at h
theorem zIP {t:Ty}{w:W}{p:Pack}(h:packBoxR ob t w=some p) (hu:∀ o∈p.ids,ob' o=ob o):packBoxR ob' t w=some p:=by
 unfold packBoxR at h ⊢
 split at h
 · rename_i o
   split at h
   · rename_i w hb
     split at h
     · rename_i x us hp;simp only[Option.some.injEq] at h;subst h;have h1:ob' o=ob o:=hu o (by simp[Pack.ids,Pack.excl,Pack.mutIds]);have h2:∀ q∈us,ob' q.1=ob q.1:=fun q hq=>hu q.1 (by simp only[Pack.ids,List.mem_append];exact .inl (List.mem_map_of_mem hq))
       simp only[h1,hb,kc hp h2]
     · simp at h
   · simp at h
 · simp at h
theorem zE5 {t:Ty}{w:W}{p:Pack}(h:packRob ob t w=some p) (hu:∀ o∈p.ids,ob' o=ob o):packRob ob' t w=some p:=by
 unfold packRob at h ⊢
 split at h
 · rename_i o
   split at h
   · rename_i m w hb
     split at h
     · rename_i x us hp;simp only[Option.some.injEq] at h;subst h;have h1:ob' o=ob o:=hu o (by simp[Pack.ids]);have h2:∀ q∈us,ob' q.1=ob q.1:=fun q hq=>hu q.1 (by simp only[Pack.ids,List.map_cons,List.mem_append,List.mem_cons];exact .inl (.inr (List.mem_map_of_mem hq)))
       simp only[h1,hb,kc hp h2]
     · simp at h
   · simp at h
 · simp at h
theorem zJT {t:Ty}{w:W}{b:CK}{p:Pack}(h:packCap ob t w b=some p) (hu:∀ o∈p.ids,ob' o=ob o):packCap ob' t w b=some p:=by
 cases b with
 | val=>exact zGX h hu
 | rob=>exact zE5 h hu
 | box=>exact zFA h hu
theorem zD0:∀ {caps:List (CK×Ty)}{ws:List W}{p:Pack},packCaps ob caps ws=some p→(∀ o∈p.ids,ob' o=ob o)→packCaps ob' caps ws=some p
 | [],[],p,h,_=>by simpa only[packCaps] using h
 | [],_::_,p,h,_=>by simp[packCaps] at h
 | _::_,[],p,h,_=>by simp[packCaps] at h
 | (b,t)::r,w::ws,p,h,hu=>by
  simp only[packCaps] at h ⊢
  split at h
  · rename_i q q' h1 h2;simp only[Option.some.injEq] at h;subst h;rw[zJT h1 (fun o ho=>hu o (Pack.ids_add.2 (.inl ho))),zD0 h2 (fun o ho=>hu o (Pack.ids_add.2 (.inr ho)))]
  · simp at h
theorem zJW {k:PK}{v:V}{p:Pack}(h:packArg ob k v=some p) (hu:∀ o∈p.ids,ob' o=ob o):packArg ob' k v=some p:=by
 cases k with
 | ro t=>cases v with
  | w w=>exact zGX h hu
  | _=>simp[packArg] at h
 | own t=>cases v with
  | w w=>
   simp only[packArg] at h ⊢
   split at h
   · rename_i x us hp
     split at h
     · rename_i hc;simp only[Option.some.injEq] at h;subst h;rw[kc hp (fun q hq=>hu q.1 (by simp only[Pack.ids,Pack.excl,List.mem_append];exact .inr (.inl (.inl (List.mem_map_of_mem hq)))))];simp only[if_pos hc]
     · simp at h
   · simp at h
  | _=>simp[packArg] at h
 | «mut» t=>cases v with
  | w w=>
   simp only[packArg] at h ⊢
   split at h
   · rename_i x us hp
     split at h
     · rename_i hc;simp only[Option.some.injEq] at h;subst h;have:=zBR hp;rw[kc hp (fun q hq=>hu q.1 (by
        have hm:q.1∈us.map (·.1):=List.mem_map_of_mem hq;rw[← this] at hm;simp only[Pack.ids,Pack.excl,Pack.mutIds,List.mem_append,List.flatMap_cons,List.flatMap_nil,List.append_nil];exact .inr (.inl (.inr hm))))]
       simp only[if_pos hc]
     · simp at h
   · simp at h
  | _=>simp[packArg] at h
 | muts t=>cases v with
  | w w=>
   simp only[packArg] at h ⊢
   split at h
   · rename_i x us hp
     split at h
     · rename_i hc;simp only[Option.some.injEq] at h;subst h;have:=zBR hp;rw[kc hp (fun q hq=>hu q.1 (by
        have hm:q.1∈us.map (·.1):=List.mem_map_of_mem hq;rw[← this] at hm;simp only[Pack.ids,Pack.excl,Pack.mutIds,List.mem_append,List.flatMap_cons,List.flatMap_nil,List.append_nil];exact .inr (.inl (.inr hm))))]
       simp only[if_pos hc]
     · simp at h
   · simp at h
  | _=>simp[packArg] at h
 | boxr t=>cases v with
  | w w=>exact zIP h hu
  | _=>simp[packArg] at h
 | rob t=>cases v with
  | w w=>exact zE5 h hu
  | _=>simp[packArg] at h
 | box t=>cases v with
  | w w=>exact zFA h hu
  | _=>simp[packArg] at h
 | fn f caps=>cases v with
  | fn g ws=>
   simp only[packArg] at h ⊢
   split at h
   · rename_i hg;rw[if_pos hg];exact zD0 h hu
   · simp at h
  | _=>simp[packArg] at h
theorem zD4:∀ {ks:List PK}{vs:List V}{p:Pack},packArgs ob ks vs=some p→(∀ o∈p.ids,ob' o=ob o)→packArgs ob' ks vs=some p
 | [],[],p,h,_=>by simpa only[packArgs] using h
 | [],_::_,p,h,_=>by simp[packArgs] at h
 | _::_,[],p,h,_=>by simp[packArgs] at h
 | k::ks,v::vs,p,h,hu=>by
  simp only[packArgs] at h ⊢
  split at h
  · rename_i q q' h1 h2;simp only[Option.some.injEq] at h;subst h;rw[zJW h1 (fun o ho=>hu o (Pack.ids_add.2 (.inl ho))),zD4 h2 (fun o ho=>hu o (Pack.ids_add.2 (.inr ho)))]
  · simp at h
theorem zKj {o:Nat}(h:ob' o=ob o):flatAt ob' o=flatAt ob o:=by simp only[flatAt,h]
end
theorem zME {s s':St}{d:Nat}{f:FuncId}{args:List V}{e:Eff}(h:callK E call s d f args some=some e) (hr:∀ id∈e.rd,s'.ob id=s.ob id):callK E call s' d f args some=some e:=by
 unfold callK at h ⊢
 split at h
 · rename_i fd hfd;simp only[hfd] at h ⊢
   split at h
   · rename_i hid;rw[if_pos hid]
     split at h
     · rename_i p hp
       split at h
       · rename_i hok;rw[Option.bind_eq_some_iff] at h;obtain⟨outs,ho,h⟩:=h;simp only[Option.some.injEq] at h;have hu:∀ o∈p.ids,s'.ob o=s.ob o:=fun o hm=>hr o (by rw[← h];exact hm)
         have hd:demotes s'.ob p.ro=demotes s.ob p.ro:=ky fun q hq=>hu q.1 (by simp only[Pack.ids,List.mem_append];exact .inl (List.mem_map_of_mem hq))
         have hok':(p.ok&&p.excl.all (flatAt s'.ob))=true:=by
          simp only[Bool.and_eq_true,List.all_eq_true] at hok ⊢;refine⟨hok.1,fun o hm=>?_⟩;rw[zKj (hu o (by simp only[Pack.ids,List.mem_append];exact .inr hm))];exact hok.2 o hm
         rw[zD4 hp hu];simp only[if_pos hok',ho,Option.bind_some,hd];rw[← h]
       · simp at h
     · simp at h
   · simp at h
 · simp at h
theorem zLd {s s':St}{d:Nat}{op:Op}{e:Eff}(h:stepO E fd call s d op=some e) (hx:∀ x∈op.operands,s'.eval x=s.eval x) (hr:∀ id∈e.rd,s'.ob id=s.ob id):stepO E fd call s' d op=some e:=by
 unfold stepO stepK at h ⊢
 split at h
 · rename_i f args tys;have h1:s'.eval f=s.eval f:=hx f (by simp[Op.operands,Call.operands]);have h2:args.toList.map s'.eval=args.toList.map s.eval:=List.map_congr_left fun x hm=>hx x (by simp only[Op.operands,Call.operands];simp;exact .inr (by simpa using hm))
   simp only[h1,h2] at h ⊢
   split at h
   · split at h
     · exact h
     · exact zME h hr
   · simp at h
 · split at h
   · rename_i e' he
     cases hok:e'.ok with
     | false=>simp[hok] at h
     | true=>
      simp only[hok,cond,Option.some.injEq] at h;subst h;rw[zLf he hx hr];simp[hok]
   · simp at h
theorem zPk {s s':St}{o:Oper}{e:Eff}(h:opO E fd call s o=some e) (hx:∀ x∈o.op.operands,s'.eval x=s.eval x) (hr:∀ id∈e.rd,s'.ob id=s.ob id) (hn:∀ id∈e.nw.map (·.1),s'.ob id=none):
  opO E fd call s' o=some e:=by
 unfold opO at h ⊢;rw[Option.bind_eq_some_iff] at h;obtain⟨e',h1,h2⟩:=h
 split at h2
 · rename_i hf;simp only[Option.some.injEq] at h2;subst h2;rw[zLd h1 hx hr];have:fresh s'.ob (e'.nw.map (·.1))=true:=by
    obtain⟨g1,g2⟩:=jL hf;simp only[fresh,Bool.and_eq_true,decide_eq_true_eq,List.all_eq_true,Option.isNone_iff_eq_none];exact⟨g1,hn⟩
   simp[this]
 · simp at h2
theorem zKS {s:St}{o:Oper}{e:Eff}(h:opO E fd call s o=some e):fresh s.ob (e.nw.map (·.1))=true:=by
 unfold opO at h;rw[Option.bind_eq_some_iff] at h;obtain⟨e',h1,h2⟩:=h
 split at h2
 · rename_i hf;simp only[Option.some.injEq] at h2;subst h2;exact hf
 · simp at h2
theorem zOL {ops:Array Oper}{s s':St}{o:Oper}{x:Option Eff}(h:outO E fd call ops s o=some x) (hx:∀ t∈usesOf ops o,s'.tm[t]?=s.tm[t]?) (hr:∀ id∈(logO x).1,s'.ob id=s.ob id)
  (hn:∀ e,x=some e→∀ id∈e.nw.map (·.1),s'.ob id=none):outO E fd call ops s' o=some x:=by
 have hw:wants ops s' o=wants ops s o:=by
  unfold wants
  cases hg:o.guard with
  | none=>rfl
  | some g=>
   obtain⟨j,want⟩:=g;simp only
   cases ht:(ops[j]?).bind (·.dst) with
   | none=>rfl
   | some t=>
    simp only;have:s'.tm[t]?=s.tm[t]?:=hx t (by simp[usesOf,hg,ht]);simp only[List.getD_eq_getElem?_getD,this]
 have he:∀ x∈o.op.operands,s'.eval x=s.eval x:=fun x hm=>zU4 fun t ht=>hx t (by
  simp only[usesOf,List.mem_append,List.mem_flatMap];exact .inl ⟨x,Array.mem_toList_iff.2 hm,by simp[ht,operTmp]⟩)
 unfold outO at h ⊢;rw[hw]
 split at h
 · rename_i hap;rw[if_pos hap]
   split at h
   · rw[Option.map_eq_some_iff] at h;obtain⟨e,h1,rfl⟩:=h;rw[zPk h1 he hr (hn e rfl)]
     rfl
   · exact h
   · simp at h
 · simp at h
end
end Go.Ev
namespace Go.Ev
section
variable {P:Program}{E:Env}{fd:FD}{call:Oracle}{w0:World}{X Y0:Nat→Prop}{fix:List (Nat×Value)}
def OpOk (P:Program) (E:Env) (fd:FD) (call:Oracle) (w0:World) (X Y0:Nat→Prop) (fix:List (Nat×Value)):Prop:=
 ∀ (s:St) (ρ:Locs) (col:Col) (a:Act) (w:World) (o:Oper) (e:Eff) (K:Act→World→Prop) (Q:Exit→Act→World→Prop),Inv w0 X Y0 fix s ρ col a w→apart o.dst.toList (fix.map (·.1))=true →
  opO E fd call s o=some e→(∀ ρ' col' a' w',Inv w0 X Y0 fix (s.put o.dst e) ρ' col' a' w'→K a' w')→o.wp P a w K Q
variable {s:St}{ρ:Locs}{col:Col}{a:Act}{w:World}{ops:Array Oper}
theorem Inv.getD (h:Inv w0 X Y0 fix s ρ col a w) {t:Nat}{v:V}(hv:s.tm.getD t .undef=v) (hne:v≠.undef):a.tmps[t]?=some (vval ρ v)∧wfV s.ob ρ v:=by
 cases ht:s.tm[t]? with
 | none=>rw[List.getD_eq_getElem?_getD,ht] at hv;exact absurd hv.symm hne
 | some u=>
  rw[List.getD_eq_getElem?_getD,ht] at hv;simp only[Option.getD_some] at hv;subst hv;have hl:=(List.getElem?_eq_some_iff.1 ht).1
  rcases h.tmps t u ht with g | ⟨g1,g2⟩
  · exact absurd g hne
  · refine⟨?_,g1⟩;have hl2:t<a.tmps.size:=by rw[h.size];exact hl
    rw[Array.getElem?_eq_getElem hl2,← g2];simp[Array.getD,hl2]
theorem zG5 (h:Inv w0 X Y0 fix s ρ col a w) {o:Oper}{b:Bool}(hw:wants ops s o=some b):Region.wanted o (yielded ops a.tmps)=b:=by
 unfold wants at hw;unfold Region.wanted
 cases hg:o.guard with
 | none=>simp only[hg,Option.some.injEq] at hw;exact hw
 | some g=>
  obtain⟨j,want⟩:=g;simp only[hg] at hw ⊢
  cases ht:(ops[j]?).bind (·.dst) with
  | none=>simp[ht] at hw
  | some t=>
   simp only[ht] at hw;unfold yielded;simp only[ht,Option.bind_some]
   split at hw
   · rename_i hgd;simp only[Option.some.injEq] at hw;subst hw;have:=(h.getD (zOT hgd) (by simp)).1;rw[this];simp[vval]
   · rename_i c hgd;simp only[Option.some.injEq] at hw;subst hw;have:=(h.getD (zIj hgd) (by simp)).1;rw[this];simp[vval,wval,cval]
   · simp at hw
theorem zIe (hop:OpOk P E fd call w0 X Y0 fix) (hfix:fix.map (·.1)=fixedGo fd.sig.params 0) {Q:Exit→Act→World→Prop}{K:Act→World→Prop}{i:Nat}{o:Oper}{x:Option Eff}
  (h:Inv w0 X Y0 fix s ρ col a w) (ho:ops[i]?=some o) (hx:outO E fd call ops s o=some x) (hK:∀ ρ' col' a' w',Inv w0 X Y0 fix (putO s o x) ρ' col' a' w'→K a' w'):wpOp P ops Q i K a w:=by
 unfold wpOp;simp only[ho];unfold outO at hx
 split at hx
 · rename_i hap;rw[← hfix] at hap
   split at hx
   · rename_i hw;rw[Option.map_eq_some_iff] at hx;obtain⟨e,h1,rfl⟩:=hx;rw[zG5 h hw];simp only[if_true];exact .inl (hop s ρ col a w o e K Q h hap h1 hK)
   · rename_i hw;simp only[Option.some.injEq] at hx;subst hx;rw[zG5 h hw];simp only[Bool.false_eq_true,if_false];refine hK ρ col _ _ ?_;exact h.slot hap (v:=.tup []) (x:=undef) (.inr ⟨fun x hx=>by simp at hx,by simp[vval,undef]⟩)
   · simp at hx
 · simp at hx
theorem zPi (hop:OpOk P E fd call w0 X Y0 fix) (hfix:fix.map (·.1)=fixedGo fd.sig.params 0) {Q:Exit→Act→World→Prop}{r:List Oper}{s s':St}{xs:List (Option Eff)}
  (t:Trace E fd call ops r s xs s'):∀ (po:List Oper) (ρ:Locs) (col:Col) (a:Act) (w:World),ops.toList=po++r→Inv w0 X Y0 fix s ρ col a w→(∀ ρ' col' a' w',Inv w0 X Y0 fix s' ρ' col' a' w'→Q .normal a' w') →
  wpOps P ops Q (List.range' po.length r.length) a w:=by
 induction t with
 | nil s=>intro po ρ col a w _ h hQ;simpa[wpOps] using hQ ρ col a w h
 | @cons o r s s' x xs hx t ih=>
  intro po ρ col a w hr h hQ;have ho:ops[po.length]?=some o:=by
   rw[← Array.getElem?_toList,hr];simp
  rw[List.length_cons,List.range'_succ,wpOps_cons];refine zIe hop hfix h ho hx (fun ρ' col' a' w' h'=>?_);have:=ih (po++[o]) ρ' col' a' w' (by simp[hr]) h' hQ;simpa using this
theorem zHp {p q:Nat→Bool}{i:Nat}(hp:p i=true) (hq:q i=false) (hqp:∀ j,q j=true→p j=true):∀ (l:List Nat),i∈l→(l.filter q).length<(l.filter p).length
 | j::l,h=>by
  have le:∀ l:List Nat,(l.filter q).length≤(l.filter p).length:=by
   intro l
   induction l with
   | nil=>simp
   | cons k l ih=>
    simp only[List.filter_cons]
    cases hk:q k with
    | true=>simp[hqp k hk];exact ih
    | false=>
     simp only[Bool.false_eq_true,if_false]
     split
     · simp;omega
     · exact ih
  by_cases e:i=j
  · subst e;simp only[List.filter_cons,hp,hq,if_true,Bool.false_eq_true,if_false,List.length_cons];have:=le l;omega
  · have ih:=zHp hp hq hqp l ((List.mem_cons.1 h).resolve_left e);simp only[List.filter_cons]
    cases hk:q j with
    | true=>simp[hqp j hk];exact ih
    | false=>
     simp only[Bool.false_eq_true,if_false]
     split
     · simp;omega
     · exact ih
theorem zQ0 (hop:OpOk P E fd call w0 X Y0 fix) (hfix:fix.map (·.1)=fixedGo fd.sig.params 0) {Q:Exit→Act→World→Prop}{xs:List (Option Eff)}{s0:St}
  (hf:∀ m<ops.size,∃ o x,ops[m]?=some o∧xs[m]?=some x∧outO E fd call ops (pre ops xs s0 (fun _=>true) m) o=some x)
  (hd:∀ j<ops.size,∀ i<j,i∈(ancGo ops.toList []).getD j []∨Indep ops xs i j) (hb:∀ (k:Nat) (o:Oper),ops[k]?=some o→∀ j∈plainOn o,j<k)
  (hQ:∀ ρ col a w,Inv w0 X Y0 fix (pre ops xs s0 (fun _=>true) ops.size) ρ col a w→Q .normal a w):
  ∀ (fuel:Nat) (listed:Array Bool) (ρ:Locs) (col:Col) (a:Act) (w:World),listed.size=ops.size→((List.range ops.size).filter fun j=>!listed.getD j false).length≤fuel →
   (∀ j o,listed.getD j false=true→ops[j]?=some o→∀ k∈plainOn o,listed.getD k false=true)→Inv w0 X Y0 fix (pre ops xs s0 (fun j=>listed.getD j false) ops.size) ρ col a w →
   wpAny P .any ops Q fuel listed a w:=by
 have plain:∀ {o:Oper}{listed:Array Bool},(∀ e∈o.after,Region.binds .any e=true→listed.getD e.on false=true)↔∀ k∈plainOn o,listed.getD k false=true:=by
  intro o listed;simp only[plainOn,List.mem_map,List.mem_filter]
  constructor
  · rintro h k ⟨e,⟨h1,h2⟩,rfl⟩;exact h e (Array.mem_toList_iff.1 h1) h2
  · intro h e h1 h2;exact h e.on ⟨e,⟨Array.mem_toList_iff.2 h1,h2⟩,rfl⟩
 have unl:∀ {listed:Array Bool}{j:Nat},listed.size=ops.size→(listed.getD j true=false↔j<ops.size∧listed.getD j false=false):=by
  intro listed j hs
  by_cases h:j<listed.size
  · simp[Array.getD,h];omega
  · simp[Array.getD,h];omega
 have allIn:∀ {listed:Array Bool},listed.size=ops.size→Region.ready .any ops listed=[]→∀ j<ops.size,listed.getD j false=true:=by
  intro listed hs hr j
  induction j using Nat.strongRecOn with
  | ind j ih=>
   intro hj
   cases hl:listed.getD j false with
   | true=>rfl
   | false=>
    obtain⟨o,x,ho,_⟩:=hf j hj;have:j∈Region.ready .any ops listed:=mem_ready.2 ⟨(unl hs).2 ⟨hj,hl⟩,o,ho,plain.2 fun k hk=>ih k (hb j o ho k hk) (by have:=hb j o ho k hk;omega)⟩;rw[hr] at this;simp at this
 have fin:∀ {listed:Array Bool}{ρ:Locs}{col:Col}{a:Act}{w:World},listed.size=ops.size→Region.ready .any ops listed=[]→Inv w0 X Y0 fix (pre ops xs s0 (fun j=>listed.getD j false) ops.size) ρ col a w→Q .normal a w:=by
  intro listed ρ col a w hs hr h;rw[zGs ops.size (B:=fun _=>true) (fun j hj=>allIn hs hr j hj)] at h;exact hQ ρ col a w h
 intro fuel
 induction fuel with
 | zero=>
  intro listed ρ col a w hs hc hcl h;have hr:Region.ready .any ops listed=[]:=by
   cases hr:Region.ready .any ops listed with
   | nil=>rfl
   | cons i r=>
    have hi:i∈Region.ready .any ops listed:=by rw[hr];simp
    obtain⟨h1,_⟩:=mem_ready.1 hi;obtain⟨h2,h3⟩:=(unl hs).1 h1;have:i∈(List.range ops.size).filter fun j=>!listed.getD j false:=List.mem_filter.2 ⟨List.mem_range.2 h2,by simp[h3]⟩
    rw[List.eq_nil_of_length_eq_zero (Nat.le_zero.1 hc)] at this;simp at this
  exact⟨hr,fin hs hr h⟩
 | succ fuel ih=>
  intro listed ρ col a w hs hc hcl h;refine⟨fun hr=>fin hs hr h,fun i hi=>?_⟩;obtain⟨h1,o,ho,hall⟩:=mem_ready.1 hi;obtain⟨hin,hSi⟩:=(unl hs).1 h1;have hpl:=plain.1 hall;obtain⟨o',x,ho',hx,hout⟩:=hf i hin;rw[ho] at ho';simp only[Option.some.injEq] at ho';subst ho';have hgs:∀ j,(listed.setIfInBounds i true).getD j false=(listed.getD j false||j==i):=by
   intro j
   by_cases e:i=j
   · subst e;simp[Array.getD_eq_getD_getElem?,Array.getElem?_setIfInBounds,hs,hin]
   · have:(j==i)=false:=by simp;omega
     rw[this,Bool.or_false,getD_set_ne false e]
  have hcl':∀ j p,(listed.setIfInBounds i true).getD j false=true→ops[j]?=some p→∀ k∈plainOn p,(listed.setIfInBounds i true).getD k false=true:=by
   intro j p hj hp k hk;rw[hgs] at hj ⊢;simp only[Bool.or_eq_true,beq_iff_eq] at hj ⊢
   rcases hj with hj | rfl
   · exact .inl (hcl j p hj hp k hk)
   · rw[ho] at hp;simp only[Option.some.injEq] at hp;subst hp;exact .inl (hpl k hk)
  have hlow:∀ j<i,listed.getD j false=false→Indep ops xs j i:=by
   intro j hj hlj
   rcases hd i hin j hj with hanc | hI
   · have:=zJq (S:=fun j=>(listed.setIfInBounds i true).getD j false) hcl' ops.toList [] [] (by simp) rfl (fun j _ i hi=>by simp at hi) i (by rw[hgs];simp) j hanc;rw[hgs,hlj] at this;simp only[Bool.false_or,beq_iff_eq] at this;omega
   · exact hI
  have hhigh:∀ j,i<j→listed.getD j false=true→j<ops.size→Indep ops xs i j:=by
   intro j hj hlj hjn
   rcases hd j hjn i hj with hanc | hI
   · have:=zJq (S:=fun j=>listed.getD j false) hcl ops.toList [] [] (by simp) rfl (fun j _ i hi=>by simp at hi) j hlj i hanc;rw[hSi] at this;simp at this
   · exact hI
  have hpre:pre ops xs s0 (fun _=>true) i=pre ops xs s0 (fun j=>decide (j<i)) ops.size:=by
   rw[zJR (A:=fun j=>decide (j<i)) (i:=i) ops.size (by omega) (fun j hj=>by simp;omega)];exact zGs i (fun j hj=>by simp[hj])
  have hdiff:∀ j<ops.size,(fun j=>listed.getD j false) j≠(fun j=>decide (j<i)) j→(j<i∧listed.getD j false=false)∨(i<j∧listed.getD j false=true):=by
   intro j hj hne;simp only at hne
   by_cases e:j<i
   · left;refine⟨e,?_⟩
     cases hl:listed.getD j false with
     | false=>rfl
     | true=>exact absurd (by rw[hl];simp[e]) hne
   · right;have hne':j≠i:=by
      intro e2;subst e2;exact hne (by rw[hSi];simp)
     refine⟨by omega,?_⟩
     cases hl:listed.getD j false with
     | true=>rfl
     | false=>exact absurd (by rw[hl];simp[e]) hne
  have hob:∀ id,(id∈(logO x).1∨id∈(logO x).2)→(pre ops xs s0 (fun j=>listed.getD j false) ops.size).ob id=(pre ops xs s0 (fun _=>true) i).ob id:=by
   intro id hid;rw[hpre];refine zSn ops.size (fun j hj hne y hy hmem=>?_);obtain⟨p,y',hp,hy',_⟩:=hf j hj
   rcases hdiff j hj hne with ⟨e,hl⟩ | ⟨e,hl⟩
   · obtain⟨_,_,g3,g4⟩:=hlow j e hl p o y x hp ho hy hx
     rcases hid with hid | hid
     · exact (g3 id hmem).1 hid
     · exact (g3 id hmem).2 hid
   · obtain⟨_,_,g3,g4⟩:=hhigh j e hl hj o p x y ho hp hx hy
     rcases hid with hid | hid
     · exact g4 id hmem hid
     · exact (g3 id hid).2 hmem
  have hout':outO E fd call ops (pre ops xs s0 (fun j=>listed.getD j false) ops.size) o=some x:=by
   refine zOL hout (fun t ht=>?_) (fun id hid=>hob id (.inl hid)) (fun e he id hid=>?_)
   · rw[hpre];refine zSm ops.size (fun j hj hne p hp hdst=>?_);obtain⟨p',y,hp',hy,_⟩:=hf j hj
     rcases hdiff j hj hne with ⟨e,hl⟩ | ⟨e,hl⟩
     · exact ((hlow j e hl p o y x hp ho hy hx).1 t hdst).1 ht
     · exact (hhigh j e hl hj o p x y ho hp hx hy).2.1 t hdst ht
   · subst he;rw[hob id (.inr (by simp only[logO,List.mem_append];exact .inr hid))];unfold outO at hout
     split at hout
     · split at hout
       · rw[Option.map_eq_some_iff] at hout;obtain⟨e',h2,h3⟩:=hout;simp only[Option.some.injEq] at h3;subst h3;exact (jL (zKS h2)).2 id hid
       · simp at hout
       · simp at hout
     · simp at hout
  refine zIe hop hfix h ho hout' (fun ρ' col' a' w' h'=>?_)
  refine ih (listed.setIfInBounds i true) ρ' col' a' w' (by simpa using hs) ?_ hcl' ?_
  · have:((List.range ops.size).filter fun j=>!(listed.setIfInBounds i true).getD j false).length<((List.range ops.size).filter fun j=>!listed.getD j false).length:=by
     refine zHp (i:=i) (by rw[hSi];rfl) (by rw[hgs];simp) (fun j hj=>?_) _ (List.mem_range.2 hin);rw[hgs] at hj;simp only[Bool.not_or,Bool.and_eq_true] at hj;exact hj.1
    omega
  · have hB:∀ j,j≠i→(listed.setIfInBounds i true).getD j false=listed.getD j false:=by
     intro j hj;rw[hgs];have:(j==i)=false:=by simp;omega
     rw[this,Bool.or_false]
    have hBi:(listed.setIfInBounds i true).getD i false=true:=by
     rw[hgs];simp
    have hI:∀ j,i<j→listed.getD j false=true→Indep ops xs i j:=by
     intro j hj hlj
     by_cases hjn:j<ops.size
     · exact hhigh j hj hlj hjn
     · intro o p x y h1 h2;rw[Array.getElem?_eq_none (by omega)] at h2;simp at h2
    have e:=zIc (s0:=s0) (A:=fun j=>listed.getD j false) (B:=fun j=>(listed.setIfInBounds i true).getD j false) ho hx hSi hBi hB hI ops.size hin;rw[e];exact h'
end
end Go.Ev
namespace Go.Ev
def Obj.own:Obj→Bool
 | .row .own _ _=>true
 | .box .own _=>true
 | .dead=>true
 | _=>false
def Obj.mine:Obj→Bool
 | .row m _ _=>m.mine
 | .box m _=>m.mine
 | .dead=>false
inductive Moves (ob':Objs) (ρ ρ':Locs):Obj→Obj→Prop where
 | row {m0 m:Mode}{t:Ty}{xs:List t.den}(h:m0.le m=true):Moves ob' ρ ρ' (.row m0 t xs) (.row m t xs)
 | box {m0 m:Mode}{x0 x:W}(h:m0.le m=true) (hw:wfW ob' ρ' x) (hc:wcells ρ' x=wcells ρ x0):Moves ob' ρ ρ' (.box m0 x0) (.box m x)
 | dead {x:Obj}:Moves ob' ρ ρ' x .dead
theorem Elems.flat {w:World}{own own':Bool}{okE okE':Nat→Nat→Prop}{t:Ty}{xs:List t.den}{addr:Option Addr}(hf:t.flat=true) (h:Elems w own okE t xs addr):Elems w own' okE' t xs addr:=by
 intro i x hx;obtain⟨ys,g1,g2⟩:=h i x hx;exact⟨ys,g1.flat hf w own' (okE' i),g2⟩
theorem ObjRel.move {ob ob':Objs}{ρ ρ':Locs}{col col':Col}{Y Y':Nat→Prop}{w:World}{o i:Nat}{x x':Obj}(h:ObjRel ob ρ col Y w o x) (hm:Moves ob' ρ ρ' x x') (hρ:ρ' i=ρ o)
  (hA:x'.mine=true→∀ b,col b=some (o,0)→col' b=some (i,0))
  (hB:∀ (t:Ty) (xs:List t.den),x'=.row .own t xs→t.flat=false→∀ b k,col b=some (o,k+1)→col' b=some (i,k+1))
  (hC:x'.own=false→∀ b,RO col Y b→RO col' Y' b)
  (hD:x'.own=false→∀ b k,col b=some (o,k+1)→RO col' Y' b)
  (hE:x.mine=true→x'.own=false→x'.mine=false→∀ b,col b=some (o,0)→RO col' Y' b):ObjRel ob' ρ' col' Y' w i x':=by
 cases hm with
 | dead=>trivial
 | @box m0 m x0 x hle hw hc=>
  obtain⟨b,h1,h2,h3,h4,h5,h6,h7⟩:=h
  refine⟨b,by rw[hρ];exact h1,h2,hw,by rw[hρ,hc];exact h4,by rw[hc];exact h5,?_,fun hmm=>?_⟩
  · cases m with
    | own=>cases m0<;>first | exact hA rfl b h6 | simp[Mode.le] at hle
    | sh=>cases m0<;>first | exact hA rfl b h6 | simp[Mode.le] at hle
    | ro=>cases m0 with
     | own=>exact hE rfl rfl rfl b h6
     | sh=>exact hE rfl rfl rfl b h6
     | ro=>exact hC rfl b h6
  · rw[hρ];refine h7 ?_
    cases m<;>cases m0<;>simp_all [Mode.le,Mode.mine]
 | @row m0 m t xs hle=>
  obtain⟨h1,h2,h3⟩:=h;have hmine:m.mine=true→m0.mine=true:=by cases m<;>cases m0<;>simp_all [Mode.le,Mode.mine]
  refine⟨by rw[hρ];exact h1,?_,?_⟩
  · rw[hρ];refine h2.frame hmine (Nat.le_refl _) (fun b hb hok=>⟨?_,rfl⟩)
    cases m with
    | own=>cases m0<;>first | exact hA rfl b hok | simp[Mode.le] at hle
    | sh=>cases m0<;>first | exact hA rfl b hok | simp[Mode.le] at hle
    | ro=>cases m0 with
     | own=>exact hE rfl rfl rfl b hok
     | sh=>exact hE rfl rfl rfl b hok
     | ro=>exact hC rfl b hok
  · rw[hρ]
    cases m with
    | own=>
     have:m0=.own:=by cases m0<;>simp_all [Mode.le]
     subst this
     cases hf:t.flat with
     | true=>exact h3.flat hf
     | false=>exact h3.frame id (Nat.le_refl _) (fun k _ b _ hok=>⟨hB t xs rfl hf b k hok,rfl⟩) (fun _ _ _=>rfl)
    | sh=>
     refine h3.frame (by cases m0<;>simp[Mode.deep]) (Nat.le_refl _) (fun k _ b _ hok=>⟨?_,rfl⟩) (fun _ _ _=>rfl)
     cases m0 with
     | own=>exact hD rfl b k hok
     | sh=>exact hC rfl b hok
     | ro=>exact hC rfl b hok
    | ro=>
     refine h3.frame (by cases m0<;>simp[Mode.deep]) (Nat.le_refl _) (fun k _ b _ hok=>⟨?_,rfl⟩) (fun _ _ _=>rfl)
     cases m0 with
     | own=>exact hD rfl b k hok
     | sh=>exact hC rfl b hok
     | ro=>exact hC rfl b hok
theorem ObjRel.moveBox {ob ob':Objs}{ρ ρ':Locs}{col col':Col}{Y Y':Nat→Prop}{w:World}{o i:Nat}{x0 x:W}(h:ObjRel ob ρ col Y w o (.box .own x0)) (hw:wfW ob' ρ' x) (hc:wcells ρ' x=wcells ρ x0)
  (hρ:(ρ' i).addr=(ρ o).addr) (hl:(ρ' i).len=(ρ o).len) (hA:∀ b,col b=some (o,0)→col' b=some (i,0)):ObjRel ob' ρ' col' Y' w i (.box .own x):=by
 obtain⟨b,h1,h2,h3,h4,h5,h6,h7⟩:=h;exact⟨b,by rw[hρ];exact h1,h2,hw,by rw[hl,hc];exact h4,by rw[hc];exact h5,hA b h6,fun hm=>by rw[hl];exact h7 hm⟩
theorem ObjRel.nil {ob:Objs}{ρ:Locs}{col:Col}{Y:Nat→Prop}{w:World}{i:Nat}{m:Mode}{t:Ty}(hρ:ρ i=⟨none,0,0⟩):ObjRel ob ρ col Y w i (.row m t []):=by
 refine⟨by rw[hρ];rfl,?_,fun k x hx=>by simp at hx⟩;rw[hρ];exact⟨Nat.le_refl _,fun _=>⟨rfl,fun _=>rfl⟩,fun a h=>by simp at h⟩
abbrev Names:=Nat→Option (Option Nat)
def Names.loc (β:Names) (ρ:Locs):Locs:=fun i=>match β i with
 | some (some o)=>ρ o
 | _=>⟨none,0,0⟩
def RelC (β:Names):C→C→Prop
 | .int k n,c=>c=.int k n
 | .bool b,c=>c=.bool b
 | .nil,c=>∃ i,c=.sl i∧β i=some none
 | .sl o,c=>∃ i,c=.sl i∧β i=some (some o)
 | .ptr o i es j,c=>i=0∧es=0∧j=0∧∃ n,c=.ptr n 0 0 0∧β n=some (some o)
def RelCs (β:Names):List C→List C→Prop
 | [],[]=>True
 | c::cs,d::ds=>RelC β c d∧RelCs β cs ds
 | _,_=>False
def RelW (β:Names):W→W→Prop
 | .c c,w=>∃ d,w=.c d∧RelC β c d
 | .arr k m xs,w=>w=.arr k m xs
 | .barr m xs,w=>w=.barr m xs
 | .st cs,w=>∃ ds,w=.st ds∧RelCs β cs ds
def RelWs (β:Names):List W→List W→Prop
 | [],[]=>True
 | c::cs,d::ds=>RelW β c d∧RelWs β cs ds
 | _,_=>False
section
variable {β:Names}{ob ob':Objs}{ρ ρ':Locs}(hρ:∀ i,β i≠none→ρ' i=β.loc ρ i) (hob:∀ i,β i≠none→ob' i≠none)
include hρ hob
theorem RelC.val {c d:C}(h:RelC β c d) (hw:wfC ob ρ c):wfC ob' ρ' d∧cval ρ' d=cval ρ c:=by
 cases c with
 | int k n=>simp only[RelC] at h;subst h;exact⟨trivial,rfl⟩
 | bool b=>simp only[RelC] at h;subst h;exact⟨trivial,rfl⟩
 | nil=>
  obtain⟨i,rfl,hi⟩:=h;have hi':β i≠none:=by rw[hi];simp
  exact⟨hob i hi',by simp only[cval,hρ i hi',Names.loc,hi]⟩
 | sl o=>
  obtain⟨i,rfl,hi⟩:=h;have hi':β i≠none:=by rw[hi];simp
  exact⟨hob i hi',by simp only[cval,hρ i hi',Names.loc,hi]⟩
 | ptr o i es j=>
  obtain⟨rfl,rfl,rfl,n,rfl,hn⟩:=h;have hn':β n≠none:=by rw[hn];simp
  have this:=hob n hn';have e:ρ' n=ρ o:=by rw[hρ n hn'];simp only[Names.loc,hn]
  obtain⟨h1,h2,h3⟩:=hw;exact⟨⟨this,by rw[e];exact h2,by rw[e];exact h3⟩,by simp only[cval,e]⟩
theorem RelCs.val:∀ {cs ds:List C},RelCs β cs ds→(∀ c∈cs,wfC ob ρ c)→(∀ d∈ds,wfC ob' ρ' d)∧ds.map (cval ρ')=cs.map (cval ρ)
 | [],[],_,_=>⟨fun d hd=>by simp at hd,rfl⟩
 | c::cs,d::ds,h,hw=>by
  obtain⟨h1,h2⟩:=h;obtain⟨g1,g2⟩:=RelC.val hρ hob h1 (hw c (by simp));obtain⟨k1,k2⟩:=RelCs.val h2 (fun c hc=>hw c (by simp[hc]));refine⟨fun e he=>?_,by simp[g2,k2]⟩
  rcases List.mem_cons.1 he with rfl | he
  · exact g1
  · exact k1 e he
 | [],_::_,h,_=>h.elim
 | _::_,[],h,_=>h.elim
theorem RelW.val {x y:W}(h:RelW β x y) (hw:wfW ob ρ x):wfW ob' ρ' y∧wcells ρ' y=wcells ρ x∧wval ρ' y=wval ρ x:=by
 cases x with
 | c c=>
  obtain⟨d,rfl,hd⟩:=h;obtain⟨g1,g2⟩:=RelC.val hρ hob hd hw;exact⟨g1,by simp only[wcells,g2],by simp only[wval,g2]⟩
 | arr k m xs=>simp only[RelW] at h;subst h;exact⟨hw,rfl,rfl⟩
 | barr m xs=>simp only[RelW] at h;subst h;exact⟨hw,rfl,rfl⟩
 | st cs=>
  obtain⟨ds,rfl,hd⟩:=h;obtain⟨g1,g2⟩:=RelCs.val hρ hob hd hw;exact⟨g1,by simp only[wcells,g2],by simp only[wval,wcells,g2]⟩
theorem RelWs.val:∀ {xs ys:List W},RelWs β xs ys→(∀ x∈xs,wfW ob ρ x)→(∀ y∈ys,wfW ob' ρ' y)∧ys.map (wval ρ')=xs.map (wval ρ)
 | [],[],_,_=>⟨fun d hd=>by simp at hd,rfl⟩
 | c::cs,d::ds,h,hw=>by
  obtain⟨h1,h2⟩:=h;obtain⟨g1,_,g2⟩:=RelW.val hρ hob h1 (hw c (by simp));obtain⟨k1,k2⟩:=RelWs.val h2 (fun c hc=>hw c (by simp[hc]));refine⟨fun e he=>?_,by simp[g2,k2]⟩
  rcases List.mem_cons.1 he with rfl | he
  · exact g1
  · exact k1 e he
 | [],_::_,h,_=>h.elim
 | _::_,[],h,_=>h.elim
end
end Go.Ev
namespace Go.Ev
theorem zd {t:Ty}{x:t.den}{l r:List TV}:getTV t (l++[⟨t,x⟩]++r) l.length=x:=by
 unfold getTV;have:(l++[⟨t,x⟩]++r)[l.length]?=some (⟨t,x⟩:TV):=by simp
 rw[this];simp
def Ext (b b':Bind):Prop:=∀ i x,b.lookup i=some x→b'.lookup i=some x
theorem Ext.refl (b:Bind):Ext b b:=fun _ _ h=>h
theorem Ext.trans {a b c:Bind}(h:Ext a b) (g:Ext b c):Ext a c:=fun i x hx=>g i x (h i x hx)
theorem zEb {b b':Bind}{i:Nat}{o:Option Nat}(h:bindTo b i o=some b'):Ext b b'∧b'.lookup i=some o:=by
 unfold bindTo at h
 split at h
 · rename_i hl;simp only[Option.some.injEq] at h;subst h;refine⟨fun j x hj=>?_,by simp⟩
   by_cases e:j=i
   · subst e;rw[hl] at hj;simp at hj
   · rw[List.lookup_cons];have:(j==i)=false:=by simpa using e
     rw[this];exact hj
 · rename_i o' hl
   split at h
   · rename_i e;simp only[Option.some.injEq] at h;subst h;exact⟨Ext.refl _,by rw[hl,e]⟩
   · simp at h
def Bind.names (b:Bind):Names:=fun i=>b.lookup i
theorem CS.fit_spec {s:CS}{c:C}{b b':Bind}{xs:List TV}(h:s.fit c b=some (xs,b')):
  Ext b b'∧∀ bf,Ext b' bf→∀ l r,∃ c',s.build (l++xs++r) l.length=(c',l.length+xs.length)∧RelC bf.names c c':=by
 cases s with
 | int k=>
  cases c<;>simp only[CS.fit] at h<;>try (simp at h;done)
  split at h
  · rename_i hk;subst hk;simp only[Option.some.injEq,Prod.mk.injEq] at h;obtain⟨rfl,rfl⟩:=h;exact⟨Ext.refl _,fun bf _ l r=>⟨_,by simp only[CS.build,zd];rfl,rfl⟩⟩
  · simp at h
 | bool=>
  cases c<;>simp only[CS.fit] at h<;>try (simp at h;done)
  simp only[Option.some.injEq,Prod.mk.injEq] at h;obtain⟨rfl,rfl⟩:=h;exact⟨Ext.refl _,fun bf _ l r=>⟨_,by simp only[CS.build,zd];rfl,rfl⟩⟩
 | sl i=>
  cases c with
  | sl o=>
   simp only[CS.fit,Option.map_eq_some_iff] at h;obtain⟨b1,hb,h⟩:=h;simp only[Prod.mk.injEq] at h;obtain⟨rfl,rfl⟩:=h;obtain⟨g1,g2⟩:=zEb hb;exact⟨g1,fun bf hbf l r=>⟨_,rfl,i,rfl,hbf _ _ g2⟩⟩
  | nil=>
   simp only[CS.fit,Option.map_eq_some_iff] at h;obtain⟨b1,hb,h⟩:=h;simp only[Prod.mk.injEq] at h;obtain⟨rfl,rfl⟩:=h;obtain⟨g1,g2⟩:=zEb hb;exact⟨g1,fun bf hbf l r=>⟨_,rfl,i,rfl,hbf _ _ g2⟩⟩
  | _=>simp[CS.fit] at h
 | ptr i=>
  cases c with
  | ptr o n es j=>
   match n,es,j,h with
   | 0,0,0,h=>
    simp only[CS.fit,Option.map_eq_some_iff] at h;obtain⟨b1,hb,h⟩:=h;simp only[Prod.mk.injEq] at h;obtain⟨rfl,rfl⟩:=h;obtain⟨g1,g2⟩:=zEb hb;exact⟨g1,fun bf hbf l r=>⟨_,rfl,rfl,rfl,rfl,i,rfl,hbf _ _ g2⟩⟩
   | n+1,_,_,h=>simp[CS.fit] at h
   | 0,es+1,_,h=>simp[CS.fit] at h
   | 0,0,j+1,h=>simp[CS.fit] at h
  | _=>simp[CS.fit] at h
theorem zIq:∀ {ss:List CS}{cs:List C}{b b':Bind}{xs:List TV},fitCs ss cs b=some (xs,b') →
  Ext b b'∧∀ bf,Ext b' bf→∀ l r,∃ ds,buildCs (l++xs++r) ss l.length=(ds,l.length+xs.length)∧RelCs bf.names cs ds
 | [],[],b,b',xs,h=>by
  simp only[fitCs,Option.some.injEq,Prod.mk.injEq] at h;obtain⟨rfl,rfl⟩:=h;exact⟨Ext.refl _,fun bf _ l r=>⟨[],rfl,trivial⟩⟩
 | [],_::_,b,b',xs,h=>by simp[fitCs] at h
 | _::_,[],b,b',xs,h=>by simp[fitCs] at h
 | s::ss,c::cs,b,b',xs,h=>by
  simp only[fitCs] at h
  split at h
  · rename_i x b1 h1
    split at h
    · rename_i y b2 h2;simp only[Option.some.injEq,Prod.mk.injEq] at h;obtain⟨rfl,rfl⟩:=h;obtain⟨e1,f1⟩:=CS.fit_spec h1;obtain⟨e2,f2⟩:=zIq h2;refine⟨e1.trans e2,fun bf hbf l r=>?_⟩;obtain⟨c',k1,k2⟩:=f1 bf (e2.trans hbf) l (y++r);obtain⟨ds,m1,m2⟩:=f2 bf hbf (l++x) r;refine⟨c'::ds,?_,k2,m2⟩;have e:l++(x++y)++r=l++x++(y++r):=by simp
      have e':l++(x++y)++r=l++x++y++r:=by simp
      simp only[buildCs];rw[show CS.build (l++(x++y)++r) s l.length=(c',l.length+x.length) from by rw[e];exact k1];simp only;rw[show buildCs (l++(x++y)++r) ss (l.length+x.length)=(ds,(l++x).length+y.length) from by rw[e',← List.length_append];exact m1];simp[Nat.add_assoc]
    · simp at h
  · simp at h
theorem WS.fit_spec {s:WS}{x:W}{b b':Bind}{xs:List TV}(h:s.fit x b=some (xs,b')):
  Ext b b'∧∀ bf,Ext b' bf→∀ l r,∃ y,s.build (l++xs++r) l.length=(y,l.length+xs.length)∧RelW bf.names x y:=by
 cases s with
 | c s=>
  cases x<;>simp only[WS.fit] at h<;>try (simp at h;done)
  obtain⟨e,f⟩:=CS.fit_spec h;refine⟨e,fun bf hbf l r=>?_⟩;obtain⟨c',k1,k2⟩:=f bf hbf l r;exact⟨.c c',by simp only[WS.build,k1],c',rfl,k2⟩
 | arr k m=>
  cases x<;>simp only[WS.fit] at h<;>try (simp at h;done)
  split at h
  · rename_i hk;obtain⟨rfl,rfl⟩:=hk;simp only[Option.some.injEq,Prod.mk.injEq] at h;obtain⟨rfl,rfl⟩:=h;exact⟨Ext.refl _,fun bf _ l r=>⟨_,by simp only[WS.build,zd];rfl,rfl⟩⟩
  · simp at h
 | barr m=>
  cases x<;>simp only[WS.fit] at h<;>try (simp at h;done)
  split at h
  · rename_i hk;subst hk;simp only[Option.some.injEq,Prod.mk.injEq] at h;obtain⟨rfl,rfl⟩:=h;exact⟨Ext.refl _,fun bf _ l r=>⟨_,by simp only[WS.build,zd];rfl,rfl⟩⟩
  · simp at h
 | st ss=>
  cases x<;>simp only[WS.fit] at h<;>try (simp at h;done)
  obtain⟨e,f⟩:=zIq h;refine⟨e,fun bf hbf l r=>?_⟩;obtain⟨c',k1,k2⟩:=f bf hbf l r;exact⟨.st c',by simp only[WS.build,k1],c',rfl,k2⟩
theorem zIn:∀ {ss:List WS}{cs:List W}{b b':Bind}{xs:List TV},fitWs ss cs b=some (xs,b') →
  Ext b b'∧∀ bf,Ext b' bf→∀ l r,∃ ds,buildWs (l++xs++r) ss l.length=(ds,l.length+xs.length)∧RelWs bf.names cs ds
 | [],[],b,b',xs,h=>by
  simp only[fitWs,Option.some.injEq,Prod.mk.injEq] at h;obtain⟨rfl,rfl⟩:=h;exact⟨Ext.refl _,fun bf _ l r=>⟨[],rfl,trivial⟩⟩
 | [],_::_,b,b',xs,h=>by simp[fitWs] at h
 | _::_,[],b,b',xs,h=>by simp[fitWs] at h
 | s::ss,c::cs,b,b',xs,h=>by
  simp only[fitWs] at h
  split at h
  · rename_i x b1 h1
    split at h
    · rename_i y b2 h2;simp only[Option.some.injEq,Prod.mk.injEq] at h;obtain⟨rfl,rfl⟩:=h;obtain⟨e1,f1⟩:=WS.fit_spec h1;obtain⟨e2,f2⟩:=zIn h2;refine⟨e1.trans e2,fun bf hbf l r=>?_⟩;obtain⟨c',k1,k2⟩:=f1 bf (e2.trans hbf) l (y++r);obtain⟨ds,m1,m2⟩:=f2 bf hbf (l++x) r;refine⟨c'::ds,?_,k2,m2⟩;have e:l++(x++y)++r=l++x++(y++r):=by simp
      have e':l++(x++y)++r=l++x++y++r:=by simp
      simp only[buildWs];rw[show WS.build (l++(x++y)++r) s l.length=(c',l.length+x.length) from by rw[e];exact k1];simp only;rw[show buildWs (l++(x++y)++r) ss (l.length+x.length)=(ds,(l++x).length+y.length) from by rw[e',← List.length_append];exact m1];simp[Nat.add_assoc]
    · simp at h
  · simp at h
def RelV (β:Names):V→V→Prop
 | .w x,v=>∃ y,v=.w y∧RelW β x y
 | .fn f ws,v=>∃ ys,v=.fn f ys∧RelWs β ws ys
 | _,_=>False
theorem VS.fit_spec {s:VS}{x:V}{b b':Bind}{xs:List TV}(h:s.fit x b=some (xs,b')):
  Ext b b'∧∀ bf,Ext b' bf→∀ l r,∃ y,s.build (l++xs++r) l.length=(y,l.length+xs.length)∧RelV bf.names x y:=by
 cases s with
 | w s=>
  cases x<;>simp only[VS.fit] at h<;>try (simp at h;done)
  obtain⟨e,f⟩:=WS.fit_spec h;refine⟨e,fun bf hbf l r=>?_⟩;obtain⟨c',k1,k2⟩:=f bf hbf l r;exact⟨.w c',by simp only[VS.build,k1],c',rfl,k2⟩
 | fn f ss=>
  cases x<;>simp only[VS.fit] at h<;>try (simp at h;done)
  split at h
  · rename_i hg;subst hg;obtain⟨e,f⟩:=zIn h;refine⟨e,fun bf hbf l r=>?_⟩;obtain⟨c',k1,k2⟩:=f bf hbf l r;exact⟨.fn _ c',by simp only[VS.build,k1],c',rfl,k2⟩
  · simp at h
theorem zIo {tm:List V}{n:Nat}:∀ {ss:List (Nat×VS)}{b b':Bind}{xs:List TV},fitVs tm ss b=some (xs,b') →
  Ext b b'∧∀ bf,Ext b' bf→∀ l r (tn:List V),tn.length=n→(∀ i v,tn[i]?=some v→v=.undef∨RelV bf.names (tm.getD i .undef) v) →
   (buildVs (l++xs++r) ss l.length tn).length=n∧∀ i v,(buildVs (l++xs++r) ss l.length tn)[i]?=some v→v=.undef∨RelV bf.names (tm.getD i .undef) v
 | [],b,b',xs,h=>by
  simp only[fitVs,Option.some.injEq,Prod.mk.injEq] at h;obtain⟨rfl,rfl⟩:=h;exact⟨Ext.refl _,fun bf _ l r tn h1 h2=>⟨h1,h2⟩⟩
 | (t,s)::ss,b,b',xs,h=>by
  simp only[fitVs] at h
  split at h
  · rename_i x b1 h1
    split at h
    · rename_i y b2 h2;simp only[Option.some.injEq,Prod.mk.injEq] at h;obtain⟨rfl,rfl⟩:=h;obtain⟨e1,f1⟩:=VS.fit_spec h1;obtain⟨e2,f2⟩:=zIo (n:=n) h2;refine⟨e1.trans e2,fun bf hbf l r tn g1 g2=>?_⟩;obtain⟨c',k1,k2⟩:=f1 bf (e2.trans hbf) l (y++r);have e:l++(x++y)++r=l++x++(y++r):=by simp
      have e':l++(x++y)++r=l++x++y++r:=by simp
      have:=f2 bf hbf (l++x) r (tn.set t c') (by simpa using g1) (fun i v hi=>by
       rw[List.getElem?_set] at hi
       split at hi
       · rename_i hti;subst hti
         split at hi
         · simp only[Option.some.injEq] at hi;subst hi;exact .inr k2
         · simp at hi
       · exact g2 i v hi)
      simp only[buildVs];rw[show VS.build (l++(x++y)++r) s l.length=(c',l.length+x.length) from by rw[e];exact k1];simp only;rw[e',← List.length_append];exact this
    · simp at h
  · simp at h
def ObjFit (ob:Objs) (β:Names) (i:Nat):OS→Obj→Prop
 | .row m t,y=>(β i=some none∧y=.row m t [])∨∃ o m' xs,β i=some (some o)∧ob o=some (.row m' t xs)∧m'.le m=true∧y=.row m t xs
 | .box m _,y=>∃ o m' x0 x,β i=some (some o)∧ob o=some (.box m' x0)∧m'.le m=true∧RelW β x0 x∧y=.box m x
theorem OS.fit_spec {ob:Objs}{i:Nat}{s:OS}{b b':Bind}{xs:List TV}(h:s.fit ob i b=some (xs,b')):
  Ext b b'∧∀ bf,Ext b' bf→∀ l r,∃ y,s.build (l++xs++r) l.length=(y,l.length+xs.length)∧ObjFit ob bf.names i s y:=by
 cases s with
 | row m t=>
  simp only[OS.fit] at h
  split at h
  · rename_i o hl
    split at h
    · rename_i m' ys hr
      split at h
      · rename_i hle;simp only[Option.some.injEq,Prod.mk.injEq] at h;obtain⟨rfl,rfl⟩:=h;refine⟨Ext.refl _,fun bf hbf l r=>⟨_,?_,.inr ⟨o,m',ys,hbf _ _ hl,zX hr,hle,rfl⟩⟩⟩;simp only[OS.build];rw[show getTV (.slice t) (l++[⟨.slice t,ys⟩]++r) l.length=ys from zd (t:=.slice t)]
        rfl
      · simp at h
    · simp at h
  · rename_i hl;simp only[Option.some.injEq,Prod.mk.injEq] at h;obtain⟨rfl,rfl⟩:=h;refine⟨Ext.refl _,fun bf hbf l r=>⟨_,?_,.inl ⟨hbf _ _ hl,rfl⟩⟩⟩;simp only[OS.build];rw[show getTV (.slice t) (l++[⟨.slice t,[]⟩]++r) l.length=[] from zd (t:=.slice t)]
    rfl
  · simp at h
 | box m s=>
  simp only[OS.fit] at h
  split at h
  · rename_i o hl
    split at h
    · rename_i m' x0 hb
      split at h
      · rename_i hle;obtain⟨e,f⟩:=WS.fit_spec h;refine⟨e,fun bf hbf l r=>?_⟩;obtain⟨c',k1,k2⟩:=f bf hbf l r;exact⟨.box m c',by simp only[OS.build,k1],o,m',x0,c',hbf _ _ (e _ _ hl),hb,hle,k2,rfl⟩
      · simp at h
    · simp at h
  · simp at h
theorem zIp {ob:Objs}:∀ {ss:List OS}{i:Nat}{b b':Bind}{xs:List TV},fitOs ob ss i b=some (xs,b') →
  Ext b b'∧∀ bf,Ext b' bf→∀ l r,∃ ys:List Obj,buildOs (l++xs++r) ss i l.length=((List.range' i ss.length).zip ys,l.length+xs.length)∧ys.length=ss.length ∧
   ∀ k s y,ss[k]?=some s→ys[k]?=some y→ObjFit ob bf.names (i+k) s y
 | [],i,b,b',xs,h=>by
  simp only[fitOs,Option.some.injEq,Prod.mk.injEq] at h;obtain⟨rfl,rfl⟩:=h;exact⟨Ext.refl _,fun bf _ l r=>⟨[],rfl,rfl,fun k s y h=>by simp at h⟩⟩
 | s::ss,i,b,b',xs,h=>by
  simp only[fitOs] at h
  split at h
  · rename_i x b1 h1
    split at h
    · rename_i y b2 h2;simp only[Option.some.injEq,Prod.mk.injEq] at h;obtain⟨rfl,rfl⟩:=h;obtain⟨e1,f1⟩:=OS.fit_spec h1;obtain⟨e2,f2⟩:=zIp h2;refine⟨e1.trans e2,fun bf hbf l r=>?_⟩;obtain⟨c',k1,k2⟩:=f1 bf (e2.trans hbf) l (y++r);obtain⟨ds,m1,m2,m3⟩:=f2 bf hbf (l++x) r
      refine⟨c'::ds,?_,by simp[m2],fun k s' z hs hz=>?_⟩
      · have e:l++(x++y)++r=l++x++(y++r):=by simp
        have e':l++(x++y)++r=l++x++y++r:=by simp
        simp only[buildOs];rw[show OS.build (l++(x++y)++r) s l.length=(c',l.length+x.length) from by rw[e];exact k1];simp only;rw[show buildOs (l++(x++y)++r) ss (i+1) (l.length+x.length)=((List.range' (i+1) ss.length).zip ds,(l++x).length+y.length) from by rw[e',← List.length_append];exact m1];simp[Nat.add_assoc,List.range'_succ]
      · cases k with
        | zero=>
         simp only[List.getElem?_cons_zero,Option.some.injEq] at hs hz;subst hs;subst hz;exact k2
        | succ k=>
         have:=m3 k s' z (by simpa using hs) (by simpa using hz);rwa [show i+1+k=i+(k+1) by omega] at this
    · simp at h
  · simp at h
theorem zMv:∀ (ys:List Obj) (i:Nat) (f:Objs) (k:Nat),(f.upds ((List.range' i ys.length).zip ys)) k=if i≤k∧k<i+ys.length then ys[k-i]? else f k
 | [],i,f,k=>by simp[Objs.upds];omega
 | y::ys,i,f,k=>by
  rw[List.length_cons,List.range'_succ,List.zip_cons_cons];simp only[Objs.upds];rw[zMv ys (i+1) _ k]
  by_cases e:k=i
  · subst e;rw[if_neg (by omega),if_pos (by omega)];simp[Objs.upd]
  · by_cases h:i+1≤k∧k<i+1+ys.length
    · rw[if_pos h,if_pos (by omega),show k-i=(k-(i+1))+1 by omega];simp
    · rw[if_neg h,if_neg (by omega)];simp[Objs.upd,e]
end Go.Ev
namespace Go.Ev
section
variable {w0:World}{X Y0:Nat→Prop}{fix:List (Nat×Value)}{s:St}{ρ:Locs}{col:Col}{a:Act}{w:World}
theorem zFM {f:Nat→Option Nat}{o:Nat}:∀ {l:List Nat},(l.filterMap f).Nodup→∀ {i j:Nat},i∈l→j∈l→f i=some o→f j=some o→i=j
 | [],_,i,j,hi,_,_,_=>by simp at hi
 | k::l,h,i,j,hi,hj,fi,fj=>by
  rw[List.filterMap_cons] at h
  rcases List.mem_cons.1 hi with rfl | hi'
  · rcases List.mem_cons.1 hj with rfl | hj'
    · rfl
    · rw[fi] at h;simp only[List.nodup_cons] at h;exact absurd (List.mem_filterMap.2 ⟨j,hj',fj⟩) h.1
  · rcases List.mem_cons.1 hj with rfl | hj'
    · rw[fj] at h;simp only[List.nodup_cons] at h;exact absurd (List.mem_filterMap.2 ⟨i,hi',fi⟩) h.1
    · refine zFM (l:=l) ?_ hi' hj' fi fj
      cases hk:f k with
      | none=>rw[hk] at h;exact h
      | some x=>rw[hk] at h;exact (List.nodup_cons.1 h).2
theorem RelV.rel {β:Names}{ob ob':Objs}{ρ ρ':Locs}(hρ:∀ i,β i≠none→ρ' i=β.loc ρ i) (hob:∀ i,β i≠none→ob' i≠none) {v v':V}{x:Value}(h:RelV β v v') (hv:VRel ob ρ v x):VRel ob' ρ' v' x:=by
 rcases hv with rfl | ⟨hw,rfl⟩
 · exact h.elim
 · cases v with
   | undef=>exact h.elim
   | tup vs=>exact h.elim
   | w y=>
    obtain⟨z,rfl,hz⟩:=h;obtain⟨g1,_,g2⟩:=RelW.val hρ hob hz hw;exact .inr ⟨g1,by simp only[vval,g2]⟩
   | fn f ws=>
    obtain⟨zs,rfl,hz⟩:=h;obtain⟨g1,g2⟩:=RelWs.val hρ hob hz hw;exact .inr ⟨g1,by simp only[vval,g2]⟩
theorem zDN (h:Inv w0 X Y0 fix s ρ col a w) {sh:Shape}{tvs:List TV}(hf:sh.fit s=some tvs) (l:List TV):
  ∃ ρ' col',Inv w0 X Y0 fix (sh.build s.tm.length (l++tvs) l.length) ρ' col' a w:=by
 unfold Shape.fit at hf
 split at hf
 · rename_i ys b hvs
   split at hf
   · rename_i xs b' hos
     split at hf
     · rename_i hc;simp only[Option.some.injEq] at hf;subst hf;simp only[Bool.and_eq_true,decide_eq_true_eq,List.all_eq_true] at hc;obtain⟨⟨hn,hap⟩,hlt⟩:=hc;obtain⟨e1,f1⟩:=zIo (n:=s.tm.length) hvs;obtain⟨e2,f2⟩:=zIp hos;obtain⟨os,k1,k2,k3⟩:=f2 b' (Ext.refl _) l ys;obtain⟨m1,m2⟩:=f1 b' e2 (l++xs) [] (List.replicate s.tm.length .undef) (by simp) (fun i v hi=>by
        rw[List.getElem?_replicate] at hi
        split at hi
        · simp only[Option.some.injEq] at hi;exact .inl hi.symm
        · simp at hi)
       have hbuild:sh.build s.tm.length (l++(xs++ys)) l.length=⟨buildVs (l++xs++ys++[]) sh.slots (l++xs).length (List.replicate s.tm.length .undef),Objs.none.upds ((List.range' 0 sh.objs.length).zip os)⟩:=by
        simp only[Shape.build];rw[show l++(xs++ys)=l++xs++ys by simp,k1];simp
       rw[hbuild];have hob:∀ k,(Objs.none.upds ((List.range' 0 sh.objs.length).zip os)) k=if k<sh.objs.length then os[k]? else none:=by
        intro k;rw[← k2,zMv os 0 _ k];simp[Objs.none]
       generalize Objs.none.upds ((List.range' 0 sh.objs.length).zip os)=ob' at hob;have hβ:∀ i x,b'.lookup i=some x→i<sh.objs.length:=by
        intro i x hx;have:∃ p∈b',p.1=i:=by
         have key:∀ b:Bind,b.lookup i=some x→∃ p∈b,p.1=i:=by
          intro b
          induction b with
          | nil=>intro h;simp at h
          | cons p b ih=>
           intro h;rw[List.lookup_cons] at h
           split at h
           · rename_i hp;exact⟨p,by simp,(beq_iff_eq.1 hp).symm⟩
           · obtain⟨q,hq,e⟩:=ih h;exact⟨q,by simp[hq],e⟩
         exact key b' hx
        obtain⟨p,hp,rfl⟩:=this;exact hlt p hp
       have hobn:∀ i,b'.names i≠none→ob' i≠none:=by
        intro i hi
        cases hx:b'.lookup i with
        | none=>exact absurd hx hi
        | some x=>
         have hil:=hβ i x hx;rw[hob i,if_pos hil,List.getElem?_eq_getElem (by omega)];simp
       have hobj:∀ i y,ob' i=some y→∃ sp,sh.objs[i]?=some sp∧ObjFit s.ob b'.names i sp y:=by
        intro i y hy;rw[hob] at hy
        split at hy
        · rename_i hil;refine⟨sh.objs[i],List.getElem?_eq_getElem hil,?_⟩;have:=k3 i _ y (List.getElem?_eq_getElem hil) hy;rwa [Nat.zero_add] at this
        · simp at hy
       let isMine:Nat→Bool:=fun i=>((sh.objs[i]?).map OS.mine).getD false
       let γ:Nat→Option Nat:=fun o=>(List.range sh.objs.length).find? fun i=>isMine i&&(b'.lookup i==some (some o))
       let col':Col:=fun q=>match col q with
        | some (o,c)=>(γ o).map fun i=>(i,c)
        | none=>none
       have hγ:∀ {o i},γ o=some i→isMine i=true∧b'.lookup i=some (some o)∧i<sh.objs.length:=by
        intro o i hi;have h1:=List.find?_some hi;have h2:=List.mem_of_find?_eq_some hi;simp only[Bool.and_eq_true,beq_iff_eq] at h1;exact⟨h1.1,h1.2,List.mem_range.1 h2⟩
       have hmine1:∀ {o i},isMine i=true→b'.lookup i=some (some o)→(fun i=>if ((sh.objs[i]?).map OS.mine).getD false then (b'.lookup i).getD none else none) i=some o:=by
        intro o i h1 h2;simp only[isMine] at h1;simp only[h1,if_true,h2,Option.getD_some]
       have hγ2:∀ {o i},isMine i=true→b'.lookup i=some (some o)→γ o=some i:=by
        intro o i h1 h2;have hil:=hβ i _ h2
        cases hg:γ o with
        | none=>
         have:=List.find?_eq_none.1 hg i (List.mem_range.2 hil);simp[h1,h2] at this
        | some j=>
         obtain⟨g1,g2,g3⟩:=hγ hg;have:=zFM hn (List.mem_range.2 g3) (List.mem_range.2 hil) (hmine1 g1 g2) (hmine1 h1 h2);rw[this]
       have hro:∀ {o i},isMine i=false→i<sh.objs.length→b'.lookup i=some (some o)→γ o=none:=by
        intro o i h1 hil h2
        cases hg:γ o with
        | none=>rfl
        | some j=>
         obtain⟨g1,g2,g3⟩:=hγ hg;have hm:o∈mine1 b' sh.objs:=List.mem_filterMap.2 ⟨j,List.mem_range.2 g3,hmine1 g1 g2⟩;have hr:o∈ros1 b' sh.objs:=by
          refine List.mem_filterMap.2 ⟨i,List.mem_range.2 hil,?_⟩;have:((sh.objs[i]?).map OS.mine).getD true=false:=by
           simp only[isMine] at h1;rw[List.getElem?_eq_getElem hil] at h1 ⊢;simpa using h1
          simp[this,h2]
         exact absurd hr (zAw hap o hm)
       have hro2:∀ b,RO col (Yof w0 X Y0) b→RO col' (Yof w0 X Y0) b:=by
        intro b ⟨h1,h2⟩;refine⟨?_,h2⟩
        rcases h1 with h1 | ⟨o,k,h1⟩
        · left;simp only[col',h1]
        · cases hg:γ o with
          | none=>left;simp only[col',h1,hg,Option.map_none]
          | some j=>right;exact⟨j,k,by simp only[col',h1,hg,Option.map_some]⟩
       refine⟨b'.names.loc ρ,col',⟨h.defers,by simp only;rw[h.size];exact m1.symm,?_,?_,?_,h.low,h.mono,h.fixed,h.same⟩⟩
       · intro i v hi
         rcases m2 i v hi with rfl | hr
         · exact .inl rfl
         · refine RelV.rel (ob:=s.ob) (ρ:=ρ) (fun _ _=>rfl) hobn hr ?_
           cases ht:s.tm[i]? with
           | none=>rw[List.getD_eq_getElem?_getD,ht] at hr;exact hr.elim
           | some u=>
            rw[List.getD_eq_getElem?_getD,ht];exact h.tmps i u ht
       · intro i y hy;obtain⟨sp,hsp,hfit⟩:=hobj i y hy;have hil:i<sh.objs.length:=(List.getElem?_eq_some_iff.1 hsp).1;have hmi:isMine i=sp.mine:=by simp only[isMine,hsp];rfl
         have mv:∀ {o x},b'.lookup i=some (some o)→s.ob o=some x→Moves ob' ρ (b'.names.loc ρ) x y→(y.mine=sp.mine)→ObjRel ob' (b'.names.loc ρ) col' (Yof w0 X Y0) w i y:=by
          intro o x hl hx hmv hym
          refine (h.objs o x hx).move hmv (by simp only[Names.loc,Bind.names,hl]) (fun hm b hb=>?_) (fun t xs ht _ b k hb=>?_) (fun _=>hro2) (fun _ b k hb=>?_) (fun _ _ hm b hb=>?_)
          · have:=hγ2 (by rw[hmi,← hym];exact hm) hl;simp only[col',hb,this,Option.map_some]
          · have hm:y.mine=true:=by rw[ht];rfl
            have:=hγ2 (by rw[hmi,← hym];exact hm) hl;simp only[col',hb,this,Option.map_some]
          · refine⟨?_,.inr (h.cold b o _ hb).1⟩
            cases hg:γ o with
            | none=>left;simp only[col',hb,hg,Option.map_none]
            | some j=>right;exact⟨j,k,by simp only[col',hb,hg,Option.map_some]⟩
          · have:=hro (by rw[hmi,← hym];exact hm) hil hl;exact⟨.inl (by simp only[col',hb,this,Option.map_none]),.inr (h.cold b o _ hb).1⟩
         cases sp with
         | row m t=>
          rcases hfit with ⟨hl,rfl⟩ | ⟨o,m',xs,hl,hx,hle,rfl⟩
          · exact ObjRel.nil (by simp only[Names.loc,hl])
          · exact mv hl hx (.row hle) rfl
         | box m sx=>
          obtain⟨o,m',x0,x,hl,hx,hle,hrel,rfl⟩:=hfit;have hwf:wfW s.ob ρ x0:=by obtain⟨_,_,_,g,_⟩:=h.objs o _ hx;exact g
          obtain⟨g1,g2,_⟩:=RelW.val (ob:=s.ob) (ρ:=ρ) (ρ':=b'.names.loc ρ) (fun _ _=>rfl) hobn hrel hwf;exact mv hl hx (.box hle g1 g2) rfl
       · intro b i c hb;simp only[col'] at hb
         split at hb
         · rename_i o c' ho;rw[Option.map_eq_some_iff] at hb;obtain⟨j,hj,hb⟩:=hb;simp only[Prod.mk.injEq] at hb;obtain⟨rfl,rfl⟩:=hb;obtain⟨g1,g2,_⟩:=h.cold b o _ ho;obtain⟨_,q2,_⟩:=hγ hj;exact⟨g1,g2,hobn j (by simp[Bind.names,q2])⟩
         · simp at hb
     · simp at hf
   · simp at hf
 · simp at hf
end
end Go.Ev
namespace Go.Ev
def Ex.to:Ex→Exit
 | .normal=>.normal
 | .exit id=>.exit id
 | .ret=>.ret
theorem zRP (l:List V) (d:Option Nat) (v:V):(setO l d v).length=l.length:=by cases d<;>simp[setO]
theorem zRY (s:St) (o:Oper) (x:Option Eff):(putO s o x).tm.length=s.tm.length:=by cases x<;>exact zRP _ _ _
section
variable {P:Program}{E:Env}{fd:FD}{call:Oracle}{w0:World}{X Y0:Nat→Prop}{fix:List (Nat×Value)}
theorem Trace.len {ops:Array Oper}{r:List Oper}{s s':St}{xs:List (Option Eff)}(t:Trace E fd call ops r s xs s'):s'.tm.length=s.tm.length:=by
 induction t with
 | nil s=>rfl
 | cons h t ih=>rw[ih,zRY]
def LoopOk (P:Program) (fd:FD) (N:Nat) (body:Code) (info:LoopInfo) (m:Nat) (tvs outs:List TV):Prop:=
 ∃ (e:Ex) (sh:Shape),(∀ k:Ex→St→Option (List TV),exitsK N outs k info.outs 0=k e (sh.build N outs 1))∧(sh.build N outs 1).tm.length=N ∧
  ∀ (w0:World) (X Y0:Nat→Prop) (fix:List (Nat×Value)) (ρ:Locs) (col:Col) (a:Act) (w:World) (Q:Exit→Act→World→Prop),fix.map (·.1)=fixedGo fd.sig.params 0 →
   Inv w0 X Y0 fix (info.inS.build N tvs 0) ρ col a w→(∀ ρ' col' a' w',Inv w0 X Y0 fix (sh.build N outs 1) ρ' col' a' w'→Q e.to a' w')→Code.rounds P body Q m a w
def JoinOk (P:Program) (fd:FD) (N:Nat) (body:Code) (info:LoopInfo) (tvs outs:List TV):Prop:=
 ∃ (e:Ex) (sh:Shape),(∀ k:Ex→St→Option (List TV),exitsK N outs k info.outs 0=k e (sh.build N outs 1))∧(sh.build N outs 1).tm.length=N ∧
  ∀ (w0:World) (X Y0:Nat→Prop) (fix:List (Nat×Value)) (ρ:Locs) (col:Col) (a:Act) (w:World) (Q:Exit→Act→World→Prop),fix.map (·.1)=fixedGo fd.sig.params 0 →
   Inv w0 X Y0 fix (info.inS.build N tvs 0) ρ col a w→(∀ ρ' col' a' w',Inv w0 X Y0 fix (sh.build N outs 1) ρ' col' a' w'→Q e.to a' w')→body.wp P Q a w
theorem zKH (hm:P.follows .mixedOrders=true) (hop:OpOk P E fd call w0 X Y0 fix) (hfix:fix.map (·.1)=fixedGo fd.sig.params 0) {id:Nat}{ops:Array Oper}{draw:Bool}{s s':St}{xs:List (Option Eff)}
  (t:Trace E fd call ops ops.toList s xs s') (hd:draw=true→drawOk ops (ancGo ops.toList []) (xs.map logO) ops.size=true∧backOk ops.toList 0=true)
  {ρ:Locs}{col:Col}{a:Act}{w:World}{Q:Exit→Act→World→Prop}(h:Inv w0 X Y0 fix s ρ col a w) (hQ:∀ ρ' col' a' w',Inv w0 X Y0 fix s' ρ' col' a' w'→Q .normal a' w'):
  (Code.region id ops draw).wp P Q a w:=by
 cases draw with
 | false=>
  refine wp_region ?_;have:=zPi hop hfix t [] ρ col a w (by simp) h hQ;simpa[List.range_eq_range'] using this
 | true=>
  obtain⟨h1,h2⟩:=hd rfl;obtain⟨g1,g2,g3⟩:=zPC (s0:=s) t [] [] (by simp) rfl rfl;simp only[List.nil_append] at g1 g2 g3
  refine wp_region_any hm (zQ0 hop hfix (s0:=s) (xs:=xs) (fun m hm=>g3 m (by simp) hm) (zHu _ h1) (fun k o ho j hj=>?_) (fun ρ col a w h=>hQ ρ col a w (by rw[g2];exact h)) ops.size
   (Array.replicate ops.size false) ρ col a _ (by simp) ?_ (fun j o hj=>?_) ?_)
  · have:=zLE ops.toList 0 h2 k o (by simpa using ho) j hj;omega
  · have:=List.length_filter_le (fun j=>!(Array.replicate ops.size false).getD j false) (List.range ops.size);simpa using this
  · exfalso;simp[Array.getD_eq_getD_getElem?,Array.getElem?_replicate] at hj;split at hj<;>simp at hj
  · have e:pre ops xs s (fun j=>(Array.replicate ops.size false).getD j false) ops.size=pre ops xs s (fun j=>(Array.replicate ops.size false).getD j false) 0:=zJR ops.size (by omega) (fun j _=>by
     simp[Array.getD_eq_getD_getElem?,Array.getElem?_replicate];split<;>simp)
    rw[e];exact h.world rfl (by first | exact⟨rfl,rfl,rfl,Nat.le_refl _⟩ | exact⟨rfl,rfl,rfl,Nat.le_add_right _ _⟩)
theorem zKa {s:St}{c:Operand}{b:Bool}(h:(s.eval c).bool?=some b):s.litO c b=s:=by
 cases c with
 | tmp t=>
  refine zNJ ?_;have e:s.tm.getD t .undef=s.eval (.tmp t):=rfl
  cases hv:(s.eval (.tmp t)).one with
  | none=>simp[V.bool?,hv] at h
  | some u=>
   have:=zHr hv;simp only[V.bool?,hv,Option.bind_some] at h
   cases u with
   | c x=>cases x<;>simp_all [W.bool?,V.guard?]
   | _=>simp[W.bool?] at h
 | _=>rfl
theorem jQ (hm:P.follows .mixedOrders=true) (hop:∀ w0 X Y0 fix,fix.map (·.1)=fixedGo fd.sig.params 0→OpOk P E fd call w0 X Y0 fix) {N m:Nat}:∀ (c:Code)
  (hl:∀ body∈loopsOf c,∀ info,fd.loops.lookup (firstRegion body)=some info→∀ tvs outs,call info.lid tvs=some outs→LoopOk P fd N body info m tvs outs)
  (hj:∀ body∈restsOf c,∀ info,fd.joins.lookup (firstRegion body)=some info→∀ tvs outs,call info.lid tvs=some outs→JoinOk P fd N body info tvs outs)
  {s:St}{k:Ex→St→Option (List TV)}{res:List TV},exec E fd call c s k=some res→s.tm.length=N →
  ∃ e s',k e s'=some res∧s'.tm.length=N∧∀ (w0:World) (X Y0:Nat→Prop) (fix:List (Nat×Value)),fix.map (·.1)=fixedGo fd.sig.params 0→∀ ρ col a w (Q:Exit→Act→World→Prop),Inv w0 X Y0 fix s ρ col a w→(∀ ρ' col' a' w',Inv w0 X Y0 fix s' ρ' col' a' w'→Q e.to a' w')→c.wp P Q a w
 | .skip,hl,hj,s,k,res,h,hN=>⟨.normal,s,h,hN,fun w0 X Y0 fix hfix ρ col a w Q hi hQ=>wp_skip (hQ ρ col a w hi)⟩
 | .exit id,hl,hj,s,k,res,h,hN=>⟨.exit id,s,h,hN,fun w0 X Y0 fix hfix ρ col a w Q hi hQ=>wp_exit (hQ ρ col a w hi)⟩
 | .ret,hl,hj,s,k,res,h,hN=>⟨.ret,s,h,hN,fun w0 X Y0 fix hfix ρ col a w Q hi hQ=>wp_ret (hQ ρ col a w hi)⟩
 | .region id ops draw,hl,hj,s,k,res,h,hN=>by
  simp only[exec] at h;obtain⟨xs,s',t,h2⟩:=zIh _ _ _ h;have hk:k .normal s'=some res∧(draw=true→drawOk ops (ancGo ops.toList []) (xs.map logO) ops.size=true∧backOk ops.toList 0=true):=by
   cases draw with
   | false=>exact⟨h2,fun e=>by simp at e⟩
   | true=>
    simp only[List.append_nil,List.reverse_reverse] at h2
    split at h2
    · rename_i hc;simp only[Bool.and_eq_true] at hc;exact⟨h2,fun _=>hc⟩
    · simp at h2
  exact⟨.normal,s',hk.1,by rw[t.len,hN],fun w0 X Y0 fix hfix ρ col a w Q hi hQ=>zKH hm (hop w0 X Y0 fix hfix) hfix t hk.2 hi hQ⟩
 | .seq a b,hl,hj,s,k,res,h,hN=>by
  simp only[exec] at h;obtain⟨e,s1,h1,hN1,f1⟩:=jQ hm hop a (fun body hb=>hl body (by simp[loopsOf,hb])) (fun body hb=>hj body (by simp[restsOf,hb])) h hN
  cases e with
  | normal=>
   simp only at h1
   split at h1
   · obtain⟨e2,s2,h2,hN2,f2⟩:=jQ hm hop b (fun body hb=>hl body (by simp[loopsOf,hb])) (fun body hb=>hj body (by simp[restsOf,hb])) h1 hN1;exact⟨e2,s2,h2,hN2,fun w0 X Y0 fix hfix ρ col a w Q hi hQ=>wp_seq (f1 w0 X Y0 fix hfix ρ col a w _ hi fun ρ' col' a' w' hi'=>f2 w0 X Y0 fix hfix ρ' col' a' w' Q hi' hQ)⟩
   · rename_i info hinfo;unfold joinK at h1
     split at h1
     · rename_i tvs htv;rw[Option.bind_eq_some_iff] at h1;obtain⟨outs,ho,h2⟩:=h1;obtain⟨e2,sh,g1,g2,g3⟩:=hj b (by simp[restsOf]) info hinfo tvs outs ho;rw[hN1,g1] at h2;refine⟨e2,_,h2,g2,fun w0 X Y0 fix hfix ρ col a w Q hi hQ=>wp_seq (f1 w0 X Y0 fix hfix ρ col a w _ hi fun ρ' col' a' w' hi'=>?_)⟩;obtain⟨ρ1,col1,hi1⟩:=zDN hi' htv [];rw[hN1] at hi1;exact g3 w0 X Y0 fix ρ1 col1 a' w' Q hfix hi1 hQ
     · simp at h1
  | exit id=>exact⟨.exit id,s1,h1,hN1,fun w0 X Y0 fix hfix ρ col a w Q hi hQ=>wp_seq (f1 w0 X Y0 fix hfix ρ col a w _ hi hQ)⟩
  | ret=>exact⟨.ret,s1,h1,hN1,fun w0 X Y0 fix hfix ρ col a w Q hi hQ=>wp_seq (f1 w0 X Y0 fix hfix ρ col a w _ hi hQ)⟩
 | .cond c x y,hl,hj,s,k,res,h,hN=>by
  simp only[exec] at h
  split at h
  · rename_i b hb
    cases b with
    | true=>
     simp only[cond,zKa hb] at h;obtain⟨e,s1,h1,hN1,f1⟩:=jQ hm hop x (fun body hb=>hl body (by simp[loopsOf,hb])) (fun body hb=>hj body (by simp[restsOf,hb])) h hN;exact⟨e,s1,h1,hN1,fun w0 X Y0 fix hfix ρ col a w Q hi hQ=>wp_cond_true (hi.evalBool hb) (f1 w0 X Y0 fix hfix ρ col a w Q hi hQ)⟩
    | false=>
     simp only[cond,zKa hb] at h;obtain⟨e,s1,h1,hN1,f1⟩:=jQ hm hop y (fun body hb=>hl body (by simp[loopsOf,hb])) (fun body hb=>hj body (by simp[restsOf,hb])) h hN;exact⟨e,s1,h1,hN1,fun w0 X Y0 fix hfix ρ col a w Q hi hQ=>wp_cond_false (hi.evalBool hb) (f1 w0 X Y0 fix hfix ρ col a w Q hi hQ)⟩
  · simp at h
 | .block id a,hl,hj,s,k,res,h,hN=>by
  simp only[exec] at h;obtain⟨e,s1,h1,hN1,f1⟩:=jQ hm hop a (fun body hb=>hl body (by simp[loopsOf,hb])) (fun body hb=>hj body (by simp[restsOf,hb])) h hN
  cases e with
  | normal=>exact⟨.normal,s1,h1,hN1,fun w0 X Y0 fix hfix ρ col a w Q hi hQ=>wp_block (f1 w0 X Y0 fix hfix ρ col a w _ hi hQ)⟩
  | ret=>exact⟨.ret,s1,h1,hN1,fun w0 X Y0 fix hfix ρ col a w Q hi hQ=>wp_block (f1 w0 X Y0 fix hfix ρ col a w _ hi hQ)⟩
  | exit id'=>
   simp only at h1
   by_cases e:id'=id
   · rw[if_pos e] at h1;refine⟨.normal,s1,h1,hN1,fun w0 X Y0 fix hfix ρ col a w Q hi hQ=>wp_block (f1 w0 X Y0 fix hfix ρ col a w _ hi fun ρ' col' a' w' hi'=>?_)⟩;simp only[Ex.to,Exit.inBlock,if_pos e];exact hQ ρ' col' a' w' hi'
   · rw[if_neg e] at h1;refine⟨.exit id',s1,h1,hN1,fun w0 X Y0 fix hfix ρ col a w Q hi hQ=>wp_block (f1 w0 X Y0 fix hfix ρ col a w _ hi fun ρ' col' a' w' hi'=>?_)⟩;simp only[Ex.to,Exit.inBlock,if_neg e];exact hQ ρ' col' a' w' hi'
 | .loop b,hl,hj,s,k,res,h,hN=>by
  simp only[exec] at h
  split at h
  · rename_i info hinfo
    split at h
    · rename_i tvs htv;rw[Option.bind_eq_some_iff] at h;obtain⟨outs,ho,h⟩:=h;obtain⟨e,sh,g1,g2,g3⟩:=hl b (by simp[loopsOf]) info hinfo tvs outs ho;rw[hN,g1] at h;refine⟨e,_,h,g2,fun w0 X Y0 fix hfix ρ col a w Q hi hQ=>?_⟩;obtain⟨ρ1,col1,hi1⟩:=zDN hi htv [];rw[hN] at hi1;exact wp_loop_rounds m (g3 w0 X Y0 fix ρ1 col1 a w Q hfix hi1 hQ)
    · simp at h
  · simp at h
 | .rangeFunc _ _ _ _,hl,hj,s,k,res,h,hN=>by simp[exec] at h
 | .scope _,hl,hj,s,k,res,h,hN=>by simp[exec] at h
 | .label _,hl,hj,s,k,res,h,hN=>by simp[exec] at h
 | .goto _,hl,hj,s,k,res,h,hN=>by simp[exec] at h
 | .refuse _,hl,hj,s,k,res,h,hN=>by simp[exec] at h
end
end Go.Ev
namespace Go.Ev
abbrev NL:=List (Nat×Option Nat×Bool)
def Names.has (β:Names) (L:NL):Prop:=∀ q∈L,β q.1=some q.2.1
theorem Names.has_append {β:Names}{L M:NL}:β.has (L++M)↔β.has L∧β.has M:=by
 simp only[Names.has,List.mem_append];exact⟨fun h=>⟨fun q hq=>h q (.inl hq),fun q hq=>h q (.inr hq)⟩,fun h q hq=>hq.elim (h.1 q) (h.2 q)⟩
def minesOf (L:NL):List Nat:=L.filterMap fun q=>if q.2.2 then q.2.1 else none
theorem kB (L M:NL):minesOf (L++M)=minesOf L++minesOf M:=List.filterMap_append
theorem RelCs.append {β:Names}:∀ {a b c d:List C},RelCs β a b→RelCs β c d→RelCs β (a++c) (b++d)
 | [],[],_,_,_,h=>h
 | _::_,_::_,_,_,h,g=>⟨h.1,RelCs.append h.2 g⟩
 | [],_::_,_,_,h,_=>h.elim
 | _::_,[],_,_,h,_=>h.elim
def RowNew (ob:Objs) (L:NL) (us:List (Nat×Mode)) (m:Mode) (j:Nat) (y:Obj):Prop:=
 ∃ u xs,y=.row m u xs∧(((j,none,m.mine)∈L∧xs=[])∨∃ o m0,(j,some o,m.mine)∈L∧ob o=some (.row m0 u xs)∧(o,m0)∈us)
theorem RowNew.mono {ob:Objs}{L L':NL}{us us':List (Nat×Mode)}{m:Mode}{j:Nat}{y:Obj}(h:RowNew ob L us m j y) (h1:∀ q∈L,q∈L') (h2:∀ q∈us,q∈us'):RowNew ob L' us' m j y:=by
 obtain⟨u,xs,e,h | ⟨o,m0,g1,g2,g3⟩⟩:=h
 · exact⟨u,xs,e,.inl ⟨h1 _ h.1,h.2⟩⟩
 · exact⟨u,xs,e,.inr ⟨o,m0,h1 _ g1,g2,h2 _ g3⟩⟩
theorem zCZ {ob:Objs}:∀ {t:Ty}{cs:List C}{x:t.den}{us:List (Nat×Mode)}{r:List C},packC ob t cs=some (x,us,r)→∀ (m:Mode) (id:Nat),
  ∃ (L:NL) (cs1:List C),cs=cs1++r∧L.map (·.1)=(unpackC m t x id).2.map (·.1)∧L.filterMap (·.2.1)=us.map (·.1)∧(∀ q∈L,q.2.2=m.mine) ∧
   (∀ β:Names,β.has L→RelCs β cs1 (unpackC m t x id).1)∧(∀ q∈(unpackC m t x id).2,RowNew ob L us m q.1 q.2)∧C.slices cs=L.map (·.2.1)++C.slices r
 | .int k,cs,x,us,r,h,m,id=>by
  match cs,h with
  | .int k' n::r',h=>
   simp only[packC] at h
   split at h
   · rename_i hk;subst hk;simp only[Option.some.injEq,Prod.mk.injEq] at h;obtain⟨rfl,rfl,rfl⟩:=h;exact⟨[],[.int k' n],rfl,rfl,rfl,fun q hq=>by simp at hq,fun β _=>⟨rfl,trivial⟩,fun q hq=>by simp[unpackC] at hq,rfl⟩
   · simp at h
 | .bool,cs,x,us,r,h,m,id=>by
  match cs,h with
  | .bool b::r',h=>
   simp only[packC,Option.some.injEq,Prod.mk.injEq] at h;obtain⟨rfl,rfl,rfl⟩:=h;exact⟨[],[.bool b],rfl,rfl,rfl,fun q hq=>by simp at hq,fun β _=>⟨rfl,trivial⟩,fun q hq=>by simp[unpackC] at hq,rfl⟩
 | .arr k m',cs,x,us,r,h,m,id=>by
  match cs,h with
  | [],h=>simp[packC] at h
  | c::cs,h=>cases c<;>simp[packC] at h
 | .barr m',cs,x,us,r,h,m,id=>by
  match cs,h with
  | [],h=>simp[packC] at h
  | c::cs,h=>cases c<;>simp[packC] at h
 | .slice t,cs,x,us,r,h,m,id=>by
  match cs,h with
  | .nil::r',h=>
   simp only[packC,Option.some.injEq,Prod.mk.injEq] at h;obtain⟨rfl,rfl,rfl⟩:=h
   refine⟨[(id,none,m.mine)],[.nil],rfl,rfl,rfl,fun q hq=>?_,fun β hb=>⟨⟨id,rfl,hb (id,_,m.mine) (List.mem_singleton.2 rfl)⟩,trivial⟩,fun q hq=>?_,rfl⟩
   · simp only[List.mem_singleton] at hq;subst hq;rfl
   · simp only[unpackC,List.mem_singleton] at hq;subst hq;exact⟨t,[],rfl,.inl ⟨by simp,rfl⟩⟩
  | .sl o::r',h=>
   simp only[packC] at h
   split at h
   · rename_i m0 ys hr;simp only[Option.some.injEq,Prod.mk.injEq] at h;obtain⟨rfl,rfl,rfl⟩:=h
     refine⟨[(id,some o,m.mine)],[.sl o],rfl,rfl,rfl,fun q hq=>?_,fun β hb=>⟨⟨id,rfl,hb (id,_,m.mine) (List.mem_singleton.2 rfl)⟩,trivial⟩,fun q hq=>?_,rfl⟩
     · simp only[List.mem_singleton] at hq;subst hq;rfl
     · simp only[unpackC,List.mem_singleton] at hq;subst hq;exact⟨t,ys,rfl,.inr ⟨o,m0,by simp,zX hr,by simp⟩⟩
   · simp at h
 | .pair a b,cs,x,us,r,h,m,id=>by
  simp only[packC] at h
  split at h
  · rename_i x1 us1 r1 h1
    split at h
    · rename_i x2 us2 r2 h2;simp only[Option.some.injEq,Prod.mk.injEq] at h;obtain⟨rfl,rfl,rfl⟩:=h;obtain⟨L1,c1,e1,i1,f1,m1,k1,n1,s1⟩:=zCZ h1 m id;obtain⟨L2,c2,e2,i2,f2,m2,k2,n2,s2⟩:=zCZ h2 m (id+(unpackC m a x1 id).2.length)
      refine⟨L1++L2,c1++c2,by rw[e1,e2,List.append_assoc],by simp only[unpackC,List.map_append,i1,i2],by simp only[List.filterMap_append,List.map_append,f1,f2],fun q hq=>?_,fun β hb=>?_,fun q hq=>?_,?_⟩
      · exact (List.mem_append.1 hq).elim (m1 q) (m2 q)
      · obtain⟨b1,b2⟩:=Names.has_append.1 hb;exact RelCs.append (k1 β b1) (k2 β b2)
      · simp only[unpackC,List.mem_append] at hq
        rcases hq with hq | hq
        · exact (n1 q hq).mono (fun q hq=>by simp[hq]) (fun q hq=>by simp[hq])
        · exact (n2 q hq).mono (fun q hq=>by simp[hq]) (fun q hq=>by simp[hq])
      · rw[s1,s2,List.map_append,List.append_assoc]
    · simp at h
  · simp at h
theorem kZ {ob:Objs}{t:Ty}{w:W}{x:t.den}{us:List (Nat×Mode)}(h:packW ob t w=some (x,us)) (m:Mode) (id:Nat):
  ∃ (L:NL),L.map (·.1)=(unpackW m t x id).2.map (·.1)∧L.filterMap (·.2.1)=us.map (·.1)∧(∀ q∈L,q.2.2=m.mine) ∧
   (∀ β:Names,β.has L→RelW β w (unpackW m t x id).1)∧(∀ q∈(unpackW m t x id).2,RowNew ob L us m q.1 q.2)∧w.slices=L.map (·.2.1):=by
 cases t with
 | int k=>cases w with
  | c c=>
   cases c<;>simp only[packW] at h<;>try (simp at h;done)
   split at h
   · rename_i hk;subst hk;simp only[Option.some.injEq,Prod.mk.injEq] at h;obtain⟨rfl,rfl⟩:=h;exact⟨[],rfl,rfl,fun q hq=>by simp at hq,fun β _=>⟨_,rfl,rfl⟩,fun q hq=>by simp[unpackW] at hq,rfl⟩
   · simp at h
  | _=>simp[packW] at h
 | bool=>cases w with
  | c c=>
   cases c<;>simp only[packW] at h<;>try (simp at h;done)
   simp only[Option.some.injEq,Prod.mk.injEq] at h;obtain⟨rfl,rfl⟩:=h;exact⟨[],rfl,rfl,fun q hq=>by simp at hq,fun β _=>⟨_,rfl,rfl⟩,fun q hq=>by simp[unpackW] at hq,rfl⟩
  | _=>simp[packW] at h
 | arr k n=>
  cases w<;>simp only[packW] at h<;>try (simp at h;done)
  split at h
  · rename_i hk;obtain⟨rfl,rfl⟩:=hk;simp only[Option.some.injEq,Prod.mk.injEq] at h;obtain⟨rfl,rfl⟩:=h;exact⟨[],rfl,rfl,fun q hq=>by simp at hq,fun β _=>rfl,fun q hq=>by simp[unpackW] at hq,rfl⟩
  · simp at h
 | barr n=>
  cases w<;>simp only[packW] at h<;>try (simp at h;done)
  split at h
  · rename_i hk;subst hk;simp only[Option.some.injEq,Prod.mk.injEq] at h;obtain⟨rfl,rfl⟩:=h;exact⟨[],rfl,rfl,fun q hq=>by simp at hq,fun β _=>rfl,fun q hq=>by simp[unpackW] at hq,rfl⟩
  · simp at h
 | slice t=>cases w with
  | c c=>
   have hc:packC ob (.slice t) [c]=some (x,us,[]):=by
    cases c with
    | nil=>simp only[packW,Option.some.injEq,Prod.mk.injEq] at h;obtain⟨rfl,rfl⟩:=h;rfl
    | sl o=>
     simp only[packW] at h;simp only[packC]
     split at h
     · rename_i m0 ys hr;simp only[Option.some.injEq,Prod.mk.injEq] at h;obtain⟨rfl,rfl⟩:=h
       rfl
     · simp at h
    | _=>simp[packW] at h
   obtain⟨L,c1,e1,i1,f1,m1,k1,n1,s1⟩:=zCZ hc m id;simp only[List.append_nil] at e1;subst e1;exact⟨L,i1,f1,m1,fun β hb=>⟨_,rfl,(k1 β hb).1⟩,n1,by
    simp only[W.slices];rw[s1];simp[C.slices]⟩
  | _=>simp[packW] at h
 | pair a b=>cases w with
  | st cs=>
   simp only[packW] at h
   split at h
   · rename_i x1 us1 h1;simp only[Option.some.injEq,Prod.mk.injEq] at h;obtain⟨rfl,rfl⟩:=h;obtain⟨L,c1,e1,i1,f1,m1,k1,n1,s1⟩:=zCZ h1 m id;simp only[List.append_nil] at e1;subst e1;exact⟨L,i1,f1,m1,fun β hb=>⟨_,rfl,k1 β hb⟩,n1,by
      simp only[W.slices];rw[s1];simp[C.slices]⟩
   · simp at h
  | _=>simp[packW] at h
def ObjNew (ob:Objs) (β:Names) (p:Pack) (L:NL) (j:Nat):Obj→Prop
 | .row m u xs=>((j,none,m.mine)∈L∧xs=[])∨∃ o m0,(j,some o,m.mine)∈L∧ob o=some (.row m0 u xs)∧m0.le m=true∧(m=.own∨m=.sh∨(m=.ro∧o∈p.ro.map (·.1)))
 | .box m x=>∃ o m0 x0,(j,some o,m.mine)∈L∧ob o=some (.box m0 x0)∧m0.le m=true∧RelW β x0 x∧(m=.own∨(m=.ro∧o∈p.ro.map (·.1)))
 | .dead=>False
def Named (ob:Objs) (p:Pack) (L:NL) (objs:List (Nat×Obj)):Prop:=
 L.map (·.1)=objs.map (·.1)∧(∀ o,(minesOf L).count o=p.excl.count o)∧∀ β:Names,β.has L→∀ q∈objs,ObjNew ob β p L q.1 q.2
theorem ObjNew.mono {ob:Objs}{β:Names}{p p':Pack}{L L':NL}{j:Nat}{y:Obj}(h:ObjNew ob β p L j y) (h1:∀ q∈L,q∈L') (h2:∀ o∈p.ro.map (·.1),o∈p'.ro.map (·.1)):ObjNew ob β p' L' j y:=by
 cases y with
 | dead=>exact h.elim
 | row m u xs=>
  rcases h with h | ⟨o,m0,g1,g2,g3,g4⟩
  · exact .inl ⟨h1 _ h.1,h.2⟩
  · exact .inr ⟨o,m0,h1 _ g1,g2,g3,g4.imp id (fun e=>e.imp id (fun e=>⟨e.1,h2 o e.2⟩))⟩
 | box m x=>
  obtain⟨o,m0,x0,g1,g2,g3,g4,g5⟩:=h;exact⟨o,m0,x0,h1 _ g1,g2,g3,g4,g5.imp id (fun e=>⟨e.1,h2 o e.2⟩)⟩
theorem zRy (p q:Pack) (o:Nat):(p.add q).excl.count o=p.excl.count o+q.excl.count o:=by
 simp only[Pack.excl,Pack.mutIds,Pack.add,List.map_append,List.flatMap_append,List.count_append];omega
theorem Named.add {ob:Objs}{p q:Pack}{L M:NL}{a b:List (Nat×Obj)}(h:Named ob p L a) (g:Named ob q M b):Named ob (p.add q) (L++M) (a++b):=by
 obtain⟨h1,h2,h3⟩:=h;obtain⟨g1,g2,g3⟩:=g;refine⟨by simp[h1,g1],fun o=>by rw[kB,List.count_append,h2,g2,zRy],fun β hb r hr=>?_⟩;obtain⟨b1,b2⟩:=Names.has_append.1 hb
 rcases List.mem_append.1 hr with hr | hr
 · exact (h3 β b1 r hr).mono (fun q hq=>by simp[hq]) (fun o ho=>by simp only[Pack.add,List.map_append,List.mem_append];exact .inl ho)
 · exact (g3 β b2 r hr).mono (fun q hq=>by simp[hq]) (fun o ho=>by simp only[Pack.add,List.map_append,List.mem_append];exact .inr ho)
theorem zAq {L:NL}(h:∀ q∈L,q.2.2=false):minesOf L=[]:=by
 simp only[minesOf,List.filterMap_eq_nil_iff];intro q hq;simp[h q hq]
theorem zA7 {L:NL}(h:∀ q∈L,q.2.2=true):minesOf L=L.filterMap (·.2.1):=by
 unfold minesOf
 induction L with
 | nil=>rfl
 | cons q L ih=>
  have:=h q (by simp);simp only[List.filterMap_cons,this,if_true];rw[ih (fun q hq=>h q (by simp[hq]))]
section
variable {ob:Objs}
theorem zGV {t:Ty}{w:W}{p:Pack}(h:packRo ob t w=some p) (id:Nat):∃ x,p.tvs=[⟨t,x⟩]∧∃ L,Named ob p L (unpackW .ro t x id).2∧∀ β:Names,β.has L→RelW β w (unpackW .ro t x id).1:=by
 unfold packRo at h
 split at h
 · rename_i x us hp;simp only[Option.some.injEq] at h;subst h;obtain⟨L,i1,f1,m1,k1,n1,_⟩:=kZ hp .ro id;refine⟨x,rfl,L,⟨i1,fun o=>by rw[zAq m1];rfl,fun β hb q hq=>?_⟩,k1⟩;obtain⟨u,xs,e,h⟩:=n1 q hq;rw[e];refine h.imp _root_.id (fun ⟨o,m0,g1,g2,g3⟩=>⟨o,m0,g1,g2,by cases m0<;>rfl,.inr (.inr ⟨rfl,List.mem_map_of_mem g3⟩)⟩)
 · simp at h
theorem zHZ {t:Ty}{w:W}{x:t.den}{us:List (Nat×Mode)}(hp:packW ob t w=some (x,us)) (hc:us.all (fun p=>p.2=.own)=true) (p:Pack) (id:Nat):
  ∃ L,L.map (·.1)=(unpackW .own t x id).2.map (·.1)∧minesOf L=us.map (·.1)∧(∀ β:Names,∀ q∈(unpackW .own t x id).2,ObjNew ob β p L q.1 q.2)∧(∀ β:Names,β.has L→RelW β w (unpackW .own t x id).1)∧w.slices=L.map (·.2.1):=by
 obtain⟨L,i1,f1,m1,k1,n1,s1⟩:=kZ hp .own id;refine⟨L,i1,by rw[zA7 m1,f1],fun β q hq=>?_,k1,s1⟩;obtain⟨u,xs,e,h⟩:=n1 q hq;rw[e];refine h.imp _root_.id (fun ⟨o,m0,g1,g2,g3⟩=>⟨o,m0,g1,g2,?_,.inl rfl⟩);have:m0=.own:=by
  simp only[List.all_eq_true,decide_eq_true_eq] at hc;exact hc _ g3
 subst this
 rfl
theorem zE8 {t:Ty}{w:W}{p:Pack}(h:packBox ob t w=some p) (id:Nat):
  ∃ x,p.tvs=[⟨t,x⟩]∧∃ L,Named ob p L ((id,.box .own (unpackW .own t x (id+1)).1)::(unpackW .own t x (id+1)).2)∧∀ β:Names,β.has L→RelW β w (.c (.ptr id 0 0 0)):=by
 unfold packBox at h
 split at h
 · rename_i o
   split at h
   · rename_i w hb
     split at h
     · rename_i x us hp
       split at h
       · rename_i hc;simp only[Option.some.injEq] at h;subst h;obtain⟨L,i1,f1,n1,k1,_⟩:=zHZ hp hc {} (id+1)
         refine⟨x,rfl,(id,some o,true)::L,⟨by simp[i1],fun o'=>?_,fun β hb' q hq=>?_⟩,fun β hb'=>⟨_,rfl,rfl,rfl,rfl,id,rfl,hb' (id,some o,_) (List.mem_cons_self ..)⟩⟩
         · have:minesOf ((id,some o,true)::L)=o::minesOf L:=rfl;rw[this,f1];simp only[Pack.excl,Pack.mutIds,List.flatMap_nil,List.append_nil,List.map_cons,List.map_nil,List.count_append,List.count_cons,List.count_nil];omega
         · rcases List.mem_cons.1 hq with rfl | hq
           · exact⟨o,.own,w,by simp[Mode.mine],hb,rfl,k1 β (fun q hq=>hb' q (by simp[hq])),.inl rfl⟩
           · exact (n1 β q hq).mono (fun q hq=>by simp[hq]) (fun o ho=>by simp at ho)
       · simp at h
     · simp at h
   · simp at h
 · simp at h
theorem zRM {t:Ty}{w:W}{x:t.den}{us:List (Nat×Mode)}(hp:packW ob t w=some (x,us)) (hc:us.all (fun p=>p.2=.sh)=true) (p:Pack) (id:Nat):
  ∃ L,L.map (·.1)=(unpackW .sh t x id).2.map (·.1)∧minesOf L=us.map (·.1)∧(∀ β:Names,∀ q∈(unpackW .sh t x id).2,ObjNew ob β p L q.1 q.2)∧(∀ β:Names,β.has L→RelW β w (unpackW .sh t x id).1)∧w.slices=L.map (·.2.1):=by
 obtain⟨L,i1,f1,m1,k1,n1,s1⟩:=kZ hp .sh id;refine⟨L,i1,by rw[zA7 m1,f1],fun β q hq=>?_,k1,s1⟩;obtain⟨u,xs,e,h⟩:=n1 q hq;rw[e];refine h.imp _root_.id (fun ⟨o,m0,g1,g2,g3⟩=>⟨o,m0,g1,g2,?_,.inr (.inl rfl)⟩);have:m0=.sh:=by
  simp only[List.all_eq_true,decide_eq_true_eq] at hc;exact hc _ g3
 subst this
 rfl
theorem zIN {t:Ty}{w:W}{p:Pack}(h:packBoxR ob t w=some p) (id:Nat):
  ∃ x,p.tvs=[⟨t,x⟩]∧∃ L,Named ob p L ((id,.box .own (unpackW .ro t x (id+1)).1)::(unpackW .ro t x (id+1)).2)∧∀ β:Names,β.has L→RelW β w (.c (.ptr id 0 0 0)):=by
 unfold packBoxR at h
 split at h
 · rename_i o
   split at h
   · rename_i w hb
     split at h
     · rename_i x us hp;simp only[Option.some.injEq] at h;subst h;obtain⟨L,i1,f1,m1,k1,n1,_⟩:=kZ hp .ro (id+1)
       refine⟨x,rfl,(id,some o,true)::L,⟨by simp[i1],fun o'=>?_,fun β hb' q hq=>?_⟩,fun β hb'=>⟨_,rfl,rfl,rfl,rfl,id,rfl,hb' (id,some o,_) (List.mem_cons_self ..)⟩⟩
       · have:minesOf ((id,some o,true)::L)=o::minesOf L:=rfl;rw[this,zAq m1];simp[Pack.excl,Pack.mutIds]
       · rcases List.mem_cons.1 hq with rfl | hq
         · exact⟨o,.own,w,by simp[Mode.mine],hb,rfl,k1 β (fun q hq=>hb' q (by simp[hq])),.inl rfl⟩
         · obtain⟨u,xs,e,h⟩:=n1 q hq;rw[e];exact h.imp (fun e=>⟨by simp[e.1],e.2⟩) (fun ⟨o,m0,g1,g2,g3⟩=>⟨o,m0,by simp[g1],g2,by cases m0<;>rfl,.inr (.inr ⟨rfl,List.mem_map_of_mem g3⟩)⟩)
     · simp at h
   · simp at h
 · simp at h
theorem zE3 {t:Ty}{w:W}{p:Pack}(h:packRob ob t w=some p) (id:Nat):
  ∃ x,p.tvs=[⟨t,x⟩]∧∃ L,Named ob p L ((id,.box .ro (unpackW .ro t x (id+1)).1)::(unpackW .ro t x (id+1)).2)∧∀ β:Names,β.has L→RelW β w (.c (.ptr id 0 0 0)):=by
 unfold packRob at h
 split at h
 · rename_i o
   split at h
   · rename_i m w hb
     split at h
     · rename_i x us hp;simp only[Option.some.injEq] at h;subst h;obtain⟨L,i1,f1,m1,k1,n1,_⟩:=kZ hp .ro (id+1)
       refine⟨x,rfl,(id,some o,false)::L,⟨by simp[i1],fun o'=>?_,fun β hb' q hq=>?_⟩,fun β hb'=>⟨_,rfl,rfl,rfl,rfl,id,rfl,hb' (id,some o,_) (List.mem_cons_self ..)⟩⟩
       · rw[zAq (L:=(id,some o,false)::L) (fun q hq=>by
          rcases List.mem_cons.1 hq with rfl | hq
          · rfl
          · exact m1 q hq)]
         rfl
       · rcases List.mem_cons.1 hq with rfl | hq
         · exact⟨o,m,w,by simp[Mode.mine],hb,by cases m<;>rfl,k1 β (fun q hq=>hb' q (by simp[hq])),.inr ⟨rfl,by simp⟩⟩
         · obtain⟨u,xs,e,h⟩:=n1 q hq;rw[e];refine h.imp (fun e=>⟨by simp[e.1],e.2⟩) (fun ⟨o,m0,g1,g2,g3⟩=>⟨o,m0,by simp[g1],g2,by cases m0<;>rfl,.inr (.inr ⟨rfl,?_⟩)⟩);simp only[List.map_cons,List.mem_cons];exact .inr (List.mem_map_of_mem g3)
     · simp at h
   · simp at h
 · simp at h
end
end Go.Ev
namespace Go.Ev
section
variable {ob:Objs}
def capInit:CK→(t:Ty)→t.den→Nat→W×List (Nat×Obj)
 | .val,t,x,id=>unpackW .ro t x id
 | .rob,t,x,id=>(W.c (.ptr id 0 0 0),(id,Obj.box .ro (unpackW .ro t x (id+1)).1)::(unpackW .ro t x (id+1)).2)
 | .box,t,x,id=>(W.c (.ptr id 0 0 0),(id,Obj.box .own (unpackW .own t x (id+1)).1)::(unpackW .own t x (id+1)).2)
theorem zA0 (b:CK) (t:Ty) (r:List (CK×Ty)) (tvs:List TV) (p id:Nat):
  unpackCaps ((b,t)::r) tvs p id=((capInit b t (getTV t tvs p) id).1::(unpackCaps r tvs (p+1) (id+(capInit b t (getTV t tvs p) id).2.length)).1,
   (capInit b t (getTV t tvs p) id).2++(unpackCaps r tvs (p+1) (id+(capInit b t (getTV t tvs p) id).2.length)).2.1,(unpackCaps r tvs (p+1) (id+(capInit b t (getTV t tvs p) id).2.length)).2.2):=by
 cases b<;>rfl
theorem zJS {b:CK}{t:Ty}{w:W}{p:Pack}(h:packCap ob t w b=some p) (id:Nat):∃ x,p.tvs=[⟨t,x⟩]∧∃ L,
  Named ob p L (capInit b t x id).2∧∀ β:Names,β.has L→RelW β w (capInit b t x id).1:=by
 cases b with
 | val=>exact zGV h id
 | rob=>exact zE3 h id
 | box=>exact zE8 h id
theorem zDy:∀ {caps:List (CK×Ty)}{ws:List W}{p:Pack},packCaps ob caps ws=some p→∀ (l r:List TV) (id:Nat),
  ∃ ws' objs id',unpackCaps caps (l++p.tvs++r) l.length id=(ws',objs,l.length+p.tvs.length,id')∧∃ L,Named ob p L objs∧∀ β:Names,β.has L→RelWs β ws ws'
 | [],[],p,h,l,r,id=>by
  simp only[packCaps,Option.some.injEq] at h;subst h;exact⟨[],[],id,rfl,[],⟨rfl,fun o=>rfl,fun β _ q hq=>by simp at hq⟩,fun β _=>trivial⟩
 | [],_::_,p,h,l,r,id=>by simp[packCaps] at h
 | _::_,[],p,h,l,r,id=>by simp[packCaps] at h
 | (b,t)::caps,w::ws,p,h,l,r,id=>by
  simp only[packCaps] at h
  split at h
  · rename_i p1 p2 h1 h2;simp only[Option.some.injEq] at h;subst h;obtain⟨x,e1,L1,n1,k1⟩:=zJS h1 id;obtain⟨ws',objs,id',e2,L2,n2,k2⟩:=zDy h2 (l++[⟨t,x⟩]) r (id+(capInit b t x id).2.length);have et:(p1.add p2).tvs=[⟨t,x⟩]++p2.tvs:=by simp[Pack.add,e1]
    have e3:l++(p1.add p2).tvs++r=l++[⟨t,x⟩]++(p2.tvs++r):=by rw[et];simp
    have e4:l++(p1.add p2).tvs++r=l++[⟨t,x⟩]++p2.tvs++r:=by rw[et];simp
    have e5:getTV t (l++(p1.add p2).tvs++r) l.length=x:=by rw[e3];exact zd
    refine⟨(capInit b t x id).1::ws',(capInit b t x id).2++objs,id',?_,L1++L2,n1.add n2,fun β hb=>⟨k1 β (Names.has_append.1 hb).1,k2 β (Names.has_append.1 hb).2⟩⟩;rw[show l.length+(p1.add p2).tvs.length=(l++[(⟨t,x⟩:TV)]).length+p2.tvs.length by rw[et];simp;omega];rw[zA0,e5,show l.length+1=(l++[(⟨t,x⟩:TV)]).length by simp,e4,e2]
  · simp at h
theorem zJU {k:PK}{v:V}{p:Pack}(h:packArg ob k v=some p) (l r:List TV) (id:Nat):
  ∃ v' objs,k.init (l++p.tvs++r) l.length id=(v',objs,l.length+p.tvs.length)∧∃ L,Named ob p L objs∧∀ β:Names,β.has L→RelV β v v':=by
 cases k with
 | ro t=>cases v with
  | w w=>
   obtain⟨x,e,L,n,f⟩:=zGV h id;refine⟨_,_,?_,L,n,fun β hb=>⟨_,rfl,f β hb⟩⟩;rw[e];simp only[PK.init,zd]
   rfl
  | _=>simp[packArg] at h
 | own t=>cases v with
  | w w=>
   simp only[packArg] at h
   split at h
   · rename_i x us hp
     split at h
     · rename_i hc;simp only[Option.some.injEq] at h;subst h;obtain⟨L,i1,f1,n1,k1,_⟩:=zHZ hp hc { tvs:=[⟨t,x⟩],gone:=us.map (·.1) } id
       refine⟨_,_,?_,L,⟨i1,fun o=>?_,fun β _=>n1 β⟩,fun β hb=>⟨_,rfl,k1 β hb⟩⟩
       · simp only[PK.init,zd]
         rfl
       · rw[f1];simp[Pack.excl,Pack.mutIds]
     · simp at h
   · simp at h
  | _=>simp[packArg] at h
 | «mut» t=>cases v with
  | w w=>
   simp only[packArg] at h
   split at h
   · rename_i x us hp
     split at h
     · rename_i hc;simp only[Option.some.injEq] at h;subst h;obtain⟨L,i1,f1,n1,k1,_⟩:=zHZ hp hc { tvs:=[⟨t,x⟩],muts:=[(w.slices,.own,t)],order:=[true] } id
       refine⟨_,_,?_,L,⟨i1,fun o=>?_,fun β _=>n1 β⟩,fun β hb=>⟨_,rfl,k1 β hb⟩⟩
       · simp only[PK.init,zd]
         rfl
       · rw[f1];simp[Pack.excl,Pack.mutIds,zBR hp]
     · simp at h
   · simp at h
  | _=>simp[packArg] at h
 | muts t=>cases v with
  | w w=>
   simp only[packArg] at h
   split at h
   · rename_i x us hp
     split at h
     · rename_i hc;simp only[Option.some.injEq] at h;subst h;obtain⟨L,i1,f1,n1,k1,_⟩:=zRM hp hc { tvs:=[⟨t,x⟩],muts:=[(w.slices,.sh,t)],order:=[true] } id
       refine⟨_,_,?_,L,⟨i1,fun o=>?_,fun β _=>n1 β⟩,fun β hb=>⟨_,rfl,k1 β hb⟩⟩
       · simp only[PK.init,zd]
         rfl
       · rw[f1];simp[Pack.excl,Pack.mutIds,zBR hp]
     · simp at h
   · simp at h
  | _=>simp[packArg] at h
 | boxr t=>cases v with
  | w w=>
   obtain⟨x,e,L,n,f⟩:=zIN h id;refine⟨_,_,?_,L,n,fun β hb=>⟨_,rfl,f β hb⟩⟩;rw[e];simp only[PK.init,zd]
   rfl
  | _=>simp[packArg] at h
 | rob t=>cases v with
  | w w=>
   obtain⟨x,e,L,n,f⟩:=zE3 h id;refine⟨_,_,?_,L,n,fun β hb=>⟨_,rfl,f β hb⟩⟩;rw[e];simp only[PK.init,zd]
   rfl
  | _=>simp[packArg] at h
 | box t=>cases v with
  | w w=>
   obtain⟨x,e,L,n,f⟩:=zE8 h id;refine⟨_,_,?_,L,n,fun β hb=>⟨_,rfl,f β hb⟩⟩;rw[e];simp only[PK.init,zd]
   rfl
  | _=>simp[packArg] at h
 | fn f caps=>cases v with
  | fn g ws=>
   simp only[packArg] at h
   split at h
   · rename_i hg;subst hg;obtain⟨ws',objs,id',e,L,n,k⟩:=zDy h l r id;refine⟨_,_,?_,L,n,fun β hb=>⟨_,rfl,k β hb⟩⟩;simp only[PK.init,e]
   · simp at h
  | _=>simp[packArg] at h
def RelVs (β:Names):List V→List V→Prop
 | [],[]=>True
 | v::vs,u::us=>RelV β v u∧RelVs β vs us
 | _,_=>False
theorem zD2:∀ {ks:List PK}{vs:List V}{p:Pack},packArgs ob ks vs=some p→∀ (l r:List TV) (i:Nat),
  ∃ vs' objs,initPs (l++p.tvs++r) ks i l.length=(vs',objs)∧∃ L,Named ob p L objs∧∀ β:Names,β.has L→RelVs β vs vs'
 | [],[],p,h,l,r,i=>by
  simp only[packArgs,Option.some.injEq] at h;subst h;exact⟨[],[],rfl,[],⟨rfl,fun o=>rfl,fun β _ q hq=>by simp at hq⟩,fun β _=>trivial⟩
 | [],_::_,p,h,l,r,i=>by simp[packArgs] at h
 | _::_,[],p,h,l,r,i=>by simp[packArgs] at h
 | k::ks,v::vs,p,h,l,r,i=>by
  simp only[packArgs] at h
  split at h
  · rename_i p1 p2 h1 h2;simp only[Option.some.injEq] at h;subst h;obtain⟨v',o1,e1,L1,n1,k1⟩:=zJU h1 l (p2.tvs++r) (idOf i);obtain⟨vs',o2,e2,L2,n2,k2⟩:=zD2 h2 (l++p1.tvs) r (i+1);refine⟨v'::vs',o1++o2,?_,L1++L2,n1.add n2,fun β hb=>⟨k1 β (Names.has_append.1 hb).1,k2 β (Names.has_append.1 hb).2⟩⟩;have e3:l++(p1.add p2).tvs++r=l++p1.tvs++(p2.tvs++r):=by simp[Pack.add]
    have e4:l++(p1.add p2).tvs++r=l++p1.tvs++p2.tvs++r:=by simp[Pack.add]
    simp only[initPs];rw[show PK.init (l++(p1.add p2).tvs++r) l.length (idOf i) k=(v',o1,l.length+p1.tvs.length) by rw[e3];exact e1];simp only;rw[show l.length+p1.tvs.length=(l++p1.tvs).length by simp,e4,e2]
  · simp at h
theorem RelVs.len {β:Names}:∀ {vs us:List V},RelVs β vs us→vs.length=us.length
 | [],[],_=>rfl
 | _::_,_::_,h=>by simp[RelVs.len h.2]
 | [],_::_,h=>h.elim
 | _::_,[],h=>h.elim
theorem RelVs.get {β:Names}:∀ {vs us:List V},RelVs β vs us→∀ {i:Nat}{v u:V},vs[i]?=some v→us[i]?=some u→RelV β v u
 | [],[],_,i,v,u,h1,_=>by simp at h1
 | _::_,_::_,h,0,v,u,h1,h2=>by
  simp only[List.getElem?_cons_zero,Option.some.injEq] at h1 h2;subst h1;subst h2;exact h.1
 | _::_,_::_,h,i+1,v,u,h1,h2=>RelVs.get h.2 (by simpa using h1) (by simpa using h2)
 | [],_::_,h,_,_,_,_,_=>h.elim
 | _::_,[],h,_,_,_,_,_=>h.elim
end
end Go.Ev
namespace Go.Ev
section
variable {w0:World}{X Y0:Nat→Prop}{fix:List (Nat×Value)}{s:St}{ρ:Locs}{col:Col}{a:Act}{w:World}
theorem zB3 {α:Type}{f:α→Option Nat}{o:Nat}:∀ {l:List α},(l.filterMap f).Nodup→∀ {i j:α},i∈l→j∈l→f i=some o→f j=some o→i=j
 | [],_,i,j,hi,_,_,_=>by simp at hi
 | k::l,h,i,j,hi,hj,fi,fj=>by
  rw[List.filterMap_cons] at h
  rcases List.mem_cons.1 hi with rfl | hi'
  · rcases List.mem_cons.1 hj with rfl | hj'
    · rfl
    · rw[fi] at h;simp only[List.nodup_cons] at h;exact absurd (List.mem_filterMap.2 ⟨j,hj',fj⟩) h.1
  · rcases List.mem_cons.1 hj with rfl | hj'
    · rw[fj] at h;simp only[List.nodup_cons] at h;exact absurd (List.mem_filterMap.2 ⟨i,hi',fi⟩) h.1
    · refine zB3 (l:=l) ?_ hi' hj' fi fj
      cases hk:f k with
      | none=>rw[hk] at h;exact h
      | some x=>rw[hk] at h;exact (List.nodup_cons.1 h).2
theorem zFo {β:Type}{i:Nat}{x:β}:∀ {l:List (Nat×β)},(l.map (·.1)).Nodup→(i,x)∈l→l.lookup i=some x
 | [],_,h=>by simp at h
 | (j,y)::l,hn,h=>by
  simp only[List.map_cons,List.nodup_cons] at hn;rw[List.lookup_cons]
  rcases List.mem_cons.1 h with e | h
  · simp only[Prod.mk.injEq] at e;obtain⟨rfl,rfl⟩:=e;simp
  · have:i≠j:=fun e=>hn.1 (by rw[← e];exact List.mem_map_of_mem h)
    have:(i==j)=false:=by simpa using this
    rw[this];exact zFo hn.2 h
theorem ki {β:Type}{i:Nat}{x:β}:∀ {l:List (Nat×β)},l.lookup i=some x→(i,x)∈l
 | [],h=>by simp at h
 | (j,y)::l,h=>by
  rw[List.lookup_cons] at h
  split at h
  · rename_i e;simp only[Option.some.injEq] at h;subst h;rw[beq_iff_eq.1 e];simp
  · exact List.mem_cons_of_mem _ (ki h)
theorem zHI {f:Objs}{i:Nat}{y:Obj}:∀ {l:List (Nat×Obj)},(l.map (·.1)).Nodup→(f.upds l i=some y)→(i,y)∈l∨(f i=some y∧i∉l.map (·.1))
 | [],_,h=>.inr ⟨h,by simp⟩
 | (j,x)::l,hn,h=>by
  simp only[List.map_cons,List.nodup_cons] at hn;simp only[Objs.upds] at h
  rcases zHI hn.2 h with h | ⟨h1,h2⟩
  · exact .inl (by simp[h])
  · by_cases e:i=j
    · subst e;simp only[Objs.upd,if_true,Option.some.injEq] at h1;subst h1;exact .inl (by simp)
    · simp only[Objs.upd,if_neg e] at h1;exact .inr ⟨h1,by simp[e,h2]⟩
def gam (L:NL) (o:Nat):Option Nat:=(L.find? fun q=>q.2.2&&(q.2.1==some o)).map (·.1)
def colIn (col:Col) (L:NL):Col:=fun b=>match col b with
 | some (o,0)=>(gam L o).map fun i=>(i,0)
 | _=>none
def yIn (col:Col) (Y:Nat→Prop) (p:Pack) (b:Nat):Prop:=RO col Y b∨∃ o c,col b=some (o,c)∧o∈p.ids
theorem zGy {L:NL}{o i:Nat}(h:gam L o=some i):(i,some o,true)∈L:=by
 simp only[gam,Option.map_eq_some_iff] at h;obtain⟨⟨j,x,m⟩,h1,rfl⟩:=h;have h2:=List.find?_some h1;simp only[Bool.and_eq_true,beq_iff_eq] at h2;obtain⟨h3,h4⟩:=h2;subst h3;subst h4;exact List.mem_of_find?_eq_some h1
theorem mem_minesOf {L:NL}{o:Nat}:o∈minesOf L↔∃ i,(i,some o,true)∈L:=by
 simp only[minesOf,List.mem_filterMap]
 constructor
 · rintro ⟨⟨i,x,m⟩,h1,h2⟩
   cases m with
   | false=>simp at h2
   | true=>simp only[if_true] at h2;subst h2;exact⟨i,h1⟩
 · rintro ⟨i,h⟩;exact⟨_,h,rfl⟩
theorem zRv {L:NL}{p:Pack}(hn:p.excl.Nodup) (hc:∀ o,(minesOf L).count o=p.excl.count o) {o i:Nat}(h:(i,some o,true)∈L):gam L o=some i:=by
 have hnd:(minesOf L).Nodup:=by
  rw[List.nodup_iff_count];intro o;rw[hc];exact List.nodup_iff_count.1 hn o
 cases hg:gam L o with
 | none=>
  simp only[gam,Option.map_eq_none_iff,List.find?_eq_none] at hg;have:=hg _ h;simp at this
 | some j=>
  have:=zB3 hnd (zGy hg) h rfl rfl;simp only[Prod.mk.injEq] at this;rw[this.1]
theorem zRu {L:NL}{p:Pack}(hc:∀ o,(minesOf L).count o=p.excl.count o) {o:Nat}(h:o∉p.excl):gam L o=none:=by
 cases hg:gam L o with
 | none=>rfl
 | some j=>
  have h1:o∈minesOf L:=mem_minesOf.2 ⟨j,zGy hg⟩;have h2:=List.count_pos_iff.2 h1;rw[hc] at h2;exact absurd (List.count_pos_iff.1 h2) h
theorem zPh {p:Pack}(h:p.ok=true):p.excl.Nodup∧∀ o∈p.ro.map (·.1),o∉p.excl:=by
 simp only[Pack.ok,Bool.and_eq_true,decide_eq_true_eq,List.all_eq_true,Bool.not_eq_true',List.contains_eq_mem,decide_eq_false_iff_not] at h;exact h
theorem entry (h:Inv w0 X Y0 fix s ρ col a w) {fd:FD}{vs:List V}{xs:List Value}{p:Pack}(hp:packArgs s.ob fd.sig.params vs=some p) (hok:p.ok=true) (hfl:p.excl.all (flatAt s.ob)=true)
  (hx:xs.length=vs.length) (hv:∀ (i:Nat) (v:V) (x:Value),vs[i]?=some v→xs[i]?=some x→VRel s.ob ρ v x) (hn:((initPs p.tvs fd.sig.params 0 0).2.map (·.1)).Nodup) (hl:fd.sig.params.length≤fd.fn.ntmps)
  (fixC:List (Nat×Value)) (hfixC:∀ q∈fixC,q.1<xs.length∧xs.getD q.1 Go.undef=q.2):
  ∃ (L:NL) (ρ1:Locs) (objs:List (Nat×Obj)),Named s.ob p L objs∧(fd.init p.tvs).ob=Objs.none.upds objs∧(objs.map (·.1)).Nodup∧(∀ q∈L,ρ1 q.1=(match q.2.1 with | some o=>ρ o | none=>⟨none,0,0⟩)) ∧
   Inv w (fun b=>colIn col L b≠none) (yIn col (Yof w0 X Y0) p) fixC (fd.init p.tvs) ρ1 (colIn col L) ⟨xs.toArray++Array.replicate (fd.fn.ntmps-xs.length) undef,[]⟩ w:=by
 obtain⟨vs',objs,e,L,hL,hR⟩:=zD2 hp [] [] 0;simp only[List.nil_append,List.append_nil,List.length_nil] at e;rw[e] at hn;simp only at hn;have hinit:fd.init p.tvs=⟨vs'++List.replicate (fd.fn.ntmps-vs'.length) .undef,Objs.none.upds objs⟩:=by simp only[FD.init,e]
 have hLn:(L.map (·.1)).Nodup:=by rw[hL.1];exact hn
 let β:Names:=fun i=>(L.lookup i).map (·.1)
 have hβ:β.has L:=fun q hq=>by
  have:=zFo hLn hq;simp only[β,this,Option.map_some]
 have hRel:=hR β hβ;have hlen:=hRel.len;obtain⟨hok1,hok2⟩:=zPh hok;have hcount:=hL.2.1;have hobn:∀ i,β i≠none→(Objs.none.upds objs) i≠none:=by
  intro i hi;refine zEA ?_;rw[← hL.1]
  cases hlk:L.lookup i with
  | none=>simp[β,hlk] at hi
  | some x=>exact List.mem_map_of_mem (ki hlk)
 have hlp:fd.sig.params.length=vs'.length:=by
  have:∀ (ks:List PK) (vs:List V) (p:Pack),packArgs s.ob ks vs=some p→ks.length=vs.length:=by
   intro ks
   induction ks with
   | nil=>intro vs p h;cases vs<;>simp_all [packArgs]
   | cons k ks ih=>
    intro vs p h
    cases vs with
    | nil=>simp[packArgs] at h
    | cons v vs=>
     simp only[packArgs] at h
     split at h
     · rename_i h2;simp[ih _ _ h2]
     · simp at h
  rw[this _ _ _ hp,hlen]
 refine⟨L,β.loc ρ,objs,hL,by rw[hinit],hn,fun q hq=>?_,?_⟩
 · have:=hβ q hq;simp only[Names.loc,this]
   cases q.2.1<;>rfl
 rw[hinit]
 refine⟨rfl,by simp;omega,?_,?_,?_,fun b _ _=>rfl,Nat.le_refl _,?_,Like.refl w⟩
 · intro i v hi;rw[List.getElem?_append] at hi
   split at hi
   · rename_i hil;have hix:i<xs.length:=by omega
     have hiv:i<vs.length:=by omega
     have hr:=hRel.get (List.getElem?_eq_getElem hiv) hi;have hxx:=hv i _ _ (List.getElem?_eq_getElem hiv) (List.getElem?_eq_getElem hix);have:(xs.toArray++Array.replicate (fd.fn.ntmps-xs.length) undef).getD i Go.undef=xs[i]:=by
      simp[Array.getD_eq_getD_getElem?,Array.getElem?_append,hix]
     simp only[this];exact RelV.rel (fun _ _=>rfl) hobn hr hxx
   · rw[List.getElem?_replicate] at hi
     split at hi
     · simp only[Option.some.injEq] at hi;exact .inl hi.symm
     · simp at hi
 · intro i y hy;rcases zHI hn hy with hm | ⟨hm,_⟩
   case inr=>simp[Objs.none] at hm
   have hnew:=hL.2.2 β hβ _ hm
   have mv:∀ {o x},(i,some o,y.mine)∈L→s.ob o=some x→Moves (Objs.none.upds objs) ρ (β.loc ρ) x y→(y.own=true∨y.mine=true∨(y.own=false∧y.mine=false∧o∈p.ro.map (·.1)))→(y.own=true→y.mine=true) →
     ObjRel (Objs.none.upds objs) (β.loc ρ) (colIn col L) (Yof w (fun b=>colIn col L b≠none) (yIn col (Yof w0 X Y0) p)) w i y:=by
    intro o x hq hx hmv hright hmine;have hbi:β i=some (some o):=hβ _ hq;have hexcl:y.mine=true→o∈p.excl:=fun e=>by
     have h1:o∈minesOf L:=mem_minesOf.2 ⟨i,by rw[← e];exact hq⟩;have h2:=List.count_pos_iff.2 h1;rw[hcount] at h2;exact List.count_pos_iff.1 h2
    have hids:y.own=false→o∈p.ids:=fun e=>by
     rcases hright with g | g | ⟨_,_,g⟩
     · rw[g] at e;simp at e
     · simp only[Pack.ids,List.mem_append];exact .inr (hexcl g)
     · simp only[Pack.ids,List.mem_append];exact .inl g
    refine (h.objs o x hx).move hmv (by simp only[Names.loc,hbi]) (fun hm b hb=>?_) (fun t zs ht hnf b k hb=>?_) (fun he b hb=>?_) (fun he b k hb=>?_) (fun _ he hm b hb=>?_)
    · have:=zRv hok1 hcount (by rw[← hm];exact hq);simp only[colIn,hb,this,Option.map_some]
    · have hm:y.mine=true:=by rw[ht];rfl
      have hf:=(List.all_eq_true.1 hfl) o (hexcl hm);unfold flatAt at hf;rw[hx] at hf;subst ht
      cases hmv with
      | @row m0 _ _ _ hle=>
       have:m0=.own:=by cases m0<;>simp_all [Mode.le]
       subst this;simp[hnf] at hf
    · refine⟨.inl ?_,.inl (.inl hb)⟩;rcases hb.1 with e | ⟨o',k,e⟩<;>simp only[colIn,e]
    · exact⟨.inl (by simp only[colIn,hb]),.inl (.inr ⟨o,k+1,hb,hids he⟩)⟩
    · have ho:o∉p.excl:=by
       rcases hright with g | g | ⟨_,_,g⟩
       · rw[g] at he;simp at he
       · rw[g] at hm;simp at hm
       · exact hok2 o g
      have:=zRu hcount ho;exact⟨.inl (by simp only[colIn,hb,this,Option.map_none]),.inl (.inr ⟨o,0,hb,hids he⟩)⟩
   cases y with
   | dead=>trivial
   | row m u zs=>
    rcases hnew with ⟨hq,rfl⟩ | ⟨o,m0,hq,hx,hle,hr⟩
    · exact ObjRel.nil (by simp only[Names.loc,hβ _ hq])
    · refine mv hq hx (.row hle) ?_ ?_
      · rcases hr with rfl | rfl | ⟨rfl,hr⟩
        · exact .inl rfl
        · exact .inr (.inl rfl)
        · exact .inr (.inr ⟨rfl,rfl,hr⟩)
      · intro e;rcases hr with rfl | rfl | ⟨rfl,_⟩
        · rfl
        · rfl
        · simp[Obj.own] at e
   | box m z=>
    obtain⟨o,m0,x0,hq,hx,hle,hrel,hr⟩:=hnew;have hwf:wfW s.ob ρ x0:=by obtain⟨_,_,_,g,_⟩:=h.objs o _ hx;exact g
    obtain⟨g1,g2,_⟩:=RelW.val (ob:=s.ob) (ρ:=ρ) (ρ':=β.loc ρ) (fun _ _=>rfl) hobn hrel hwf
    refine mv hq hx (.box hle g1 g2) ?_ ?_
    · rcases hr with rfl | ⟨rfl,hr⟩
      · exact .inl rfl
      · exact .inr (.inr ⟨rfl,rfl,hr⟩)
    · intro e;rcases hr with rfl | ⟨rfl,_⟩
      · rfl
      · simp[Obj.own] at e
 · intro b i c hb
   refine⟨.inr (by rw[hb];simp),?_,?_⟩
   · simp only[colIn] at hb
     split at hb
     · rename_i o ho;exact (h.cold b o 0 ho).2.1
     · simp at hb
   · simp only[colIn] at hb
     split at hb
     · rename_i o ho;rw[Option.map_eq_some_iff] at hb;obtain⟨j,hj,hb⟩:=hb;simp only[Prod.mk.injEq] at hb;obtain⟨rfl,rfl⟩:=hb;exact hobn j (by rw[hβ _ (zGy hj)];simp)
     · simp at hb
 · intro q hq;obtain⟨h1,h2⟩:=hfixC q hq;refine⟨by simp;omega,?_⟩;rw[← h2];simp[Array.getD_eq_getD_getElem?,Array.getElem?_append,h1]
end
end Go.Ev
namespace Go.Ev
def OutNew (ob:Objs) (β:Names) (B:List (Nat×Nat)) (L:NL) (i:Nat):Obj→Prop
 | .row m u xs=>((i,none,m.mine)∈L∧xs=[])∨∃ o m0,(i,some o,m.mine)∈L∧ob o=some (.row m0 u xs)∧m0.le m=true
 | .box m x=>m=.own∧((∃ o x0,(i,some o,true)∈L∧ob o=some (.box .own x0)∧RelW β x0 x)∨∃ o x0,(i,o)∈B∧ob o=some (.box .own x0)∧RelW β x0 x)
 | .dead=>False
theorem OutNew.mono {ob:Objs}{β:Names}{B B':List (Nat×Nat)}{L L':NL}{i:Nat}{y:Obj}(h:OutNew ob β B L i y) (h1:∀ q∈L,q∈L') (h2:∀ q∈B,q∈B'):OutNew ob β B' L' i y:=by
 cases y with
 | dead=>exact h.elim
 | row m u xs=>
  rcases h with h | ⟨o,m0,g1,g2,g3⟩
  · exact .inl ⟨h1 _ h.1,h.2⟩
  · exact .inr ⟨o,m0,h1 _ g1,g2,g3⟩
 | box m x=>
  obtain⟨rfl,⟨o,x0,g1,g2,g3⟩ | ⟨o,x0,g1,g2,g3⟩⟩:=h
  · exact⟨rfl,.inl ⟨o,x0,h1 _ g1,g2,g3⟩⟩
  · exact⟨rfl,.inr ⟨o,x0,h2 _ g1,g2,g3⟩⟩
section
variable {ob:Objs}
theorem ku {t:Ty}{w:W}{p:Pack}(h:packBox ob t w=some p):∃ o x0 x us,w=.c (.ptr o 0 0 0)∧ob o=some (.box .own x0)∧packW ob t x0=some (x,us)∧us.all (fun p=>p.2=.own)=true ∧
  p={ tvs:=[⟨t,x⟩],gone:=us.map (·.1),boxes:=[(o,.own,t)],order:=[false] }:=by
 unfold packBox at h
 split at h
 · rename_i o
   split at h
   · rename_i x0 hb
     split at h
     · rename_i x us hp
       split at h
       · rename_i hc;simp only[Option.some.injEq] at h;exact⟨o,x0,x,us,rfl,hb,hp,hc,h.symm⟩
       · simp at h
     · simp at h
   · simp at h
 · simp at h
theorem jq {t:Ty}{w:W}{p:Pack}(h:packBoxR ob t w=some p):∃ o x0 x us,w=.c (.ptr o 0 0 0)∧ob o=some (.box .own x0)∧packW ob t x0=some (x,us) ∧
  p={ tvs:=[⟨t,x⟩],ro:=us,boxes:=[(o,.ro,t)],order:=[false] }:=by
 unfold packBoxR at h
 split at h
 · rename_i o
   split at h
   · rename_i x0 hb
     split at h
     · rename_i x us hp;simp only[Option.some.injEq] at h;exact⟨o,x0,x,us,rfl,hb,hp,h.symm⟩
     · simp at h
   · simp at h
 · simp at h
theorem zSd {t:Ty}{w:W}{x:t.den}{us:List (Nat×Mode)}(hp:packW ob t w=some (x,us)) (id:Nat):
  ∃ L:NL,L.map (·.1)=(unpackW .ro t x id).2.map (·.1)∧(∀ q∈L,q.2.2=false)∧(∀ i o,(i,some o,false)∈L→o∈us.map (·.1))∧(∀ β:Names,∀ q∈(unpackW .ro t x id).2,OutNew ob β [] L q.1 q.2)∧(∀ β:Names,β.has L→RelW β w (unpackW .ro t x id).1):=by
 obtain⟨L,i1,f1,m1,k1,n1,s1⟩:=kZ hp .ro id
 refine⟨L,i1,m1,fun i o hq=>?_,fun β q hq=>?_,k1⟩
 · rw[← f1];exact List.mem_filterMap.2 ⟨_,hq,rfl⟩
 · obtain⟨u,xs,e,h⟩:=n1 q hq;rw[e];exact h.imp _root_.id (fun ⟨o,m0,g1,g2,g3⟩=>⟨o,m0,g1,g2,by cases m0<;>rfl⟩)
theorem zUo {t:Ty}{w:W}{x:t.den}{us:List (Nat×Mode)}(hp:packW ob t w=some (x,us)) (hc:us.all (fun p=>p.2=.sh)=true) (id:Nat):
  ∃ L:NL,L.map (·.1)=(unpackW .sh t x id).2.map (·.1)∧minesOf L=us.map (·.1)∧(∀ q∈L,q.2.2=true)∧w.slices=L.map (·.2.1) ∧
   (∀ q∈(unpackW .sh t x id).2,∃ u xs,q.2=.row .sh u xs∧(((q.1,none,true)∈L∧xs=[])∨∃ o,(q.1,some o,true)∈L∧ob o=some (.row .sh u xs))):=by
 obtain⟨L,i1,f1,m1,k1,n1,s1⟩:=kZ hp .sh id;have own:∀ o m0,(o,m0)∈us→m0=.sh:=by
  intro o m0 h;simp only[List.all_eq_true,decide_eq_true_eq] at hc;exact hc _ h
 refine⟨L,i1,by rw[zA7 m1,f1],m1,s1,fun q hq=>?_⟩;obtain⟨u,xs,e,h⟩:=n1 q hq;refine⟨u,xs,e,h.imp _root_.id (fun ⟨o,m0,g1,g2,g3⟩=>⟨o,g1,?_⟩)⟩;rw[own o m0 g3] at g2;exact g2
theorem zLq {t:Ty}{w:W}{x:t.den}{us:List (Nat×Mode)}(hp:packW ob t w=some (x,us)) (hc:us.all (fun p=>p.2=.own)=true) (id:Nat):
  ∃ L:NL,L.map (·.1)=(unpackW .own t x id).2.map (·.1)∧minesOf L=us.map (·.1)∧(∀ q∈L,q.2.2=true)∧(∀ β:Names,∀ q∈(unpackW .own t x id).2,OutNew ob β [] L q.1 q.2)∧(∀ β:Names,β.has L→RelW β w (unpackW .own t x id).1) ∧
   w.slices=L.map (·.2.1)∧(∀ q∈(unpackW .own t x id).2,∃ u xs,q.2=.row .own u xs∧(((q.1,none,true)∈L∧xs=[])∨∃ o,(q.1,some o,true)∈L∧ob o=some (.row .own u xs))):=by
 obtain⟨L,i1,f1,m1,k1,n1,s1⟩:=kZ hp .own id;have own:∀ o m0,(o,m0)∈us→m0=.own:=by
  intro o m0 h;simp only[List.all_eq_true,decide_eq_true_eq] at hc;exact hc _ h
 refine⟨L,i1,by rw[zA7 m1,f1],m1,fun β q hq=>?_,k1,s1,fun q hq=>?_⟩
 · obtain⟨u,xs,e,h⟩:=n1 q hq;rw[e];refine h.imp _root_.id (fun ⟨o,m0,g1,g2,g3⟩=>⟨o,m0,g1,g2,?_⟩);rw[own o m0 g3]
   rfl
 · obtain⟨u,xs,e,h⟩:=n1 q hq;refine⟨u,xs,e,h.imp _root_.id (fun ⟨o,m0,g1,g2,g3⟩=>⟨o,g1,?_⟩)⟩;rw[own o m0 g3] at g2;exact g2
def resInit:(rs:Mode×Bool×Ty)→rs.2.2.den→Nat→W×List (Nat×Obj)
 | (m,false,t),x,id=>unpackW m t x id
 | (m,true,t),x,id=>(W.c (.ptr id 0 0 0),(id,Obj.box .own (unpackW m t x (id+1)).1)::(unpackW m t x (id+1)).2)
theorem zIH (rs:Mode×Bool×Ty) (r:List (Mode×Bool×Ty)) (outs:List TV) (pos id:Nat):
  unpackRes (rs::r) outs pos id=((resInit rs (getTV rs.2.2 outs pos) id).1::(unpackRes r outs (pos+1) (id+(resInit rs (getTV rs.2.2 outs pos) id).2.length)).1,
   (resInit rs (getTV rs.2.2 outs pos) id).2++(unpackRes r outs (pos+1) (id+(resInit rs (getTV rs.2.2 outs pos) id).2.length)).2.1,(unpackRes r outs (pos+1) (id+(resInit rs (getTV rs.2.2 outs pos) id).2.length)).2.2):=by
 obtain⟨m,ptr,t⟩:=rs
 cases ptr<;>rfl
theorem zIM {rs:Mode×Bool×Ty}{w:W}{tvs:List TV}{mines ros:List Nat}(h:packRes1 ob rs w=some (tvs,mines,ros)) (id:Nat):
  ∃ x,tvs=[⟨rs.2.2,x⟩]∧∃ w' objs,resInit rs x id=(w',objs) ∧
   ∃ L:NL,L.map (·.1)=objs.map (·.1)∧(∀ o,(minesOf L).count o≤mines.count o)∧(∀ i o,(i,some o,false)∈L→o∈ros)∧(∀ β:Names,β.has L→RelW β w w'∧∀ q∈objs,OutNew ob β [] L q.1 q.2)∧(rs.1=.own→∀ q∈objs,q.2.own=true):=by
 obtain⟨m,ptr,t⟩:=rs
 cases ptr with
 | false=>
  simp only[packRes1] at h
  split at h
  · rename_i x us hp
    split at h
    · rename_i hc;simp only[Option.some.injEq,Prod.mk.injEq] at h;obtain⟨rfl,rfl,rfl⟩:=h;obtain⟨L,i1,f1,m1,k1,n1,_⟩:=kZ hp m id
      refine⟨x,rfl,_,_,rfl,L,i1,fun o=>?_,fun i o hq=>?_,fun β hb=>⟨k1 β hb,fun q hq=>?_⟩,fun e q hq=>?_⟩
      · cases hm:m.mine with
        | true=>rw[zA7 (fun q hq=>by rw[m1 q hq,hm]),f1];simp
        | false=>rw[zAq (fun q hq=>by rw[m1 q hq,hm])];simp
      · have:=m1 _ hq;simp only at this;rw[← this];simp only[Bool.false_eq_true,if_false];rw[← f1];exact List.mem_filterMap.2 ⟨_,hq,rfl⟩
      · obtain⟨u,xs,e,h⟩:=n1 q hq;rw[e];refine h.imp _root_.id (fun ⟨o,m0,g1,g2,g3⟩=>⟨o,m0,g1,g2,?_⟩);simp only[List.all_eq_true] at hc;exact hc _ g3
      · obtain⟨u,xs,e',h⟩:=n1 q hq;simp only at e;rw[e',e]
        rfl
    · simp at h
  · simp at h
 | true=>
  cases m with
  | sh=>simp[packRes1] at h
  | ro=>
   simp only[packRes1] at h
   split at h
   · rename_i p hp;simp only[Option.some.injEq,Prod.mk.injEq] at h;obtain⟨rfl,rfl,rfl⟩:=h;obtain⟨o,x0,x,us,rfl,hb,hpw,rfl⟩:=jq hp;obtain⟨L,i1,m1,r1,n1,k1⟩:=zSd hpw (id+1)
     refine⟨x,rfl,_,_,rfl,(id,some o,true)::L,by simp[i1],fun o'=>?_,fun i o hq=>?_,fun β hb'=>⟨⟨_,rfl,rfl,rfl,rfl,id,rfl,hb' (id,some o,true) (List.mem_cons_self ..)⟩,fun q hq=>?_⟩,fun e q hq=>?_⟩
     · have:minesOf ((id,some o,true)::L)=o::minesOf L:=rfl;rw[this,zAq m1];simp
     · rcases List.mem_cons.1 hq with e | hq
       · simp at e
       · exact r1 i o hq
     · rcases List.mem_cons.1 hq with rfl | hq
       · exact⟨rfl,.inl ⟨o,x0,by simp,hb,k1 β (fun q hq=>hb' q (by simp[hq]))⟩⟩
       · exact (n1 β q hq).mono (fun q hq=>by simp[hq]) (fun q hq=>hq)
     · simp at e
   · simp at h
  | own=>
   simp only[packRes1] at h
   split at h
   · rename_i p hp;simp only[Option.some.injEq,Prod.mk.injEq] at h;obtain⟨rfl,rfl,rfl⟩:=h;obtain⟨o,x0,x,us,rfl,hb,hpw,hc,rfl⟩:=ku hp;obtain⟨L,i1,f1,m1,n1,k1,_,own1⟩:=zLq hpw hc (id+1)
     refine⟨x,rfl,_,_,rfl,(id,some o,true)::L,by simp[i1],fun o'=>?_,fun i o hq=>?_,fun β hb'=>⟨⟨_,rfl,rfl,rfl,rfl,id,rfl,hb' (id,some o,true) (List.mem_cons_self ..)⟩,fun q hq=>?_⟩,fun e q hq=>?_⟩
     · have:minesOf ((id,some o,true)::L)=o::minesOf L:=rfl;rw[this,f1];simp only[List.map_cons,List.map_nil,List.count_append,List.count_cons,List.count_nil];omega
     · rcases List.mem_cons.1 hq with e | hq
       · simp at e
       · have:=m1 _ hq;simp at this
     · rcases List.mem_cons.1 hq with rfl | hq
       · exact⟨rfl,.inl ⟨o,x0,by simp,hb,k1 β (fun q hq=>hb' q (by simp[hq]))⟩⟩
       · exact (n1 β q hq).mono (fun q hq=>by simp[hq]) (fun q hq=>hq)
     · rcases List.mem_cons.1 hq with rfl | hq
       · rfl
       · obtain⟨u,xs,e',_⟩:=own1 q hq;rw[e']
         rfl
   · simp at h
theorem zE6:∀ {rs:List (Mode×Bool×Ty)}{ws:List W}{tvs:List TV}{mines ros:List Nat},packRes ob rs ws=some (tvs,mines,ros)→∀ (l r:List TV) (id:Nat),
  ∃ ws' objs id',unpackRes rs (l++tvs++r) l.length id=(ws',objs,id')∧tvs.length=rs.length∧∃ L:NL,L.map (·.1)=objs.map (·.1)∧(∀ o,(minesOf L).count o≤mines.count o)∧(∀ i o,(i,some o,false)∈L→o∈ros) ∧
   (∀ β:Names,β.has L→RelWs β ws ws'∧∀ q∈objs,OutNew ob β [] L q.1 q.2)∧(rs.all (fun x=>x.1=.own)=true→∀ q∈objs,q.2.own=true)
 | [],[],tvs,mines,ros,h,l,r,id=>by
  simp only[packRes,Option.some.injEq,Prod.mk.injEq] at h;obtain⟨rfl,rfl,rfl⟩:=h;exact⟨[],[],id,rfl,rfl,[],rfl,fun o=>by simp[minesOf],fun i o h=>by simp at h,fun β _=>⟨trivial,fun q hq=>by simp at hq⟩,fun _ q hq=>by simp at hq⟩
 | [],_::_,tvs,mines,ros,h,l,r,id=>by simp[packRes] at h
 | _::_,[],tvs,mines,ros,h,l,r,id=>by simp[packRes] at h
 | (m,ptr,t)::rs,w::ws,tvs,mines,ros,h,l,r,id=>by
  simp only[packRes] at h
  split at h
  · rename_i x1 u1 v1 x2 u2 v2 h1 h2;simp only[Option.some.injEq,Prod.mk.injEq] at h;obtain⟨rfl,rfl,rfl⟩:=h;obtain⟨x,rfl,w',o1,e1,L1,i1,c1,r1,k1,w1⟩:=zIM h1 id;obtain⟨ws',o2,id',e2,len2,L2,i2,c2,r2,k2,w2⟩:=zE6 h2 (l++[⟨t,x⟩]) r (id+o1.length)
    refine⟨w'::ws',o1++o2,id',?_,by simp[len2],L1++L2,by simp[i1,i2],fun o=>?_,fun i o hq=>?_,fun β hb=>?_,fun ha q hq=>?_⟩
    · have e3:l++([(⟨t,x⟩:TV)]++x2)++r=l++[⟨t,x⟩]++(x2++r):=by simp
      have e4:l++([(⟨t,x⟩:TV)]++x2)++r=l++[⟨t,x⟩]++x2++r:=by simp
      have e5:getTV t (l++([(⟨t,x⟩:TV)]++x2)++r) l.length=x:=by rw[e3];exact zd
      rw[zIH];simp only at e1 e5 ⊢;rw[e5,e1,show l.length+1=(l++[(⟨t,x⟩:TV)]).length by simp,e4,e2]
    · rw[kB,List.count_append,List.count_append];have:=c1 o;have:=c2 o;omega
    · rcases List.mem_append.1 hq with hq | hq
      · exact List.mem_append.2 (.inl (r1 i o hq))
      · exact List.mem_append.2 (.inr (r2 i o hq))
    · obtain⟨b1,b2⟩:=Names.has_append.1 hb;refine⟨⟨(k1 β b1).1,(k2 β b2).1⟩,fun q hq=>?_⟩
      rcases List.mem_append.1 hq with hq | hq
      · exact ((k1 β b1).2 q hq).mono (fun q hq=>by simp[hq]) (fun q hq=>hq)
      · exact ((k2 β b2).2 q hq).mono (fun q hq=>by simp[hq]) (fun q hq=>hq)
    · simp only[List.all_cons,Bool.and_eq_true,decide_eq_true_eq] at ha
      rcases List.mem_append.1 hq with hq | hq
      · exact w1 ha.1 q hq
      · exact w2 ha.2 q hq
  · simp at h
end
def locOf (ρ:Locs):Option Nat→Loc
 | some o=>ρ o
 | none=>⟨none,0,0⟩
theorem zIv {ρ ρ':Locs}{c d:C}{t:Ty}(hc:(c=.nil∨∃ o,c=.sl o)) (hd:(d=.nil∨∃ o,d=.sl o)) (h:cval ρ c=cval ρ' d):
  (∃ x,C.slices [c]=[x]∧∃ y,C.slices [d]=[y]∧locOf ρ x=locOf ρ' y):=by
 rcases hc with rfl | ⟨o,rfl⟩<;>rcases hd with rfl | ⟨o',rfl⟩
 · exact⟨none,rfl,none,rfl,rfl⟩
 · refine⟨none,rfl,some o',rfl,?_⟩;simp only[cval,Value.slice.injEq] at h;simp only[locOf];obtain⟨h1,h2,h3⟩:=h
   cases hl:ρ' o' with
   | mk ad le ca=>
    rw[hl] at h1 h2 h3;simp only at h1 h2 h3;rw[← h1,← h2,← h3]
 · refine⟨some o,rfl,none,rfl,?_⟩;simp only[cval,Value.slice.injEq] at h;simp only[locOf];obtain⟨h1,h2,h3⟩:=h
   cases hl:ρ o with
   | mk ad le ca=>
    rw[hl] at h1 h2 h3;simp only at h1 h2 h3;rw[h1,h2,h3]
 · refine⟨some o,rfl,some o',rfl,?_⟩;simp only[cval,Value.slice.injEq] at h;simp only[locOf];obtain⟨h1,h2,h3⟩:=h
   cases hl:ρ o with
   | mk ad le ca=>
    cases hl':ρ' o' with
    | mk ad' le' ca'=>
     rw[hl,hl'] at h1 h2 h3;simp only at h1 h2 h3;rw[h1,h2,h3]
def Aligned (ρ ρ':Locs):List (Option Nat)→List (Option Nat)→Prop
 | [],[]=>True
 | x::xs,y::ys=>locOf ρ x=locOf ρ' y∧Aligned ρ ρ' xs ys
 | _,_=>False
theorem Aligned.append {ρ ρ':Locs}:∀ {a b c d:List (Option Nat)},Aligned ρ ρ' a b→Aligned ρ ρ' c d→Aligned ρ ρ' (a++c) (b++d)
 | [],[],_,_,_,h=>h
 | _::_,_::_,_,_,h,g=>⟨h.1,Aligned.append h.2 g⟩
 | [],_::_,_,_,h,_=>h.elim
 | _::_,[],_,_,h,_=>h.elim
theorem zFm {ob:Objs}{t:Ty}{cs:List C}{x:List t.den}{us:List (Nat×Mode)}{r:List C}(h:packC ob (.slice t) cs=some (x,us,r)):∃ c,cs=c::r∧(c=.nil∨∃ o,c=.sl o):=by
 match cs,h with
 | .nil::r',h=>
  simp only[packC,Option.some.injEq,Prod.mk.injEq] at h;exact⟨.nil,by rw[h.2.2],.inl rfl⟩
 | .sl o::r',h=>
  simp only[packC] at h
  split at h
  · simp only[Option.some.injEq,Prod.mk.injEq] at h;exact⟨.sl o,by rw[h.2.2],.inr ⟨o,rfl⟩⟩
  · simp at h
theorem zEI {ob ob':Objs}{ρ ρ':Locs}:∀ {t:Ty}{cs cs':List C}{x x':t.den}{us us':List (Nat×Mode)}{r r':List C},packC ob t cs=some (x,us,r)→packC ob' t cs'=some (x',us',r') →
  cs.map (cval ρ)=cs'.map (cval ρ')→r.map (cval ρ)=r'.map (cval ρ')∧∃ S S',C.slices cs=S++C.slices r∧C.slices cs'=S'++C.slices r'∧Aligned ρ ρ' S S'
 | .int k,cs,cs',x,x',us,us',r,r',h,h',hm=>by
  match cs,cs',h,h' with
  | .int k1 n1::q,.int k2 n2::q',h,h'=>
   simp only[packC] at h h';split at h<;>split at h'<;>simp_all
   obtain⟨_,_,rfl⟩:=h;obtain⟨_,_,rfl⟩:=h';exact⟨[],rfl,[],rfl,trivial⟩
 | .bool,cs,cs',x,x',us,us',r,r',h,h',hm=>by
  match cs,cs',h,h' with
  | .bool b1::q,.bool b2::q',h,h'=>
   simp only[packC,Option.some.injEq,Prod.mk.injEq] at h h';obtain⟨_,_,rfl⟩:=h;obtain⟨_,_,rfl⟩:=h';simp only[List.map_cons,List.cons.injEq] at hm;exact⟨hm.2,[],[],rfl,rfl,trivial⟩
 | .arr k m',cs,cs',x,x',us,us',r,r',h,h',hm=>by
  match cs,h with
  | [],h=>simp[packC] at h
  | c::cs,h=>cases c<;>simp[packC] at h
 | .barr m',cs,cs',x,x',us,us',r,r',h,h',hm=>by
  match cs,h with
  | [],h=>simp[packC] at h
  | c::cs,h=>cases c<;>simp[packC] at h
 | .slice t,cs,cs',x,x',us,us',r,r',h,h',hm=>by
  obtain⟨c,rfl,hc⟩:=zFm h;obtain⟨d,rfl,hd⟩:=zFm h';simp only[List.map_cons,List.cons.injEq] at hm;obtain⟨y,e1,z,e2,e3⟩:=zIv (t:=t) hc hd hm.1
  refine⟨hm.2,[y],[z],?_,?_,e3,trivial⟩
  · rcases hc with rfl | ⟨o,rfl⟩<;>simp_all [C.slices]
  · rcases hd with rfl | ⟨o,rfl⟩<;>simp_all [C.slices]
 | .pair a b,cs,cs',x,x',us,us',r,r',h,h',hm=>by
  simp only[packC] at h h'
  split at h
  · rename_i x1 us1 r1 h1
    split at h
    · rename_i x2 us2 r2 h2
      split at h'
      · rename_i y1 vs1 q1 g1
        split at h'
        · rename_i y2 vs2 q2 g2;simp only[Option.some.injEq,Prod.mk.injEq] at h h';obtain⟨_,_,rfl⟩:=h;obtain⟨_,_,rfl⟩:=h';obtain⟨m1,S1,T1,a1,b1,c1⟩:=zEI h1 g1 hm;obtain⟨m2,S2,T2,a2,b2,c2⟩:=zEI h2 g2 m1;exact⟨m2,S1++S2,T1++T2,by rw[a1,a2,List.append_assoc],by rw[b1,b2,List.append_assoc],c1.append c2⟩
        · simp at h'
      · simp at h'
    · simp at h
  · simp at h
theorem zHW {ob ob':Objs}{ρ ρ':Locs}{t:Ty}{w w':W}{x x':t.den}{us us':List (Nat×Mode)}(h:packW ob t w=some (x,us)) (h':packW ob' t w'=some (x',us')) (hm:wval ρ w=wval ρ' w'):Aligned ρ ρ' w.slices w'.slices:=by
 cases t with
 | int k=>cases w with
  | c c=>cases w' with
   | c c'=>cases c<;>cases c'<;>simp_all [packW,W.slices,C.slices,Aligned]
   | _=>simp[packW] at h'
  | _=>simp[packW] at h
 | bool=>cases w with
  | c c=>cases w' with
   | c c'=>cases c<;>cases c'<;>simp_all [packW,W.slices,C.slices,Aligned]
   | _=>simp[packW] at h'
  | _=>simp[packW] at h
 | arr k n=>cases w<;>cases w'<;>simp_all [packW,W.slices,Aligned]
 | barr n=>cases w<;>cases w'<;>simp_all [packW,W.slices,Aligned]
 | slice t=>cases w with
  | c c=>cases w' with
   | c c'=>
    have hc:c=.nil∨∃ o,c=.sl o:=by cases c<;>simp_all [packW]
    have hd:c'=.nil∨∃ o,c'=.sl o:=by cases c'<;>simp_all [packW]
    obtain⟨y,e1,z,e2,e3⟩:=zIv (t:=t) hc hd hm;simp only[W.slices,e1,e2];exact⟨e3,trivial⟩
   | _=>simp[packW] at h'
  | _=>simp[packW] at h
 | pair a b=>cases w with
  | st cs=>cases w' with
   | st cs'=>
    simp only[packW] at h h'
    split at h
    · rename_i x1 us1 h1
      split at h'
      · rename_i x2 us2 h2;have hmm:cs.map (cval ρ)=cs'.map (cval ρ'):=by simpa[wval,wcells] using hm
        obtain⟨_,S,S',e1,e2,e3⟩:=zEI h1 h2 hmm;simp only[W.slices,e1,e2,C.slices,List.append_nil];exact e3
      · simp at h'
    · simp at h
   | _=>simp[packW] at h'
  | _=>simp[packW] at h
theorem zHY {ob:Objs}:∀ {t:Ty}{cs:List C}{x:t.den}{us:List (Nat×Mode)}{r:List C},packC ob t cs=some (x,us,r)→cs.length=t.cells+r.length
 | .int k,cs,x,us,r,h=>by
  match cs,h with
  | .int k1 n1::q,h=>
   simp only[packC] at h
   split at h
   · simp only[Option.some.injEq,Prod.mk.injEq] at h;rw[← h.2.2];simp[Ty.cells];omega
   · simp at h
 | .bool,cs,x,us,r,h=>by
  match cs,h with
  | .bool b1::q,h=>
   simp only[packC,Option.some.injEq,Prod.mk.injEq] at h;rw[← h.2.2];simp[Ty.cells];omega
 | .arr k m',cs,x,us,r,h=>by
  match cs,h with
  | [],h=>simp[packC] at h
  | c::cs,h=>cases c<;>simp[packC] at h
 | .barr m',cs,x,us,r,h=>by
  match cs,h with
  | [],h=>simp[packC] at h
  | c::cs,h=>cases c<;>simp[packC] at h
 | .slice t,cs,x,us,r,h=>by
  obtain⟨c,rfl,_⟩:=zFm h;simp[Ty.cells];omega
 | .pair a b,cs,x,us,r,h=>by
  simp only[packC] at h
  split at h
  · rename_i x1 us1 r1 h1
    split at h
    · rename_i x2 us2 r2 h2;simp only[Option.some.injEq,Prod.mk.injEq] at h;have:=zHY h1;have:=zHY h2;rw[← h.2.2];simp only[Ty.cells];omega
    · simp at h
  · simp at h
theorem zE2 {ob ob':Objs}{ρ:Locs}{t:Ty}{w:W}{x:t.den}{us:List (Nat×Mode)}(h:packW ob t w=some (x,us)) (hw:wfW ob' ρ w):(wcells ρ w).length=t.cells:=by
 cases t with
 | int k=>cases w with
  | c c=>rfl
  | _=>simp[packW] at h
 | bool=>cases w with
  | c c=>rfl
  | _=>simp[packW] at h
 | arr k n=>cases w<;>simp_all [packW,wcells,Ty.cells,wfW]
 | barr n=>cases w<;>simp_all [packW,wcells,Ty.cells,wfW]
 | slice t=>cases w with
  | c c=>rfl
  | _=>simp[packW] at h
 | pair a b=>cases w with
  | st cs=>
   simp only[packW] at h
   split at h
   · rename_i x1 us1 h1;have:=zHY h1;simpa[wcells] using this
   · simp at h
  | _=>simp[packW] at h
end Go.Ev
namespace Go.Ev
def Pos (M:Mode) (ob:Objs):NL→List (Nat×Obj)→Prop
 | [],[]=>True
 | (_,x,_)::L,(_,y)::os=>(∃ u xs,y=.row M u xs∧((x=none∧xs=[])∨∃ o,x=some o∧ob o=some (.row M u xs)))∧Pos M ob L os
 | _,_=>False
theorem zPf {M:Mode}{ob:Objs}:∀ {L:NL}{os:List (Nat×Obj)},L.map (·.1)=os.map (·.1)→(L.map (·.1)).Nodup →
  (∀ q∈os,∃ u xs,q.2=.row M u xs∧(((q.1,none,true)∈L∧xs=[])∨∃ o,(q.1,some o,true)∈L∧ob o=some (.row M u xs)))→Pos M ob L os
 | [],[],_,_,_=>trivial
 | [],_::_,h,_,_=>by simp at h
 | _::_,[],h,_,_=>by simp at h
 | (j,x,m)::L,(j',y)::os,h,hn,hq=>by
  simp only[List.map_cons,List.cons.injEq] at h;simp only[List.map_cons,List.nodup_cons] at hn;obtain⟨rfl,h⟩:=h;have hd:∀ x',(j,x',true)∈(j,x,m)::L→x'=x:=by
   intro x' hm
   rcases List.mem_cons.1 hm with e | hm
   · simp only[Prod.mk.injEq] at e;exact e.2.1
   · exact absurd (List.mem_map_of_mem (f:=(·.1)) hm) hn.1
  refine⟨?_,zPf h hn.2 (fun q hm=>?_)⟩
  · obtain⟨u,xs,e,g⟩:=hq (j,y) (by simp);refine⟨u,xs,e,g.imp (fun g=>⟨(hd _ g.1).symm,g.2⟩) (fun ⟨o,g1,g2⟩=>⟨o,(hd _ g1).symm,g2⟩)⟩
  · obtain⟨u,xs,e,g⟩:=hq q (by simp[hm]);have hne:q.1≠j:=by
     intro e;have:=List.mem_map_of_mem (f:=(·.1)) hm;rw[← h,e] at this;exact hn.1 this
    have tl:∀ x',(q.1,x',true)∈(j,x,m)::L→(q.1,x',true)∈L:=by
     intro x' hm
     rcases List.mem_cons.1 hm with e | hm
     · simp only[Prod.mk.injEq] at e;exact absurd e.1 hne
     · exact hm
    exact⟨u,xs,e,g.imp (fun g=>⟨tl _ g.1,g.2⟩) (fun ⟨o,g1,g2⟩=>⟨o,tl _ g1,g2⟩)⟩
theorem zGp {M:Mode}(hM:M.mine=true) {ob:Objs}{ρ0 ρ1:Locs}:∀ {S:List (Option Nat)}{L0:NL}{os:List (Nat×Obj)},Aligned ρ0 ρ1 S (L0.map (·.2.1))→(∀ q∈L0,q.2.2=true)→Pos M ob L0 os →
  ∃ L:NL,L.map (·.1)=(putBack S os).map (·.1)∧(putBack S os).map (·.1)=S.filterMap id∧(∀ o,(minesOf L).count o≤(minesOf L0).count o)∧(∀ q∈L,q.2.2=true)∧(∀ q∈L,ρ0 q.1=locOf ρ1 q.2.1) ∧
   ∀ β:Names,∀ q∈putBack S os,OutNew ob β [] L q.1 q.2∧(M=.own→q.2.own=true)
 | [],[],[],_,_,_=>⟨[],rfl,rfl,fun o=>Nat.le_refl _,fun q h=>by simp at h,fun q h=>by simp at h,fun β q h=>by simp[putBack] at h⟩
 | [],[],_::_,_,_,h=>h.elim
 | [],_::_,_,h,_,_=>h.elim
 | _::_,[],_,h,_,_=>h.elim
 | _::_,(_,_,_)::_,[],_,_,h=>h.elim
 | none::S,(j,x,m)::L0,(j',y)::os,ha,hm,hp=>by
  obtain⟨L,e1,e2,e3,e4,e5,e6⟩:=zGp hM (S:=S) (L0:=L0) (os:=os) ha.2 (fun q hq=>hm q (by simp[hq])) hp.2;refine⟨L,e1,by simpa[putBack] using e2,fun o=>?_,e4,e5,e6⟩;have h1:=e3 o;have:(minesOf L0).count o≤(minesOf ((j,x,m)::L0)).count o:=by
   have:(j,x,m)::L0=[(j,x,m)]++L0:=rfl;rw[this,kB,List.count_append];omega
  omega
 | some o::S,(j,x,m)::L0,(j',y)::os,ha,hm,hp=>by
  obtain⟨L,e1,e2,e3,e4,e5,e6⟩:=zGp hM (S:=S) (L0:=L0) (os:=os) ha.2 (fun q hq=>hm q (by simp[hq])) hp.2;have hmt:m=true:=hm (j,x,m) (by simp);subst hmt
  refine⟨(o,x,true)::L,by simp[putBack,e1],by simpa[putBack] using e2,fun o'=>?_,fun q hq=>?_,fun q hq=>?_,fun β q hq=>?_⟩
  · have h1:=e3 o';have a1:(o,x,true)::L=[(o,x,true)]++L:=rfl;have a2:(j,x,true)::L0=[(j,x,true)]++L0:=rfl;have a3:minesOf [(o,x,true)]=minesOf [(j,x,true)]:=rfl;rw[a1,a2,kB,kB,List.count_append,List.count_append,a3];omega
  · rcases List.mem_cons.1 hq with rfl | hq
    · rfl
    · exact e4 q hq
  · rcases List.mem_cons.1 hq with rfl | hq
    · exact ha.1
    · exact e5 q hq
  · simp only[putBack,List.mem_cons] at hq
    rcases hq with rfl | hq
    · obtain⟨u,xs,rfl,g⟩:=hp.1
      rcases g with ⟨rfl,rfl⟩ | ⟨o',rfl,g⟩
      · exact⟨.inl ⟨by simp[hM],rfl⟩,fun e=>by rw[e];rfl⟩
      · exact⟨.inr ⟨o',M,by simp[hM],g,by cases M<;>rfl⟩,fun e=>by rw[e];rfl⟩
    · exact⟨(e6 β q hq).1.mono (fun q hq=>by simp[hq]) (fun q hq=>hq),(e6 β q hq).2⟩
def Pack.loud (p:Pack):Bool:=p.muts.any (fun m=>decide (m.2.1≠.own))||p.boxes.any (fun b=>decide (b.2.1≠.own))
theorem Pack.loud_add {p q:Pack}:(p.add q).loud=(p.loud||q.loud):=by
 simp only[Pack.loud,Pack.add,List.any_append]
 cases p.muts.any _<;>cases q.muts.any _<;>cases p.boxes.any _<;>cases q.boxes.any _<;>rfl
def BackOk (ob:Objs) (ρ0 ρ1:Locs) (p:Pack) (tvs:List TV) (mines ros:List Nat):Prop:=
 ∀ (l r:List TV) (id:Nat) (o2:List Bool) (m2:List (List (Option Nat)×Mode×Ty)) (x2:List (Nat×Mode×Ty)),∃ b1 b2,
  unpackBack (p.order++o2) (p.muts++m2) (p.boxes++x2) (l++tvs++r) l.length id=
   (b1++(unpackBack o2 m2 x2 (l++tvs++r) (l.length+tvs.length) (id+b2.length)).1,b2++(unpackBack o2 m2 x2 (l++tvs++r) (l.length+tvs.length) (id+b2.length)).2) ∧
  ∃ (L:NL) (B:List (Nat×Nat)),(∀ j,(L.map (·.1)).count j+(B.map (·.1)).count j=(b1.map (·.1)).count j+(b2.map (·.1)).count j)∧(∀ o,(minesOf L).count o+(B.map (·.2)).count o≤mines.count o)∧(∀ i o,(i,some o,false)∈L→o∈ros) ∧
   (∀ j,(b1.map (·.1)).count j=(p.mutIds++p.boxes.map (·.1)).count j)∧(∀ q∈L,q.1∈b2.map (·.1)∨(q.1∈p.mutIds∧ρ0 q.1=locOf ρ1 q.2.1)) ∧
   (∀ q∈B,q.1∈p.boxes.map (·.1)∧(ρ0 q.1).addr=(ρ1 q.2).addr∧(ρ0 q.1).len=(ρ1 q.2).len)∧∀ β:Names,β.has L→∀ q∈b1++b2,OutNew ob β B L q.1 q.2∧(p.loud=false→q.2.own=true)
section
variable {ob ob0:Objs}{ρ0 ρ1:Locs}
theorem BackOk.nil {p:Pack}(h1:p.order=[]) (h2:p.muts=[]) (h3:p.boxes=[]):BackOk ob ρ0 ρ1 p [] [] []:=by
 intro l r id o2 m2 x2;refine⟨[],[],by simp[h1,h2,h3],[],[],fun j=>rfl,fun o=>Nat.le_refl _,fun i o h=>by simp at h,fun j=>by simp[Pack.mutIds,h2,h3],fun q h=>by simp at h,fun q h=>by simp at h,fun β _ q h=>by simp at h⟩
theorem BackOk.add {p q:Pack}{xs ys:List TV}{m n ro ro':List Nat}(h:BackOk ob ρ0 ρ1 p xs m ro) (g:BackOk ob ρ0 ρ1 q ys n ro'):BackOk ob ρ0 ρ1 (p.add q) (xs++ys) (m++n) (ro++ro'):=by
 intro l r id o2 m2 x2;obtain⟨b1,b2,e,L,B,h1,h2,h3,h4,h5,h6,h7⟩:=h l (ys++r) id (q.order++o2) (q.muts++m2) (q.boxes++x2);obtain⟨c1,c2,e',L',B',g1,g2,g3,g4,g5,g6,g7⟩:=g (l++xs) r (id+b2.length) o2 m2 x2;have e1:l++(xs++ys)++r=l++xs++(ys++r):=by simp
 have e2:l++(xs++ys)++r=l++xs++ys++r:=by simp
 have e3:(l++xs).length=l.length+xs.length:=by simp
 refine⟨b1++c1,b2++c2,?_,L++L',B++B',fun j=>?_,fun o=>?_,fun i o hq=>List.mem_append.2 ((List.mem_append.1 hq).imp (h3 i o) (g3 i o)),fun j=>?_,fun r hr=>?_,fun r hr=>?_,fun β hb r hr=>?_⟩
 · have a:unpackBack ((p.add q).order++o2) ((p.add q).muts++m2) ((p.add q).boxes++x2) (l++(xs++ys)++r) l.length id=unpackBack (p.order++(q.order++o2)) (p.muts++(q.muts++m2)) (p.boxes++(q.boxes++x2)) (l++xs++(ys++r)) l.length id:=by
    rw[e1];simp[Pack.add]
   have e12:l++xs++ys++r=l++xs++(ys++r):=by simp
   rw[e12,e3] at e';rw[a,e,e',e1];simp[Nat.add_assoc]
 · have:=h1 j;have:=g1 j;simp only[List.map_append,List.count_append];omega
 · have:=h2 o;have:=g2 o;rw[kB];simp only[List.map_append,List.count_append];omega
 · have:=h4 j;have:=g4 j;simp only[Pack.mutIds,Pack.add,List.map_append,List.flatMap_append,List.count_append] at *;omega
 · rcases List.mem_append.1 hr with hr | hr
   · rcases h5 r hr with k | ⟨k,k2⟩
     · exact .inl (by simp only[List.map_append,List.mem_append];exact .inl k)
     · exact .inr ⟨by simp only[Pack.mutIds,Pack.add,List.flatMap_append,List.mem_append] at k ⊢;exact .inl k,k2⟩
   · rcases g5 r hr with k | ⟨k,k2⟩
     · exact .inl (by simp only[List.map_append,List.mem_append];exact .inr k)
     · exact .inr ⟨by simp only[Pack.mutIds,Pack.add,List.flatMap_append,List.mem_append] at k ⊢;exact .inr k,k2⟩
 · rcases List.mem_append.1 hr with hr | hr
   · obtain⟨k,k2⟩:=h6 r hr;exact⟨by simp only[Pack.add,List.map_append,List.mem_append];exact .inl k,k2⟩
   · obtain⟨k,k2⟩:=g6 r hr;exact⟨by simp only[Pack.add,List.map_append,List.mem_append];exact .inr k,k2⟩
 · obtain⟨hb1,hb2⟩:=Names.has_append.1 hb;have hm:r∈b1++b2∨r∈c1++c2:=by
    simp only[List.mem_append] at hr ⊢
    rcases hr with (hr | hr) | (hr | hr)
    · exact .inl (.inl hr)
    · exact .inr (.inl hr)
    · exact .inl (.inr hr)
    · exact .inr (.inr hr)
   rcases hm with hm | hm
   · exact⟨(h7 β hb1 r hm).1.mono (fun q hq=>by simp[hq]) (fun q hq=>by simp[hq]),fun e=>(h7 β hb1 r hm).2 (by rw[Pack.loud_add] at e;exact (Bool.or_eq_false_iff.1 e).1)⟩
   · exact⟨(g7 β hb2 r hm).1.mono (fun q hq=>by simp[hq]) (fun q hq=>by simp[hq]),fun e=>(g7 β hb2 r hm).2 (by rw[Pack.loud_add] at e;exact (Bool.or_eq_false_iff.1 e).2)⟩
theorem zSH {t:Ty}{w w':W}{x0 x:t.den}{us0 us:List (Nat×Mode)}(h0:packW ob0 t w=some (x0,us0)) (h1:packW ob t w'=some (x,us)) (hc:us.all (fun p=>p.2=.own)=true) (hv:wval ρ0 w=wval ρ1 w') {p:Pack}
  (ho:p.order=[true]) (hm:p.muts=[(w.slices,.own,t)]) (hb:p.boxes=[]):BackOk ob ρ0 ρ1 p [⟨t,x⟩] (us.map (·.1)) []:=by
 intro l r id o2 m2 x2;obtain⟨L0,i1,f1,m1,n1,k1,s1,pos1⟩:=zLq h1 hc 0;have hal:=zHW h0 h1 hv;rw[s1] at hal;have hnd:(L0.map (·.1)).Nodup:=by
  rw[i1,zt,kM];exact List.nodup_range'
 obtain⟨L,e1,e2,e3,e4,e5,e6⟩:=zGp (M:=.own) rfl hal m1 (zPf i1 hnd pos1)
 refine⟨putBack w.slices (unpackW .own t x 0).2,[],?_,L,[],fun j=>by rw[e1];simp,fun o=>?_,fun i o hq=>by have:=e4 _ hq;simp at this,fun j=>?_,fun q hq=>.inr ⟨?_,e5 q hq⟩,fun q h=>by simp at h,fun β _ q hq=>⟨(e6 β q (by simpa using hq)).1,fun _=>(e6 β q (by simpa using hq)).2 rfl⟩⟩
 · rw[ho,hm,hb];simp only[List.cons_append,List.nil_append,unpackBack];rw[show getTV t (l++[⟨t,x⟩]++r) l.length=x from zd];simp
 · have:=e3 o;rw[f1] at this;simpa using this
 · rw[e2];simp[Pack.mutIds,hm,hb]
 · have:q.1∈L.map (·.1):=List.mem_map_of_mem hq;rw[e1,e2] at this;simpa[Pack.mutIds,hm] using this
theorem zQy {t:Ty}{w w':W}{x0 x:t.den}{us0 us:List (Nat×Mode)}(h0:packW ob0 t w=some (x0,us0)) (h1:packW ob t w'=some (x,us)) (hc:us.all (fun p=>p.2=.sh)=true) (hv:wval ρ0 w=wval ρ1 w') {p:Pack}
  (ho:p.order=[true]) (hm:p.muts=[(w.slices,.sh,t)]) (hb:p.boxes=[]):BackOk ob ρ0 ρ1 p [⟨t,x⟩] (us.map (·.1)) []:=by
 intro l r id o2 m2 x2;obtain⟨L0,i1,f1,m1,s1,pos1⟩:=zUo h1 hc 0;have hal:=zHW h0 h1 hv;rw[s1] at hal;have hnd:(L0.map (·.1)).Nodup:=by
  rw[i1,zt,kM];exact List.nodup_range'
 obtain⟨L,e1,e2,e3,e4,e5,e6⟩:=zGp (M:=.sh) rfl hal m1 (zPf i1 hnd pos1)
 refine⟨putBack w.slices (unpackW .sh t x 0).2,[],?_,L,[],fun j=>by rw[e1];simp,fun o=>?_,fun i o hq=>by have:=e4 _ hq;simp at this,fun j=>?_,fun q hq=>.inr ⟨?_,e5 q hq⟩,fun q h=>by simp at h,fun β _ q hq=>⟨(e6 β q (by simpa using hq)).1,fun e=>by simp[Pack.loud,hm] at e⟩⟩
 · rw[ho,hm,hb];simp only[List.cons_append,List.nil_append,unpackBack];rw[show getTV t (l++[⟨t,x⟩]++r) l.length=x from zd];simp
 · have:=e3 o;rw[f1] at this;simpa using this
 · rw[e2];simp[Pack.mutIds,hm,hb]
 · have:q.1∈L.map (·.1):=List.mem_map_of_mem hq;rw[e1,e2] at this;simpa[Pack.mutIds,hm] using this
theorem zNm {t:Ty}{w w':W}{p pf:Pack}(h0:packBox ob0 t w=some p) (h1:packBox ob t w'=some pf) (hv:wval ρ0 w=wval ρ1 w') (hw:wfW ob0 ρ0 w) (hw':wfW ob ρ1 w')
  (H0:∀ o m x,ob0 o=some (.box m x)→wfW ob0 ρ0 x∧(ρ0 o).len=(wcells ρ0 x).length) (H1:∀ o m x,ob o=some (.box m x)→wfW ob ρ1 x∧(ρ1 o).len=(wcells ρ1 x).length):
  BackOk ob ρ0 ρ1 p pf.tvs (pf.gone++pf.boxes.map (·.1)) []:=by
 obtain⟨o,x0,x,us,rfl,hb,hp,hc,rfl⟩:=ku h0;obtain⟨o',x0',x',us',rfl,hb',hp',hc',rfl⟩:=ku h1;intro l r id o2 m2 x2;obtain⟨L,i1,f1,m1,n1,k1,s1,pos1⟩:=zLq hp' hc' id
 refine⟨[(o,.box .own (unpackW .own t x' id).1)],(unpackW .own t x' id).2,?_,L,[(o,o')],fun j=>by rw[i1];simp;omega,fun q=>?_,fun i o hq=>by have:=m1 _ hq;simp at this,fun j=>by simp[Pack.mutIds],fun q hq=>.inl ?_,fun q hq=>?_,fun β hβ q hq=>?_⟩
 · simp only[List.cons_append,List.nil_append,unpackBack];rw[show getTV t (l++[⟨t,x'⟩]++r) l.length=x' from zd];simp
 · rw[f1];simp only[List.map_cons,List.map_nil,List.count_append];omega
 · rw[← i1];exact List.mem_map_of_mem hq
 · simp only[List.mem_singleton] at hq;subst hq;obtain⟨_,⟨b,off,g2⟩,_⟩:=hw;obtain⟨_,⟨b',off',g2'⟩,_⟩:=hw';simp only[wval,cval,zBK g2,zBK g2'] at hv;obtain⟨a1,a2⟩:=H0 o _ _ hb;obtain⟨a1',a2'⟩:=H1 o' _ _ hb'
   refine⟨by simp,?_,?_⟩
   · rw[g2,g2'];simpa using hv
   · rw[a2,a2',zE2 hp a1,zE2 hp' a1']
 · simp only[List.cons_append,List.nil_append,List.mem_cons] at hq
   rcases hq with rfl | hq
   · exact⟨⟨rfl,.inr ⟨o',x0',by simp,hb',k1 β hβ⟩⟩,fun _=>rfl⟩
   · obtain⟨u,xs,e,_⟩:=pos1 q hq;exact⟨(n1 β q hq).mono (fun q hq=>hq) (fun q hq=>by simp at hq),fun _=>by rw[e];rfl⟩
theorem zQz {t:Ty}{w w':W}{p pf:Pack}(h0:packBoxR ob0 t w=some p) (h1:packBoxR ob t w'=some pf) (hv:wval ρ0 w=wval ρ1 w') (hw:wfW ob0 ρ0 w) (hw':wfW ob ρ1 w')
  (H0:∀ o m x,ob0 o=some (.box m x)→wfW ob0 ρ0 x∧(ρ0 o).len=(wcells ρ0 x).length) (H1:∀ o m x,ob o=some (.box m x)→wfW ob ρ1 x∧(ρ1 o).len=(wcells ρ1 x).length):
  BackOk ob ρ0 ρ1 p pf.tvs (pf.boxes.map (·.1)) (pf.ro.map (·.1)):=by
 obtain⟨o,x0,x,us,rfl,hb,hp,rfl⟩:=jq h0;obtain⟨o',x0',x',us',rfl,hb',hp',rfl⟩:=jq h1;intro l r id o2 m2 x2;obtain⟨L,i1,m1,r1,n1,k1⟩:=zSd hp' id
 refine⟨[(o,.box .own (unpackW .ro t x' id).1)],(unpackW .ro t x' id).2,?_,L,[(o,o')],fun j=>by rw[i1];simp;omega,fun q=>?_,fun i o hq=>r1 i o hq,fun j=>by simp[Pack.mutIds],fun q hq=>.inl ?_,fun q hq=>?_,fun β hβ q hq=>?_⟩
 · simp only[List.cons_append,List.nil_append,unpackBack];rw[show getTV t (l++[⟨t,x'⟩]++r) l.length=x' from zd];simp
 · rw[zAq m1];simp
 · rw[← i1];exact List.mem_map_of_mem hq
 · simp only[List.mem_singleton] at hq;subst hq;obtain⟨_,⟨b,off,g2⟩,_⟩:=hw;obtain⟨_,⟨b',off',g2'⟩,_⟩:=hw';simp only[wval,cval,zBK g2,zBK g2'] at hv;obtain⟨a1,a2⟩:=H0 o _ _ hb;obtain⟨a1',a2'⟩:=H1 o' _ _ hb'
   refine⟨by simp,?_,?_⟩
   · rw[g2,g2'];simpa using hv
   · rw[a2,a2',zE2 hp a1,zE2 hp' a1']
 · simp only[List.cons_append,List.nil_append,List.mem_cons] at hq
   rcases hq with rfl | hq
   · exact⟨⟨rfl,.inr ⟨o',x0',by simp,hb',k1 β hβ⟩⟩,fun _=>rfl⟩
   · exact⟨(n1 β q hq).mono (fun q hq=>hq) (fun q hq=>by simp at hq),fun e=>by simp[Pack.loud] at e⟩
end
end Go.Ev
namespace Go.Ev
section
variable {ob ob0:Objs}{ρ0 ρ1:Locs}
theorem jz {t:Ty}{w:W}{p:Pack}(h:packRo ob0 t w=some p):p.order=[]∧p.muts=[]∧p.boxes=[]:=by
 unfold packRo at h
 split at h
 · simp only[Option.some.injEq] at h;subst h;exact⟨rfl,rfl,rfl⟩
 · simp at h
theorem jY {t:Ty}{w:W}{p:Pack}(h:packRob ob0 t w=some p):p.order=[]∧p.muts=[]∧p.boxes=[]:=by
 unfold packRob at h
 split at h
 · split at h
   · split at h
     · simp only[Option.some.injEq] at h;subst h;exact⟨rfl,rfl,rfl⟩
     · simp at h
   · simp at h
 · simp at h
theorem zDx:∀ {caps:List (CK×Ty)}{ws:List W}{p:Pack},packCaps ob0 caps ws=some p→caps.any (·.1.isBox)=false→p.order=[]∧p.muts=[]∧p.boxes=[]
 | [],[],p,h,_=>by
  simp only[packCaps,Option.some.injEq] at h;subst h;exact⟨rfl,rfl,rfl⟩
 | [],_::_,p,h,_=>by simp[packCaps] at h
 | _::_,[],p,h,_=>by simp[packCaps] at h
 | (b,t)::r,w::ws,p,h,hb=>by
  simp only[packCaps] at h;simp only[List.any_cons,Bool.or_eq_false_iff] at hb
  split at h
  · rename_i p1 p2 h1 h2;simp only[Option.some.injEq] at h;subst h;obtain⟨g1,g2,g3⟩:=zDx h2 hb.2;have:p1.order=[]∧p1.muts=[]∧p1.boxes=[]:=by
     cases b with
     | val=>exact jz h1
     | rob=>exact jY h1
     | box=>simp[CK.isBox] at hb
    exact⟨by simp[Pack.add,this,g1],by simp[Pack.add,this,g2],by simp[Pack.add,this,g3]⟩
  · simp at h
variable (H0:∀ o m x,ob0 o=some (.box m x)→wfW ob0 ρ0 x∧(ρ0 o).len=(wcells ρ0 x).length) (H1:∀ o m x,ob o=some (.box m x)→wfW ob ρ1 x∧(ρ1 o).len=(wcells ρ1 x).length)
include H0 H1
theorem zKs:∀ {caps:List (CK×Ty)}{ws ws':List W}{p:Pack}{tvs:List TV}{mines:List Nat},packCaps ob0 caps ws=some p→backCaps ob caps ws'=some (tvs,mines) →
  ws.map (wval ρ0)=ws'.map (wval ρ1)→(∀ w∈ws,wfW ob0 ρ0 w)→(∀ w∈ws',wfW ob ρ1 w)→BackOk ob ρ0 ρ1 p tvs mines []
 | [],[],[],p,tvs,mines,h,h',_,_,_=>by
  simp only[packCaps,Option.some.injEq] at h;simp only[backCaps,Option.some.injEq,Prod.mk.injEq] at h';obtain⟨rfl,rfl⟩:=h';subst h;exact BackOk.nil rfl rfl rfl
 | [],[],_::_,p,tvs,mines,h,h',_,_,_=>by simp[backCaps] at h'
 | [],_::_,_,p,tvs,mines,h,h',_,_,_=>by simp[packCaps] at h
 | _::_,[],_,p,tvs,mines,h,h',_,_,_=>by simp[packCaps] at h
 | _::_,_::_,[],p,tvs,mines,h,h',e,_,_=>by simp at e
 | (b,t)::r,w::ws,w'::ws',p,tvs,mines,h,h',e,hw,hw'=>by
  simp only[packCaps] at h;simp only[List.map_cons,List.cons.injEq] at e
  split at h
  · rename_i p1 p2 h1 h2;simp only[Option.some.injEq] at h;subst h;have rest:∀ {tvs mines},backCaps ob r ws'=some (tvs,mines)→BackOk ob ρ0 ρ1 p2 tvs mines []:=fun hb=>zKs h2 hb e.2 (fun w hm=>hw w (by simp[hm])) (fun w hm=>hw' w (by simp[hm]))
    cases b with
    | val=>
     simp only[backCaps] at h';obtain⟨q1,q2,q3⟩:=jz h1;exact (BackOk.nil q1 q2 q3).add (rest h')
    | rob=>
     simp only[backCaps] at h';obtain⟨q1,q2,q3⟩:=jY h1;exact (BackOk.nil q1 q2 q3).add (rest h')
    | box=>
     simp only[backCaps] at h'
     split at h'
     · rename_i pf xs us hb1 hb2;simp only[Option.some.injEq,Prod.mk.injEq] at h';obtain⟨rfl,rfl⟩:=h';exact (zNm h1 hb1 e.1 (hw w (by simp)) (hw' w' (by simp)) H0 H1).add (rest hb2)
     · simp at h'
  · simp at h
theorem zSI {k:PK}{v v':V}{p:Pack}{tvs:List TV}{mines ros:List Nat}(h:packArg ob0 k v=some p) (h':k.back ob v'=some (tvs,mines,ros)) (hv:k.isFixed=true→v'≠.undef→vval ρ0 v=vval ρ1 v'∧wfV ob0 ρ0 v∧wfV ob ρ1 v'):
  BackOk ob ρ0 ρ1 p tvs mines ros:=by
 cases k with
 | ro t=>
  simp only[PK.back,Option.some.injEq,Prod.mk.injEq] at h';obtain⟨rfl,rfl,rfl⟩:=h'
  cases v with
  | w w=>
   obtain⟨q1,q2,q3⟩:=jz h;exact BackOk.nil q1 q2 q3
  | _=>simp[packArg] at h
 | rob t=>
  simp only[PK.back,Option.some.injEq,Prod.mk.injEq] at h';obtain⟨rfl,rfl,rfl⟩:=h'
  cases v with
  | w w=>
   obtain⟨q1,q2,q3⟩:=jY h;exact BackOk.nil q1 q2 q3
  | _=>simp[packArg] at h
 | own t=>
  simp only[PK.back,Option.some.injEq,Prod.mk.injEq] at h';obtain⟨rfl,rfl,rfl⟩:=h'
  cases v with
  | w w=>
   simp only[packArg] at h
   split at h
   · split at h
     · simp only[Option.some.injEq] at h;subst h;exact BackOk.nil rfl rfl rfl
     · simp at h
   · simp at h
  | _=>simp[packArg] at h
 | «mut» t=>
  cases v with
  | w w=>
   cases v' with
   | w w'=>
    obtain⟨e,_,_⟩:=hv rfl (by simp);simp only[packArg] at h;simp only[PK.back] at h'
    split at h
    · rename_i x0 us0 hp0
      split at h
      · rename_i hc0;simp only[Option.some.injEq] at h;subst h
        split at h'
        · rename_i x us hp
          split at h'
          · rename_i hc;simp only[Option.some.injEq,Prod.mk.injEq] at h';obtain⟨rfl,rfl,rfl⟩:=h';exact zSH hp0 hp hc e rfl rfl rfl
          · simp at h'
        · simp at h'
      · simp at h
    · simp at h
   | _=>simp[PK.back] at h'
  | _=>simp[packArg] at h
 | box t=>
  cases v with
  | w w=>
   cases v' with
   | w w'=>
    obtain⟨e,hw,hw'⟩:=hv rfl (by simp);simp only[packArg] at h;simp only[PK.back,Option.map_eq_some_iff] at h';obtain⟨pf,hpf,h'⟩:=h';simp only[Prod.mk.injEq] at h';obtain⟨rfl,rfl,rfl⟩:=h';exact zNm h hpf e hw hw' H0 H1
   | _=>simp[PK.back] at h'
  | _=>simp[packArg] at h
 | muts t=>
  cases v with
  | w w=>
   cases v' with
   | w w'=>
    obtain⟨e,_,_⟩:=hv rfl (by simp);simp only[packArg] at h;simp only[PK.back] at h'
    split at h
    · rename_i x0 us0 hp0
      split at h
      · rename_i hc0;simp only[Option.some.injEq] at h;subst h
        split at h'
        · rename_i x us hp
          split at h'
          · rename_i hc;simp only[Option.some.injEq,Prod.mk.injEq] at h';obtain⟨rfl,rfl,rfl⟩:=h';exact zQy hp0 hp hc e rfl rfl rfl
          · simp at h'
        · simp at h'
      · simp at h
    · simp at h
   | _=>simp[PK.back] at h'
  | _=>simp[packArg] at h
 | boxr t=>
  cases v with
  | w w=>
   cases v' with
   | w w'=>
    obtain⟨e,hw,hw'⟩:=hv rfl (by simp);simp only[packArg] at h;simp only[PK.back,Option.map_eq_some_iff] at h';obtain⟨pf,hpf,h'⟩:=h';simp only[Prod.mk.injEq] at h';obtain⟨rfl,rfl,rfl⟩:=h';exact zQz h hpf e hw hw' H0 H1
   | _=>simp[PK.back] at h'
  | _=>simp[packArg] at h
 | fn f caps=>
  cases v with
  | fn g ws=>
   simp only[packArg] at h
   split at h
   · simp only[PK.back] at h'
     split at h'
     · rename_i hb
       cases v' with
       | fn g' ws'=>
        obtain⟨e,hw,hw'⟩:=hv hb (by simp);simp only at h';have e':ws.map (wval ρ0)=ws'.map (wval ρ1):=by
         simp only[vval,Value.func.injEq] at e;simpa using e.2.2
        rw[Option.map_eq_some_iff] at h';obtain⟨q,hq,h'⟩:=h';simp only[Prod.mk.injEq] at h';obtain⟨rfl,rfl,rfl⟩:=h';exact zKs H0 H1 h hq e' hw hw'
       | _=>simp at h'
     · rename_i hb;simp only[Option.some.injEq,Prod.mk.injEq] at h';obtain⟨rfl,rfl,rfl⟩:=h';obtain⟨q1,q2,q3⟩:=zDx h (by simpa using hb);exact BackOk.nil q1 q2 q3
   · simp at h
  | _=>simp[packArg] at h
theorem zLF {tm:List V}:∀ {ks:List PK}{vs:List V}{p:Pack}{i:Nat}{tvs:List TV}{mines ros:List Nat},packArgs ob0 ks vs=some p→backPs ⟨tm,ob⟩ ks i=some (tvs,mines,ros) →
  (∀ (j:Nat) (k:PK) (v:V),ks[j]?=some k→vs[j]?=some v→k.isFixed=true→tm.getD (i+j) .undef≠.undef→vval ρ0 v=vval ρ1 (tm.getD (i+j) .undef)∧wfV ob0 ρ0 v∧wfV ob ρ1 (tm.getD (i+j) .undef))→BackOk ob ρ0 ρ1 p tvs mines ros
 | [],[],p,i,tvs,mines,ros,h,h',_=>by
  simp only[packArgs,Option.some.injEq] at h;simp only[backPs,Option.some.injEq,Prod.mk.injEq] at h';obtain⟨rfl,rfl,rfl⟩:=h';subst h;exact BackOk.nil rfl rfl rfl
 | [],_::_,p,i,tvs,mines,ros,h,h',_=>by simp[packArgs] at h
 | _::_,[],p,i,tvs,mines,ros,h,h',_=>by simp[packArgs] at h
 | k::ks,v::vs,p,i,tvs,mines,ros,h,h',hv=>by
  simp only[packArgs] at h
  split at h
  · rename_i p1 p2 h1 h2;simp only[Option.some.injEq] at h;subst h;simp only[backPs] at h'
    split at h'
    · rename_i xs us ro ys vs' ro' hb1 hb2;simp only[Option.some.injEq,Prod.mk.injEq] at h';obtain⟨rfl,rfl,rfl⟩:=h';refine (zSI H0 H1 h1 hb1 (fun hk hne=>by simpa using hv 0 k v rfl rfl hk (by simpa using hne))).add (zLF h2 hb2 (fun j k v hj hj' hk hne=>?_));have:=hv (j+1) k v (by simpa using hj) (by simpa using hj') hk;rw[show i+(j+1)=i+1+j by omega] at this;exact this hne
    · simp at h'
  · simp at h
end
end Go.Ev
namespace Go.Ev
def outPairs (L:NL) (B:List (Nat×Nat)):List (Nat×Nat):=(L.filterMap fun q=>if q.2.2 then q.2.1.map (fun o=>(q.1,o)) else none)++B
def outName (G:List (Nat×Nat)) (o:Nat):Option Nat:=(G.find? fun q=>q.2==o).map (·.1)
theorem zEJ {G:List (Nat×Nat)}{o i:Nat}(h:outName G o=some i):(i,o)∈G:=by
 simp only[outName,Option.map_eq_some_iff] at h;obtain⟨⟨j,x⟩,h1,rfl⟩:=h;have h2:=List.find?_some h1;simp only[beq_iff_eq] at h2;subst h2;exact List.mem_of_find?_eq_some h1
theorem zIg {G:List (Nat×Nat)}(hn:(G.map (·.2)).Nodup) {o i:Nat}(h:(i,o)∈G):outName G o=some i:=by
 cases hg:outName G o with
 | none=>
  simp only[outName,Option.map_eq_none_iff,List.find?_eq_none] at hg;have:=hg _ h;simp at this
 | some j=>
  have hnd:(G.filterMap fun q=>some q.2).Nodup:=by
   rw[show (fun q:Nat×Nat=>some q.2)=some∘(fun q:Nat×Nat=>q.2) from rfl,List.filterMap_eq_map];exact hn
  have:=zB3 hnd (zEJ hg) h rfl rfl;simp only[Prod.mk.injEq] at this;rw[this.1]
theorem zKQ {G:List (Nat×Nat)}{o:Nat}(h:o∉G.map (·.2)):outName G o=none:=by
 cases hg:outName G o with
 | none=>rfl
 | some j=>exact absurd (List.mem_map_of_mem (f:=(·.2)) (zEJ hg)) h
theorem zGZ (L:NL) (B:List (Nat×Nat)):(outPairs L B).map (·.2)=minesOf L++B.map (·.2):=by
 simp only[outPairs,List.map_append];congr 1
 induction L with
 | nil=>rfl
 | cons q L ih=>
  obtain⟨k,x,m⟩:=q
  cases m with
  | false=>simpa[minesOf] using ih
  | true=>cases x with
   | none=>simpa[minesOf] using ih
   | some o=>simpa[minesOf] using ih
theorem mem_outPairs {L:NL}{B:List (Nat×Nat)}{i o:Nat}:(i,o)∈outPairs L B↔(i,some o,true)∈L∨(i,o)∈B:=by
 simp only[outPairs,List.mem_append,List.mem_filterMap]
 constructor
 · rintro (⟨⟨j,x,m⟩,h1,h2⟩ | h)
   · cases m with
     | false=>simp at h2
     | true=>
      simp only[if_true,Option.map_eq_some_iff,Prod.mk.injEq] at h2;obtain⟨o',rfl,rfl,rfl⟩:=h2;exact .inl h1
   · exact .inr h
 · rintro (h | h)
   · exact .inl ⟨_,h,rfl⟩
   · exact .inr h
theorem jj {f:Objs}{i:Nat}{y:Obj}:∀ {l:List (Nat×Obj)},(f.upds l i=some y)→(i,y)∈l∨(f i=some y∧i∉l.map (·.1))
 | [],h=>.inr ⟨h,by simp⟩
 | (j,x)::l,h=>by
  simp only[Objs.upds] at h
  rcases jj h with h | ⟨h1,h2⟩
  · exact .inl (by simp[h])
  · by_cases e:i=j
    · subst e;simp only[Objs.upd,if_true,Option.some.injEq] at h1;subst h1;exact .inl (by simp)
    · simp only[Objs.upd,if_neg e] at h1;exact .inr ⟨h1,by simp[e,h2]⟩
section
variable {w0:World}{X Y0:Nat→Prop}{fix:List (Nat×Value)}{s:St}{ρ:Locs}{col:Col}{a:Act}{w:World}
def colKeep (col:Col) (ex D:List Nat):Col:=fun b=>match col b with
 | some (o,c)=>if o∈ex∨o∈D then none else some (o,c)
 | none=>none
def colDrop (col:Col) (D:List Nat):Col:=fun b=>match col b with
 | some (o,c)=>if o∈D then none else some (o,c)
 | none=>none
def colOut (colf:Col) (G:List (Nat×Nat)):Col:=fun b=>match colf b with
 | some (o,c)=>(outName G o).map fun i=>(i,c)
 | none=>none
def colNew (colf:Col) (G:List (Nat×Nat)) (col:Col) (ex D:List Nat):Col:=fun b=>match colOut colf G b with
 | some x=>some x
 | none=>colKeep col ex D b
def locNew (ob:Objs) (ρ:Locs) (β:Names) (ρf:Locs):Locs:=fun i=>if (ob i).isSome then ρ i else β.loc ρf i
set_option maxHeartbeats 4000000 in
theorem zOW (h:Inv w0 X Y0 fix s ρ col a w) {p:Pack}(hok:p.ok=true) (hro:∀ q∈p.ro,(∃ t xs,s.ob q.1=some (.row q.2 t xs))∨∃ z,s.ob q.1=some (.box q.2 z)) (hfl:p.excl.all (flatAt s.ob)=true) {Lin:NL}(hcount:∀ o,(minesOf Lin).count o=p.excl.count o)
  {fixC:List (Nat×Value)}{sf:St}{ρf:Locs}{colf:Col}{af:Act}{wf:World}(hf:Inv w (fun b=>colIn col Lin b≠none) (yIn col (Yof w0 X Y0) p) fixC sf ρf colf af wf)
  {res:List (Mode×Bool×Ty)}{ws:List W}{xs ys:List TV}{us vs ros rosB:List Nat}{qt:Bool}(hqt:qt=true→res.all (fun x=>x.1=.own)=true∧p.loud=false) (hres:packRes sf.ob res ws=some (xs,us,ros)) (hwf:∀ x∈ws,wfW sf.ob ρf x) (hback:BackOk sf.ob ρ ρf p ys vs rosB)
  (hnd:(us++vs).Nodup) (hap:apart (ros++rosB) (us++vs)=true) {dst:Option Nat}(hdst:apart dst.toList (fix.map (·.1))=true) {d:Nat}{ok:Bool}{rd:List Nat}
  (hfr:fresh s.ob (((unpackRes res (xs++ys) 0 (idOf d)).2.1++(unpackBack p.order p.muts p.boxes (xs++ys) res.length (unpackRes res (xs++ys) 0 (idOf d)).2.2).2).map (·.1))=true):
  ∃ ρ2 col2,Inv w0 X Y0 fix (s.put dst ⟨ok,resV (unpackRes res (xs++ys) 0 (idOf d)).1,
    p.gone.map (fun o=>(o,Obj.dead))++(if qt then [] else demotes s.ob p.ro)++(unpackBack p.order p.muts p.boxes (xs++ys) res.length (unpackRes res (xs++ys) 0 (idOf d)).2.2).1,
    (unpackRes res (xs++ys) 0 (idOf d)).2.1++(unpackBack p.order p.muts p.boxes (xs++ys) res.length (unpackRes res (xs++ys) 0 (idOf d)).2.2).2,rd⟩) ρ2 col2 (a.put dst (vval ρf (resV ws))) wf:=by
 obtain⟨hok1,hok2⟩:=zPh hok;obtain⟨ws',robjs,id',e1,hlen,Lr,i1,c1,r1,k1,w1⟩:=zE6 hres [] ys (idOf d);simp only[List.nil_append,List.length_nil] at e1;obtain⟨b1,b2,e2,Lb,B,j1,j2,j3,j4,j5,j6,j7⟩:=hback xs [] id' [] [] [];simp only[List.append_nil,unpackBack] at e2;rw[hlen] at e2;rw[e1] at hfr ⊢;simp only at hfr ⊢;rw[e2] at hfr ⊢;simp only at hfr ⊢;obtain⟨fr1,fr2⟩:=jL hfr;have exNe:∀ o∈p.excl,s.ob o≠none:=by
  intro o ho e;have:=(List.all_eq_true.1 hfl) o ho;simp[flatAt,e] at this
 have b1ex:∀ j,j∈b1.map (·.1)↔j∈p.mutIds++p.boxes.map (·.1):=by
  intro j;rw[← List.count_pos_iff,← List.count_pos_iff,j4]
 have exSub:∀ j∈p.mutIds++p.boxes.map (·.1),j∈p.excl:=by
  intro j hj;simp only[Pack.excl,List.mem_append] at hj ⊢;exact hj.elim (fun h=>.inl (.inr h)) .inr
 have newNone:∀ j,(j∈robjs.map (·.1)∨j∈b2.map (·.1))→s.ob j=none:=by
  intro j hj;refine fr2 j ?_;simp only[List.map_append,List.mem_append];exact hj
 have exCount:∀ j,(p.mutIds++p.boxes.map (·.1)).count j≤1:=by
  intro j;have h1:=List.nodup_iff_count.1 hok1 j;simp only[Pack.excl,List.count_append] at h1 ⊢;omega
 have newCount:∀ j,(robjs.map (·.1)).count j+(b2.map (·.1)).count j≤1:=by
  intro j;have:=List.nodup_iff_count.1 fr1 j;simpa[List.map_append,List.count_append] using this
 have keyCount:∀ j,((Lr++Lb).map (·.1)).count j+(B.map (·.1)).count j≤1:=by
  intro j;have h1:=j1 j;have h2:=j4 j;rw[List.map_append,List.count_append,i1]
  by_cases hj:j∈b1.map (·.1)
  · have h3:=exNe j (exSub j ((b1ex j).1 hj));have n1:(robjs.map (·.1)).count j=0:=List.count_eq_zero.2 fun hm=>h3 (newNone j (.inl hm));have n2:(b2.map (·.1)).count j=0:=List.count_eq_zero.2 fun hm=>h3 (newNone j (.inr hm));have:=exCount j;omega
  · have n1:(b1.map (·.1)).count j=0:=List.count_eq_zero.2 hj;have:=newCount j;omega
 have LLn:((Lr++Lb).map (·.1)).Nodup:=List.nodup_iff_count.2 fun j=>by have:=keyCount j;omega
 let β:Names:=fun i=>((Lr++Lb).lookup i).map (·.1)
 have hβ:β.has (Lr++Lb):=fun q hq=>by
  have:=zFo LLn hq;simp only[β,this,Option.map_some]
 obtain⟨hβr,hβb⟩:=Names.has_append.1 hβ;have hβk:∀ i,β i≠none→∃ q∈Lr++Lb,q.1=i:=by
  intro i hi
  cases hl:(Lr++Lb).lookup i with
  | none=>simp[β,hl] at hi
  | some x=>exact⟨_,ki hl,rfl⟩
 generalize hD:(if qt=true then ([]:List Nat) else p.ro.map (·.1))=D;have hDro:∀ o∈D,o∈p.ro.map (·.1):=by
  intro o ho;rw[← hD] at ho
  split at ho
  · simp at ho
  · exact ho
 have hDex:∀ o∈D,o∉p.excl:=fun o ho=>hok2 o (hDro o ho);generalize hdem:(if qt=true then ([]:List (Nat×Obj)) else demotes s.ob p.ro)=dem;have hdemD:∀ q∈dem,q.1∈D∧∃ m,(q.1,m)∈p.ro∧q=demote s.ob q.1:=by
  intro q hq;rw[← hdem] at hq;rw[← hD]
  split at hq
  · simp at hq
  · rename_i hne;rw[if_neg hne];simp only[demotes,List.mem_map,List.mem_filter] at hq;obtain⟨r,⟨hr,_⟩,rfl⟩:=hq;exact⟨List.mem_map_of_mem hr,r.2,hr,rfl⟩
 have hroD:∀ {y:Obj},y.own=false→(∃ i,(i,y)∈robjs++b1++b2)→D=p.ro.map (·.1):=by
  rintro y hy ⟨i,hi⟩;rw[← hD]
  split
  · rename_i hall;exfalso;simp only[List.append_assoc,List.mem_append] at hi
    rcases hi with hi | hi
    · have:=w1 (hqt hall).1 _ hi;rw[hy] at this;simp at this
    · have:=(j7 β hβb (i,y) (by simpa using hi)).2 (hqt hall).2;rw[hy] at this;simp at this
  · rfl
 simp only[St.put];generalize hob:s.ob.upds (p.gone.map (fun o=>(o,Obj.dead))++dem++b1++(robjs++b2))=ob2
 let G:=outPairs (Lr++Lb) B
 let ρ2:=locNew s.ob ρ β ρf
 let col2:=colNew colf G col p.excl D
 have hGn:(G.map (·.2)).Nodup:=by
  rw[zGZ,List.nodup_iff_count];intro o;have h1:=c1 o;have h2:=j2 o;have h3:=List.nodup_iff_count.1 hnd o;rw[kB];simp only[List.count_append] at h3 ⊢;omega
 have hGsub:∀ o∈G.map (·.2),o∈us++vs:=by
  intro o ho;rw[zGZ,kB] at ho;have h0:=List.count_pos_iff.2 ho;have h1:=c1 o;have h2:=j2 o;refine List.count_pos_iff.1 ?_;simp only[List.count_append] at h0 ⊢;omega
 have hob2:∀ i,s.ob i≠none→ob2 i≠none:=fun i hi=>by rw[← hob];exact zJ7 hi
 have hst:Stays s.ob ob2 ρ ρ2:=fun o ho=>⟨hob2 o ho,by
  have:(s.ob o).isSome=true:=by
   cases hx:s.ob o with
   | none=>exact absurd hx ho
   | some x=>rfl
  simp only[ρ2,locNew,this,if_true]⟩
 have hidIn:∀ j,(j∈robjs.map (·.1)∨j∈b1.map (·.1)∨j∈b2.map (·.1))→ob2 j≠none:=by
  intro j hj;rw[← hob];refine zEA ?_;simp only[List.map_append,List.mem_append]
  rcases hj with hj | hj | hj
  · exact .inr (.inl hj)
  · exact .inl (.inr hj)
  · exact .inr (.inr hj)
 have hkeyIn:∀ j,(j∈(Lr++Lb).map (·.1)∨j∈B.map (·.1))→(j∈robjs.map (·.1)∨j∈b1.map (·.1)∨j∈b2.map (·.1)):=by
  intro j hj;have h1:=j1 j;simp only[List.map_append,List.mem_append,i1] at hj
  rcases hj with (hj | hj) | hj
  · exact .inl hj
  · have:=List.count_pos_iff.2 hj
    by_cases hb:j∈b1.map (·.1)
    · exact .inr (.inl hb)
    · have n1:(b1.map (·.1)).count j=0:=List.count_eq_zero.2 hb;exact .inr (.inr (List.count_pos_iff.1 (by omega)))
  · have:=List.count_pos_iff.2 hj
    by_cases hb:j∈b1.map (·.1)
    · exact .inr (.inl hb)
    · have n1:(b1.map (·.1)).count j=0:=List.count_eq_zero.2 hb;exact .inr (.inr (List.count_pos_iff.1 (by omega)))
 have hβob:∀ i,β i≠none→ob2 i≠none:=by
  intro i hi;obtain⟨q,hq,rfl⟩:=hβk i hi;exact hidIn _ (hkeyIn _ (.inl (List.mem_map_of_mem hq)))
 have hβρ:∀ i,β i≠none→ρ2 i=β.loc ρf i:=by
  intro i hi;obtain⟨q,hq,rfl⟩:=hβk i hi;have hnone:s.ob q.1=none→ρ2 q.1=β.loc ρf q.1:=fun e=>by simp only[ρ2,locNew,e];rfl
  rcases List.mem_append.1 hq with hq' | hq'
  · exact hnone (newNone _ (.inl (by rw[← i1];exact List.mem_map_of_mem hq')))
  · rcases j5 q hq' with hb | ⟨hm,hl⟩
    · exact hnone (newNone _ (.inr hb))
    · have hne:=exNe q.1 (exSub _ (List.mem_append.2 (.inl hm)));rw[(hst q.1 hne).2,hl];simp only[Names.loc,hβ q hq]
      cases q.2.1<;>rfl
 have F1:∀ b,colOut colf G b≠none→w.heap.size≤b∨colIn col Lin b≠none:=by
  intro b hb;simp only[colOut] at hb
  split at hb
  · rename_i o c ho;exact (hf.cold b o c ho).1
  · exact absurd rfl hb
 have inEx:∀ b,colIn col Lin b≠none→∃ o,col b=some (o,0)∧o∈p.excl:=by
  intro b hb;simp only[colIn] at hb
  split at hb
  · rename_i o ho;refine⟨o,ho,?_⟩
    cases hg:gam Lin o with
    | none=>simp[hg] at hb
    | some j=>
     have h1:=List.count_pos_iff.2 (mem_minesOf.2 ⟨j,zGy hg⟩);rw[hcount] at h1;exact List.count_pos_iff.1 h1
  · exact absurd rfl hb
 have F2:∀ b,(w.heap.size≤b∨colIn col Lin b≠none)→colKeep col p.excl D b=none:=by
  intro b hb;simp only[colKeep]
  rcases hb with hb | hb
  · cases hc:col b with
    | none=>rfl
    | some x=>
     have:=(h.cold b x.1 x.2 hc).2.1;omega
  · obtain⟨o,ho,hex⟩:=inEx b hb;rw[ho];simp[hex]
 have F3:∀ b,b<w.heap.size→colIn col Lin b=none→colOut colf G b=none∧wf.heap[b]?=w.heap[b]?:=by
  intro b hb hc;refine⟨?_,hf.low b hb (by simp[hc])⟩
  cases hx:colOut colf G b with
  | none=>rfl
  | some x=>
   rcases F1 b (by rw[hx];simp) with g | g
   · omega
   · exact absurd hc g
 have F4:∀ b o c,col b=some (o,c)→(o∉p.excl∨c≠0)→colIn col Lin b=none:=by
  intro b o c hb ho
  cases hx:colIn col Lin b with
  | none=>rfl
  | some x=>
   obtain⟨o',e1,e2⟩:=inEx b (by rw[hx];simp);rw[hb] at e1;simp only[Option.some.injEq,Prod.mk.injEq] at e1;obtain⟨rfl,rfl⟩:=e1
   rcases ho with ho | ho
   · exact absurd e2 ho
   · exact absurd rfl ho
 have F5:∀ b,col b=none→colIn col Lin b=none:=fun b hb=>by simp only[colIn,hb]
 have col2keep:∀ b,colOut colf G b=none→col2 b=colKeep col p.excl D b:=fun b hb=>by simp only[col2,colNew,hb]
 have col2out:∀ b x,colOut colf G b=some x→col2 b=some x:=fun b x hb=>by simp only[col2,colNew,hb]
 have keepElem:∀ b,(col b=none∨(∃ o k,col b=some (o,k+1))∨∃ o c,col b=some (o,c)∧(o∈p.excl∨o∈D))→colKeep col p.excl D b=none∨∃ o k,colKeep col p.excl D b=some (o,k+1):=by
  intro b hb;simp only[colKeep]
  rcases hb with e | ⟨o,k,e⟩ | ⟨o,c,e,ho⟩
  · left;rw[e]
  · rw[e];simp only
    split
    · exact .inl rfl
    · exact .inr ⟨o,k,rfl⟩
  · left;rw[e];simp[ho]
 have old:∀ i x y,s.ob i=some x→i∉p.excl→ob2 i≠none→Moves ob2 ρ ρ2 x y→(i∈D→y.own=false∧y.mine=false)→(i∉D→y.mine=x.mine)→ObjRel ob2 ρ2 col2 (Yof w0 X Y0) wf i y:=by
  intro i x y hx hex hne hmv hiD hiN;have A:ObjRel ob2 ρ2 (colDrop col D) (Yof w0 X Y0) w i y:=by
   refine (h.objs i x hx).move hmv (hst i (by rw[hx];simp)).2 (fun hm b hb=>?_) (fun t zs ht _ b k hb=>?_) (fun _ b hb=>?_) (fun he b k hb=>?_) (fun hxm he hm b hb=>?_)
   · have:i∉D:=fun e=>by rw[(hiD e).2] at hm;simp at hm
     simp only[colDrop,hb,if_neg this]
   · have hm:y.mine=true:=by rw[ht];rfl
     have:i∉D:=fun e=>by rw[(hiD e).2] at hm;simp at hm
     simp only[colDrop,hb,if_neg this]
   · refine⟨?_,hb.2⟩
     rcases hb.1 with e | ⟨o,k,e⟩
     · left;simp only[colDrop,e]
     · simp only[colDrop,e]
       split
       · exact .inl rfl
       · exact .inr ⟨o,k,rfl⟩
   · refine⟨?_,.inr (h.cold b i _ hb).1⟩;simp only[colDrop,hb]
     split
     · exact .inl rfl
     · exact .inr ⟨i,k,rfl⟩
   · have:i∈D:=by
      by_cases e:i∈D
      · exact e
      · rw[hiN e,hxm] at hm;simp at hm
     exact⟨.inl (by simp only[colDrop,hb,if_pos this]),.inr (h.cold b i _ hb).1⟩
  refine A.frame hne (Stays.refl _ _) hf.mono (fun b c hb hc=>?_) (fun b hb hr=>?_)
  · simp only[colDrop] at hc
    split at hc
    · rename_i o c' ho
      split at hc
      · simp at hc
      · rename_i hoD;simp only[Option.some.injEq,Prod.mk.injEq] at hc;obtain⟨rfl,rfl⟩:=hc;obtain⟨g1,g2⟩:=F3 b hb (F4 b _ _ ho (.inl hex));refine⟨?_,g2⟩;rw[col2keep b g1];simp only[colKeep,ho];rw[if_neg (by simp[hex,hoD])]
    · simp at hc
  · have key:(col b=none∨(∃ o k,col b=some (o,k+1))∨∃ o c,col b=some (o,c)∧o∈D):=by
     have:=hr.1;simp only[colDrop] at this
     cases hc:col b with
     | none=>exact .inl rfl
     | some x=>
      obtain⟨o,c⟩:=x;rw[hc] at this;simp only at this
      by_cases hoD:o∈D
      · exact .inr (.inr ⟨o,c,rfl,hoD⟩)
      · rw[if_neg hoD] at this
        rcases this with e | ⟨o',k,e⟩
        · simp at e
        · exact .inr (.inl ⟨o',k,e⟩)
    have hin:colIn col Lin b=none:=by
     rcases key with e | ⟨o,k,e⟩ | ⟨o,c,e,ho⟩
     · exact F5 b e
     · exact F4 b o _ e (.inr (by omega))
     · exact F4 b o c e (.inl (hDex o ho))
    obtain⟨g1,g2⟩:=F3 b hb hin;refine⟨⟨?_,hr.2⟩,g2⟩;rw[col2keep b g1];refine keepElem b ?_
    rcases key with e | e | ⟨o,c,e,ho⟩
    · exact .inl e
    · exact .inr (.inl e)
    · exact .inr (.inr ⟨o,c,e,.inr ho⟩)
 have notIn:∀ b,(w.heap.size≤b∨colIn col Lin b≠none)→Yof w0 X Y0 b:=by
  intro b hb
  rcases hb with hb | hb
  · exact .inr (.inl (Nat.le_trans h.mono hb))
  · obtain⟨o,ho,_⟩:=inEx b hb;exact .inr (h.cold b o 0 ho).1
 have outRO:∀ b,colf b=none∨(∃ o k,colf b=some (o,k+1))→colOut colf G b=none∨∃ o k,colOut colf G b=some (o,k+1):=by
  intro b hb;simp only[colOut]
  rcases hb with e | ⟨o,k,e⟩
  · left;rw[e]
  · rw[e];simp only
    cases outName G o with
    | none=>exact .inl rfl
    | some j=>exact .inr ⟨j,k,rfl⟩
 have fresh2:∀ b,(w.heap.size≤b∨colIn col Lin b≠none)→(colOut colf G b=none∨∃ o k,colOut colf G b=some (o,k+1))→RO col2 (Yof w0 X Y0) b:=by
  intro b hb ho;refine⟨?_,notIn b hb⟩
  rcases ho with e | ⟨o,k,e⟩
  · left;rw[col2keep b e,F2 b hb]
  · right;exact⟨o,k,col2out b _ e⟩
 have new:∀ i y,(i,y)∈robjs++b1++b2→(y.mine=false→∀ o,(i,some o,false)∈Lr++Lb→o∈ros++rosB)→OutNew sf.ob β B (Lr++Lb) i y→ObjRel ob2 ρ2 col2 (Yof w0 X Y0) wf i y:=by
  intro i y hiy hros hnew;have mv:∀ o x,(i,some o,y.mine)∈Lr++Lb→sf.ob o=some x→Moves ob2 ρf ρ2 x y→(y.own=true→y.mine=true)→ObjRel ob2 ρ2 col2 (Yof w0 X Y0) wf i y:=by
   intro o x hq hx hmv hom;have hbi:β i=some (some o):=hβ _ hq;have hname:y.mine=true→outName G o=some i:=fun hm=>zIg hGn (mem_outPairs.2 (.inl (by rw[← hm];exact hq)))
   refine (hf.objs o x hx).move hmv (by rw[hβρ i (by rw[hbi];simp)];simp only[Names.loc,hbi]) (fun hm b hb=>?_) (fun t zs ht _ b k hb=>?_) (fun he b hb=>?_) (fun he b k hb=>?_) (fun _ he hm b hb=>?_)
   · exact col2out b _ (by simp only[colOut,hb,hname hm,Option.map_some])
   · have hm:y.mine=true:=by rw[ht];rfl
     exact col2out b _ (by simp only[colOut,hb,hname hm,Option.map_some])
   · have hDD:=hroD he ⟨i,hiy⟩
     by_cases hin:w.heap.size≤b∨colIn col Lin b≠none
     · exact fresh2 b hin (outRO b hb.1)
     · have hlt:b<w.heap.size:=by
        rcases Nat.lt_or_ge b w.heap.size with g | g
        · exact g
        · exact absurd (.inl g) hin
       have hcn:colIn col Lin b=none:=by
        cases hx:colIn col Lin b with
        | none=>rfl
        | some x=>exact absurd (.inr (by rw[hx];simp)) hin
       have hy:yIn col (Yof w0 X Y0) p b:=by
        rcases hb.2 with g | g | g
        · exact g
        · exact absurd (.inl g) hin
        · exact absurd (.inr g) hin
       obtain⟨g1,_⟩:=F3 b hlt hcn;unfold yIn at hy
       rcases hy with ⟨g,gy⟩ | ⟨o',c,g,go⟩
       · refine⟨?_,gy⟩;rw[col2keep b g1];exact keepElem b (g.imp id .inl)
       · refine⟨?_,.inr (h.cold b o' c g).1⟩;rw[col2keep b g1];refine keepElem b (.inr (.inr ⟨o',c,g,?_⟩));simp only[Pack.ids,List.mem_append] at go
         rcases go with go | go
         · exact .inr (by rw[hDD];exact go)
         · exact .inl go
   · exact fresh2 b (hf.cold b o _ hb).1 (outRO b (.inr ⟨o,k,hb⟩))
   · have hno:outName G o=none:=zKQ fun hm'=>zAw hap o (hros hm o (by rw[← hm];exact hq)) (hGsub o hm')
     exact fresh2 b (hf.cold b o _ hb).1 (.inl (by simp only[colOut,hb,hno,Option.map_none]))
  cases y with
  | dead=>trivial
  | row m u zs=>
   rcases hnew with ⟨hq,rfl⟩ | ⟨o,m0,hq,hx,hle⟩
   · refine ObjRel.nil ?_;rw[hβρ i (by rw[hβ _ hq];simp)];simp only[Names.loc,hβ _ hq]
   · exact mv o _ hq hx (.row hle) (fun e=>by cases m<;>simp_all [Obj.own,Obj.mine,Mode.mine])
  | box m z=>
   obtain⟨rfl,⟨o,x0,hq,hx,hrel⟩ | ⟨o,x0,hq,hx,hrel⟩⟩:=hnew
   · have hwf0:wfW sf.ob ρf x0:=by obtain⟨_,_,_,g,_⟩:=hf.objs o _ hx;exact g
     obtain⟨g1,g2,_⟩:=RelW.val (ob:=sf.ob) (ρ:=ρf) (ρ':=ρ2) hβρ hβob hrel hwf0;exact mv o _ hq hx (.box rfl g1 g2) (fun _=>rfl)
   · have hwf0:wfW sf.ob ρf x0:=by obtain⟨_,_,_,g,_⟩:=hf.objs o _ hx;exact g
     obtain⟨g1,g2,_⟩:=RelW.val (ob:=sf.ob) (ρ:=ρf) (ρ':=ρ2) hβρ hβob hrel hwf0;obtain⟨q1,q2,q3⟩:=j6 _ hq;have hne:=exNe i (exSub i (List.mem_append.2 (.inr q1)));have hname:outName G o=some i:=zIg hGn (mem_outPairs.2 (.inr hq));exact (hf.objs o _ hx).moveBox g1 g2 (by rw[(hst i hne).2];exact q2) (by rw[(hst i hne).2];exact q3) (fun b hb=>col2out b _ (by simp only[colOut,hb,hname,Option.map_some]))
 have main:=h.step (dst:=dst) (ob':=ob2) (ρ':=ρ2) (col':=col2) (w':=wf) (v:=resV ws') (x:=vval ρf (resV ws)) hdst hst
  (fun i y hy=>?_) (fun b i c hb=>?_) (fun b hb hx=>?_) hf.mono ?_ hf.same
 · exact⟨ρ2,col2,main⟩
 · rw[← hob] at hy;have hcase:=jj hy
   rcases hcase with hm | ⟨hx,hni⟩
   · simp only[List.append_assoc,List.mem_append] at hm
     rcases hm with hm | hm | hm
     · obtain⟨o,_,e⟩:=List.mem_map.1 hm;simp only[Prod.mk.injEq] at e;rw[← e.2];trivial
     · obtain⟨hD1,m,hro,he⟩:=hdemD _ hm;simp only at hD1 hro he;have hob2i:ob2 i≠none:=by
        rw[← hob];exact zEA (by simp only[List.map_append,List.mem_append];exact .inl (.inl (.inr (List.mem_map_of_mem hm))))
       cases hx:s.ob i with
       | none=>
        simp only[demote,hx,Prod.mk.injEq] at he;rw[he.2];trivial
       | some x=>
        simp only[demote,hx,Prod.mk.injEq,true_and] at he
        cases x with
        | dead=>rw[he];trivial
        | row m0 t zs=>
         rw[he];exact old i _ _ hx (hDex i hD1) hob2i (.row (by cases m0<;>rfl)) (fun _=>⟨rfl,rfl⟩) (fun e=>absurd hD1 e)
        | box m0 z=>
         rw[he];have hwf0:wfW s.ob ρ z:=by obtain⟨_,_,_,g,_⟩:=h.objs i _ hx;exact g
         exact old i _ _ hx (hDex i hD1) hob2i (.box (by cases m0<;>rfl) (hst.wfW hwf0) (hst.wcells hwf0)) (fun _=>⟨rfl,rfl⟩) (fun e=>absurd hD1 e)
     · have hmem:(i,y)∈robjs++b1++b2:=by
        simp only[List.append_assoc,List.mem_append]
        rcases hm with hm | hm | hm
        · exact .inr (.inl hm)
        · exact .inl hm
        · exact .inr (.inr hm)
       refine new i y hmem (fun hmm o hq=>?_) ?_
       · rcases List.mem_append.1 hq with hq | hq
         · exact List.mem_append.2 (.inl (r1 i o hq))
         · exact List.mem_append.2 (.inr (j3 i o hq))
       · rcases hm with hm | hm | hm
         · exact ((j7 β hβb (i,y) (by simp[hm])).1).mono (fun q hq=>by simp[hq]) (fun q hq=>hq)
         · exact ((k1 β hβr).2 (i,y) hm).mono (fun q hq=>by simp[hq]) (fun q hq=>by simp at hq)
         · exact ((j7 β hβb (i,y) (by simp[hm])).1).mono (fun q hq=>by simp[hq]) (fun q hq=>hq)
   · have hne:ob2 i≠none:=hob2 i (by rw[hx];simp);have hex:i∉p.excl:=by
      intro he;refine hni ?_;simp only[Pack.excl,List.mem_append] at he;simp only[List.map_append,List.mem_append,List.map_map]
      rcases he with (he | he) | he
      · exact .inl (.inl (.inl (List.mem_map.2 ⟨i,he,rfl⟩)))
      · exact .inl (.inr ((b1ex i).2 (List.mem_append.2 (.inl he))))
      · exact .inl (.inr ((b1ex i).2 (List.mem_append.2 (.inr he))))
     have hmv:Moves ob2 ρ ρ2 y y:=by
      cases y with
      | dead=>exact .dead
      | row m t zs=>exact .row (by cases m<;>rfl)
      | box m z=>
       have hwf0:wfW s.ob ρ z:=by obtain⟨_,_,_,g,_⟩:=h.objs i _ hx;exact g
       exact .box (by cases m<;>rfl) (hst.wfW hwf0) (hst.wcells hwf0)
     by_cases hyd:y=.dead
     · rw[hyd];trivial
     refine old i y y hx hex hne hmv (fun hiD=>?_) (fun _=>rfl);have hroi:=hDro i hiD;obtain⟨⟨j,m⟩,hr,e⟩:=List.mem_map.1 hroi;simp only at e;subst e;have hall:¬ (qt=true):=by
      intro hall;rw[← hD,if_pos hall] at hiD;simp at hiD
     cases hm:m.mine with
     | true=>
      exfalso;refine hni ?_;have:demote s.ob j∈dem:=by
       rw[← hdem,if_neg hall];simp only[demotes,List.mem_map,List.mem_filter];exact⟨(j,m),⟨hr,hm⟩,rfl⟩
      have:=List.mem_map_of_mem (f:=(·.1)) this;simp only[List.map_append,List.mem_append];exact .inl (.inl (.inr this))
     | false=>
      have hmr:m=.ro:=by cases m<;>simp_all [Mode.mine]
      subst hmr
      rcases hro _ hr with ⟨t,zs,g⟩ | ⟨z,g⟩
      · simp only at g;rw[hx] at g;simp only[Option.some.injEq] at g;rw[g];exact⟨rfl,rfl⟩
      · simp only at g;rw[hx] at g;simp only[Option.some.injEq] at g;rw[g];exact⟨rfl,rfl⟩
 · by_cases hout:colOut colf G b=none
   · rw[col2keep b hout] at hb;simp only[colKeep] at hb
     split at hb
     · rename_i o c' ho
       split at hb
       · simp at hb
       · simp only[Option.some.injEq,Prod.mk.injEq] at hb;obtain⟨rfl,rfl⟩:=hb;obtain⟨g1,g2,g3⟩:=h.cold b o c' ho;exact⟨g1,Nat.lt_of_lt_of_le g2 hf.mono,hob2 o g3⟩
     · simp at hb
   · cases hx:colOut colf G b with
     | none=>exact absurd hx hout
     | some x=>
      rw[col2out b x hx] at hb;simp only[Option.some.injEq] at hb;subst hb;simp only[colOut] at hx
      split at hx
      · rename_i o c' ho;rw[Option.map_eq_some_iff] at hx;obtain⟨i',hi',hx⟩:=hx;simp only[Prod.mk.injEq] at hx;obtain⟨rfl,rfl⟩:=hx;obtain⟨g1,g2,_⟩:=hf.cold b o c' ho
        refine⟨?_,g2,?_⟩
        · rcases g1 with g | g
          · exact .inl (Nat.le_trans h.mono g)
          · obtain⟨o2,ho2,_⟩:=inEx b g;exact (h.cold b o2 0 ho2).1
        · have:=mem_outPairs.1 (zEJ hi');refine hidIn _ (hkeyIn _ ?_)
          rcases this with g | g
          · exact .inl (List.mem_map_of_mem g)
          · exact .inr (List.mem_map_of_mem g)
      · simp at hx
 · refine hf.low b (Nat.lt_of_lt_of_le hb h.mono) (fun hc=>?_);obtain⟨o,ho,_⟩:=inEx b hc
   rcases (h.cold b o 0 ho).1 with g | g
   · omega
   · exact hx g
 · have hrel:=(k1 β hβr).1;obtain⟨g1,g2⟩:=RelWs.val (ob:=sf.ob) (ρ:=ρf) (ρ':=ρ2) hβρ hβob hrel hwf;refine .inr ?_;have hl:ws.length=ws'.length:=by
    have:=congrArg List.length g2;simpa using this.symm
   match ws,ws',hl,g1,g2 with
   | [],[],_,g1,g2=>exact⟨fun x hx=>by simp at hx,rfl⟩
   | [u],[v],_,g1,g2=>
    simp only[List.map_cons,List.map_nil,List.cons.injEq,and_true] at g2;exact⟨g1 v (by simp),by simp only[resV,vval,g2]⟩
   | u::u'::us,v::v'::vs,_,g1,g2=>
    refine⟨fun x hx=>g1 x hx,?_⟩;simp only[resV,vval];rw[g2]
end
end Go.Ev
namespace Go.Ev
def RoKnown (ob:Objs) (us:List (Nat×Mode)):Prop:=∀ q∈us,(∃ t xs,ob q.1=some (.row q.2 t xs))∨∃ z,ob q.1=some (.box q.2 z)
theorem RoKnown.append {ob:Objs}{a b:List (Nat×Mode)}(h:RoKnown ob a) (g:RoKnown ob b):RoKnown ob (a++b):=fun q hq=>(List.mem_append.1 hq).elim (h q) (g q)
theorem zEG {ob:Objs}:∀ {t:Ty}{cs:List C}{x:t.den}{us:List (Nat×Mode)}{r:List C},packC ob t cs=some (x,us,r)→RoKnown ob us
 | .int k,cs,x,us,r,h=>by
  match cs,h with
  | .int k1 n1::q,h=>
   simp only[packC] at h
   split at h
   · simp only[Option.some.injEq,Prod.mk.injEq] at h;rw[← h.2.1];exact fun q hq=>by simp at hq
   · simp at h
 | .bool,cs,x,us,r,h=>by
  match cs,h with
  | .bool b1::q,h=>
   simp only[packC,Option.some.injEq,Prod.mk.injEq] at h;rw[← h.2.1];exact fun q hq=>by simp at hq
 | .arr k m',cs,x,us,r,h=>by
  match cs,h with
  | [],h=>simp[packC] at h
  | c::cs,h=>cases c<;>simp[packC] at h
 | .barr m',cs,x,us,r,h=>by
  match cs,h with
  | [],h=>simp[packC] at h
  | c::cs,h=>cases c<;>simp[packC] at h
 | .slice t,cs,x,us,r,h=>by
  match cs,h with
  | .nil::r',h=>
   simp only[packC,Option.some.injEq,Prod.mk.injEq] at h;rw[← h.2.1];exact fun q hq=>by simp at hq
  | .sl o::r',h=>
   simp only[packC] at h
   split at h
   · rename_i m ys hr;simp only[Option.some.injEq,Prod.mk.injEq] at h;rw[← h.2.1];intro q hq;simp only[List.mem_singleton] at hq;subst hq;exact .inl ⟨t,ys,zX hr⟩
   · simp at h
 | .pair a b,cs,x,us,r,h=>by
  simp only[packC] at h
  split at h
  · rename_i x1 us1 r1 h1
    split at h
    · rename_i x2 us2 r2 h2;simp only[Option.some.injEq,Prod.mk.injEq] at h;rw[← h.2.1];exact (zEG h1).append (zEG h2)
    · simp at h
  · simp at h
theorem zEF {ob:Objs}{t:Ty}{w:W}{x:t.den}{us:List (Nat×Mode)}(h:packW ob t w=some (x,us)):RoKnown ob us:=by
 have none:RoKnown ob []:=fun q hq=>by simp at hq
 cases t with
 | int k=>cases w with
  | c c=>
   cases c<;>simp only[packW] at h<;>try (simp at h;done)
   split at h
   · simp only[Option.some.injEq,Prod.mk.injEq] at h;rw[← h.2];exact none
   · simp at h
  | _=>simp[packW] at h
 | bool=>cases w with
  | c c=>
   cases c<;>simp only[packW] at h<;>try (simp at h;done)
   simp only[Option.some.injEq,Prod.mk.injEq] at h;rw[← h.2];exact none
  | _=>simp[packW] at h
 | arr k n=>
  cases w<;>simp only[packW] at h<;>try (simp at h;done)
  split at h
  · simp only[Option.some.injEq,Prod.mk.injEq] at h;rw[← h.2];exact none
  · simp at h
 | barr n=>
  cases w<;>simp only[packW] at h<;>try (simp at h;done)
  split at h
  · simp only[Option.some.injEq,Prod.mk.injEq] at h;rw[← h.2];exact none
  · simp at h
 | slice t=>cases w with
  | c c=>
   cases c with
   | nil=>
    simp only[packW,Option.some.injEq,Prod.mk.injEq] at h;rw[← h.2];exact none
   | sl o=>
    simp only[packW] at h
    split at h
    · rename_i m ys hr;simp only[Option.some.injEq,Prod.mk.injEq] at h;rw[← h.2];intro q hq;simp only[List.mem_singleton] at hq;subst hq;exact .inl ⟨t,ys,zX hr⟩
    · simp at h
   | _=>simp[packW] at h
  | _=>simp[packW] at h
 | pair a b=>cases w with
  | st cs=>
   simp only[packW] at h
   split at h
   · rename_i x1 us1 h1;simp only[Option.some.injEq,Prod.mk.injEq] at h;rw[← h.2];exact zEG h1
   · simp at h
  | _=>simp[packW] at h
section
variable {ob:Objs}
theorem zGW {t:Ty}{w:W}{p:Pack}(h:packRo ob t w=some p):RoKnown ob p.ro:=by
 unfold packRo at h
 split at h
 · rename_i x us hp;simp only[Option.some.injEq] at h;subst h;exact zEF hp
 · simp at h
theorem zE4 {t:Ty}{w:W}{p:Pack}(h:packRob ob t w=some p):RoKnown ob p.ro:=by
 unfold packRob at h
 split at h
 · split at h
   · rename_i m w hb
     split at h
     · rename_i x us hp;simp only[Option.some.injEq] at h;subst h;intro q hq
       rcases List.mem_cons.1 hq with rfl | hq
       · exact .inr ⟨w,hb⟩
       · exact zEF hp q hq
     · simp at h
   · simp at h
 · simp at h
theorem zE9 {t:Ty}{w:W}{p:Pack}(h:packBox ob t w=some p):RoKnown ob p.ro:=by
 obtain⟨o,x0,x,us,rfl,hb,hp,hc,rfl⟩:=ku h;exact fun q hq=>by simp at hq
theorem zIO {t:Ty}{w:W}{p:Pack}(h:packBoxR ob t w=some p):RoKnown ob p.ro:=by
 obtain⟨o,x0,x,us,rfl,hb,hp,rfl⟩:=jq h;exact zEF hp
theorem zE7:∀ {caps:List (CK×Ty)}{ws:List W}{p:Pack},packCaps ob caps ws=some p→p.loud=false
 | [],[],p,h=>by
  simp only[packCaps,Option.some.injEq] at h;subst h
  rfl
 | [],_::_,p,h=>by simp[packCaps] at h
 | _::_,[],p,h=>by simp[packCaps] at h
 | (b,t)::r,w::ws,p,h=>by
  simp only[packCaps] at h
  split at h
  · rename_i p1 p2 h1 h2;simp only[Option.some.injEq] at h;subst h;rw[Pack.loud_add,zE7 h2,Bool.or_false]
    cases b with
    | val=>
     obtain⟨q1,q2,q3⟩:=jz h1;simp[Pack.loud,q2,q3]
    | rob=>
     obtain⟨q1,q2,q3⟩:=jY h1;simp[Pack.loud,q2,q3]
    | box=>
     obtain⟨o,x0,x,us,rfl,hb,hp,hc,rfl⟩:=ku h1;simp[Pack.loud]
  · simp at h
theorem zKP {k:PK}{v:V}{p:Pack}(h:packArg ob k v=some p) (hk:k.loud=false):p.loud=false:=by
 cases k with
 | ro t=>cases v with
  | w w=>
   obtain⟨q1,q2,q3⟩:=jz h;simp[Pack.loud,q2,q3]
  | _=>simp[packArg] at h
 | rob t=>cases v with
  | w w=>
   obtain⟨q1,q2,q3⟩:=jY h;simp[Pack.loud,q2,q3]
  | _=>simp[packArg] at h
 | box t=>cases v with
  | w w=>
   obtain⟨o,x0,x,us,rfl,hb,hp,hc,rfl⟩:=ku h;simp[Pack.loud]
  | _=>simp[packArg] at h
 | boxr t=>simp[PK.loud] at hk
 | muts t=>simp[PK.loud] at hk
 | own t=>cases v with
  | w w=>
   simp only[packArg] at h
   split at h
   · split at h
     · simp only[Option.some.injEq] at h;subst h
       rfl
     · simp at h
   · simp at h
  | _=>simp[packArg] at h
 | «mut» t=>cases v with
  | w w=>
   simp only[packArg] at h
   split at h
   · split at h
     · simp only[Option.some.injEq] at h;subst h;simp[Pack.loud]
     · simp at h
   · simp at h
  | _=>simp[packArg] at h
 | fn f caps=>cases v with
  | fn g ws=>
   simp only[packArg] at h
   split at h
   · exact zE7 h
   · simp at h
  | _=>simp[packArg] at h
theorem zFB:∀ {ks:List PK}{vs:List V}{p:Pack},packArgs ob ks vs=some p→ks.all (fun k=>!k.loud)=true→p.loud=false
 | [],[],p,h,_=>by
  simp only[packArgs,Option.some.injEq] at h;subst h
  rfl
 | [],_::_,p,h,_=>by simp[packArgs] at h
 | _::_,[],p,h,_=>by simp[packArgs] at h
 | k::ks,v::vs,p,h,ha=>by
  simp only[packArgs] at h;simp only[List.all_cons,Bool.and_eq_true,Bool.not_eq_true'] at ha
  split at h
  · rename_i p1 p2 h1 h2;simp only[Option.some.injEq] at h;subst h;rw[Pack.loud_add,zKP h1 ha.1,zFB h2 ha.2]
    rfl
  · simp at h
theorem zDz:∀ {caps:List (CK×Ty)}{ws:List W}{p:Pack},packCaps ob caps ws=some p→RoKnown ob p.ro
 | [],[],p,h=>by
  simp only[packCaps,Option.some.injEq] at h;subst h;exact fun q hq=>by simp at hq
 | [],_::_,p,h=>by simp[packCaps] at h
 | _::_,[],p,h=>by simp[packCaps] at h
 | (b,t)::r,w::ws,p,h=>by
  simp only[packCaps] at h
  split at h
  · rename_i p1 p2 h1 h2;simp only[Option.some.injEq] at h;subst h;refine RoKnown.append ?_ (zDz h2)
    cases b with
    | val=>exact zGW h1
    | rob=>exact zE4 h1
    | box=>exact zE9 h1
  · simp at h
theorem zJV {k:PK}{v:V}{p:Pack}(h:packArg ob k v=some p):RoKnown ob p.ro:=by
 have none:∀ q∈([]:List (Nat×Mode)),(∃ t xs,ob q.1=some (.row q.2 t xs))∨∃ z,ob q.1=some (.box q.2 z):=fun q hq=>by simp at hq
 cases k with
 | ro t=>cases v with
  | w w=>exact zGW h
  | _=>simp[packArg] at h
 | rob t=>cases v with
  | w w=>exact zE4 h
  | _=>simp[packArg] at h
 | box t=>cases v with
  | w w=>exact zE9 h
  | _=>simp[packArg] at h
 | own t=>cases v with
  | w w=>
   simp only[packArg] at h
   split at h
   · split at h
     · simp only[Option.some.injEq] at h;subst h;exact none
     · simp at h
   · simp at h
  | _=>simp[packArg] at h
 | «mut» t=>cases v with
  | w w=>
   simp only[packArg] at h
   split at h
   · split at h
     · simp only[Option.some.injEq] at h;subst h;exact none
     · simp at h
   · simp at h
  | _=>simp[packArg] at h
 | boxr t=>cases v with
  | w w=>exact zIO h
  | _=>simp[packArg] at h
 | muts t=>cases v with
  | w w=>
   simp only[packArg] at h
   split at h
   · split at h
     · simp only[Option.some.injEq] at h;subst h;exact none
     · simp at h
   · simp at h
  | _=>simp[packArg] at h
 | fn f caps=>cases v with
  | fn g ws=>
   simp only[packArg] at h
   split at h
   · exact zDz h
   · simp at h
  | _=>simp[packArg] at h
theorem zD3:∀ {ks:List PK}{vs:List V}{p:Pack},packArgs ob ks vs=some p→RoKnown ob p.ro
 | [],[],p,h=>by
  simp only[packArgs,Option.some.injEq] at h;subst h;exact fun q hq=>by simp at hq
 | [],_::_,p,h=>by simp[packArgs] at h
 | _::_,[],p,h=>by simp[packArgs] at h
 | k::ks,v::vs,p,h=>by
  simp only[packArgs] at h
  split at h
  · rename_i p1 p2 h1 h2;simp only[Option.some.injEq] at h;subst h;exact (zJV h1).append (zD3 h2)
  · simp at h
theorem zGY:∀ {ks:List PK}{vs:List V}{p:Pack},packArgs ob ks vs=some p→ks.length=vs.length
 | [],[],p,h=>rfl
 | [],_::_,p,h=>by simp[packArgs] at h
 | _::_,[],p,h=>by simp[packArgs] at h
 | k::ks,v::vs,p,h=>by
  simp only[packArgs] at h
  split at h
  · rename_i p1 p2 h1 h2;simp[zGY h2]
  · simp at h
theorem zD1:∀ {ks:List PK}{vs:List V}{p:Pack},packArgs ob ks vs=some p→∀ v∈vs,v≠.undef
 | [],[],p,h,v,hv=>by simp at hv
 | [],_::_,p,h,v,hv=>by simp[packArgs] at h
 | _::_,[],p,h,v,hv=>by simp at hv
 | k::ks,u::vs,p,h,v,hv=>by
  simp only[packArgs] at h
  split at h
  · rename_i p1 p2 h1 h2
    rcases List.mem_cons.1 hv with rfl | hv
    · intro e;subst e
      cases k<;>simp[packArg] at h1
    · exact zD1 h2 v hv
  · simp at h
end
def fixOf (fd:FD) (args:List Value):List (Nat×Value):=(fixedGo fd.sig.params 0).map fun i=>(i,args.getD i Go.undef)
theorem zFy:∀ (ks:List PK) (i j:Nat),j∈fixedGo ks i→i≤j∧j<i+ks.length
 | [],i,j,h=>by simp[fixedGo] at h
 | k::ks,i,j,h=>by
  simp only[fixedGo] at h
  split at h
  · rcases List.mem_cons.1 h with rfl | h
    · simp
    · have:=zFy ks (i+1) j h;simp;omega
  · have:=zFy ks (i+1) j h;simp;omega
theorem zHm:∀ {ks:List PK}{i j:Nat}{k:PK},ks[j]?=some k→k.isFixed=true→i+j∈fixedGo ks i
 | [],i,j,k,h,_=>by simp at h
 | k'::ks,i,0,k,h,hk=>by
  simp only[List.getElem?_cons_zero,Option.some.injEq] at h;subst h;simp[fixedGo,hk]
 | k'::ks,i,j+1,k,h,hk=>by
  have:=zHm (ks:=ks) (i:=i+1) (j:=j) (by simpa using h) hk;rw[show i+1+j=i+(j+1) by omega] at this;simp only[fixedGo]
  split
  · exact List.mem_cons_of_mem _ this
  · exact this
def FnSpec (P:Program) (E:Env) (fd:FD) (tvs outs:List TV):Prop:=
 ∀ (w0:World) (X Y0:Nat→Prop) (ρ:Locs) (col:Col) (args:List Value),args.length=fd.sig.params.length →
  Inv w0 X Y0 (fixOf fd args) (fd.init tvs) ρ col ⟨args.toArray++Array.replicate (fd.fn.ntmps-args.length) undef,[]⟩ w0 →
  Calls P fd.id args.toArray w0 fun e w'=>∃ s' ρ' col' a' ws,e=.returned (vval ρ' (resV ws))∧Inv w0 X Y0 (fixOf fd args) s' ρ' col' a' w'∧fd.finish E s'=some outs∧resWs E s' fd.fn.results.toList=some ws∧∀ x∈ws,wfW s'.ob ρ' x
def ExtOk (P:Program) (E:Env) (fd:FD) (k:ExtK):Prop:=
 ∀ (call:Oracle) (tvs outs:List TV),(∀ v fd tvs outs,E.fd v=some fd→call v tvs=some outs→FnSpec P E fd tvs outs)→extE k call tvs=some outs→FnSpec P E fd tvs outs
def PrimOk (P:Program) (f:FuncId) (p:PrimK):Prop:=∀ (x y c:Int) (w:World),carOk x y c=true→(callFunc f #[.int .u64 x,.int .u64 y,.int .u64 c]).run P w=.ok (.value (.tuple #[.int .u64 (p.lo x y c),.int .u64 (p.hi x y c)])) w
structure EnvOk (P:Program) (E:Env):Prop where
 ty:EnvTy P E
 mixed:P.follows .mixedOrders=true
 fn:∀ v fd,E.fd v=some fd→P.funcs[fd.id]?=some fd.fn∧(fd.fn.name == "runtime.NumGoroutine")=false∧fd.fn.body.isNone=false∧((initPs [] fd.sig.params 0 0).2.map (·.1)).Nodup∧fd.sig.params.length≤fd.fn.ntmps
 ld:∀ v fd,E.fd v=some fd→E.ld v=none∧(∀ q∈fd.loops,E.ld q.2.lid=some ⟨v,q.1,q.2,false⟩)∧∀ q∈fd.joins,E.ld q.2.lid=some ⟨v,q.1,q.2,true⟩
 ext:∀ v fd k,E.fd v=some fd→E.ext v=some k→ExtOk P E fd k
 prim:∀ f p,E.prim f=some p→PrimOk P f p
theorem zEC (m:Mode):∀ (t:Ty) (x y:t.den) (i:Nat),(unpackC m t x i).2.map (·.1)=(unpackC m t y i).2.map (·.1)
 | .int _,_,_,_=>rfl
 | .bool,_,_,_=>rfl
 | .arr _ _,_,_,_=>rfl
 | .barr _,_,_,_=>rfl
 | .slice _,_,_,_=>rfl
 | .pair a b,x,y,i=>by
  have h1:=zEC m a x.1 y.1 i;have h1':(unpackC m a x.1 i).2.length=(unpackC m a y.1 i).2.length:=by simpa using congrArg List.length h1
  have h2:=zEC m b x.2 y.2 (i+(unpackC m a x.1 i).2.length);rw[h1'] at h2;simp only[unpackC,List.map_append,h1,h1',h2]
theorem kL (m:Mode) (t:Ty) (x y:t.den) (i:Nat):(unpackW m t x i).2.map (·.1)=(unpackW m t y i).2.map (·.1):=by
 rw[zt,zt];exact zEC m t x y i
theorem zMD (b:CK) (t:Ty) (x y:t.den) (i:Nat):(capInit b t x i).2.map (·.1)=(capInit b t y i).2.map (·.1):=by
 cases b with
 | val=>exact kL _ t x y i
 | rob=>simp only[capInit,List.map_cons];rw[kL .ro t x y]
 | box=>simp only[capInit,List.map_cons];rw[kL .own t x y]
theorem zDu:∀ (caps:List (CK×Ty)) (l r:List TV) (p q i:Nat),(unpackCaps caps l p i).2.1.map (·.1)=(unpackCaps caps r q i).2.1.map (·.1)
 | [],l,r,p,q,i=>rfl
 | (b,t)::caps,l,r,p,q,i=>by
  have h1:=zMD b t (getTV t l p) (getTV t r q) i;have h1':(capInit b t (getTV t l p) i).2.length=(capInit b t (getTV t r q) i).2.length:=by simpa using congrArg List.length h1
  rw[zA0,zA0];simp only[List.map_append,h1,h1',zDu caps l r (p+1) (q+1)]
theorem zRt (k:PK) (l r:List TV) (p q i:Nat):(k.init l p i).2.1.map (·.1)=(k.init r q i).2.1.map (·.1):=by
 cases k with
 | ro t=>exact kL _ t _ _ i
 | own t=>exact kL _ t _ _ i
 | «mut» t=>exact kL _ t _ _ i
 | rob t=>simp only[PK.init,List.map_cons];rw[kL .ro t _ (getTV t r q)]
 | box t=>simp only[PK.init,List.map_cons];rw[kL .own t _ (getTV t r q)]
 | boxr t=>simp only[PK.init,List.map_cons];rw[kL .ro t _ (getTV t r q)]
 | muts t=>exact kL _ t _ _ i
 | fn f caps=>exact zDu caps l r p q i
theorem zCE:∀ (ks:List PK) (l r:List TV) (i p q:Nat),(initPs l ks i p).2.map (·.1)=(initPs r ks i q).2.map (·.1)
 | [],l,r,i,p,q=>rfl
 | k::ks,l,r,i,p,q=>by
  simp only[initPs,List.map_append,zRt k l r p q,zCE ks l r (i+1) (k.init l p (idOf i)).2.2 (k.init r q (idOf i)).2.2]
section
variable {P:Program}{E:Env}{fd:FD}{call:Oracle}{w0:World}{X Y0:Nat→Prop}{fix:List (Nat×Value)}
theorem zCH {fd:FD}{s:St}{outs:List TV}(h:fd.finish E s=some outs):∃ ws xs us ro ys vs ro',resWs E s fd.fn.results.toList=some ws∧packRes s.ob fd.sig.res ws=some (xs,us,ro)∧backPs s fd.sig.params 0=some (ys,vs,ro') ∧
  (us++vs).Nodup∧apart (ro++ro') (us++vs)=true∧outs=xs++ys:=by
 unfold FD.finish at h
 split at h
 · rename_i ws hws
   split at h
   · rename_i xs us ro ys vs ro' h1 h2
     split at h
     · rename_i hc;simp only[Bool.and_eq_true,decide_eq_true_eq] at hc;simp only[Option.some.injEq] at h;exact⟨ws,xs,us,ro,ys,vs,ro',hws,h1,h2,hc.1,hc.2,h.symm⟩
     · simp at h
   · simp at h
 · simp at h
theorem zVZ (hE:EnvOk P E) (hcall:∀ v fd' tvs outs,E.fd v=some fd'→call v tvs=some outs→FnSpec P E fd' tvs outs):OpOk P E fd call w0 X Y0 fix:=by
 intro s ρ col a w o e K Q h hdst he hK;have hfr:=zKS he;have hst:stepO E fd call s (o.dst.getD 0) o.op=some e:=by
  unfold opO at he;rw[Option.bind_eq_some_iff] at he;obtain⟨e',h1,h2⟩:=he
  split at h2
  · simp only[Option.some.injEq] at h2;rw[← h2];exact h1
  · simp at h2
 unfold stepO stepK at hst;have plain:∀ e',step1 E fd s (o.dst.getD 0) o.op=some e'→e'.ok=true→e'=e→o.wp P a w K Q:=by
  rintro e' h1 h2 rfl;obtain⟨x,w',hr,ρ',col',hi⟩:=zLe hE.ty h hdst h1 h2 hfr;unfold Oper.wp
  rcases hr with hr | ⟨hr,rfl⟩
  · rw[hr];exact hK ρ' col' _ _ hi
  · rw[hr];exact hK ρ' col' _ _ hi
 split at hst
 · rename_i f args tys heq
   split at hst
   · rename_i g vs hcal;obtain⟨caps,hfv,hvs⟩:∃ caps,s.eval f=.fn g caps∧vs=args.toList.map s.eval++caps.map V.w:=by
      unfold V.callee at hcal
      split at hcal
      · rename_i f' caps e1;simp only[Option.some.injEq,Prod.mk.injEq] at hcal;obtain⟨rfl,rfl⟩:=hcal;exact⟨caps,e1,rfl⟩
      · simp at hcal
     obtain⟨g1,g2⟩:=h.eval f (by rw[hfv];simp);rw[hfv] at g1 g2
     split at hst
     · rename_i p hp
       split at hst
       · rename_i f' hf';rw[hfv] at hf';simp only[V.fn.injEq] at hf';obtain⟨rfl,rfl⟩:=hf'
         split at hst
         · rename_i e' he'
           cases hok:e'.ok with
           | false=>simp[hok] at hst
           | true=>
            simp only[hok,cond_true,Option.some.injEq] at hst;subst hst;unfold PrimK.eff at he'
            split at he'
            · rename_i x y c hargs;simp only[Option.some.injEq] at he';subst he';simp only at hok;obtain⟨a1,a2,a3,hal⟩:∃ a1 a2 a3,args.toList=[a1,a2,a3]:=by
               have:=congrArg List.length hargs;simp only[List.length_map,List.length_cons,List.length_nil] at this
               match hl:args.toList,this with
               | [a1,a2,a3],_=>exact⟨a1,a2,a3,rfl⟩
              rw[hal] at hargs;simp only[List.map_cons,List.map_nil,List.cons.injEq,and_true] at hargs;obtain⟨b1,b2,b3⟩:=hargs;have c1:=h.evalInt (x:=a1) (k:=.u64) (n:=x) (by rw[b1];rfl);have c2:=h.evalInt (x:=a2) (k:=.u64) (n:=y) (by rw[b2];rfl);have c3:=h.evalInt (x:=a3) (k:=.u64) (n:=c) (by rw[b3];rfl);have hrun:=hE.prim _ _ hp x y c w hok;have harr:args.map a.eval=#[.int .u64 x,.int .u64 y,.int .u64 c]:=by
               apply Array.toList_inj.1;rw[Array.toList_map,hal];simp[c1,c2,c3]
              have hex:(execOp a.eval o).run P w=.ok (.value (.tuple #[.int .u64 (p.lo x y c),.int .u64 (p.hi x y c)])) w:=by
               simp only[vval,List.map_nil] at g2;have:args.map a.eval=#[.int .u64 x,.int .u64 y,.int .u64 c]:=harr;simp[execOp,heq,resolve,g2,Deferred.ofValue,invoke,this,hrun]
              unfold Oper.wp;rw[hex,Oper.upon_value];refine hK ρ col _ _ ?_;have hs:=h.slot (dst:=o.dst) (v:=.tup [.c (.int .u64 (p.lo x y c)),.c (.int .u64 (p.hi x y c))]) (x:=.tuple #[.int .u64 (p.lo x y c),.int .u64 (p.hi x y c)]) hdst (.inr ⟨by simp[wfV,wfW,wfC],by simp[vval,wval,cval]⟩);simpa[St.put,Objs.upds] using hs
            · simp at he'
         · simp at hst
       · simp at hst
     unfold callK at hst
     split at hst
     · rename_i fd' hfd
       split at hst
       · rename_i hid
         split at hst
         · rename_i p hp
           split at hst
           · rename_i hc;simp only[Bool.and_eq_true] at hc;obtain⟨hok,hfl⟩:=hc;rw[Option.bind_eq_some_iff] at hst;obtain⟨outs,hcl,hst⟩:=hst;simp only[Option.some.injEq] at hst;obtain⟨q1,q2,q3,q4,q5⟩:=hE.fn _ _ hfd
             let xs:List Value:=args.toList.map a.eval++caps.map (wval ρ)
             have hlen:=zGY hp;have hne:=zD1 hp;have hxl:xs.length=vs.length:=by simp[xs,hvs]
             have hv:∀ (i:Nat) (v:V) (x:Value),vs[i]?=some v→xs[i]?=some x→v≠.undef∧wfV s.ob ρ v∧x=vval ρ v:=by
              intro i v x hvi hxi;have hvne:=hne v (List.mem_of_getElem? hvi);refine⟨hvne,?_⟩;rw[hvs,List.getElem?_append] at hvi;simp only[xs] at hxi;rw[List.getElem?_append] at hxi;simp only[List.length_map] at hvi hxi
              split at hvi
              · rename_i hil;rw[if_pos hil] at hxi;rw[List.getElem?_map,Option.map_eq_some_iff] at hvi hxi;obtain⟨z,hz,rfl⟩:=hvi;obtain⟨z',hz',rfl⟩:=hxi;rw[hz] at hz';simp only[Option.some.injEq] at hz';subst hz';exact h.eval z hvne
              · rename_i hil;rw[if_neg hil] at hxi;rw[List.getElem?_map,Option.map_eq_some_iff] at hvi hxi;obtain⟨z,hz,rfl⟩:=hvi;obtain⟨z',hz',rfl⟩:=hxi;rw[hz] at hz';simp only[Option.some.injEq] at hz';subst hz';exact⟨g1 z (List.mem_of_getElem? hz),rfl⟩
             have hnod:((initPs p.tvs fd'.sig.params 0 0).2.map (·.1)).Nodup:=by rw[zCE _ p.tvs [] 0 0 0];exact q4
             obtain⟨Lin,ρ1,objs,hL,_,_,_,hin⟩:=entry h hp hok hfl hxl (fun i v x h1 h2=>.inr (hv i v x h1 h2).2) hnod q5 (fixOf fd' xs) (fun q hq=>by
              simp only[fixOf,List.mem_map] at hq;obtain⟨i,hi,rfl⟩:=hq;have:=zFy _ 0 i hi;exact⟨by omega,rfl⟩)
             have hspec:=hcall _ _ _ _ hfd hcl w _ _ _ _ xs (by omega) hin;have hrun:(execOp a.eval o).run P w=.ok (.enter g xs.toArray) w:=by
              rw[← hid];rw[← hid] at g2;simp only[execOp,heq,resolve,g2,vval,Deferred.ofValue];simp only[Sem.run_bind,Sem.run_pure,Result.andThen_ok,invoke,callFunc];have q2':¬ fd'.fn.name = "runtime.NumGoroutine" := by simpa using q2
              have q3':¬ fd'.fn.body=none:=fun e=>by rw[e] at q3;simp at q3
              simp[q1,q2',q3',xs]
             unfold Oper.wp;rw[hrun,Oper.upon_enter,← hid];refine Calls.mono hspec ?_;rintro e' w' ⟨s',ρ',col',a',ws,rfl,hi',hfin,hws,hwf⟩;obtain⟨ws2,xs',us,ro,ys,vs',ro',r1,r2,r3,r4,r5,rfl⟩:=zCH hfin;rw[hws] at r1;simp only[Option.some.injEq] at r1;subst r1;have H0:∀ o m x,s.ob o=some (.box m x)→wfW s.ob ρ x∧(ρ o).len=(wcells ρ x).length:=fun o m x hx=>by obtain⟨_,_,_,k1,k2,_⟩:=h.objs o _ hx;exact⟨k1,k2⟩
             have H1:∀ o m x,s'.ob o=some (.box m x)→wfW s'.ob ρ' x∧(ρ' o).len=(wcells ρ' x).length:=fun o m x hx=>by obtain⟨_,_,_,k1,k2,_⟩:=hi'.objs o _ hx;exact⟨k1,k2⟩
             have hback:=zLF (tm:=s'.tm) (ρ0:=ρ) (ρ1:=ρ') H0 H1 hp r3 (fun j k v hj hvj hk hne'=>by
              have hjl:j<vs.length:=(List.getElem?_eq_some_iff.1 hvj).1;have hjx:xs[j]?=some xs[j]:=List.getElem?_eq_getElem (by omega);obtain⟨_,k1,k2⟩:=hv j v _ hvj hjx;rw[Nat.zero_add] at hne' ⊢;have hm:(j,xs.getD j Go.undef)∈fixOf fd' xs:=by
               simp only[fixOf,List.mem_map];exact⟨j,by simpa using zHm (i:=0) hj hk,rfl⟩
              obtain⟨m1,m2⟩:=hi'.fixed _ hm;simp only at m1 m2;obtain⟨n1,n2⟩:=hi'.getD (t:=j) rfl hne';rw[Array.getD_eq_getD_getElem?,n1] at m2;simp only[Option.getD_some] at m2;refine⟨?_,k1,n2⟩;rw[m2,← k2,List.getD_eq_getElem?_getD,hjx]
              rfl)
             have hroK:=zD3 hp;have hqt:fd'.sig.quiet=true→fd'.sig.res.all (fun x=>x.1=.own)=true∧p.loud=false:=by
              intro e;simp only[Sig.quiet,Bool.and_eq_true] at e;exact⟨e.1,zFB hp e.2⟩
             rw[← hst] at hfr;simp only at hfr;obtain⟨ρ2,col2,hfin2⟩:=zOW (dst:=o.dst) (d:=o.dst.getD 0) (ok:=true) (rd:=p.ro.map (·.1)++p.excl) h hok hroK hfl hL.2.1 hi' hqt r2 hwf hback r4 r5 hdst hfr;refine hK ρ2 col2 _ _ ?_;rw[← hst];exact hfin2
           · simp at hst
         · simp at hst
       · simp at hst
     · simp at hst
   · simp at hst
 · split at hst
   · rename_i e' he'
     cases hok:e'.ok with
     | false=>simp[hok] at hst
     | true=>
      simp only[hok,cond,Option.some.injEq] at hst;exact plain e' he' hok hst
   · simp at hst
end
end Go.Ev
namespace Go.Ev
section
variable {P:Program}{E:Env}{w0:World}{X Y0:Nat→Prop}{fix:List (Nat×Value)}{s:St}{ρ:Locs}{col:Col}{a:Act}{w:World}
def resF (a:Act):ResultVar→Sem Value
 | .tmp t=>pure (a.tmps.getD t undef)
 | .cell b t=>do loadVar t (← asAddr (a.tmps.getD b undef))
theorem zFh (fn:Func) (a:Act):results fn a.tmps=(do
  let vs ← fn.results.mapM (resF a)
  pure (if h:vs.size=1 then vs[0] else .tuple vs)):=by
 unfold results;congr 1
theorem zTf (hE:EnvTy P E) (h:Inv w0 X Y0 fix s ρ col a w) {v:ResultVar}{u:W}(hr:resW E s v=some u):wfW s.ob ρ u∧(resF a v).run P w=.ok (wval ρ u) w:=by
 cases v with
 | tmp t=>
  have e:=zHr hr;obtain⟨k1,k2⟩:=h.getD (t:=t) e (by simp);have:a.tmps.getD t undef=wval ρ u:=by rw[Array.getD_eq_getD_getElem?,k1];rfl
  exact⟨k2,by simp only[resF,this,Sem.run_pure]⟩
 | cell b T=>
  simp only[resW] at hr
  split at hr
  · rename_i o hb
    split at hr
    · rename_i t m x ht hx
      split at hr
      · rename_i hfit;simp only[Option.some.injEq] at hr;subst hr;obtain⟨k1,k2⟩:=h.getD (t:=b) hb (by simp);obtain⟨blk,g1,g2,g3,g4,g5,_⟩:=h.box hx;have e:a.tmps.getD b undef=.pointer (some ⟨blk,0,none⟩):=by
         rw[Array.getD_eq_getD_getElem?,k1];simp[vval,wval,cval,zBK g1]
        refine⟨g3,?_⟩;simp only[resF,e,asAddr,pure_bind]
        by_cases hsc:t.scalar=true
        · obtain⟨c,rfl,_⟩:=W.fits_scalar hfit hsc;exact zBP ((hE T _ ht).cell1 hsc) (g5 0 _ rfl)
        · have hsc':t.scalar=false:=by simpa using hsc
          rw[W.fits_agg hfit hsc'];exact zA5 (hE T _ ht) hsc' (W.fits_len hfit g3) (fun j v hv=>by rw[zCP,Nat.zero_add];exact g5 j v hv)
      · simp at hr
    · simp at hr
  · simp at hr
theorem zM7 (hE:EnvTy P E) (h:Inv w0 X Y0 fix s ρ col a w):∀ {vs:List ResultVar}{ws:List W},resWs E s vs=some ws→(∀ x∈ws,wfW s.ob ρ x) ∧
  (vs.mapM (resF a)).run P w=.ok (ws.map (wval ρ)) w
 | [],ws,hr=>by
  simp only[resWs,Option.some.injEq] at hr;subst hr;exact⟨fun x hx=>by simp at hx,by simp⟩
 | v::r,ws,hr=>by
  simp only[resWs] at hr
  split at hr
  · rename_i u us hu hus;simp only[Option.some.injEq] at hr;subst hr;obtain⟨g1,g2⟩:=zM7 hE h hus;obtain⟨k1,k2⟩:=zTf hE h hu
    refine⟨fun x hx=>?_,?_⟩
    · rcases List.mem_cons.1 hx with rfl | hx
      · exact k1
      · exact g1 x hx
    · simp only[List.mapM_cons,Sem.run_bind,k2,g2,Result.andThen_ok,Sem.run_pure,List.map_cons]
  · simp at hr
theorem zTe (hE:EnvTy P E) (h:Inv w0 X Y0 fix s ρ col a w) {fn:Func}{ws:List W}(hr:resWs E s fn.results.toList=some ws):(∀ x∈ws,wfW s.ob ρ x)∧(results fn a.tmps).run P w=.ok (vval ρ (resV ws)) w:=by
 obtain⟨g1,g2⟩:=zM7 (P:=P) hE h hr;refine⟨g1,?_⟩;rw[zFh,Array.mapM_eq_mapM_toList];simp only[Sem.run_bind,Sem.run_map,g2,Result.andThen_ok]
 match ws with
 | []=>rfl
 | [u]=>rfl
 | u::u'::us=>rfl
theorem zT2 {e:Ex}{s:St}{N:Nat}{outs:List TV}:∀ {l:List (Ex×Shape)}{i:Int},findOut e s l i=some outs→∃ (j:Nat) (sh:Shape) (tv:List TV),outs=⟨.int .i64,i+j⟩::tv∧sh.fit s=some tv∧j<l.length ∧
  ∀ k:Ex→St→Option (List TV),exitsK N outs k l i=k e (sh.build N outs 1)
 | [],i,h=>by simp[findOut] at h
 | (e',sh)::r,i,h=>by
  simp only[findOut] at h
  split at h
  · rename_i he;subst he;rw[Option.map_eq_some_iff] at h;obtain⟨tv,h1,rfl⟩:=h;refine⟨0,sh,tv,by simp,h1,by simp,fun k=>?_⟩
    cases r with
    | nil=>rfl
    | cons q r=>
     simp only[exitsK];have:getTV (.int .i64) ((⟨.int .i64,i⟩:TV)::tv) 0=i:=by simp[getTV]
     rw[this];simp
  · rename_i he;obtain⟨j,sh',tv,h1,h2,h3,h4⟩:=zT2 (N:=N) h
    refine⟨j+1,sh',tv,?_,h2,by simp;omega,fun k=>?_⟩
    · rw[h1,show i+1+(j:Int)=i+((j+1:Nat):Int) by omega]
    · cases r with
      | nil=>simp at h3
      | cons q r=>
       rw[← h4 k];simp only[exitsK];have:getTV (.int .i64) outs 0=i+1+j:=by rw[h1];simp[getTV]
       rw[this];have:(i+1+(j:Int)==i)=false:=by simp;omega
       rw[this]
       rfl
theorem zQI {l:List Code}{b:Code}(hn:(l.map firstRegion).Nodup) (hb:b∈l):l.find? (fun a=>firstRegion a==firstRegion b)=some b:=by
 induction l with
 | nil=>simp at hb
 | cons c l ih=>
  simp only[List.map_cons,List.nodup_cons] at hn;rw[List.find?_cons]
  rcases List.mem_cons.1 hb with rfl | hb
  · simp
  · have:(firstRegion c==firstRegion b)=false:=by
     simp only[beq_eq_false_iff_ne,ne_eq];intro e;exact hn.1 (by rw[e];exact List.mem_map_of_mem hb)
    rw[this];exact ih hn.2 hb
theorem zJc {sh:Shape}{N:Nat}{tvs:List TV}{p:Nat}:(sh.build N tvs p).tm.length=N:=by
 have key:∀ (l:List (Nat×VS)) (q:Nat) (tm:List V),(buildVs tvs l q tm).length=tm.length:=by
  intro l
  induction l with
  | nil=>intro q tm;rfl
  | cons x l ih=>
   intro q tm;obtain⟨t,v⟩:=x;simp only[buildVs];rw[ih];simp
 simp only[Shape.build];rw[key];simp
theorem zPU (hE:EnvOk P E):∀ n,(∀ v fd tvs outs,E.fd v=some fd→run E n v tvs=some outs→FnSpec P E fd tvs outs) ∧
  (∀ v fd c body info tvs outs,E.fd v=some fd→fd.fn.body=some c→body∈loopsOf c→fd.loops.lookup (firstRegion body)=some info→run E n info.lid tvs=some outs→LoopOk P fd fd.fn.ntmps body info n tvs outs) ∧
  (∀ v fd c body info tvs outs,E.fd v=some fd→fd.fn.body=some c→body∈restsOf c→fd.joins.lookup (firstRegion body)=some info→run E n info.lid tvs=some outs→JoinOk P fd fd.fn.ntmps body info tvs outs)
 | 0=>⟨fun v fd tvs outs _ h=>by simp[run] at h,fun v fd c body info tvs outs _ _ _ _ h=>by simp[run] at h,fun v fd c body info tvs outs _ _ _ _ h=>by simp[run] at h⟩
 | n+1=>by
  obtain⟨ihF,ihL,ihJ⟩:=zPU hE n;have hop:∀ (fd:FD) (w0:World) (X Y0:Nat→Prop) (fix:List (Nat×Value)),fix.map (·.1)=fixedGo fd.sig.params 0→OpOk P E fd (run E n) w0 X Y0 fix:=fun fd w0 X Y0 fix _=>zVZ hE ihF
  refine⟨fun v fd tvs outs hfd h=>?_,fun v fd c body info tvs outs hfd hbody hmem hlk h=>?_,fun v fd c body info tvs outs hfd hbody hmem hlk h=>?_⟩
  · obtain⟨q1,q2,q3,q4,q5⟩:=hE.fn _ _ hfd;simp only[run,run1,(hE.ld _ _ hfd).1,hfd] at h
    cases hx:E.ext v with
    | some k=>
     rw[hx] at h;exact hE.ext _ _ _ hfd hx _ _ _ ihF h
    | none=>
    rw[hx] at h;simp only at h;unfold runFn at h
    split at h
    · rename_i c hc
      split at h
      · rename_i hch;have hNl:(fd.init tvs).tm.length=fd.fn.ntmps:=by
         have:(initPs tvs fd.sig.params 0 0).1.length=fd.sig.params.length:=by
          have key:∀ (ks:List PK) (i p:Nat),(initPs tvs ks i p).1.length=ks.length:=by
           intro ks
           induction ks with
           | nil=>intro i p;rfl
           | cons k ks ih=>intro i p;simp[initPs,ih]
          exact key _ _ _
         simp only[FD.init,List.length_append,List.length_replicate,this];omega
        obtain⟨e,s',hk,hN',hrun⟩:=jQ (P:=P) (N:=fd.fn.ntmps) (m:=n) hE.mixed (hop fd) c (fun b hb info hl tvs outs ho=>ihL v fd c b info tvs outs hfd hc hb hl ho) (fun b hb info hl tvs outs ho=>ihJ v fd c b info tvs outs hfd hc hb hl ho) h hNl;have hfin:(e=.ret∨e=.normal)∧fd.finish E s'=some outs:=by
         cases e with
         | exit id=>simp at hk
         | ret=>exact⟨.inl rfl,hk⟩
         | normal=>exact⟨.inr rfl,hk⟩
        obtain⟨ws,_,_,_,_,_,_,hws,_⟩:=zCH hfin.2;intro w0 X Y0 ρ col args hal hin;refine calls_of_wp q1 hc ?_;have hfixm:(fixOf fd args).map (·.1)=fixedGo fd.sig.params 0:=by simp[fixOf,Function.comp_def]
        have hsz:args.toArray.size=args.length:=by simp
        rw[hsz];refine hrun w0 X Y0 (fixOf fd args) hfixm ρ col _ w0 _ hin (fun ρ' col' a' w' hi'=>?_);obtain⟨k1,k2⟩:=zTe (P:=P) (fn:=fd.fn) hE.ty hi' hws
        have post:a'.defers=[]∧∃ v,(results fd.fn a'.tmps).run P w'=.ok v w'∧(fun e w'=>∃ s' ρ' col' a' ws,e=Ending.returned (vval ρ' (resV ws))∧Inv w0 X Y0 (fixOf fd args) s' ρ' col' a' w'∧fd.finish E s'=some outs∧resWs E s' fd.fn.results.toList=some ws∧∀ x∈ws,wfW s'.ob ρ' x) (.returned v) w':=
         ⟨hi'.defers,_,k2,s',ρ',col',a',ws,rfl,hi',hfin.2,hws,k1⟩
        rcases hfin.1 with rfl | rfl
        · exact post
        · exact post
      · simp at h
    · simp at h
  · have hld:=(hE.ld _ _ hfd).2.1 _ (ki hlk);simp only at hld;simp only[run,run1,hld,hfd] at h;unfold runLoop at h;rw[hbody] at h;simp only at h
    split at h
    · rename_i b hfb
      split at h
      · rename_i hnd;have hbb:b=body:=by
         have:=zQI (l:=loopsOf c) hnd hmem;rw[hfb] at this;exact Option.some.inj this
        subst hbb;have hsub:∀ b',b'∈loopsOf b→b'∈loopsOf c:=loops_sub hmem;have hsub2:∀ b',b'∈restsOf b→b'∈restsOf c:=rests_loop hmem;obtain⟨e,s',hk,hN',hrun⟩:=jQ (P:=P) (N:=fd.fn.ntmps) (m:=n) hE.mixed (hop fd) b (fun b' hb' info' hl tvs outs ho=>ihL v fd c b' info' tvs outs hfd hbody (hsub b' hb') hl ho) (fun b' hb' info' hl tvs outs ho=>ihJ v fd c b' info' tvs outs hfd hbody (hsub2 b' hb') hl ho) h zJc;have leaves:∀ {outs},findOut e s' info.outs 0=some outs→e≠.normal→LoopOk P fd fd.fn.ntmps b info (n+1) tvs outs:=by
         intro outs hfo hne;obtain⟨j,sh,tv,h1,h2,h3,h4⟩:=zT2 (N:=fd.fn.ntmps) hfo;refine⟨e,sh,h4,zJc,fun w0 X Y0 fix ρ col a w Q hfix hi hQ=>?_⟩;rw[rounds_succ];refine hrun w0 X Y0 fix hfix ρ col a w _ hi (fun ρ' col' a' w' hi'=>?_);obtain⟨ρ2,col2,hi2⟩:=zDN hi' h2 [⟨.int .i64,0+(j:Int)⟩];rw[hN'] at hi2;have:([(⟨.int .i64,0+(j:Int)⟩:TV)]++tv)=outs:=by rw[h1];rfl
         rw[this] at hi2;have hq:=hQ ρ2 col2 a' w' hi2
         cases e with
         | normal=>exact absurd rfl hne
         | exit id=>exact hq
         | ret=>exact hq
        cases e with
        | normal=>
         simp only at hk
         split at hk
         · rename_i tvs' htv;obtain⟨e2,sh2,m1,m2,m3⟩:=ihL v fd c b info tvs' outs hfd hbody hmem hlk hk;refine⟨e2,sh2,m1,m2,fun w0 X Y0 fix ρ col a w Q hfix hi hQ=>?_⟩;rw[rounds_succ];refine hrun w0 X Y0 fix hfix ρ col a w _ hi (fun ρ' col' a' w' hi'=>?_);obtain⟨ρ2,col2,hi2⟩:=zDN hi' htv [];rw[hN'] at hi2;exact m3 w0 X Y0 fix ρ2 col2 a' w' Q hfix hi2 hQ
         · simp at hk
        | exit id=>exact leaves hk (by simp)
        | ret=>exact leaves hk (by simp)
      · simp at h
    · simp at h
  · have hld:=(hE.ld _ _ hfd).2.2 _ (ki hlk);simp only at hld;simp only[run,run1,hld,hfd] at h;unfold runJoin at h;rw[hbody] at h;simp only at h
    split at h
    · rename_i b hfb;have hbb:b=body:=by
       have:body∈(restsOf c).filter (fun a=>firstRegion a==firstRegion body):=List.mem_filter.2 ⟨hmem,by simp⟩;rw[hfb] at this;exact (List.mem_singleton.1 this).symm
      subst hbb;obtain⟨e,s',hk,hN',hrun⟩:=jQ (P:=P) (N:=fd.fn.ntmps) (m:=n) hE.mixed (hop fd) b (fun b' hb' info' hl tvs outs ho=>ihL v fd c b' info' tvs outs hfd hbody (loops_rest hmem b' hb') hl ho) (fun b' hb' info' hl tvs outs ho=>ihJ v fd c b' info' tvs outs hfd hbody (rests_sub hmem b' hb') hl ho) h zJc;obtain⟨j,sh,tv,h1,h2,h3,h4⟩:=zT2 (N:=fd.fn.ntmps) hk;refine⟨e,sh,h4,zJc,fun w0 X Y0 fix ρ col a w Q hfix hi hQ=>?_⟩;refine hrun w0 X Y0 fix hfix ρ col a w _ hi (fun ρ' col' a' w' hi'=>?_);obtain⟨ρ2,col2,hi2⟩:=zDN hi' h2 [⟨.int .i64,0+(j:Int)⟩];rw[hN'] at hi2;have:([(⟨.int .i64,0+(j:Int)⟩:TV)]++tv)=outs:=by rw[h1];rfl
      rw[this] at hi2;exact hQ ρ2 col2 a' w' hi2
    · simp at h
where
 rests_sub:∀ {c b:Code},b∈restsOf c→∀ b',b'∈restsOf b→b'∈restsOf c
  | .seq x y,b,h,b',hb=>by
   simp only[restsOf,List.mem_append,List.mem_cons] at h ⊢
   rcases h with h | rfl | h
   · exact .inl (rests_sub h b' hb)
   · exact .inr (.inr hb)
   · exact .inr (.inr (rests_sub h b' hb))
  | .cond _ x y,b,h,b',hb=>by
   simp only[restsOf,List.mem_append] at h ⊢;exact h.imp (fun h=>rests_sub h b' hb) (fun h=>rests_sub h b' hb)
  | .block _ x,b,h,b',hb=>by
   simp only[restsOf] at h ⊢;exact rests_sub h b' hb
  | .loop x,b,h,b',hb=>by
   simp only[restsOf] at h ⊢;exact rests_sub h b' hb
  | .skip,b,h,_,_=>by simp[restsOf] at h
  | .region _ _ _,b,h,_,_=>by simp[restsOf] at h
  | .rangeFunc _ _ _ _,b,h,_,_=>by simp[restsOf] at h
  | .exit _,b,h,_,_=>by simp[restsOf] at h
  | .scope _,b,h,_,_=>by simp[restsOf] at h
  | .label _,b,h,_,_=>by simp[restsOf] at h
  | .goto _,b,h,_,_=>by simp[restsOf] at h
  | .ret,b,h,_,_=>by simp[restsOf] at h
  | .refuse _,b,h,_,_=>by simp[restsOf] at h
 loops_rest:∀ {c b:Code},b∈restsOf c→∀ b',b'∈loopsOf b→b'∈loopsOf c
  | .seq x y,b,h,b',hb=>by
   simp only[restsOf,List.mem_append,List.mem_cons] at h;simp only[loopsOf,List.mem_append]
   rcases h with h | rfl | h
   · exact .inl (loops_rest h b' hb)
   · exact .inr hb
   · exact .inr (loops_rest h b' hb)
  | .cond _ x y,b,h,b',hb=>by
   simp only[restsOf,List.mem_append] at h;simp only[loopsOf,List.mem_append];exact h.imp (fun h=>loops_rest h b' hb) (fun h=>loops_rest h b' hb)
  | .block _ x,b,h,b',hb=>by
   simp only[restsOf] at h;simp only[loopsOf];exact loops_rest h b' hb
  | .loop x,b,h,b',hb=>by
   simp only[restsOf] at h;simp only[loopsOf,List.mem_cons];exact .inr (loops_rest h b' hb)
  | .skip,b,h,_,_=>by simp[restsOf] at h
  | .region _ _ _,b,h,_,_=>by simp[restsOf] at h
  | .rangeFunc _ _ _ _,b,h,_,_=>by simp[restsOf] at h
  | .exit _,b,h,_,_=>by simp[restsOf] at h
  | .scope _,b,h,_,_=>by simp[restsOf] at h
  | .label _,b,h,_,_=>by simp[restsOf] at h
  | .goto _,b,h,_,_=>by simp[restsOf] at h
  | .ret,b,h,_,_=>by simp[restsOf] at h
  | .refuse _,b,h,_,_=>by simp[restsOf] at h
 rests_loop:∀ {c b:Code},b∈loopsOf c→∀ b',b'∈restsOf b→b'∈restsOf c
  | .seq x y,b,h,b',hb=>by
   simp only[loopsOf,List.mem_append] at h;simp only[restsOf,List.mem_append,List.mem_cons]
   rcases h with h | h
   · exact .inl (rests_loop h b' hb)
   · exact .inr (.inr (rests_loop h b' hb))
  | .cond _ x y,b,h,b',hb=>by
   simp only[loopsOf,List.mem_append] at h;simp only[restsOf,List.mem_append];exact h.imp (fun h=>rests_loop h b' hb) (fun h=>rests_loop h b' hb)
  | .block _ x,b,h,b',hb=>by
   simp only[loopsOf] at h;simp only[restsOf];exact rests_loop h b' hb
  | .loop x,b,h,b',hb=>by
   simp only[loopsOf,List.mem_cons] at h;simp only[restsOf]
   rcases h with rfl | h
   · exact hb
   · exact rests_loop h b' hb
  | .skip,b,h,_,_=>by simp[loopsOf] at h
  | .region _ _ _,b,h,_,_=>by simp[loopsOf] at h
  | .rangeFunc _ _ _ _,b,h,_,_=>by simp[loopsOf] at h
  | .exit _,b,h,_,_=>by simp[loopsOf] at h
  | .scope _,b,h,_,_=>by simp[loopsOf] at h
  | .label _,b,h,_,_=>by simp[loopsOf] at h
  | .goto _,b,h,_,_=>by simp[loopsOf] at h
  | .ret,b,h,_,_=>by simp[loopsOf] at h
  | .refuse _,b,h,_,_=>by simp[loopsOf] at h
 loops_sub:∀ {c b:Code},b∈loopsOf c→∀ b',b'∈loopsOf b→b'∈loopsOf c
  | .seq x y,b,h,b',hb=>by
   simp only[loopsOf,List.mem_append] at h ⊢;exact h.imp (fun h=>loops_sub h b' hb) (fun h=>loops_sub h b' hb)
  | .cond _ x y,b,h,b',hb=>by
   simp only[loopsOf,List.mem_append] at h ⊢;exact h.imp (fun h=>loops_sub h b' hb) (fun h=>loops_sub h b' hb)
  | .block _ x,b,h,b',hb=>by
   simp only[loopsOf] at h ⊢;exact loops_sub h b' hb
  | .loop x,b,h,b',hb=>by
   simp only[loopsOf,List.mem_cons] at h ⊢
   rcases h with rfl | h
   · exact .inr hb
   · exact .inr (loops_sub h b' hb)
  | .skip,b,h,_,_=>by simp[loopsOf] at h
  | .region _ _ _,b,h,_,_=>by simp[loopsOf] at h
  | .rangeFunc _ _ _ _,b,h,_,_=>by simp[loopsOf] at h
  | .exit _,b,h,_,_=>by simp[loopsOf] at h
  | .scope _,b,h,_,_=>by simp[loopsOf] at h
  | .label _,b,h,_,_=>by simp[loopsOf] at h
  | .goto _,b,h,_,_=>by simp[loopsOf] at h
  | .ret,b,h,_,_=>by simp[loopsOf] at h
  | .refuse _,b,h,_,_=>by simp[loopsOf] at h
end
end Go.Ev
namespace Go.Ev
def zeroCell:C→Value→Bool
 | .int k _,.int k' n=>k'==k&&n==0
 | .bool _,.bool b=>b==false
 | .nil,.slice none l c=>l==0&&c==0
 | _,_=>false
def zeroCells:List C→List Value→Bool
 | [],[]=>true
 | c::cs,v::vs=>zeroCell c v&&zeroCells cs vs
 | _,_=>false
def zeroB:Ty→Value→Bool
 | .int k,v=>zeroCell (.int k 0) v
 | .bool,v=>zeroCell (.bool false) v
 | .slice _,v=>zeroCell .nil v
 | .arr k m,.agg vs=>zeroCells (List.replicate m (.int k 0)) vs.toList
 | .barr m,.agg vs=>zeroCells (List.replicate m (.bool false)) vs.toList
 | .pair a b,.agg vs=>zeroCells (Ty.zeroC (.pair a b)) vs.toList
 | _,_=>false
def Loc0:Locs:=fun _=>⟨none,0,0⟩
def C.isZero:C→Prop
 | .int _ n=>n=0
 | .bool b=>b=false
 | .nil=>True
 | _=>False
theorem zCQ {c:C}{v:Value}(hc:c.isZero) (h:zeroCell c v=true):v=cval Loc0 c:=by
 cases c with
 | int k n=>cases v<;>simp_all [zeroCell,C.isZero,cval]
 | bool b=>cases v<;>simp_all [zeroCell,C.isZero,cval]
 | nil=>
  cases v with
  | slice ad l c=>cases ad<;>simp_all [zeroCell,cval]
  | _=>simp[zeroCell] at h
 | _=>exact hc.elim
theorem zBL:∀ {cs:List C}{vs:List Value},(∀ c∈cs,c.isZero)→zeroCells cs vs=true→vs=cs.map (cval Loc0)
 | [],[],_,_=>rfl
 | c::cs,v::vs,hc,h=>by
  simp only[zeroCells,Bool.and_eq_true] at h;rw[zCQ (hc c (by simp)) h.1,zBL (fun c hm=>hc c (by simp[hm])) h.2]
  rfl
 | [],_::_,_,h=>by simp[zeroCells] at h
 | _::_,[],_,h=>by simp[zeroCells] at h
theorem zFY:∀ (t:Ty),∀ c∈t.zeroC,c.isZero
 | .int _=>fun c hc=>by simp[Ty.zeroC] at hc;subst hc;rfl
 | .bool=>fun c hc=>by simp[Ty.zeroC] at hc;subst hc;rfl
 | .slice _=>fun c hc=>by simp[Ty.zeroC] at hc;subst hc;trivial
 | .arr _ _=>fun c hc=>by simp[Ty.zeroC] at hc
 | .barr _=>fun c hc=>by simp[Ty.zeroC] at hc
 | .pair a b=>fun c hc=>by
  simp only[Ty.zeroC,List.mem_append] at hc;exact hc.elim (zFY a c) (zFY b c)
theorem zQ8 {t:Ty}{v:Value}(h:zeroB t v=true):v=wval Loc0 t.zeroW:=by
 cases t with
 | int k=>exact zCQ (c:=.int k 0) rfl h
 | bool=>exact zCQ (c:=.bool false) rfl h
 | slice u=>exact zCQ (c:=.nil) trivial h
 | arr k m=>
  cases v with
  | agg vs=>
   have:=zBL (cs:=List.replicate m (.int k 0)) (fun c hc=>by rw[List.mem_replicate] at hc;rw[hc.2];rfl) h;simp only[Ty.zeroW,wval,wcells];congr 1;apply Array.toList_inj.1;rw[this];simp[cval]
  | _=>simp[zeroB] at h
 | barr m=>
  cases v with
  | agg vs=>
   have:=zBL (cs:=List.replicate m (.bool false)) (fun c hc=>by rw[List.mem_replicate] at hc;rw[hc.2];rfl) h;simp only[Ty.zeroW,wval,wcells];congr 1;apply Array.toList_inj.1;rw[this];simp[cval]
  | _=>simp[zeroB] at h
 | pair a b=>
  cases v with
  | agg vs=>
   have:=zBL (zFY (.pair a b)) h;simp only[Ty.zeroW,wval,wcells];congr 1;apply Array.toList_inj.1;rw[this]
   rfl
  | _=>simp[zeroB] at h
def baseB (P:Program) (T:TypeId) (t:Ty):Bool:=match P.info? T with
 | some i=>(match i.zero with | some z=>zeroB t z | none=>false)&&i.size==t.cells&&decide (i.bytes≤128)&&decide (1≤t.cells)&&decide (t.cells≤65536)
 | none=>false
theorem zDl {P:Program}{T:TypeId}{t:Ty}(h:baseB P T t=true):Base P T t:=by
 unfold baseB at h
 split at h
 · rename_i i hi;simp only[Bool.and_eq_true,decide_eq_true_eq,beq_iff_eq] at h;obtain⟨⟨⟨⟨h1,h2⟩,h3⟩,h4⟩,h5⟩:=h
   split at h1
   · rename_i z hz;exact⟨i,hi,by rw[hz,zQ8 h1];rfl,h2,h3,h4,h5⟩
   · simp at h1
 · simp at h
def cell1B (P:Program) (T:TypeId):Bool:=(match P.info? T with | some i=>i.size==1 | none=>false)&&(match P.underlying T with | some d=>scalarDesc d | none=>false)
theorem zHw {P:Program}{T:TypeId}(h:cell1B P T=true):Cell1 P T:=by
 simp only[cell1B,Bool.and_eq_true] at h;obtain⟨h1,h2⟩:=h
 split at h1
 · rename_i i hi
   split at h2
   · rename_i d hd;exact⟨⟨i,hi,by simpa using h1⟩,d,hd,h2⟩
   · simp at h2
 · simp at h1
def Ty.parts:Ty→Nat
 | .pair _ b=>1+b.parts
 | _=>1
theorem zOM {u:Ty}{o:Nat}:∀ (b a:Ty) (f:Nat),(Ty.pair a b).offs f=some (o,u)→f<(Ty.pair a b).parts:=by
 intro b
 induction b generalizing o with
 | pair c d _ ihd=>
  intro a f h
  cases f with
  | zero=>simp[Ty.parts];omega
  | succ f=>
   simp only[Ty.offs] at h
   split at h
   · rename_i o' t' hh;simp only[Option.some.injEq,Prod.mk.injEq] at h;obtain⟨_,rfl⟩:=h;have:=ihd c f hh;simp only[Ty.parts] at this ⊢;omega
   · simp at h
 | _=>
  intro a f h;rcases f with _ | _ | f<;>simp[Ty.offs,Ty.parts] at h ⊢
def structB (P:Program) (T:TypeId) (t:Ty):Bool:=match P.underlying T with
 | some (.struct fs)=>fs.toList.all (fun fld=>cell1B P fld.type)&&(List.range t.parts).all fun f=>match t.offs f with
   | some (o,u)=>u.scalar&&(match fs[f]? with | some fld=>fld.offset==o | none=>false)
   | none=>true
 | _=>false
theorem zN9 {P:Program}{T:TypeId}{a b:Ty}(h:structB P T (.pair a b)=true):∃ fs,P.underlying T=some (.struct fs)∧(∀ fld∈fs.toList,Cell1 P fld.type) ∧
      ∀ f o u,(Ty.pair a b).offs f=some (o,u)→u.scalar=true∧∃ fld,fs[f]?=some fld∧fld.offset=o:=by
 unfold structB at h
 split at h
 · rename_i fs hfs;simp only[Bool.and_eq_true,List.all_eq_true] at h;obtain⟨h1,h2⟩:=h;refine⟨fs,hfs,fun fld hm=>zHw (h1 fld hm),fun f o u ho=>?_⟩;have:=h2 f (List.mem_range.2 (zOM b a f ho));rw[ho] at this;simp only[Bool.and_eq_true] at this;refine⟨this.1,?_⟩;have h3:=this.2
   split at h3
   · rename_i fld hfld;exact⟨fld,hfld,by simpa using h3⟩
   · simp at h3
 · simp at h
def tyOkB (P:Program):Ty→TypeId→Bool
 | .int k,T=>baseB P T (.int k)&&(match P.underlying T with | some (.int k')=>k'==k | _=>false)
 | .bool,T=>baseB P T .bool&&(match P.underlying T with | some .bool=>true | _=>false)
 | .arr k m,T=>baseB P T (.arr k m)&&(match P.underlying T with | some (.array n e)=>n==m&&(match P.underlying e with | some (.int k')=>k'==k | _=>false)&&cell1B P e | _=>false)&&P.eqGuardType P.depth T==false
 | .barr m,T=>baseB P T (.barr m)&&(match P.underlying T with | some (.array n e)=>n==m&&(match P.underlying e with | some .bool=>true | _=>false)&&cell1B P e | _=>false)
 | .slice u,T=>baseB P T (.slice u)&&(match P.underlying T with | some (.slice e)=>tyOkB P u e | _=>false)
 | .pair a b,T=>baseB P T (.pair a b)&&(Ty.pair a b).leafs&&structB P T (.pair a b)
theorem kl {P:Program}:∀ {t:Ty}{T:TypeId},tyOkB P t T=true→TyOK P t T
 | .int k,T,h=>by
  simp only[tyOkB,Bool.and_eq_true] at h;refine⟨zDl h.1,?_⟩;have h2:=h.2
  split at h2
  · rename_i k' hk;simp only[beq_iff_eq] at h2;rw[hk,h2]
  · simp at h2
 | .bool,T,h=>by
  simp only[tyOkB,Bool.and_eq_true] at h;refine⟨zDl h.1,?_⟩;have h2:=h.2
  split at h2
  · rename_i hk;exact hk
  · simp at h2
 | .arr k m,T,h=>by
  simp only[tyOkB,Bool.and_eq_true,beq_iff_eq] at h;obtain⟨⟨h1,h2⟩,h3⟩:=h;refine⟨zDl h1,?_,h3⟩
  split at h2
  · rename_i n e he;simp only[Bool.and_eq_true,beq_iff_eq] at h2;obtain⟨⟨rfl,h4⟩,h5⟩:=h2
    split at h4
    · rename_i k' hk;simp only[beq_iff_eq] at h4;exact⟨e,he,by rw[hk,h4],zHw h5⟩
    · simp at h4
  · simp at h2
 | .barr m,T,h=>by
  simp only[tyOkB,Bool.and_eq_true] at h;obtain⟨h1,h2⟩:=h;refine⟨zDl h1,?_⟩
  split at h2
  · rename_i n e he;simp only[Bool.and_eq_true,beq_iff_eq] at h2;obtain⟨⟨rfl,h4⟩,h5⟩:=h2
    split at h4
    · rename_i hk;exact⟨e,he,hk,zHw h5⟩
    · simp at h4
  · simp at h2
 | .slice u,T,h=>by
  simp only[tyOkB,Bool.and_eq_true] at h;obtain⟨h1,h2⟩:=h;refine⟨zDl h1,?_⟩
  split at h2
  · rename_i e he;exact⟨e,he,kl h2⟩
  · simp at h2
 | .pair a b,T,h=>by
  simp only[tyOkB,Bool.and_eq_true] at h;obtain⟨⟨h1,h2⟩,h3⟩:=h;exact⟨zDl h1,h2,zN9 h3⟩
def isStrB (P:Program) (T:TypeId):Bool:=match P.underlying T with
 | some .string=>true
 | _=>false
theorem zNa {P:Program}{E:Env}{tab:List (Nat×Ty)}(hE:E.ty=fun T=>tab.lookup T) (h:tab.all (fun q=>tyOkB P q.2 q.1)=true) (hs:E.str.all (isStrB P)=true):EnvTy P E:=by
 refine⟨fun T t ht=>?_,fun T hT=>?_⟩
 · rw[hE] at ht;have:=List.all_eq_true.1 h _ (ki ht);exact kl this
 · have hm:T∈E.str:=by simpa using hT
   have:=List.all_eq_true.1 hs T hm;unfold isStrB at this
   split at this
   · rename_i h';exact h'
   · simp at this
def addEntry:Array Value→Sem Value:=fun args=>do
 let (x,y,c) ← Extern.MathBitsCarry.three "Add64" args
 pure (Extern.MathBitsCarry.pair ((x+y+c) % Extern.MathBitsCarry.m64) ((x+y+c) / Extern.MathBitsCarry.m64))
def subEntry:Array Value→Sem Value:=fun args=>do
 let (x,y,b) ← Extern.MathBitsCarry.three "Sub64" args
 pure (Extern.MathBitsCarry.pair ((x+Extern.MathBitsCarry.m64-y-b) % Extern.MathBitsCarry.m64) (if x<y+b then 1 else 0))
theorem zKr {x y c:Int}(h:carOk x y c=true):∃ X Y k:Nat,x=X∧y=Y∧c=k∧X<18446744073709551616∧Y<18446744073709551616∧k≤1:=by
 simp only[carOk,Bool.and_eq_true,decide_eq_true_eq] at h;exact⟨x.toNat,y.toNat,c.toNat,by omega,by omega,by omega,by omega,by omega,by omega⟩
theorem zSl {P:Program}{f:FuncId}{fn:Func}(hf:P.funcs[f]?=some fn) (h1:((fn.name == "runtime.NumGoroutine")||!fn.body.isNone)=false) (hn:Extern.findNext fn=none):(Extern.find fn=some addEntry→PrimOk P f .add64)∧(Extern.find fn=some subEntry→PrimOk P f .sub64):=by
 simp only[Bool.or_eq_false_iff,Bool.not_eq_false'] at h1;have hname:¬ fn.name = "runtime.NumGoroutine" := by simpa using h1.1
 have hb:fn.body=none:=by simpa using h1.2
 have run:∀ (e:Array Value→Sem Value),Extern.find fn=some e→∀ args w,(callFunc f args).run P w=((e args).run P w).andThen fun v w'=>.ok (.value v) w':=fun e he args w=>by
  simp[callFunc,hf,hname,hb,hn,he,mark,Sem.run]
 constructor
 · intro he x y c w hc;obtain⟨X,Y,k,rfl,rfl,rfl,hX,hY,hk⟩:=zKr hc;have key:(addEntry #[.int .u64 (X:Int),.int .u64 (Y:Int),.int .u64 (k:Int)]).run P w=.ok (Extern.MathBitsCarry.pair ((X+Y+k) % Extern.MathBitsCarry.m64) ((X+Y+k) / Extern.MathBitsCarry.m64)) w:=by
    have:k=0∨k=1:=by omega
    rcases this with rfl | rfl<;>rfl
   rw[run _ he,key];simp only[Result.andThen,Extern.MathBitsCarry.pair,Extern.MathBitsCarry.m64,addLo,addHi];congr 4<;>simp
 · intro he x y c w hc;obtain⟨X,Y,k,rfl,rfl,rfl,hX,hY,hk⟩:=zKr hc;have key:(subEntry #[.int .u64 (X:Int),.int .u64 (Y:Int),.int .u64 (k:Int)]).run P w=.ok (Extern.MathBitsCarry.pair ((X+Extern.MathBitsCarry.m64-Y-k) % Extern.MathBitsCarry.m64) (if X<Y+k then 1 else 0)) w:=by
    have:k=0∨k=1:=by omega
    rcases this with rfl | rfl<;>rfl
   rw[run _ he,key];simp only[Result.andThen,Extern.MathBitsCarry.pair,Extern.MathBitsCarry.m64,subLo,subHi];have e1:Int.ofNat ((X+2^64-Y-k) % 2^64)=((X:Int)-Y-k) % 18446744073709551616:=by
    simp only[Int.ofNat_eq_natCast];omega
   have e2:Int.ofNat (if X<Y+k then 1 else 0)=(if (X:Int)<Y+k then 1 else 0):=by
    split<;>split<;>first | rfl | omega
   rw[e1,e2]
   rfl
def FdOk (P:Program) (fd:FD):Prop:=P.funcs[fd.id]?=some fd.fn∧(fd.fn.name == "runtime.NumGoroutine")=false∧fd.fn.body.isNone=false∧((initPs [] fd.sig.params 0 0).2.map (·.1)).Nodup∧fd.sig.params.length≤fd.fn.ntmps
theorem FdOk.of {P:Program}{fd:FD}(h1:P.funcs[fd.id]?=some fd.fn) (h2:((fd.fn.name == "runtime.NumGoroutine")||fd.fn.body.isNone||!decide ((initPs [] fd.sig.params 0 0).2.map (·.1)).Nodup||!decide (fd.sig.params.length≤fd.fn.ntmps))=false):FdOk P fd:=by
 simp only[Bool.or_eq_false_iff,Bool.not_eq_false',decide_eq_true_eq] at h2;obtain⟨⟨⟨h3,h4⟩,h5⟩,h6⟩:=h2;exact⟨h1,h3,h4,h5,h6⟩
theorem EnvOk.of {P:Program}{E:Env}{tab:List (Nat×FD)}{etab:List (Nat×ExtK)}(h1:EnvTy P E) (h2:P.follows .mixedOrders=true) (h3:E.fd=fun f=>tab.lookup f)
  (h4:∀ q∈tab,FdOk P q.2∧E.ld q.1=none∧(∀ r∈q.2.loops,E.ld r.2.lid=some ⟨q.1,r.1,r.2,false⟩)∧∀ r∈q.2.joins,E.ld r.2.lid=some ⟨q.1,r.1,r.2,true⟩)
  (h5:E.ext=fun f=>etab.lookup f) (h6:∀ r∈etab,∃ fd,E.fd r.1=some fd∧ExtOk P E fd r.2) {ptab:List (FuncId×PrimK)}(h7:E.prim=fun f=>ptab.lookup f) (h8:∀ r∈ptab,PrimOk P r.1 r.2):EnvOk P E where
 prim f p hp:=by
  rw[h7] at hp;exact h8 _ (ki hp)
 ty:=h1
 mixed:=h2
 fn v fd h:=by
  rw[h3] at h;exact (h4 _ (ki h)).1
 ld v fd h:=by
  rw[h3] at h;exact (h4 _ (ki h)).2
 ext v fd k h hx:=by
  rw[h5] at hx;obtain⟨fd',g1,g2⟩:=h6 _ (ki hx);rw[h] at g1;simp only[Option.some.injEq] at g1;exact g1 ▸ g2
end Go.Ev
