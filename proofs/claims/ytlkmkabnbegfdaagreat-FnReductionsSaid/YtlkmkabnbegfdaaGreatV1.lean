/- A deterministic evaluator of loaded code, and its limit. -/
import Derived.Calls
import Derived.Sort.Defs
import Derived.Lib.BitFns
namespace Go.Ev
inductive Ty where
 | int (k:IntKind) | bool | arr (k:IntKind) (m:Nat) | barr (m:Nat) | slice (t:Ty) | pair (a b:Ty)
 deriving DecidableEq
@[reducible] def Ty.den:Ty→Type
 | .int _=>Int
 | .bool=>Bool
 | .arr _ _=>List Int
 | .barr _=>List Bool
 | .slice t=>List t.den
 | .pair a b=>a.den×b.den
def Ty.zero:(t:Ty)→t.den
 | .int _=>(0:Int)
 | .bool=>false
 | .arr _ m=>List.replicate m 0
 | .barr m=>List.replicate m false
 | .slice _=>[]
 | .pair a b=>(a.zero,b.zero)
def Ty.cells:Ty→Nat
 | .int _ | .bool | .slice _=>1
 | .arr _ m | .barr m=>m
 | .pair a b=>a.cells+b.cells
def Ty.flat:Ty→Bool
 | .int _ | .bool | .arr _ _ | .barr _=>true
 | .slice _=>false
 | .pair a b=>a.flat&&b.flat
def Ty.leafs:Ty→Bool
 | .pair a b=>a.leafs&&b.leafs
 | .int _ | .bool | .slice _=>true
 | _=>false
structure TV where
 t:Ty
 x:t.den
def getTV (t:Ty) (l:List TV) (i:Nat):t.den:=
 match l[i]? with
 | some ⟨t',x⟩=>if h:t'=t then h ▸ x else t.zero
 | none=>t.zero
inductive C where
 | int (k:IntKind) (n:Int) | bool (b:Bool) | nil | sl (o:Nat) | ptr (o i es j:Nat)
inductive W where
 | c (x:C) | arr (k:IntKind) (m:Nat) (xs:List Int) | barr (m:Nat) (xs:List Bool) | st (cs:List C)
inductive V where
 | undef | w (x:W) | fn (f:FuncId) (caps:List W) | tup (vs:List W)
inductive Mode where
 | own | sh | ro
 deriving DecidableEq
def Mode.mine:Mode→Bool
 | .ro=>false
 | _=>true
inductive Obj where
 | dead | box (m:Mode) (x:W) | row (m:Mode) (t:Ty) (xs:List t.den)
abbrev Objs:=Nat→Option Obj
def Objs.upd (f:Objs) (o:Nat) (x:Obj):Objs:=fun o'=>if o'=o then some x else f o'
def Objs.upds (f:Objs):List (Nat×Obj)→Objs
 | []=>f
 | (o,x)::r=>(f.upd o x).upds r
def Objs.none:Objs:=fun _=>.none
structure St where
 tm:List V
 ob:Objs
def Ty.zeroC:Ty→List C
 | .int k=>[.int k 0]
 | .bool=>[.bool false]
 | .slice _=>[.nil]
 | .pair a b=>a.zeroC++b.zeroC
 | _=>[]
def Ty.zeroW:Ty→W
 | .int k=>.c (.int k 0)
 | .bool=>.c (.bool false)
 | .slice _=>.c .nil
 | .arr k m=>.arr k m (List.replicate m 0)
 | .barr m=>.barr m (List.replicate m false)
 | .pair a b=>.st (a.zeroC++b.zeroC)
def unpackC (m:Mode):(t:Ty)→t.den→Nat→List C×List (Nat×Obj)
 | .int k,x,_=>([.int k x],[])
 | .bool,x,_=>([.bool x],[])
 | .slice t,x,id=>([.sl id],[(id,.row m t x)])
 | .pair a b,x,id=>
  let p:=unpackC m a x.1 id
  let q:=unpackC m b x.2 (id+p.2.length)
  (p.1++q.1,p.2++q.2)
 | _,_,_=>([],[])
def unpackW (m:Mode):(t:Ty)→t.den→Nat→W×List (Nat×Obj)
 | .int k,x,_=>(.c (.int k x),[])
 | .bool,x,_=>(.c (.bool x),[])
 | .arr k n,x,_=>(.arr k n x,[])
 | .barr n,x,_=>(.barr n x,[])
 | .slice t,x,id=>(.c (.sl id),[(id,.row m t x)])
 | .pair a b,x,id=>let p:=unpackC m (.pair a b) x id;(.st p.1,p.2)
def rowAs (ob:Objs) (o:Nat) (t:Ty):Option (Mode×List t.den):=
 match ob o with
 | some (.row m t' xs)=>if h:t'=t then some (m,h ▸ xs) else none
 | _=>none
def demote (ob:Objs) (o:Nat):Nat×Obj:=
 (o,match ob o with
  | some (.row _ t xs)=>.row .ro t xs
  | some (.box _ x)=>.box .ro x
  | some x=>x
  | none=>.dead)
def demotes (ob:Objs) (us:List (Nat×Mode)):List (Nat×Obj):=(us.filter fun p=>p.2.mine).map fun p=>demote ob p.1
def packC (ob:Objs):(t:Ty)→List C→Option (t.den×List (Nat×Mode)×List C)
 | .int k,.int k' n::r=>if k'=k then some (n,[],r) else none
 | .bool,.bool b::r=>some (b,[],r)
 | .slice _,.nil::r=>some ([],[],r)
 | .slice t,.sl o::r=>match rowAs ob o t with
  | some (m,xs)=>some (xs,[(o,m)],r)
  | none=>none
 | .pair a b,cs=>match packC ob a cs with
  | some (x,us,r)=>match packC ob b r with
   | some (y,us',r')=>some ((x,y),us++us',r')
   | none=>none
  | none=>none
 | _,_=>none
def packW (ob:Objs):(t:Ty)→W→Option (t.den×List (Nat×Mode))
 | .int k,.c (.int k' n)=>if k'=k then some (n,[]) else none
 | .bool,.c (.bool b)=>some (b,[])
 | .arr k m,.arr k' m' xs=>if k'=k∧m'=m then some (xs,[]) else none
 | .barr m,.barr m' xs=>if m'=m then some (xs,[]) else none
 | .slice _,.c .nil=>some ([],[])
 | .slice t,.c (.sl o)=>match rowAs ob o t with
  | some (m,xs)=>some (xs,[(o,m)])
  | none=>none
 | .pair a b,.st cs=>match packC ob (.pair a b) cs with
  | some (x,us,[])=>some (x,us)
  | _=>none
 | _,_=>none
inductive CK where
 | val | rob | box
 deriving DecidableEq
def CK.isBox:CK→Bool
 | .box=>true
 | _=>false
inductive PK where
 | ro (t:Ty) | own (t:Ty) | mut (t:Ty) | rob (t:Ty) | box (t:Ty) | fn (f:FuncId) (caps:List (CK×Ty)) | boxr (t:Ty) | muts (t:Ty)
structure Sig where
 params:List PK
 res:List (Mode×Bool×Ty)
 deriving Inhabited
def PK.loud:PK→Bool
 | .boxr _ | .muts _=>true
 | _=>false
def Sig.quiet (s:Sig):Bool:=s.res.all (fun x=>x.1=.own)&&s.params.all (fun k=>!k.loud)
inductive CS where
 | int (k:IntKind) | bool | sl (i:Nat) | ptr (i:Nat)
inductive WS where
 | c (x:CS) | arr (k:IntKind) (m:Nat) | barr (m:Nat) | st (cs:List CS)
inductive VS where
 | w (x:WS) | fn (f:FuncId) (caps:List WS)
inductive OS where
 | row (m:Mode) (t:Ty) | box (m:Mode) (x:WS)
structure Shape where
 objs:List OS
 slots:List (Nat×VS)
inductive Ex where
 | normal | exit (id:Nat) | ret
 deriving DecidableEq
structure LoopInfo where
 lid:Nat
 inS:Shape
 outs:List (Ex×Shape)
def PK.isFixed:PK→Bool
 | .ro _ | .own _ | .rob _=>false
 | .mut _ | .box _ | .boxr _ | .muts _=>true
 | .fn _ caps=>caps.any (·.1.isBox)
def fixedGo:List PK→Nat→List Nat
 | [],_=>[]
 | k::r,i=>if k.isFixed then i::fixedGo r (i+1) else fixedGo r (i+1)
structure FD where
 id:FuncId
 fn:Func
 sig:Sig
 loops:List (Nat×LoopInfo):=[]
 views:List Nat:=[]
 joins:List (Nat×LoopInfo):=[]
structure LD where
 f:Nat
 key:Nat
 info:LoopInfo
 join:Bool:=false
inductive ExtK where
 | val (f:List TV→Option (List TV))
inductive PrimK where
 | add64 | sub64
 deriving DecidableEq
structure Env where
 str:List TypeId
 ty:TypeId→Option Ty
 pick:FuncId→List FuncId→Nat
 fd:Nat→Option FD
 ld:Nat→Option LD
 ext:Nat→Option ExtK:=fun _=>none
 prim:FuncId→Option PrimK:=fun _=>none
def V.one:V→Option W
 | .w x=>some x
 | _=>none
def evalC (v:Value):V:=
 match v with
 | .int k n=>.w (.c (.int k n))
 | .bool b=>.w (.c (.bool b))
 | .slice none 0 0=>.w (.c .nil)
 | _=>.undef
def St.eval (s:St):Operand→V
 | .tmp t=>s.tm.getD t .undef
 | .const v=>evalC v
 | .func f=>.fn f []
 | .global _=>.undef
structure Eff where
 ok:Bool
 v:V
 wr:List (Nat×Obj)
 nw:List (Nat×Obj)
 rd:List Nat
def lim:Nat:=549755813888
def intOp (op:BinOp) (k:IntKind) (a b:Int):Option (Bool×W):=
 let bits (f:BitVec k.bits→BitVec k.bits→BitVec k.bits):W:=.c (.int k (k.wrap (f (BitVec.ofInt k.bits a) (BitVec.ofInt k.bits b)).toNat))
 match op with
 | .add=>some (true,.c (.int k (k.wrap (a+b))))
 | .sub=>some (true,.c (.int k (k.wrap (a-b))))
 | .mul=>some (true,.c (.int k (k.wrap (a*b))))
 | .quo=>some (b != 0,.c (.int k (k.wrap (a.tdiv b))))
 | .rem=>some (b != 0,.c (.int k (a.tmod b)))
 | .and=>some (true,bits (· &&& ·))
 | .or=>some (true,bits (· ||| ·))
 | .xor=>some (true,bits (· ^^^ ·))
 | .andNot=>some (true,bits (fun x y=>x &&& ~~~y))
 | .eql=>some (true,.c (.bool (a==b)))
 | .neq=>some (true,.c (.bool (a != b)))
 | .lss=>some (true,.c (.bool (decide (a<b))))
 | .leq=>some (true,.c (.bool (decide (a≤b))))
 | .gtr=>some (true,.c (.bool (decide (b<a))))
 | .geq=>some (true,.c (.bool (decide (b≤a))))
 | _=>none
def binW (op:BinOp) (T:Option Ty):W→W→Option (Bool×W)
 | .c (.int k a),.c (.int k' b)=>
  match op with
  | .shl=>some (decide (0≤b),.c (.int k (k.wrap (a*2^(min b.toNat k.bits)))))
  | .shr=>some (decide (0≤b),.c (.int k (a.fdiv (2^(min b.toNat k.bits)))))
  | _=>if k=k' then intOp op k a b else none
 | .c (.bool a),.c (.bool b)=>
  if T=some .bool then
   match op with
   | .eql=>some (true,.c (.bool (a==b)))
   | .neq=>some (true,.c (.bool (a != b)))
   | _=>none
  else none
 | .arr k m xs,.arr k' m' ys=>
  if k=k'∧m=m'∧T=some (.arr k m) then
   match op with
   | .eql=>some (true,.c (.bool (xs==ys)))
   | .neq=>some (true,.c (.bool (xs != ys)))
   | _=>none
  else none
 | _,_=>none
def W.int?:W→Option (IntKind×Int)
 | .c (.int k n)=>some (k,n)
 | _=>none
def W.bool?:W→Option Bool
 | .c (.bool b)=>some b
 | _=>none
def V.int? (v:V):Option (IntKind×Int):=v.one.bind W.int?
def V.bool? (v:V):Option Bool:=v.one.bind W.bool?
def W.cell?:W→Option C
 | .c x=>some x
 | _=>none
def pure1 (w:W):Option Eff:=some ⟨true,.w w,[],[],[]⟩
def fillC:List C→List (Nat×C)→Option (List C)
 | cs,[]=>some cs
 | cs,(j,x)::r=>if j<cs.length then fillC (cs.set j x) r else none
def fillI:List Int→List (Nat×Int)→Option (List Int)
 | xs,[]=>some xs
 | xs,(j,x)::r=>if j<xs.length then fillI (xs.set j x) r else none
def Ty.offs:Ty→Nat→Option (Nat×Ty)
 | .pair a _,0=>some (0,a)
 | .pair a b,n+1=>match b,n with
  | .pair c d,n=>match Ty.offs (.pair c d) n with
   | some (o,t)=>some (a.cells+o,t)
   | none=>none
  | t,0=>some (a.cells,t)
  | _,_=>none
 | _,_=>none
def Ty.scalar:Ty→Bool
 | .int _ | .bool | .slice _=>true
 | _=>false
def C.fits:C→Ty→Bool
 | .int k _,.int k'=>k=k'
 | .bool _,.bool=>true
 | .nil,.slice _=>true
 | .sl _,.slice _=>true
 | _,_=>false
def fitsC:Ty→List C→Option (List C)
 | .pair a b,cs=>(fitsC a cs).bind (fitsC b)
 | t,c::r=>if C.fits c t then some r else none
 | _,[]=>none
def W.fits:W→Ty→Bool
 | .c x,t=>C.fits x t
 | .arr k m _,.arr k' m'=>k=k'∧m=m'
 | .barr m _,.barr m'=>m=m'
 | .st cs,.pair a b=>match fitsC (.pair a b) cs with | some []=>true | _=>false
 | _,_=>false
def idOf (dst:Nat):Nat:=1000+16*dst
def pointsTo (s:St) (o es j:Nat) (t:Ty):Bool:=
 match s.ob o with
 | some (.box _ w)=>W.fits w t&&es==0&&j==0
 | some (.row _ u _)=>u=t&&es==u.cells&&j==0
 | _=>false
def loadE (E:Env) (s:St) (d:Nat) (T:TypeId):C→Option Eff
 | .ptr o i es j=>
  match E.ty T,s.ob o with
  | some t,some (.box _ w)=>
   if t.scalar then
    match w with
    | .c x=>if C.fits x t&&es==0 then some ⟨true,.w (.c x),[],[],[o]⟩ else none
    | .st cs=>match cs[j]? with
     | some x=>if C.fits x t&&es==0 then some ⟨true,.w (.c x),[],[],[o]⟩ else none
     | none=>none
    | .arr k _ xs=>if t=.int k&&es==0 then some ⟨true,.w (.c (.int k (xs.getD j 0))),[],[],[o]⟩ else none
    | .barr _ xs=>if t=.bool&&es==0 then some ⟨true,.w (.c (.bool (xs.getD j false))),[],[],[o]⟩ else none
   else if W.fits w t&&j==0&&es==0 then some ⟨true,.w w,[],[],[o]⟩ else none
  | some t,some (.row _ u xs)=>
   if es==u.cells&&es != 0 then
    if t=u then
     if j==0 then
      let p:=unpackW .ro u (xs.getD i u.zero) (idOf d)
      some ⟨true,.w p.1,[],p.2,[o]⟩
     else none
    else
     match u,xs with
     | .arr k _,xs=>if t=.int k then some ⟨true,.w (.c (.int k ((xs.getD i []).getD j 0))),[],[],[o]⟩ else none
     | .pair a b,xs=>
      if (Ty.pair a b).leafs then
       let p:=unpackC .ro (.pair a b) (xs.getD i (a.zero,b.zero)) (idOf d)
       match p.1[j]? with
       | some x=>if C.fits x t then some ⟨true,.w (.c x),[],p.2,[o]⟩ else none
       | none=>none
      else none
     | _,_=>none
   else none
  | _,_=>none
 | _=>none
def storeE (E:Env) (s:St) (T:TypeId):C→W→Option Eff
 | .ptr o i es j,v=>
  match E.ty T,s.ob o with
  | some t,some (.box .own w)=>
   if W.fits v t&&es==0 then
    match v,w with
    | .c x,.c _=>some ⟨true,.undef,[(o,.box .own (.c x))],[],[o]⟩
    | .c x,.st cs=>match cs[j]? with
     | some y=>if C.fits y t then some ⟨true,.undef,[(o,.box .own (.st (cs.set j x)))],[],[o]⟩ else none
     | none=>none
    | .c (.int k n),.arr k' m xs=>if k=k' then some ⟨true,.undef,[(o,.box .own (.arr k' m (xs.set j n)))],[],[o]⟩ else none
    | .c (.bool n),.barr m xs=>some ⟨true,.undef,[(o,.box .own (.barr m (xs.set j n)))],[],[o]⟩
    | .arr k m xs,.arr _ _ _=>if W.fits w t&&j==0 then some ⟨true,.undef,[(o,.box .own (.arr k m xs))],[],[o]⟩ else none
    | .barr m xs,.barr _ _=>if W.fits w t&&j==0 then some ⟨true,.undef,[(o,.box .own (.barr m xs))],[],[o]⟩ else none
    | .st cs,.st _=>if W.fits w t&&j==0 then some ⟨true,.undef,[(o,.box .own (.st cs))],[],[o]⟩ else none
    | _,_=>none
   else none
  | some t,some (.row m u xs)=>
   if es==u.cells&&es != 0 then
    if t=u then
     if j==0 then
      match packW s.ob u v with
      | some (x,us)=>
       if u.flat then
        if m=.own then some ⟨true,.undef,[(o,.row .own u (xs.set i x))],[],o::us.map (·.1)⟩ else none
       else if m.mine&&us.all (fun p=>p.1 != o) then
        some ⟨true,.undef,demotes s.ob us++[(o,.row .sh u (xs.set i x))],[],o::us.map (·.1)⟩
       else none
      | none=>none
     else none
    else if m=.own then
     match u,xs,v with
     | .arr k m,xs,.c (.int k' n)=>
      if t=.int k&&k'=k then some ⟨true,.undef,[(o,.row .own (.arr k m) (xs.set i ((xs.getD i []).set j n)))],[],[o]⟩ else none
     | _,_,_=>none
    else none
   else none
  | _,_=>none
 | _,_=>none
def W.sliceOf (ob:Objs) (t:Ty):W→Option (List (Nat×Mode)×List t.den)
 | .c .nil=>some ([],[])
 | .c (.sl o)=>match rowAs ob o t with
  | some (m,xs)=>some ([(o,m)],xs)
  | none=>none
 | _=>none
def appendE (s:St) (d:Nat) (t:Ty) (a b:W):Option Eff:=
 match a.sliceOf s.ob t,b.sliceOf s.ob t with
 | some (us,xs),some (vs,ys)=>
  if us.all (fun p=>p.2.mine)&&(us.map (·.1)).all (fun o=>!(vs.map (·.1)).contains o) then
   if t.flat then
    some ⟨decide (xs.length+ys.length≤lim),.w (.c (.sl (idOf d))),
     us.map (fun p=>(p.1,.dead)),[(idOf d,.row .own t (xs++ys))],us.map (·.1)++vs.map (·.1)⟩
   else
    some ⟨decide (xs.length+ys.length≤lim),.w (.c (.sl (idOf d))),
     demotes s.ob vs++us.map (fun p=>(p.1,.dead)),[(idOf d,.row .sh t (xs++ys))],us.map (·.1)++vs.map (·.1)⟩
  else none
 | _,_=>none
def bound:Option V→Option (Option Int)
 | none=>some none
 | some v=>match v.int? with
  | some (_,n)=>some (some n)
  | none=>none
def cutOk (len:Nat):Option Int→Option Int→Bool
 | none,none=>true
 | some l,none=>decide (0≤l)&&decide (l≤(len:Int))
 | none,some h=>decide (0≤h)&&decide (h≤(len:Int))
 | some l,some h=>decide (0≤l)&&decide (l≤h)&&decide (h≤(len:Int))
def cutXs {α:Type}(xs:List α):Option Int→Option Int→List α
 | none,none=>xs
 | some l,none=>xs.drop l.toNat
 | none,some h=>xs.take h.toNat
 | some l,some h=>(xs.take h.toNat).drop l.toNat
def sliceE (fd:FD) (s:St) (d:Nat) (t:Ty) (x:W) (lo hi:Option Int):Option Eff:=
 match x.sliceOf s.ob t with
 | some (us,xs)=>
  match us.all (fun p=>p.2=.own)&&!fd.views.contains d with
  | true=>if t.flat then some ⟨cutOk xs.length lo hi,.w (.c (.sl (idOf d))),us.map (fun p=>(p.1,.dead)),[(idOf d,.row .own t (cutXs xs lo hi))],us.map (·.1)⟩ else none
  | false=>some ⟨cutOk xs.length lo hi,.w (.c (.sl (idOf d))),demotes s.ob us,[(idOf d,.row .ro t (cutXs xs lo hi))],us.map (·.1)⟩
 | none=>none
def strE (E:Env) (T:TypeId) (bs:ByteArray) (i:V):Option Eff:=
 if E.str.contains T then
  match i.int? with
  | some (_,n)=>some ⟨decide (0≤n)&&decide (n<(bs.size:Int)),.w (.c (.int .u8 ((bs.data.toList.getD n.toNat 0).toNat:Int))),[],[],[]⟩
  | none=>none
 else none
def viewE (s:St) (d:Nat) (k:IntKind) (m:Nat) (o:Nat):Option Eff:=
 match s.ob o with
 | some (.box md (.arr k' m' xs))=>
  if k'=k∧m'=m∧0<m then some ⟨true,.w (.c (.sl (idOf d))),demotes s.ob [(o,md)],[(idOf d,.row .ro (.int k) xs)],[o]⟩ else none
 | _=>none
def all1:List V→Option (List W)
 | []=>some []
 | v::r=>match v.one,all1 r with
  | some w,some ws=>some (w::ws)
  | _,_=>none
def cellsOf:List (Nat×V)→Option (List (Nat×C))
 | []=>some []
 | (i,v)::r=>match v.one.bind W.cell?,cellsOf r with
  | some c,some cs=>some ((i,c)::cs)
  | _,_=>none
def intsOf (k:IntKind):List (Nat×V)→Option (List (Nat×Int))
 | []=>some []
 | (i,v)::r=>match v.int?,intsOf k r with
  | some (k',n),some ns=>if k'=k then some ((i,n)::ns) else none
  | _,_=>none
def placesC (t:Ty):List (Nat×C)→Option (List (Nat×C))
 | []=>some []
 | (f,c)::r=>match t.offs f,placesC t r with
  | some (o,u),some cs=>if C.fits c u then some ((o,c)::cs) else none
  | _,_=>none
def buildE (t:Ty) (parts:List (Nat×V)):Option W:=
 match t with
 | .pair a b=>match cellsOf parts with
  | some cs=>match placesC (.pair a b) cs with
   | some ps=>match fillC (Ty.zeroC (.pair a b)) ps with
    | some r=>some (.st r)
    | none=>none
   | none=>none
  | none=>none
 | .arr k m=>match intsOf k parts with
  | some ns=>match fillI (List.replicate m 0) ns with
   | some r=>some (.arr k m r)
   | none=>none
  | none=>none
 | .barr m=>if parts.isEmpty then some (.barr m (List.replicate m false)) else none
 | _=>none
def elemsE (ob:Objs) (t:Ty):Nat→List (Nat×V)→Option (List t.den×List (Nat×Mode))
 | _,[]=>some ([],[])
 | n,(i,v)::r=>
  if i=n then
   match v.one with
   | some w=>match packW ob t w,elemsE ob t (n+1) r with
    | some (x,us),some (xs,vs)=>some (x::xs,us++vs)
    | _,_=>none
   | none=>none
  else none
def foldInts (f:Int→Int→Int) (k:IntKind):Int→List V→Option Int
 | x,[]=>some x
 | x,v::r=>match v.int? with
  | some (k',y)=>if k'=k then foldInts f k (f x y) r else none
  | none=>none
def step1 (E:Env) (fd:FD) (s:St) (d:Nat) (op:Op):Option Eff:=
 let ev:=s.eval
 match op with
 | .move x=>match ev x with
  | .undef=>none
  | v=>some ⟨true,v,[],[],[]⟩
 | .assign x=>match x with
  | .const (.pointer none)=>some ⟨true,.undef,[],[],[]⟩
  | x=>match ev x with
   | .undef=>none
   | v=>some ⟨true,v,[],[],[]⟩
 | .pick c a b=>match (ev c).bool? with
  | some t=>match t with
   | true=>match ev a with | .undef=>none | v=>some ⟨true,v,[],[],[]⟩
   | false=>match ev b with | .undef=>none | v=>some ⟨true,v,[],[],[]⟩
  | none=>none
 | .alloc T=>match E.ty T with
  | some t=>some ⟨true,.w (.c (.ptr (idOf d) 0 0 0)),[],[(idOf d,.box .own t.zeroW)],[]⟩
  | none=>none
 | .box T x=>match E.ty T,(ev x).one with
  | some t,some w=>if W.fits w t then some ⟨true,.w (.c (.ptr (idOf d) 0 0 0)),[],[(idOf d,.box .own w)],[]⟩ else none
  | _,_=>none
 | .build T parts=>match E.ty T with
  | some t=>match buildE t (parts.toList.map fun (i,x)=>(i,ev x)) with
   | some w=>pure1 w
   | none=>none
  | none=>none
 | .buildSlice T len parts=>match E.ty T with
  | some (.slice t)=>match elemsE s.ob t 0 (parts.toList.map fun (i,x)=>(i,ev x)) with
   | some (xs,us)=>
    if parts.size=len∧len≤64 then
     if t.flat then some ⟨true,.w (.c (.sl (idOf d))),[],[(idOf d,.row .own t xs)],us.map (·.1)⟩
     else some ⟨true,.w (.c (.sl (idOf d))),demotes s.ob us,[(idOf d,.row .sh t xs)],us.map (·.1)⟩
    else none
   | none=>none
  | _=>none
 | .load T a=>match (ev a).one.bind W.cell? with
  | some c=>loadE E s d T c
  | none=>none
 | .store T a x=>match (ev a).one.bind W.cell?,(ev x).one with
  | some c,some w=>storeE E s T c w
  | _,_=>none
 | .nilCheck x=>match ev x with
  | .w (.c (.ptr o i es j))=>some ⟨true,.w (.c (.ptr o i es j)),[],[],[]⟩
  | .fn f caps=>some ⟨true,.fn f caps,[],[],[]⟩
  | _=>none
 | .binOp op T x y _=>match (ev x).one,(ev y).one with
  | some a,some b=>match binW op (E.ty T) a b with
   | some (ok,w)=>some ⟨ok,.w w,[],[],[]⟩
   | none=>none
  | _,_=>none
 | .unOp op _ x=>match op,(ev x).one with
  | .neg,some (.c (.int k n))=>pure1 (.c (.int k (k.wrap (0-n))))
  | .not,some (.c (.bool b))=>pure1 (.c (.bool !b))
  | _,_=>none
 | .convert src dst x=>match E.ty src,E.ty dst,(ev x).one with
  | some (.int _),some (.int k),some (.c (.int _ n))=>pure1 (.c (.int k (k.wrap n)))
  | _,_,_=>none
 | .makeFunc (.func f) first captured=>match all1 (captured.toList.map ev) with
  | some ws=>if first.isEmpty then some ⟨true,.fn f ws,[],[],[]⟩ else none
  | none=>none
 | .makeSlice T l c=>match E.ty T,(ev l).int?,(ev c).int? with
  | some (.slice t),some (k,n),some (k',n')=>
   some ⟨decide (0≤n)&&decide (n≤lim)&&decide (n'=n)&&(k==.i64)&&(k'==.i64),.w (.c (.sl (idOf d))),[],[(idOf d,.row .own t (List.replicate n.toNat t.zero))],[]⟩
  | _,_,_=>none
 | .slice T x lo hi none=>match E.ty T,(ev x).one,bound (lo.map ev),bound (hi.map ev) with
  | some (.slice t),some w,some l,some h=>sliceE fd s d t w l h
  | some (.arr k m),some (.c (.ptr o 0 0 0)),some none,some none=>viewE s d k m o
  | _,_,_,_=>none
 | .fieldAddr T x f=>match E.ty T,(ev x).one with
  | some t,some (.c (.ptr o i es j))=>match t.offs f with
   | some (n,_)=>if pointsTo s o es j t then some ⟨true,.w (.c (.ptr o i es (j+n))),[],[],[o]⟩ else none
   | none=>none
  | _,_=>none
 | .field T x f=>match E.ty T,(ev x).one with
  | some t,some (.st cs)=>match t.offs f with
   | some (n,u)=>match cs[n]? with
    | some c=>if C.fits c u then pure1 (.c c) else none
    | none=>none
   | none=>none
  | _,_=>none
 | .indexAddr T x i=>match E.ty T,(ev x).one,(ev i).int? with
  | some (.slice t),some (.c (.sl o)),some (_,n)=>match rowAs s.ob o t with
   | some (_,xs)=>some ⟨decide (0≤n)&&decide (n<xs.length),.w (.c (.ptr o n.toNat t.cells 0)),[],[],[o]⟩
   | none=>none
  | some (.arr k m),some (.c (.ptr o i es 0)),some (_,n)=>
   if pointsTo s o es 0 (.arr k m) then some ⟨decide (0≤n)&&decide (n<(m:Int)),.w (.c (.ptr o i es n.toNat)),[],[],[o]⟩ else none
  | some (.barr m),some (.c (.ptr o i es 0)),some (_,n)=>
   if pointsTo s o es 0 (.barr m) then some ⟨decide (0≤n)&&decide (n<(m:Int)),.w (.c (.ptr o i es n.toNat)),[],[],[o]⟩ else none
  | _,_,_=>none
 | .index T x i=>match x with
  | .const (.string bs)=>strE E T bs (ev i)
  | x=>match E.ty T,(ev x).one,(ev i).int? with
   | some (.arr k m),some (.arr k' m' xs),some (_,n)=>
    if k'=k∧m'=m then some ⟨decide (0≤n)&&decide (n<(m:Int)),.w (.c (.int k (xs.getD n.toNat 0))),[],[],[]⟩ else none
   | some (.barr m),some (.barr m' xs),some (_,n)=>
    if m'=m then some ⟨decide (0≤n)&&decide (n<(m:Int)),.w (.c (.bool (xs.getD n.toNat false))),[],[],[]⟩ else none
   | _,_,_=>none
 | .extract x i=>match ev x with
  | .tup vs=>match vs[i]? with
   | some w=>pure1 w
   | none=>none
  | _=>none
 | .call { callee:=.builtin b,args,argTypes }=>
  match b,args.toList,argTypes.toList with
  | .len,[x],[T]=>match E.ty T,(ev x).one with
   | some (.slice t),some w=>match w.sliceOf s.ob t with
    | some (us,xs)=>some ⟨true,.w (.c (.int .i64 (xs.length:Int))),[],[],us.map (·.1)⟩
    | none=>none
   | some (.arr _ m),_=>pure1 (.c (.int .i64 m))
   | _,_=>none
  | .append,[x,y],[T,T']=>match E.ty T,E.ty T',(ev x).one,(ev y).one with
   | some (.slice t),some (.slice t'),some a,some b=>if t'=t then appendE s d t a b else none
   | _,_,_,_=>none
  | .max,x::r,_=>match (ev x).int? with
   | some (k,n)=>match foldInts (fun x y=>if y > x then y else x) k n (r.map ev) with
    | some m=>pure1 (.c (.int k m))
    | none=>none
   | none=>none
  | .min,x::r,_=>match (ev x).int? with
   | some (k,n)=>match foldInts (fun x y=>if y<x then y else x) k n (r.map ev) with
    | some m=>pure1 (.c (.int k m))
    | none=>none
   | none=>none
  | _,_,_=>none
 | _=>none
end Go.Ev
namespace Go.Ev
structure Pack where
 tvs:List TV:=[]
 ro:List (Nat×Mode):=[]
 gone:List Nat:=[]
 muts:List (List (Option Nat)×Mode×Ty):=[]
 boxes:List (Nat×Mode×Ty):=[]
 order:List Bool:=[]
def Pack.add (p q:Pack):Pack:=⟨p.tvs++q.tvs,p.ro++q.ro,p.gone++q.gone,p.muts++q.muts,p.boxes++q.boxes,p.order++q.order⟩
def C.slices:List C→List (Option Nat)
 | []=>[]
 | .nil::r=>none::C.slices r
 | .sl o::r=>some o::C.slices r
 | _::r=>C.slices r
def W.slices:W→List (Option Nat)
 | .c x=>C.slices [x]
 | .st cs=>C.slices cs
 | _=>[]
def Pack.mutIds (p:Pack):List Nat:=p.muts.flatMap fun m=>m.1.filterMap id
def packRo (ob:Objs) (t:Ty) (w:W):Option Pack:=
 match packW ob t w with
 | some (x,us)=>some { tvs:=[⟨t,x⟩],ro:=us }
 | none=>none
def packBox (ob:Objs) (t:Ty):W→Option Pack
 | .c (.ptr o 0 0 0)=>match ob o with
  | some (.box .own w)=>match packW ob t w with
   | some (x,us)=>if us.all (fun p=>p.2=.own) then some { tvs:=[⟨t,x⟩],gone:=us.map (·.1),boxes:=[(o,.own,t)],order:=[false] } else none
   | none=>none
  | _=>none
 | _=>none
def packBoxR (ob:Objs) (t:Ty):W→Option Pack
 | .c (.ptr o 0 0 0)=>match ob o with
  | some (.box .own w)=>match packW ob t w with
   | some (x,us)=>some { tvs:=[⟨t,x⟩],ro:=us,boxes:=[(o,.ro,t)],order:=[false] }
   | none=>none
  | _=>none
 | _=>none
def packRob (ob:Objs) (t:Ty):W→Option Pack
 | .c (.ptr o 0 0 0)=>match ob o with
  | some (.box m w)=>match packW ob t w with
   | some (x,us)=>some { tvs:=[⟨t,x⟩],ro:=(o,m)::us }
   | none=>none
  | _=>none
 | _=>none
def packCap (ob:Objs) (t:Ty) (w:W):CK→Option Pack
 | .val=>packRo ob t w
 | .rob=>packRob ob t w
 | .box=>packBox ob t w
def packCaps (ob:Objs):List (CK×Ty)→List W→Option Pack
 | [],[]=>some {}
 | (b,t)::r,w::ws=>match packCap ob t w b,packCaps ob r ws with
  | some p,some q=>some (p.add q)
  | _,_=>none
 | _,_=>none
def packArg (ob:Objs):PK→V→Option Pack
 | .ro t,.w w=>packRo ob t w
 | .own t,.w w=>match packW ob t w with
  | some (x,us)=>if us.all (fun p=>p.2=.own) then some { tvs:=[⟨t,x⟩],gone:=us.map (·.1) } else none
  | none=>none
 | .mut t,.w w=>match packW ob t w with
  | some (x,us)=>if us.all (fun p=>p.2=.own) then some { tvs:=[⟨t,x⟩],muts:=[(w.slices,.own,t)],order:=[true] } else none
  | none=>none
 | .muts t,.w w=>match packW ob t w with
  | some (x,us)=>if us.all (fun p=>p.2=.sh) then some { tvs:=[⟨t,x⟩],muts:=[(w.slices,.sh,t)],order:=[true] } else none
  | none=>none
 | .rob t,.w w=>packRob ob t w
 | .box t,.w w=>packBox ob t w
 | .boxr t,.w w=>packBoxR ob t w
 | .fn f caps,.fn g ws=>if g=f then packCaps ob caps ws else none
 | _,_=>none
def packArgs (ob:Objs):List PK→List V→Option Pack
 | [],[]=>some {}
 | k::ks,v::vs=>match packArg ob k v,packArgs ob ks vs with
  | some p,some q=>some (p.add q)
  | _,_=>none
 | _,_=>none
def Pack.excl (p:Pack):List Nat:=p.gone++p.mutIds++p.boxes.map (·.1)
def Pack.ok (p:Pack):Bool:=decide (p.excl.Nodup)&&(p.ro.map (·.1)).all fun o=>!p.excl.contains o
def unpackRes:List (Mode×Bool×Ty)→List TV→(pos id:Nat)→List W×List (Nat×Obj)×Nat
 | [],_,_,id=>([],[],id)
 | (m,ptr,t)::r,outs,pos,id=>
  let p:=match ptr with
   | false=>unpackW m t (getTV t outs pos) id
   | true=>let q:=unpackW m t (getTV t outs pos) (id+1);(W.c (.ptr id 0 0 0),(id,Obj.box .own q.1)::q.2)
  let q:=unpackRes r outs (pos+1) (id+p.2.length)
  (p.1::q.1,p.2++q.2.1,q.2.2)
def putBack:List (Option Nat)→List (Nat×Obj)→List (Nat×Obj)
 | some o::r,(_,x)::s=>(o,x)::putBack r s
 | none::r,_::s=>putBack r s
 | _,_=>[]
def unpackBack:List Bool→(muts:List (List (Option Nat)×Mode×Ty))→(boxes:List (Nat×Mode×Ty))→List TV→(pos id:Nat)→List (Nat×Obj)×List (Nat×Obj)
 | [],_,_,_,_,_=>([],[])
 | true::r,(os,m,t)::muts,boxes,outs,pos,id=>
  let q:=unpackBack r muts boxes outs (pos+1) id
  (putBack os (unpackW m t (getTV t outs pos) 0).2++q.1,q.2)
 | false::r,muts,(o,m,t)::boxes,outs,pos,id=>
  let p:=unpackW m t (getTV t outs pos) id
  let q:=unpackBack r muts boxes outs (pos+1) (id+p.2.length)
  ((o,.box .own p.1)::q.1,p.2++q.2)
 | _,_,_,_,_,_=>([],[])
abbrev Oracle:=Nat→List TV→Option (List TV)
def resV:List W→V
 | [w]=>.w w
 | ws=>.tup ws
def flatAt (ob:Objs) (o:Nat):Bool:=
 match ob o with
 | some (.row m t _)=>t.flat||m=.sh
 | some (.box _ _)=>true
 | _=>false
def V.fnId:V→Option FuncId
 | .fn f _=>some f
 | _=>none
def callK {α:Type}(E:Env) (call:Oracle) (s:St) (d:Nat) (f:FuncId) (args:List V) (k:Eff→Option α):Option α:=
 match E.fd (E.pick f (args.filterMap V.fnId)) with
 | some fd=>
  if fd.id=f then
  match packArgs s.ob fd.sig.params args with
  | some p=>
   if p.ok&&p.excl.all (flatAt s.ob) then
    (call (E.pick f (args.filterMap V.fnId)) p.tvs).bind fun outs=>
     let r:=unpackRes fd.sig.res outs 0 (idOf d)
     let b:=unpackBack p.order p.muts p.boxes outs fd.sig.res.length r.2.2
     let ro:=if fd.sig.quiet then [] else demotes s.ob p.ro
     k ⟨true,resV r.1,p.gone.map (fun o=>(o,Obj.dead))++ro++b.1,r.2.1++b.2,p.ro.map (·.1)++p.excl⟩
   else none
  | none=>none
  else none
 | none=>none
def V.callee:V→List V→Option (FuncId×List V)
 | .fn f caps,args=>some (f,args++caps.map V.w)
 | _,_=>none
def addLo (x y c:Int):Int:=(x+y+c) % 18446744073709551616
def addHi (x y c:Int):Int:=(x+y+c) / 18446744073709551616
def subLo (x y c:Int):Int:=(x-y-c) % 18446744073709551616
def subHi (x y c:Int):Int:=if x<y+c then 1 else 0
def carOk (x y c:Int):Bool:=decide (0≤x)&&decide (x<18446744073709551616)&&decide (0≤y)&&decide (y<18446744073709551616)&&decide (0≤c)&&decide (c≤1)
def PrimK.lo:PrimK→Int→Int→Int→Int
 | .add64=>addLo
 | .sub64=>subLo
def PrimK.hi:PrimK→Int→Int→Int→Int
 | .add64=>addHi
 | .sub64=>subHi
def PrimK.eff (p:PrimK):List V→Option Eff
 | [.w (.c (.int .u64 x)),.w (.c (.int .u64 y)),.w (.c (.int .u64 c))]=>some ⟨carOk x y c,.tup [.c (.int .u64 (p.lo x y c)),.c (.int .u64 (p.hi x y c))],[],[],[]⟩
 | _=>none
def stepK {α:Type}(E:Env) (fd:FD) (call:Oracle) (s:St) (d:Nat) (op:Op) (k:Eff→Option α):Option α:=
 match op with
 | .call { callee:=.value f,args,.. }=>
  match (s.eval f).callee (args.toList.map s.eval) with
  | some (g,vs)=>match E.prim g with
   | some p=>match s.eval f with
    | .fn _ []=>match p.eff (args.toList.map s.eval) with
     | some e=>cond e.ok (k e) none
     | none=>none
    | _=>none
   | none=>callK E call s d g vs k
  | none=>none
 | op=>match step1 E fd s d op with
  | some e=>cond e.ok (k e) none
  | none=>none
def setO (tm:List V) (dst:Option Nat) (v:V):List V:=
 match dst with
 | some d=>tm.set d v
 | none=>tm
def St.put (s:St) (dst:Option Nat) (e:Eff):St:=
 ⟨setO s.tm dst e.v,s.ob.upds (e.wr++e.nw)⟩
def St.skip (s:St) (dst:Option Nat):St:=
 ⟨setO s.tm dst (.tup []),s.ob⟩
def St.lit (s:St) (t:Nat) (b:Bool):St:=⟨s.tm.set t (.w (.c (.bool b))),s.ob⟩
def St.litO (s:St):Operand→Bool→St
 | .tmp t,b=>s.lit t b
 | _,_=>s
def apart (xs ys:List Nat):Bool:=xs.all fun x=>!ys.contains x
abbrev Log:=List (List Nat×List Nat)
def V.guard?:V→Option (Option Bool)
 | .w (.c (.bool b))=>some (some b)
 | .tup []=>some none
 | _=>none
def fresh (ob:Objs) (l:List Nat):Bool:=decide l.Nodup&&l.all fun o=>(ob o).isNone
def opK {α:Type}(E:Env) (fd:FD) (call:Oracle) (o:Oper) (s:St) (l:Log) (k:St→Log→Option α):Option α:=
 stepK E fd call s (o.dst.getD 0) o.op fun e=>
  if fresh s.ob (e.nw.map (·.1)) then k (s.put o.dst e) ((e.rd,e.wr.map (·.1)++e.nw.map (·.1))::l) else none
def opsK {α:Type}(E:Env) (fd:FD) (call:Oracle) (ops:Array Oper):List Oper→St→Log→(St→Log→Option α)→Option α
 | [],s,l,k=>k s l
 | o::r,s,l,k=>
  if apart o.dst.toList (fixedGo fd.sig.params 0) then
  match o.guard with
  | none=>opK E fd call o s l fun s l=>opsK E fd call ops r s l k
  | some (j,want)=>
   match (ops[j]?).bind (·.dst) with
   | some t=>
    match (s.tm.getD t .undef).guard? with
    | some none=>opsK E fd call ops r (s.skip o.dst) (([],[])::l) k
    | some (some b)=>
     match want with
     | true=>cond b (opK E fd call o (s.lit t true) l fun s l=>opsK E fd call ops r s l k) (opsK E fd call ops r ((s.lit t false).skip o.dst) (([],[])::l) k)
     | false=>cond b (opsK E fd call ops r ((s.lit t true).skip o.dst) (([],[])::l) k) (opK E fd call o (s.lit t false) l fun s l=>opsK E fd call ops r s l k)
    | none=>none
   | none=>none
  else none
def plainOn (o:Oper):List Nat:=(o.after.toList.filter fun e=>Region.binds .any e).map (·.on)
def ancGo:List Oper→List (List Nat)→List (List Nat)
 | [],acc=>acc
 | o::r,acc=>ancGo r (acc++[(plainOn o)++(plainOn o).flatMap fun j=>acc.getD j []])
def backOk:List Oper→Nat→Bool
 | [],_=>true
 | o::r,i=>(plainOn o).all (fun j=>decide (j<i))&&backOk r (i+1)
def operTmp:Operand→List Nat
 | .tmp t=>[t]
 | _=>[]
def usesOf (ops:Array Oper) (o:Oper):List Nat:=
 o.op.operands.toList.flatMap operTmp++(match o.guard with | some (j,_)=>((ops[j]?).bind (·.dst)).toList | none=>[])
def indep (ops:Array Oper) (o p:Oper) (lo lp:List Nat×List Nat):Bool:=
 apart o.dst.toList (usesOf ops p++p.dst.toList)&&apart p.dst.toList (usesOf ops o)&&
 apart lo.2 (lp.1++lp.2)&&apart lp.2 lo.1
def drawAll (ops:Array Oper) (anc:List (List Nat)) (log:Log) (j:Nat):Nat→Bool
 | 0=>true
 | i+1=>((anc.getD j []).contains i||(match ops[i]?,ops[j]?,log[i]?,log[j]? with
   | some o,some p,some lo,some lp=>indep ops o p lo lp
   | _,_,_,_=>false))&&drawAll ops anc log j i
def drawOk (ops:Array Oper) (anc:List (List Nat)) (log:Log):Nat→Bool
 | 0=>true
 | j+1=>drawAll ops anc log j j&&drawOk ops anc log j
def CS.build (tvs:List TV):CS→(pos:Nat)→C×Nat
 | .int k,p=>(.int k (getTV (.int k) tvs p),p+1)
 | .bool,p=>(.bool (getTV .bool tvs p),p+1)
 | .sl i,p=>(.sl i,p)
 | .ptr i,p=>(.ptr i 0 0 0,p)
def buildCs (tvs:List TV):List CS→(pos:Nat)→List C×Nat
 | [],p=>([],p)
 | c::r,p=>let x:=c.build tvs p;let y:=buildCs tvs r x.2;(x.1::y.1,y.2)
def WS.build (tvs:List TV):WS→(pos:Nat)→W×Nat
 | .c x,p=>let y:=x.build tvs p;(.c y.1,y.2)
 | .arr k m,p=>(.arr k m (getTV (.arr k m) tvs p),p+1)
 | .barr m,p=>(.barr m (getTV (.barr m) tvs p),p+1)
 | .st cs,p=>let y:=buildCs tvs cs p;(.st y.1,y.2)
def buildWs (tvs:List TV):List WS→(pos:Nat)→List W×Nat
 | [],p=>([],p)
 | c::r,p=>let x:=c.build tvs p;let y:=buildWs tvs r x.2;(x.1::y.1,y.2)
def VS.build (tvs:List TV):VS→(pos:Nat)→V×Nat
 | .w x,p=>let y:=x.build tvs p;(.w y.1,y.2)
 | .fn f ws,p=>let y:=buildWs tvs ws p;(.fn f y.1,y.2)
def OS.build (tvs:List TV):OS→(pos:Nat)→Obj×Nat
 | .row m t,p=>(.row m t (getTV (.slice t) tvs p),p+1)
 | .box m x,p=>let y:=x.build tvs p;(.box m y.1,y.2)
def buildOs (tvs:List TV):List OS→(i pos:Nat)→List (Nat×Obj)×Nat
 | [],_,p=>([],p)
 | x::r,i,p=>let y:=x.build tvs p;let z:=buildOs tvs r (i+1) y.2;((i,y.1)::z.1,z.2)
def buildVs (tvs:List TV):List (Nat×VS)→(pos:Nat)→List V→List V
 | [],_,tm=>tm
 | (t,v)::r,p,tm=>let y:=v.build tvs p;buildVs tvs r y.2 (tm.set t y.1)
def Shape.build (sh:Shape) (n:Nat) (tvs:List TV) (pos:Nat):St:=
 let o:=buildOs tvs sh.objs 0 pos
 ⟨buildVs tvs sh.slots o.2 (List.replicate n .undef),Objs.none.upds o.1⟩
abbrev Bind:=List (Nat×Option Nat)
def bindTo (b:Bind) (i:Nat) (o:Option Nat):Option Bind:=
 match b.lookup i with
 | none=>some ((i,o)::b)
 | some o'=>if o'=o then some b else none
def CS.fit:CS→C→Bind→Option (List TV×Bind)
 | .int k,.int k' n,b=>if k'=k then some ([⟨.int k,n⟩],b) else none
 | .bool,.bool x,b=>some ([⟨.bool,x⟩],b)
 | .sl i,.sl o,b=>(bindTo b i (some o)).map fun b=>([],b)
 | .sl i,.nil,b=>(bindTo b i none).map fun b=>([],b)
 | .ptr i,.ptr o 0 0 0,b=>(bindTo b i (some o)).map fun b=>([],b)
 | _,_,_=>none
def fitCs:List CS→List C→Bind→Option (List TV×Bind)
 | [],[],b=>some ([],b)
 | s::r,c::cs,b=>match s.fit c b with
  | some (x,b)=>match fitCs r cs b with
   | some (y,b)=>some (x++y,b)
   | none=>none
  | none=>none
 | _,_,_=>none
def WS.fit:WS→W→Bind→Option (List TV×Bind)
 | .c s,.c x,b=>s.fit x b
 | .arr k m,.arr k' m' xs,b=>if k'=k∧m'=m then some ([⟨.arr k m,xs⟩],b) else none
 | .barr m,.barr m' xs,b=>if m'=m then some ([⟨.barr m,xs⟩],b) else none
 | .st s,.st cs,b=>fitCs s cs b
 | _,_,_=>none
def fitWs:List WS→List W→Bind→Option (List TV×Bind)
 | [],[],b=>some ([],b)
 | s::r,c::cs,b=>match s.fit c b with
  | some (x,b)=>match fitWs r cs b with
   | some (y,b)=>some (x++y,b)
   | none=>none
  | none=>none
 | _,_,_=>none
def VS.fit:VS→V→Bind→Option (List TV×Bind)
 | .w s,.w x,b=>s.fit x b
 | .fn f ss,.fn g ws,b=>if g=f then fitWs ss ws b else none
 | _,_,_=>none
def fitVs (tm:List V):List (Nat×VS)→Bind→Option (List TV×Bind)
 | [],b=>some ([],b)
 | (t,s)::r,b=>match s.fit (tm.getD t .undef) b with
  | some (x,b)=>match fitVs tm r b with
   | some (y,b)=>some (x++y,b)
   | none=>none
  | none=>none
def Mode.le:Mode→Mode→Bool
 | .own,_=>true
 | .sh,.own=>false
 | .sh,_=>true
 | .ro,.ro=>true
 | .ro,_=>false
def OS.fit (ob:Objs) (i:Nat):OS→Bind→Option (List TV×Bind)
 | .row m t,b=>match b.lookup i with
  | some (some o)=>match rowAs ob o t with
   | some (m',xs)=>if m'.le m then some ([⟨.slice t,xs⟩],b) else none
   | none=>none
  | some none=>some ([⟨.slice t,[]⟩],b)
  | none=>none
 | .box m s,b=>match b.lookup i with
  | some (some o)=>match ob o with
   | some (.box m' w)=>if m'.le m then s.fit w b else none
   | _=>none
  | _=>none
def fitOs (ob:Objs):List OS→Nat→Bind→Option (List TV×Bind)
 | [],_,b=>some ([],b)
 | s::r,i,b=>match s.fit ob i b with
  | some (x,b)=>match fitOs ob r (i+1) b with
   | some (y,b)=>some (x++y,b)
   | none=>none
  | none=>none
def OS.mine:OS→Bool
 | .row m _=>m.mine
 | .box m _=>m.mine
def mine1 (b:Bind) (objs:List OS):List Nat:=
 (List.range objs.length).filterMap fun i=>if ((objs[i]?).map OS.mine).getD false then (b.lookup i).getD none else none
def ros1 (b:Bind) (objs:List OS):List Nat:=
 (List.range objs.length).filterMap fun i=>if ((objs[i]?).map OS.mine).getD true then none else (b.lookup i).getD none
def Shape.fit (sh:Shape) (s:St):Option (List TV):=
 match fitVs s.tm sh.slots [] with
 | some (ys,b)=>match fitOs s.ob sh.objs 0 b with
  | some (xs,b)=>if decide (mine1 b sh.objs).Nodup&&apart (mine1 b sh.objs) (ros1 b sh.objs)&&b.all (fun p=>decide (p.1<sh.objs.length)) then some (xs++ys) else none
  | none=>none
 | none=>none
def firstRegion:Code→Nat
 | .region id _ _=>id
 | .seq a _=>firstRegion a
 | .block _ a=>firstRegion a
 | .loop a=>firstRegion a+100000
 | _=>0
def exitsK {α:Type}(n:Nat) (outs:List TV) (k:Ex→St→Option α):List (Ex×Shape)→Int→Option α
 | [],_=>none
 | [(e,sh)],_=>k e (sh.build n outs 1)
 | (e,sh)::r,i=>cond (getTV (.int .i64) outs 0==i) (k e (sh.build n outs 1)) (exitsK n outs k r (i+1))
def joinK {α:Type}(call:Oracle) (info:LoopInfo) (s:St) (k:Ex→St→Option α):Option α:=
 match info.inS.fit s with
 | some tvs=>(call info.lid tvs).bind fun outs=>exitsK s.tm.length outs k info.outs 0
 | none=>none
def exec {α:Type}(E:Env) (fd:FD) (call:Oracle):Code→St→(Ex→St→Option α)→Option α
 | .skip,s,k=>k .normal s
 | .region _ ops draw,s,k=>opsK E fd call ops ops.toList s [] fun s l=>
   match draw with
   | true=>if drawOk ops (ancGo ops.toList []) l.reverse ops.size&&backOk ops.toList 0 then k .normal s else none
   | false=>k .normal s
 | .seq a b,s,k=>exec E fd call a s fun e s=>match e with
   | .normal=>match fd.joins.lookup (firstRegion b) with
    | none=>exec E fd call b s k
    | some info=>joinK call info s k
   | e=>k e s
 | .cond c x y,s,k=>match (s.eval c).bool? with
   | some b=>cond b (exec E fd call x (s.litO c true) k) (exec E fd call y (s.litO c false) k)
   | none=>none
 | .block id a,s,k=>exec E fd call a s fun e s=>match e with
   | .exit id'=>if id'=id then k .normal s else k (.exit id') s
   | e=>k e s
 | .loop a,s,k=>match fd.loops.lookup (firstRegion a) with
   | some info=>match info.inS.fit s with
    | some tvs=>(call info.lid tvs).bind fun outs=>exitsK s.tm.length outs k info.outs 0
    | none=>none
   | none=>none
 | .exit id,s,k=>k (.exit id) s
 | .ret,s,k=>k .ret s
 | _,_,_=>none
def unpackCaps:List (CK×Ty)→List TV→(pos id:Nat)→List W×List (Nat×Obj)×Nat×Nat
 | [],_,p,id=>([],[],p,id)
 | (b,t)::r,tvs,p,id=>
  let x:=match b with
   | .val=>unpackW .ro t (getTV t tvs p) id
   | .rob=>let q:=unpackW .ro t (getTV t tvs p) (id+1);(W.c (.ptr id 0 0 0),(id,Obj.box .ro q.1)::q.2)
   | .box=>let q:=unpackW .own t (getTV t tvs p) (id+1);(W.c (.ptr id 0 0 0),(id,Obj.box .own q.1)::q.2)
  let y:=unpackCaps r tvs (p+1) (id+x.2.length)
  (x.1::y.1,x.2++y.2.1,y.2.2)
def PK.init (tvs:List TV) (p id:Nat):PK→V×List (Nat×Obj)×Nat
 | .ro t=>let x:=unpackW .ro t (getTV t tvs p) id;(.w x.1,x.2,p+1)
 | .own t=>let x:=unpackW .own t (getTV t tvs p) id;(.w x.1,x.2,p+1)
 | .mut t=>let x:=unpackW .own t (getTV t tvs p) id;(.w x.1,x.2,p+1)
 | .rob t=>let x:=unpackW .ro t (getTV t tvs p) (id+1);(.w (.c (.ptr id 0 0 0)),(id,.box .ro x.1)::x.2,p+1)
 | .box t=>let x:=unpackW .own t (getTV t tvs p) (id+1);(.w (.c (.ptr id 0 0 0)),(id,.box .own x.1)::x.2,p+1)
 | .boxr t=>let x:=unpackW .ro t (getTV t tvs p) (id+1);(.w (.c (.ptr id 0 0 0)),(id,.box .own x.1)::x.2,p+1)
 | .muts t=>let x:=unpackW .sh t (getTV t tvs p) id;(.w x.1,x.2,p+1)
 | .fn f caps=>let x:=unpackCaps caps tvs p id;(.fn f x.1,x.2.1,x.2.2.1)
def initPs (tvs:List TV):List PK→(i p:Nat)→List V×List (Nat×Obj)
 | [],_,_=>([],[])
 | k::r,i,p=>let x:=k.init tvs p (idOf i);let y:=initPs tvs r (i+1) x.2.2;(x.1::y.1,x.2.1++y.2)
def FD.init (fd:FD) (tvs:List TV):St:=
 let x:=initPs tvs fd.sig.params 0 0
 ⟨x.1++List.replicate (fd.fn.ntmps-x.1.length) .undef,Objs.none.upds x.2⟩
def resW (E:Env) (s:St):ResultVar→Option W
 | .tmp t=>(s.tm.getD t .undef).one
 | .cell b T=>match s.tm.getD b .undef with
  | .w (.c (.ptr o 0 0 0))=>match E.ty T,s.ob o with
   | some t,some (.box _ w)=>if W.fits w t then some w else none
   | _,_=>none
  | _=>none
def resWs (E:Env) (s:St):List ResultVar→Option (List W)
 | []=>some []
 | v::r=>match resW E s v,resWs E s r with
  | some w,some ws=>some (w::ws)
  | _,_=>none
def packRes1 (ob:Objs):Mode×Bool×Ty→W→Option (List TV×List Nat×List Nat)
 | (m,false,t),w=>match packW ob t w with
  | some (x,us)=>if us.all (fun p=>p.2.le m) then some ([⟨t,x⟩],if m.mine then us.map (·.1) else [],if m.mine then [] else us.map (·.1)) else none
  | none=>none
 | (.own,true,t),w=>match packBox ob t w with
  | some p=>some (p.tvs,p.gone++p.boxes.map (·.1),[])
  | none=>none
 | (.ro,true,t),w=>match packBoxR ob t w with
  | some p=>some (p.tvs,p.boxes.map (·.1),p.ro.map (·.1))
  | none=>none
 | (.sh,true,_),_=>none
def packRes (ob:Objs):List (Mode×Bool×Ty)→List W→Option (List TV×List Nat×List Nat)
 | [],[]=>some ([],[],[])
 | r::rs,w::ws=>match packRes1 ob r w,packRes ob rs ws with
  | some (xs,us,vs),some (xs',us',vs')=>some (xs++xs',us++us',vs++vs')
  | _,_=>none
 | _,_=>none
def backCaps (ob:Objs):List (CK×Ty)→List W→Option (List TV×List Nat)
 | [],[]=>some ([],[])
 | (.val,_)::r,_::ws=>backCaps ob r ws
 | (.rob,_)::r,_::ws=>backCaps ob r ws
 | (.box,t)::r,w::ws=>match packBox ob t w,backCaps ob r ws with
  | some p,some (xs,us)=>some (p.tvs++xs,p.gone++p.boxes.map (·.1)++us)
  | _,_=>none
 | _,_=>none
def PK.back (ob:Objs) (v:V):PK→Option (List TV×List Nat×List Nat)
 | .ro _ | .own _ | .rob _=>some ([],[],[])
 | .mut t=>match v with
  | .w w=>match packW ob t w with
   | some (x,us)=>if us.all (fun p=>p.2=.own) then some ([⟨t,x⟩],us.map (·.1),[]) else none
   | none=>none
  | _=>none
 | .muts t=>match v with
  | .w w=>match packW ob t w with
   | some (x,us)=>if us.all (fun p=>p.2=.sh) then some ([⟨t,x⟩],us.map (·.1),[]) else none
   | none=>none
  | _=>none
 | .box t=>match v with
  | .w w=>(packBox ob t w).map fun p=>(p.tvs,p.gone++p.boxes.map (·.1),[])
  | _=>none
 | .boxr t=>match v with
  | .w w=>(packBoxR ob t w).map fun p=>(p.tvs,p.boxes.map (·.1),p.ro.map (·.1))
  | _=>none
 | .fn _ caps=>if caps.any (·.1.isBox) then (match v with
  | .fn _ ws=>(backCaps ob caps ws).map fun q=>(q.1,q.2,[])
  | _=>none) else some ([],[],[])
def backPs (s:St):List PK→(i:Nat)→Option (List TV×List Nat×List Nat)
 | [],_=>some ([],[],[])
 | k::r,i=>
  match k.back s.ob (s.tm.getD i .undef),backPs s r (i+1) with
  | some (xs,us,ro),some (ys,vs,ro')=>some (xs++ys,us++vs,ro++ro')
  | _,_=>none
def FD.finish (E:Env) (fd:FD) (s:St):Option (List TV):=
 match resWs E s fd.fn.results.toList with
 | some ws=>match packRes s.ob fd.sig.res ws,backPs s fd.sig.params 0 with
  | some (xs,us,ro),some (ys,vs,ro')=>if decide (us++vs).Nodup&&apart (ro++ro') (us++vs) then some (xs++ys) else none
  | _,_=>none
 | none=>none
def findOut (e:Ex) (s:St):List (Ex×Shape)→Int→Option (List TV)
 | [],_=>none
 | (e',sh)::r,i=>if e'=e then (sh.fit s).map fun tvs=>⟨.int .i64,i⟩::tvs else findOut e s r (i+1)
def loopsOf:Code→List Code
 | .seq a b=>loopsOf a++loopsOf b
 | .cond _ a b=>loopsOf a++loopsOf b
 | .block _ a=>loopsOf a
 | .loop a=>a::loopsOf a
 | _=>[]
def restsOf:Code→List Code
 | .seq a b=>restsOf a++b::restsOf b
 | .cond _ a b=>restsOf a++restsOf b
 | .block _ a=>restsOf a
 | .loop a=>restsOf a
 | _=>[]
def loopKeys (c:Code):List Nat:=(loopsOf c).map firstRegion
def runFn (E:Env) (call:Oracle) (fd:FD) (tvs:List TV):Option (List TV):=
 match fd.fn.body with
 | some c=>if (loopKeys c).Nodup∧((initPs tvs fd.sig.params 0 0).2.map (·.1)).Nodup∧fd.sig.params.length≤fd.fn.ntmps then exec E fd call c (fd.init tvs) fun e s=>match e with
   | .exit _=>none
   | .ret=>fd.finish E s
   | .normal=>fd.finish E s
  else none
 | none=>none
def runLoop (E:Env) (call:Oracle) (ld:LD) (fd:FD) (tvs:List TV):Option (List TV):=
 match fd.fn.body with
 | some c=>
  match (loopsOf c).find? fun a=>firstRegion a==ld.key with
  | some a=>if (loopKeys c).Nodup then exec E fd call a (ld.info.inS.build fd.fn.ntmps tvs 0) fun e s=>match e with
    | .normal=>match ld.info.inS.fit s with
     | some tvs=>call ld.info.lid tvs
     | none=>none
    | e=>findOut e s ld.info.outs 0
   else none
  | none=>none
 | none=>none
def runJoin (E:Env) (call:Oracle) (ld:LD) (fd:FD) (tvs:List TV):Option (List TV):=
 match fd.fn.body with
 | some c=>
  match (restsOf c).filter fun a=>firstRegion a==ld.key with
  | [a]=>exec E fd call a (ld.info.inS.build fd.fn.ntmps tvs 0) fun e s=>findOut e s ld.info.outs 0
  | _=>none
 | none=>none
def extE:ExtK→Oracle→List TV→Option (List TV)
 | .val f,_,tvs=>f tvs
def run1 (E:Env) (call:Oracle) (f:Nat) (tvs:List TV):Option (List TV):=
 match E.ld f with
 | some ld=>match E.fd ld.f with
  | some fd=>match ld.join with
   | false=>runLoop E call ld fd tvs
   | true=>runJoin E call ld fd tvs
  | none=>none
 | none=>match E.fd f with
  | some fd=>match E.ext f with
   | none=>runFn E call fd tvs
   | some k=>extE k call tvs
  | none=>none
def run (E:Env):Nat→Oracle
 | 0=>fun _ _=>none
 | n+1=>run1 E (run E n)
end Go.Ev
namespace Go.Ev
@[reducible] def wi64 (n:Int):Int:=IntKind.wrap .i64 n
@[reducible] def wi32 (n:Int):Int:=IntKind.wrap .i32 n
@[reducible] def wu8 (n:Int):Int:=IntKind.wrap .u8 n
@[reducible] def wu32 (n:Int):Int:=IntKind.wrap .u32 n
@[reducible] def wu64 (n:Int):Int:=IntKind.wrap .u64 n
def mkOk (n:Int):Bool:=decide (0≤n)&&decide (n≤(lim:Int))&&decide (n=n)&&(IntKind.i64==IntKind.i64)&&(IntKind.i64==IntKind.i64)
def apOk {α:Type}(xs ys:List α):Bool:=decide (xs.length+ys.length≤lim)
def mx (x y:Int):Int:=if y > x then y else x
def mn (x y:Int):Int:=if y<x then y else x
def shl (k:IntKind) (a b:Int):Int:=k.wrap (a*2^(min b.toNat k.bits))
def shr (k:IntKind) (a b:Int):Int:=a.fdiv (2^(min b.toNat k.bits))
def bitsAnd (k:IntKind) (a b:Int):Int:=k.wrap (((BitVec.ofInt k.bits a) &&& (BitVec.ofInt k.bits b)).toNat:Nat)
def bitsOr (k:IntKind) (a b:Int):Int:=k.wrap (((BitVec.ofInt k.bits a) ||| (BitVec.ofInt k.bits b)).toNat:Nat)
end Go.Ev
set_option linter.unusedVariables false
namespace Go.Ev
open Classical in
noncomputable def ev (E:Env):Oracle:=fun f tvs=>
 if h:∃ out N,∀ n,N≤n→run E n f tvs=some out then some h.choose else none
theorem zJd {E:Env}{f:Nat}{tvs out:List TV}(h:ev E f tvs=some out):∃ N,∀ n,N≤n→run E n f tvs=some out:=by
 unfold ev at h
 split at h
 · rename_i hx;have:=hx.choose_spec;simp only[Option.some.injEq] at h;rw[h] at this;exact this
 · simp at h
theorem zVk {E:Env}{f:Nat}{tvs out:List TV}(N:Nat) (h:∀ n,N≤n→run E n f tvs=some out):ev E f tvs=some out:=by
 have hx:∃ out N,∀ n,N≤n→run E n f tvs=some out:=⟨out,N,h⟩;unfold ev;rw[dif_pos hx];obtain⟨M,hM⟩:=hx.choose_spec;have h1:=hM (max M N) (Nat.le_max_left ..);have h2:=h (max M N) (Nat.le_max_right ..);rw[h2] at h1;exact h1.symm
def Cont (E:Env) {α:Type}(F:Oracle→Option α):Prop:=∀ out,F (ev E)=some out→∃ N,∀ n,N≤n→F (run E n)=some out
section
variable {E:Env}{α β:Type}
theorem Cont.const (x:Option α):Cont E (fun _=>x):=fun out h=>⟨0,fun n _=>h⟩
theorem Cont.none:Cont E (fun _=>(none:Option α)):=Cont.const _
theorem Cont.call (f:Nat) (tvs:List TV):Cont E (fun c=>c f tvs):=fun out h=>zJd h
theorem Cont.bind {f:Nat}{tvs:List TV}{K:Oracle→List TV→Option α}(hK:∀ o,Cont E (fun c=>K c o)):Cont E (fun c=>(c f tvs).bind (K c)):=by
 intro out h
 cases h1:ev E f tvs with
 | none=>simp[h1] at h
 | some o=>
  simp only[h1,Option.bind_some] at h;obtain⟨N,hN⟩:=zJd h1;obtain⟨M,hM⟩:=hK o out h;refine⟨max N M,fun n hn=>?_⟩;simp only[hN n (by omega),Option.bind_some];exact hM n (by omega)
theorem Cont.cond {b:Bool}{F G:Oracle→Option α}(hF:Cont E F) (hG:Cont E G):Cont E (fun c=>cond b (F c) (G c)):=by
 cases b
 · exact hG
 · exact hF
theorem Cont.ite {p:Prop} [Decidable p] {F G:Oracle→Option α}(hF:Cont E F) (hG:Cont E G):Cont E (fun c=>if p then F c else G c):=by
 by_cases h:p
 · simpa only[if_pos h] using hF
 · simpa only[if_neg h] using hG
theorem zOb {s:St}{d:Nat}{f:FuncId}{args:List V}{k:Oracle→Eff→Option α}(hk:∀ e,Cont E (fun c=>k c e)):Cont E (fun c=>callK E c s d f args (k c)):=by
 unfold callK
 cases E.fd (E.pick f (args.filterMap V.fnId)) with
 | none=>exact Cont.none
 | some fd=>
  simp only;refine Cont.ite ?_ Cont.none
  cases packArgs s.ob fd.sig.params args with
  | none=>exact Cont.none
  | some p=>
   simp only;refine Cont.ite ?_ Cont.none;exact Cont.bind fun o=>hk _
theorem zOB {fd:FD}{s:St}{d:Nat}{op:Op}{k:Oracle→Eff→Option α}(hk:∀ e,Cont E (fun c=>k c e)):Cont E (fun c=>stepK E fd c s d op (k c)):=by
 unfold stepK
 split
 · split
   · split
     · split
       · split
         · exact Cont.cond (hk _) Cont.none
         · exact Cont.none
       · exact Cont.none
     · exact zOb hk
   · exact Cont.none
 · split
   · exact Cont.cond (hk _) Cont.none
   · exact Cont.none
theorem zJX {fd:FD}{o:Oper}{s:St}{l:Log}{k:Oracle→St→Log→Option α}(hk:∀ s l,Cont E (fun c=>k c s l)):Cont E (fun c=>opK E fd c o s l (k c)):=by
 unfold opK;exact zOB (k:=fun c e=>if fresh s.ob (e.nw.map (·.1)) then k c (s.put o.dst e) ((e.rd,e.wr.map (·.1)++e.nw.map (·.1))::l) else none) fun e=>Cont.ite (hk _ _) Cont.none
theorem zKR {fd:FD}{ops:Array Oper}:∀ (r:List Oper) {s:St}{l:Log}{k:Oracle→St→Log→Option α},(∀ s l,Cont E (fun c=>k c s l))→Cont E (fun c=>opsK E fd c ops r s l (k c))
 | [],s,l,k,hk=>hk s l
 | o::r,s,l,k,hk=>by
  unfold opsK;refine Cont.ite ?_ Cont.none;have h1:∀ s l,Cont E (fun c=>opsK E fd c ops r s l (k c)):=fun s l=>zKR r hk
  cases hg:o.guard with
  | none=>
   simp only;exact zJX (k:=fun c s l=>opsK E fd c ops r s l (k c)) h1
  | some q=>
   obtain⟨j,want⟩:=q;simp only
   cases (ops[j]?).bind (·.dst) with
   | none=>exact Cont.none
   | some t=>
    simp only
    cases (s.tm.getD t .undef).guard? with
    | none=>exact Cont.none
    | some b=>
     cases b with
     | none=>exact h1 _ _
     | some b=>
      cases want with
      | true=>exact Cont.cond (zJX (k:=fun c s l=>opsK E fd c ops r s l (k c)) h1) (h1 _ _)
      | false=>exact Cont.cond (h1 _ _) (zJX (k:=fun c s l=>opsK E fd c ops r s l (k c)) h1)
theorem zEV {n:Nat}{outs:List TV}:∀ (l:List (Ex×Shape)) (i:Int) {k:Oracle→Ex→St→Option α},(∀ e s,Cont E (fun c=>k c e s))→Cont E (fun c=>exitsK n outs (k c) l i)
 | [],i,k,hk=>Cont.none
 | [(e,sh)],i,k,hk=>hk _ _
 | (e,sh)::x::r,i,k,hk=>by
  unfold exitsK;exact Cont.cond (hk _ _) (zEV (x::r) _ hk)
theorem zAG {fd:FD}:∀ (c:Code) {s:St}{k:Oracle→Ex→St→Option α},(∀ e s,Cont E (fun o=>k o e s))→Cont E (fun o=>exec E fd o c s (k o))
 | .skip,s,k,hk=>hk _ _
 | .region _ ops draw,s,k,hk=>by
  unfold exec
  refine zKR ops.toList (k:=fun o s l=>match draw with
   | true=>if drawOk ops (ancGo ops.toList []) l.reverse ops.size&&backOk ops.toList 0 then k o .normal s else none
   | false=>k o .normal s) fun s l=>?_
  cases draw
  · exact hk _ _
  · exact Cont.ite (hk _ _) Cont.none
 | .seq a b,s,k,hk=>by
  unfold exec
  refine zAG a (k:=fun o e s=>match e with
   | .normal=>match fd.joins.lookup (firstRegion b) with
    | none=>exec E fd o b s (k o)
    | some info=>joinK o info s (k o)
   | e=>k o e s) fun e s=>?_
  cases e
  · simp only
    cases fd.joins.lookup (firstRegion b) with
    | none=>exact zAG b hk
    | some info=>
     simp only;unfold joinK
     cases info.inS.fit s with
     | none=>exact Cont.none
     | some tvs=>exact Cont.bind fun outs=>zEV _ _ hk
  · exact hk _ _
  · exact hk _ _
 | .cond c x y,s,k,hk=>by
  unfold exec
  cases (s.eval c).bool? with
  | none=>exact Cont.none
  | some b=>exact Cont.cond (zAG x hk) (zAG y hk)
 | .block id a,s,k,hk=>by
  unfold exec
  refine zAG a (k:=fun o e s=>match e with
   | .exit id'=>if id'=id then k o .normal s else k o (.exit id') s
   | e=>k o e s) fun e s=>?_
  cases e
  · exact hk _ _
  · exact Cont.ite (hk _ _) (hk _ _)
  · exact hk _ _
 | .loop a,s,k,hk=>by
  unfold exec
  cases fd.loops.lookup (firstRegion a) with
  | none=>exact Cont.none
  | some info=>
   simp only
   cases info.inS.fit s with
   | none=>exact Cont.none
   | some tvs=>exact Cont.bind fun outs=>zEV _ _ hk
 | .exit id,s,k,hk=>hk _ _
 | .ret,s,k,hk=>hk _ _
 | .rangeFunc _ _ _ _,s,k,hk=>Cont.none
 | .scope _,s,k,hk=>Cont.none
 | .label _,s,k,hk=>Cont.none
 | .goto _,s,k,hk=>Cont.none
 | .refuse _,s,k,hk=>Cont.none
theorem zQJ (k:ExtK) (tvs:List TV):Cont E (fun c=>extE k c tvs):=by
 cases k with
 | val f=>exact Cont.const _
theorem zPW (f:Nat) (tvs:List TV):Cont E (fun c=>run1 E c f tvs):=by
 unfold run1
 cases E.ld f with
 | some ld=>
  simp only
  cases E.fd ld.f with
  | none=>exact Cont.none
  | some fd=>
   simp only
   cases ld.join with
   | true=>
    simp only;unfold runJoin
    cases fd.fn.body with
    | none=>exact Cont.none
    | some c=>
     simp only
     split
     · exact zAG _ (k:=fun o e s=>findOut e s ld.info.outs 0) fun e s=>Cont.const _
     · exact Cont.none
   | false=>
   simp only;unfold runLoop
   cases fd.fn.body with
   | none=>exact Cont.none
   | some c=>
    simp only
    cases (loopsOf c).find? fun a=>firstRegion a==ld.key with
    | none=>exact Cont.none
    | some a=>
     simp only;refine Cont.ite ?_ Cont.none
     refine zAG a (k:=fun o e s=>match e with
      | .normal=>match ld.info.inS.fit s with
       | some tvs=>o ld.info.lid tvs
       | none=>none
      | e=>findOut e s ld.info.outs 0) fun e s=>?_
     cases e
     · cases ld.info.inS.fit s with
       | none=>exact Cont.none
       | some tvs=>exact Cont.call _ _
     · exact Cont.const _
     · exact Cont.const _
 | none=>
  simp only
  cases E.fd f with
  | none=>exact Cont.none
  | some fd=>
   simp only
   cases E.ext f with
   | some k=>exact zQJ _ _
   | none=>
   simp only;unfold runFn
   cases fd.fn.body with
   | none=>exact Cont.none
   | some c=>
    simp only;refine Cont.ite ?_ Cont.none
    refine zAG c (k:=fun o e s=>match e with
     | .exit _=>none
     | .ret=>fd.finish E s
     | .normal=>fd.finish E s) fun e s=>?_
    cases e<;>exact Cont.const _
end
theorem zQK {E:Env}{f:Nat}{tvs out:List TV}(h:run1 E (ev E) f tvs=some out):ev E f tvs=some out:=by
 obtain⟨N,hN⟩:=zPW (E:=E) f tvs out h;refine zVk (N+1) fun n hn=>?_;obtain⟨m,rfl⟩:∃ m,n=m+1:=⟨n-1,by omega⟩;exact hN m (by omega)
@[simp] theorem getTV_here (t:Ty) (x:t.den) (l:List TV):getTV t (⟨t,x⟩::l) 0=x:=by simp[getTV]
@[simp] theorem getTV_next (t:Ty) (a:TV) (l:List TV) (i:Nat):getTV t (a::l) (i+1)=getTV t l i:=by simp[getTV]
end Go.Ev
