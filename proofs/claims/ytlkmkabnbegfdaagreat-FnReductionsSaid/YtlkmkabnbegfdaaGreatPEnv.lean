/- What the evaluator knows of this program. -/
import Derived.Test.YtlkmkabnbegfdaaGreatProg
import Derived.Test.YtlkmkabnbegfdaaGreatV1
namespace Go.Ev.YtlkmkabnbegfdaaGreatP
open Go.Ev
noncomputable section
abbrev tyN_:Ty:=.pair (.int .i64) (.pair (.int .i64) (.slice (.arr .u8 8)))
abbrev tyB_:Ty:=.pair (.int .i64) (.slice (.int .i64))
abbrev tyF_:Ty:=.slice (.arr .u8 8)
abbrev tyW_:Ty:=.slice (.int .i64)
@[reducible] def tAw4 (x:List Int):TV:=⟨.arr .u64 4,x⟩
@[reducible] def gAw4 (l:List TV) (i:Nat):List Int:=getTV (.arr .u64 4) l i
@[reducible] def tB (x:Bool):TV:=⟨.bool,x⟩
@[reducible] def gB (l:List TV) (i:Nat):Bool:=getTV (.bool) l i
@[reducible] def tI (x:Int):TV:=⟨.int .i64,x⟩
@[reducible] def gI (l:List TV) (i:Nat):Int:=getTV (.int .i64) l i
@[reducible] def zJ (x:List (List Int)):TV:=⟨.slice (.arr .u64 4),x⟩
@[reducible] def zET (l:List TV) (i:Nat):List (List Int):=getTV (.slice (.arr .u64 4)) l i
@[reducible] def tLI (x:List Int):TV:=⟨.slice (.int .i64),x⟩
@[reducible] def gLI (l:List TV) (i:Nat):List Int:=getTV (.slice (.int .i64)) l i
@[reducible] def kY (x:List (Int×List (List Int))):TV:=⟨.slice (.pair (.int .i64) (.slice (.arr .u64 4))),x⟩
@[reducible] def zVN (l:List TV) (i:Nat):List (Int×List (List Int)):=getTV (.slice (.pair (.int .i64) (.slice (.arr .u64 4)))) l i
@[reducible] def zI (x:Int×List (List Int)):TV:=⟨.pair (.int .i64) (.slice (.arr .u64 4)),x⟩
@[reducible] def zG (l:List TV) (i:Nat):Int×List (List Int):=getTV (.pair (.int .i64) (.slice (.arr .u64 4))) l i
@[reducible] def zH (x:Int×List Int):TV:=⟨.pair (.int .i64) (.slice (.int .i64)),x⟩
@[reducible] def zg (l:List TV) (i:Nat):Int×List Int:=getTV (.pair (.int .i64) (.slice (.int .i64))) l i
@[reducible] def tU64 (x:Int):TV:=⟨.int .u64,x⟩
@[reducible] def gU64 (l:List TV) (i:Nat):Int:=getTV (.int .u64) l i
def tyTab:List (Nat×Ty):=[(2,.int .i64),(3,.int .i64),(4,.bool),(5,.int .u8),(6,.int .u8),(7,.pair (.int .i64) (.pair (.int .i64) (.pair (.bool) (.int .u8)))),(8,.pair (.int .i64) (.pair (.int .i64) (.pair (.bool) (.int .u8)))),(12,.int .u64),(21,.int .i32),(22,.slice (.int .u8)),(24,.slice (.int .i64)),(25,.pair (.int .i64) (.slice (.int .i64))),(26,.pair (.int .i64) (.slice (.int .i64))),(38,.int .u64),(39,.pair (.int .i64) (.slice (.int .i64))),(40,.pair (.int .i64) (.slice (.int .i64))),(50,.slice (.arr .u8 8)),(51,.pair (.int .i64) (.pair (.int .i64) (.slice (.arr .u8 8)))),(52,.pair (.int .i64) (.pair (.int .i64) (.slice (.arr .u8 8)))),(64,.pair (.slice (.int .u8)) (.pair (.int .i64) (.int .u64))),(65,.pair (.slice (.int .u8)) (.pair (.int .i64) (.int .u64))),(67,.slice (.arr .u64 4)),(68,.pair (.int .i64) (.slice (.arr .u64 4))),(69,.pair (.int .i64) (.slice (.arr .u64 4))),(72,.pair (.slice (.int .u8)) (.pair (.int .i64) (.int .u64))),(73,.pair (.slice (.int .u8)) (.pair (.int .i64) (.int .u64))),(77,.int .u64),(79,.arr .u8 8),(80,.arr .u8 8),(89,.slice (.slice (.pair (.int .i64) (.slice (.arr .u64 4))))),(91,.slice (.pair (.int .i64) (.slice (.arr .u64 4)))),(97,.arr .u64 4),(98,.arr .u64 4),(138,.int .u32),(139,.int .u8),(140,.int .u8),(143,.int .i32),(144,.int .i32)]
def fd87:FD:={ id:=87,fn:=Go.Proofs.Tryz.f87,sig:=⟨[.ro (.int .i64)],[(.own,false,.arr .u64 4)]⟩,loops:=[],views:=[],joins:=[] }
def in20000:LoopInfo:=⟨20000,⟨[.box .own (.st [.int .i64,.sl 1]),.row .own (.arr .u64 4),.box .own (.st [.int .i64,.sl 3]),.row .own (.arr .u64 4),.row .ro (.int .i64)],[(2,.w (.c (.ptr 0))),(3,.w (.c (.ptr 2))),(10,.w (.c (.sl 4))),(11,.w (.c (.int .i64))),(12,.w (.c (.int .i64)))]⟩,[(.exit 0,⟨[.box .own (.st [.int .i64,.sl 1]),.row .own (.arr .u64 4),.box .own (.st [.int .i64,.sl 3]),.row .own (.arr .u64 4)],[(2,.w (.c (.ptr 0))),(3,.w (.c (.ptr 2)))]⟩)]⟩
def fd80:FD:={ id:=80,fn:=Go.Proofs.Tryz.f80,sig:=⟨[.ro (tyB_)],[(.own,false,.pair (.int .i64) (.slice (.arr .u64 4)))]⟩,loops:=[(3,in20000)],views:=[],joins:=[] }
def fd61:FD:={ id:=61,fn:=Go.Proofs.Tryz.f61,sig:=⟨[.ro (.int .i64),.ro (.int .i64),.ro (.int .i64)],[(.own,false,.bool)]⟩,loops:=[],views:=[],joins:=[] }
def fd83:FD:={ id:=83,fn:=Go.Proofs.Tryz.f83,sig:=⟨[.ro (.pair (.int .i64) (.slice (.arr .u64 4))),.ro (.int .i64)],[(.own,false,.arr .u64 4)]⟩,loops:=[],views:=[],joins:=[] }
def in20002:LoopInfo:=⟨20002,⟨[.box .own (.arr .u64 4),.box .own (.arr .u64 4),.box .own (.arr .u64 4),.box .own (.arr .u64 4)],[(2,.w (.c (.ptr 0))),(3,.w (.c (.ptr 1))),(4,.w (.c (.ptr 2))),(5,.w (.c (.ptr 3))),(6,.w (.c (.int .u64))),(9,.w (.c (.int .i64)))]⟩,[(.exit 0,⟨[.box .own (.arr .u64 4),.box .own (.arr .u64 4)],[(4,.w (.c (.ptr 0))),(5,.w (.c (.ptr 1)))]⟩)]⟩
def fd84:FD:={ id:=84,fn:=Go.Proofs.Tryz.f84,sig:=⟨[.ro (.arr .u64 4),.ro (.arr .u64 4)],[(.own,false,.arr .u64 4)]⟩,loops:=[(3,in20002)],views:=[],joins:=[] }
def in20003:LoopInfo:=⟨20003,⟨[.box .own (.st [.int .i64,.sl 1]),.row .ro (.arr .u64 4),.box .own (.st [.int .i64,.sl 3]),.row .own (.arr .u64 4)],[(1,.w (.c (.ptr 0))),(2,.w (.c (.ptr 2)))]⟩,[(.exit 0,⟨[.box .own (.st [.int .i64,.sl 1]),.row .ro (.arr .u64 4),.box .own (.st [.int .i64,.sl 3]),.row .own (.arr .u64 4)],[(1,.w (.c (.ptr 0))),(2,.w (.c (.ptr 2)))]⟩)]⟩
def in20004:LoopInfo:=⟨20004,⟨[.box .own (.st [.int .i64,.sl 1]),.row .ro (.arr .u64 4),.box .own (.st [.int .i64,.sl 3]),.row .own (.arr .u64 4)],[(1,.w (.c (.ptr 0))),(2,.w (.c (.ptr 2))),(3,.w (.c (.int .i64)))]⟩,[(.exit 2,⟨[.box .own (.st [.int .i64,.sl 1]),.row .ro (.arr .u64 4),.box .own (.st [.int .i64,.sl 3]),.row .own (.arr .u64 4)],[(1,.w (.c (.ptr 0))),(2,.w (.c (.ptr 2)))]⟩)]⟩
def fd58:FD:={ id:=58,fn:=Go.Proofs.Tryz.f58,sig:=⟨[.ro (.pair (.int .i64) (.slice (.arr .u64 4)))],[(.ro,false,.pair (.int .i64) (.slice (.arr .u64 4)))]⟩,loops:=[(1,in20003),(5,in20004)],views:=[],joins:=[] }
def in20001:LoopInfo:=⟨20001,⟨[.box .own (.st [.int .i64,.sl 1]),.row .ro (.arr .u64 4),.box .own (.st [.int .i64,.sl 3]),.row .ro (.arr .u64 4),.box .own (.st [.int .i64,.sl 5]),.row .own (.arr .u64 4),.box .own (.st [.int .i64,.sl 7]),.row .own (.arr .u64 4)],[(2,.w (.c (.ptr 0))),(3,.w (.c (.ptr 2))),(4,.w (.c (.ptr 4))),(6,.w (.c (.int .i64))),(7,.w (.c (.ptr 6))),(8,.w (.c (.int .i64)))]⟩,[(.exit 0,⟨[.box .own (.st [.int .i64,.sl 1]),.row .own (.arr .u64 4),.box .own (.st [.int .i64,.sl 3]),.row .own (.arr .u64 4)],[(4,.w (.c (.ptr 0))),(7,.w (.c (.ptr 2)))]⟩)]⟩
def fd53:FD:={ id:=53,fn:=Go.Proofs.Tryz.f53,sig:=⟨[.ro (.pair (.int .i64) (.slice (.arr .u64 4))),.ro (.pair (.int .i64) (.slice (.arr .u64 4)))],[(.ro,false,.pair (.int .i64) (.slice (.arr .u64 4)))]⟩,loops:=[(9,in20001)],views:=[],joins:=[] }
def in20006:LoopInfo:=⟨20006,⟨[.box .own (.arr .u64 4),.box .own (.arr .u64 4),.box .own (.arr .u64 4),.box .own (.arr .u64 4)],[(2,.w (.c (.ptr 0))),(3,.w (.c (.ptr 1))),(4,.w (.c (.ptr 2))),(5,.w (.c (.ptr 3))),(6,.w (.c (.int .u64))),(9,.w (.c (.int .i64)))]⟩,[(.exit 0,⟨[.box .own (.arr .u64 4),.box .own (.arr .u64 4)],[(4,.w (.c (.ptr 0))),(5,.w (.c (.ptr 1)))]⟩)]⟩
def fd57:FD:={ id:=57,fn:=Go.Proofs.Tryz.f57,sig:=⟨[.ro (.arr .u64 4),.ro (.arr .u64 4)],[(.own,false,.arr .u64 4)]⟩,loops:=[(3,in20006)],views:=[],joins:=[] }
def in20005:LoopInfo:=⟨20005,⟨[.box .own (.st [.int .i64,.sl 1]),.row .own (.arr .u64 4),.box .own (.st [.int .i64,.sl 3]),.row .own (.arr .u64 4),.row .ro (.arr .u64 4)],[(2,.w (.c (.ptr 0))),(3,.w (.c (.ptr 2))),(10,.w (.c (.sl 4))),(11,.w (.c (.int .i64))),(12,.w (.c (.int .i64)))]⟩,[(.exit 0,⟨[.box .own (.st [.int .i64,.sl 1]),.row .own (.arr .u64 4),.box .own (.st [.int .i64,.sl 3]),.row .own (.arr .u64 4)],[(2,.w (.c (.ptr 0))),(3,.w (.c (.ptr 2)))]⟩)]⟩
def fd54:FD:={ id:=54,fn:=Go.Proofs.Tryz.f54,sig:=⟨[.ro (.pair (.int .i64) (.slice (.arr .u64 4)))],[(.own,false,.pair (.int .i64) (.slice (.arr .u64 4)))]⟩,loops:=[(3,in20005)],views:=[],joins:=[] }
def fd104:FD:={ id:=104,fn:=Go.Proofs.Tryz.f104,sig:=⟨[.ro (.int .u64),.ro (.int .u64)],[(.own,false,.int .u64),(.own,false,.int .u64)]⟩,loops:=[],views:=[],joins:=[] }
def in20009:LoopInfo:=⟨20009,⟨[.box .own (.arr .u64 4),.box .own (.arr .u64 4),.box .own (.arr .u64 4)],[(3,.w (.c (.ptr 0))),(4,.w (.c (.ptr 1))),(5,.w (.c (.ptr 2))),(15,.w (.arr .u64 4)),(16,.w (.c (.int .i64)))]⟩,[(.exit 0,⟨[.box .own (.arr .u64 4),.box .own (.arr .u64 4)],[(4,.w (.c (.ptr 0))),(5,.w (.c (.ptr 1)))]⟩)]⟩
def in20010:LoopInfo:=⟨20010,⟨[.box .own (.arr .u64 4),.box .own (.arr .u64 4),.box .own (.arr .u64 4)],[(3,.w (.c (.ptr 0))),(4,.w (.c (.ptr 1))),(5,.w (.c (.ptr 2))),(6,.w (.c (.int .i64))),(7,.w (.c (.int .u64))),(8,.w (.c (.int .u64))),(9,.w (.c (.int .i64))),(15,.w (.arr .u64 4)),(16,.w (.c (.int .i64)))]⟩,[(.exit 2,⟨[.box .own (.arr .u64 4),.box .own (.arr .u64 4),.box .own (.arr .u64 4)],[(3,.w (.c (.ptr 0))),(4,.w (.c (.ptr 1))),(5,.w (.c (.ptr 2))),(15,.w (.arr .u64 4)),(16,.w (.c (.int .i64)))]⟩)]⟩
def fd98:FD:={ id:=98,fn:=Go.Proofs.Tryz.f98,sig:=⟨[.ro (.arr .u64 4),.ro (.arr .u64 4)],[(.own,false,.arr .u64 4)]⟩,loops:=[(3,in20009),(7,in20010)],views:=[],joins:=[] }
def in20007:LoopInfo:=⟨20007,⟨[.box .own (.st [.int .i64,.sl 1]),.row .ro (.arr .u64 4),.box .own (.st [.int .i64,.sl 3]),.row .own (.arr .u64 4),.box .own (.st [.int .i64,.sl 5]),.row .own (.arr .u64 4),.row .ro (.arr .u64 4)],[(3,.w (.c (.ptr 0))),(4,.w (.c (.ptr 2))),(5,.w (.c (.ptr 4))),(37,.w (.c (.sl 6))),(38,.w (.c (.int .i64))),(39,.w (.c (.int .i64)))]⟩,[(.exit 0,⟨[.box .own (.st [.int .i64,.sl 1]),.row .own (.arr .u64 4),.box .own (.st [.int .i64,.sl 3]),.row .own (.arr .u64 4)],[(4,.w (.c (.ptr 0))),(5,.w (.c (.ptr 2)))]⟩)]⟩
def in20008:LoopInfo:=⟨20008,⟨[.box .own (.st [.int .i64,.sl 1]),.row .ro (.arr .u64 4),.box .own (.st [.int .i64,.sl 3]),.row .own (.arr .u64 4),.box .own (.st [.int .i64,.sl 5]),.row .own (.arr .u64 4),.box .own (.arr .u64 4),.row .ro (.arr .u64 4)],[(3,.w (.c (.ptr 0))),(4,.w (.c (.ptr 2))),(5,.w (.c (.ptr 4))),(6,.w (.c (.int .i64))),(7,.w (.c (.ptr 6))),(37,.w (.c (.sl 7))),(38,.w (.c (.int .i64))),(39,.w (.c (.int .i64))),(48,.w (.c (.sl 1))),(49,.w (.c (.int .i64))),(50,.w (.c (.int .i64)))]⟩,[(.exit 2,⟨[.box .own (.st [.int .i64,.sl 1]),.row .ro (.arr .u64 4),.box .own (.st [.int .i64,.sl 3]),.row .own (.arr .u64 4),.box .own (.st [.int .i64,.sl 5]),.row .own (.arr .u64 4),.row .ro (.arr .u64 4)],[(3,.w (.c (.ptr 0))),(4,.w (.c (.ptr 2))),(5,.w (.c (.ptr 4))),(37,.w (.c (.sl 6))),(38,.w (.c (.int .i64))),(39,.w (.c (.int .i64)))]⟩)]⟩
def fd85:FD:={ id:=85,fn:=Go.Proofs.Tryz.f85,sig:=⟨[.ro (.pair (.int .i64) (.slice (.arr .u64 4))),.ro (.pair (.int .i64) (.slice (.arr .u64 4)))],[(.ro,false,.pair (.int .i64) (.slice (.arr .u64 4)))]⟩,loops:=[(5,in20007),(9,in20008)],views:=[],joins:=[] }
def fd81:FD:={ id:=81,fn:=Go.Proofs.Tryz.f81,sig:=⟨[.ro (.int .i64)],[(.own,false,.int .i64)]⟩,loops:=[],views:=[],joins:=[] }
def fd82:FD:={ id:=82,fn:=Go.Proofs.Tryz.f82,sig:=⟨[.ro (.pair (.int .i64) (.slice (.arr .u64 4))),.ro (.int .i64)],[(.ro,false,.pair (.int .i64) (.slice (.arr .u64 4)))]⟩,loops:=[],views:=[],joins:=[] }
def fd52:FD:={ id:=52,fn:=Go.Proofs.Tryz.f52,sig:=⟨[.muts (.slice (.pair (.int .i64) (.slice (.arr .u64 4)))),.ro (.int .i64)],[]⟩,loops:=[],views:=[],joins:=[] }
def fd59:FD:={ id:=59,fn:=Go.Proofs.Tryz.f59,sig:=⟨[.ro (.arr .u64 4)],[(.own,false,.bool)]⟩,loops:=[],views:=[],joins:=[] }
def fdTab:List (Nat×FD):=[(87,fd87),(80,fd80),(61,fd61),(83,fd83),(84,fd84),(58,fd58),(53,fd53),(57,fd57),(54,fd54),(104,fd104),(98,fd98),(85,fd85),(81,fd81),(82,fd82),(52,fd52),(59,fd59)]
def ldTab:List (Nat×LD):=[(20000,⟨80,3,in20000,false⟩),(20002,⟨84,3,in20002,false⟩),(20003,⟨58,1,in20003,false⟩),(20004,⟨58,5,in20004,false⟩),(20001,⟨53,9,in20001,false⟩),(20006,⟨57,3,in20006,false⟩),(20005,⟨54,3,in20005,false⟩),(20009,⟨98,3,in20009,false⟩),(20010,⟨98,7,in20010,false⟩),(20007,⟨85,5,in20007,false⟩),(20008,⟨85,9,in20008,false⟩)]
def extTab:List (Nat×ExtK):=[]
def pickTab:List ((FuncId×List FuncId)×Nat):=[]
def pick (f:FuncId):List FuncId→Nat
  | []=>f
  | l=>(pickTab.lookup (f,l)).getD 0
def primTab:List (FuncId×PrimK):=[(86,.sub64),(97,.add64)]
def E:Env:=⟨[9,10,11],fun T=>tyTab.lookup T,pick,fun f=>fdTab.lookup f,fun f=>ldTab.lookup f,fun f=>extTab.lookup f,fun f=>primTab.lookup f⟩
def R:Oracle:=ev E
theorem go_ {f:Nat}{l:List TV}{b:Oracle→Option (List TV)}(e:∀ c,run1 E c f l=b c) {o:List TV}(h:b R=some o):R f l=some o:=zQK ((e R).trans h)
theorem R_ev (f:Nat) (l:List TV):R f l=ev E f l:=rfl
def zBB:Nat:=87
def zKd:Nat:=80
def zBC:Nat:=20000
def kh:Nat:=61
def i_i_poly__at:Nat:=83
def i_i_wide__plus:Nat:=84
def i_i_wide__plus_3:Nat:=20002
def i_i_poly__trim:Nat:=58
def i_i_poly__trim_1:Nat:=20003
def i_i_poly__trim_5:Nat:=20004
def i_i_poly__add:Nat:=53
def i_i_poly__add_9:Nat:=20001
def i_i_wide__minus:Nat:=57
def i_i_wide__minus_3:Nat:=20006
def i_i_poly__negative:Nat:=54
def i_i_poly__negative_3:Nat:=20005
def imath_bits_Mul64:Nat:=104
def i_i_wide__times:Nat:=98
def i_i_wide__times_3:Nat:=20009
def i_i_wide__times_7:Nat:=20010
def i_i_poly__multiply:Nat:=85
def i_i_poly__multiply_5:Nat:=20007
def i_i_poly__multiply_9:Nat:=20008
def zAR:Nat:=81
def i_i_poly__shift:Nat:=82
def zB0:Nat:=52
def i_i_wide__isNegative:Nat:=59
end
end Go.Ev.YtlkmkabnbegfdaaGreatP
