/- What the evaluator knows of this program. -/
import Derived.Test.YtlkmkabnbegfdaaGreatProg
import Derived.Test.YtlkmkabnbegfdaaGreatV1
import Derived.Test.YtlkmkabnbegfdaaGreatPXc
namespace Go.Ev.YtlkmkabnbegfdaaGreat
open Go.Ev
noncomputable section
abbrev tyN_:Ty:=.pair (.int .i64) (.pair (.int .i64) (.slice (.arr .u8 8)))
abbrev tyB_:Ty:=.pair (.int .i64) (.slice (.int .i64))
abbrev tyF_:Ty:=.slice (.arr .u8 8)
abbrev tyW_:Ty:=.slice (.int .i64)
@[reducible] def tA8 (x:List Int):TV:=⟨.arr .u8 8,x⟩
@[reducible] def gA8 (l:List TV) (i:Nat):List Int:=getTV (.arr .u8 8) l i
@[reducible] def tAw4 (x:List Int):TV:=⟨.arr .u64 4,x⟩
@[reducible] def gAw4 (l:List TV) (i:Nat):List Int:=getTV (.arr .u64 4) l i
@[reducible] def tB (x:Bool):TV:=⟨.bool,x⟩
@[reducible] def gB (l:List TV) (i:Nat):Bool:=getTV (.bool) l i
@[reducible] def tI (x:Int):TV:=⟨.int .i64,x⟩
@[reducible] def gI (l:List TV) (i:Nat):Int:=getTV (.int .i64) l i
@[reducible] def tLA8 (x:List (List Int)):TV:=⟨.slice (.arr .u8 8),x⟩
@[reducible] def gLA8 (l:List TV) (i:Nat):List (List Int):=getTV (.slice (.arr .u8 8)) l i
@[reducible] def zJ (x:List (List Int)):TV:=⟨.slice (.arr .u64 4),x⟩
@[reducible] def zET (l:List TV) (i:Nat):List (List Int):=getTV (.slice (.arr .u64 4)) l i
@[reducible] def tLI (x:List Int):TV:=⟨.slice (.int .i64),x⟩
@[reducible] def gLI (l:List TV) (i:Nat):List Int:=getTV (.slice (.int .i64)) l i
@[reducible] def tLU8 (x:List Int):TV:=⟨.slice (.int .u8),x⟩
@[reducible] def gLU8 (l:List TV) (i:Nat):List Int:=getTV (.slice (.int .u8)) l i
@[reducible] def zI (x:Int×List (List Int)):TV:=⟨.pair (.int .i64) (.slice (.arr .u64 4)),x⟩
@[reducible] def zG (l:List TV) (i:Nat):Int×List (List Int):=getTV (.pair (.int .i64) (.slice (.arr .u64 4))) l i
@[reducible] def zH (x:Int×List Int):TV:=⟨.pair (.int .i64) (.slice (.int .i64)),x⟩
@[reducible] def zg (l:List TV) (i:Nat):Int×List Int:=getTV (.pair (.int .i64) (.slice (.int .i64))) l i
@[reducible] def zK (x:Int×Int×List (List Int)):TV:=⟨.pair (.int .i64) (.pair (.int .i64) (.slice (.arr .u8 8))),x⟩
@[reducible] def zo (l:List TV) (i:Nat):Int×Int×List (List Int):=getTV (.pair (.int .i64) (.pair (.int .i64) (.slice (.arr .u8 8)))) l i
@[reducible] def zE (x:List Int×Int×Int):TV:=⟨.pair (.slice (.int .u8)) (.pair (.int .i64) (.int .u64)),x⟩
@[reducible] def zC (l:List TV) (i:Nat):List Int×Int×Int:=getTV (.pair (.slice (.int .u8)) (.pair (.int .i64) (.int .u64))) l i
@[reducible] def tU64 (x:Int):TV:=⟨.int .u64,x⟩
@[reducible] def gU64 (l:List TV) (i:Nat):Int:=getTV (.int .u64) l i
def tyTab:List (Nat×Ty):=[(2,.int .i64),(3,.int .i64),(4,.bool),(5,.int .u8),(6,.int .u8),(7,.pair (.int .i64) (.pair (.int .i64) (.pair (.bool) (.int .u8)))),(8,.pair (.int .i64) (.pair (.int .i64) (.pair (.bool) (.int .u8)))),(12,.int .u64),(21,.int .i32),(22,.slice (.int .u8)),(24,.slice (.int .i64)),(25,.pair (.int .i64) (.slice (.int .i64))),(26,.pair (.int .i64) (.slice (.int .i64))),(38,.int .u64),(39,.pair (.int .i64) (.slice (.int .i64))),(40,.pair (.int .i64) (.slice (.int .i64))),(50,.slice (.arr .u8 8)),(51,.pair (.int .i64) (.pair (.int .i64) (.slice (.arr .u8 8)))),(52,.pair (.int .i64) (.pair (.int .i64) (.slice (.arr .u8 8)))),(64,.pair (.slice (.int .u8)) (.pair (.int .i64) (.int .u64))),(65,.pair (.slice (.int .u8)) (.pair (.int .i64) (.int .u64))),(67,.slice (.arr .u64 4)),(68,.pair (.int .i64) (.slice (.arr .u64 4))),(69,.pair (.int .i64) (.slice (.arr .u64 4))),(72,.pair (.slice (.int .u8)) (.pair (.int .i64) (.int .u64))),(73,.pair (.slice (.int .u8)) (.pair (.int .i64) (.int .u64))),(77,.int .u64),(79,.arr .u8 8),(80,.arr .u8 8),(89,.slice (.slice (.pair (.int .i64) (.slice (.arr .u64 4))))),(91,.slice (.pair (.int .i64) (.slice (.arr .u64 4)))),(97,.arr .u64 4),(98,.arr .u64 4),(138,.int .u32),(139,.int .u8),(140,.int .u8),(143,.int .i32),(144,.int .i32)]
def fd4:FD:={ id:=4,fn:=Go.Proofs.Tryz.f4,sig:=⟨[.ro (.slice (.int .u8))],[(.own,false,.bool)]⟩,loops:=[],views:=[],joins:=[] }
def in20000:LoopInfo:=⟨20000,⟨[.row .ro (.int .u8),.box .own (.st [.sl 0,.int .i64,.int .u64])],[(0,.w (.c (.sl 0))),(3,.w (.c (.ptr 1))),(4,.w (.c (.int .i64)))]⟩,[(.exit 0,⟨[.box .own (.st [.sl 1,.int .i64,.int .u64]),.row .ro (.int .u8)],[(3,.w (.c (.ptr 0)))]⟩)]⟩
def fd15:FD:={ id:=15,fn:=Go.Proofs.Tryz.f15,sig:=⟨[.ro (.slice (.int .u8))],[(.ro,true,.pair (.slice (.int .u8)) (.pair (.int .i64) (.int .u64)))]⟩,loops:=[(3,in20000)],views:=[],joins:=[] }
def fd18:FD:={ id:=18,fn:=Go.Proofs.Tryz.f18,sig:=⟨[.boxr (.pair (.slice (.int .u8)) (.pair (.int .i64) (.int .u64))),.ro (.int .i64)],[(.own,false,.int .i64)]⟩,loops:=[],views:=[],joins:=[] }
def fd35:FD:={ id:=35,fn:=Go.Proofs.Tryz.f35,sig:=⟨[.boxr (.pair (.slice (.int .u8)) (.pair (.int .i64) (.int .u64))),.ro tyW_],[(.own,false,.int .i64)]⟩,loops:=[],views:=[],joins:=[] }
def in20001:LoopInfo:=⟨20001,⟨[.box .own (.st [.sl 1,.int .i64,.int .u64]),.row .ro (.int .u8),.row .own (.int .i64)],[(0,.w (.c (.ptr 0))),(1,.w (.c (.int .i64))),(7,.w (.c (.sl 2))),(8,.w (.c (.int .i64))),(9,.w (.c (.int .i64)))]⟩,[(.exit 0,⟨[.box .own (.st [.sl 1,.int .i64,.int .u64]),.row .ro (.int .u8),.row .own (.int .i64)],[(0,.w (.c (.ptr 0))),(7,.w (.c (.sl 2)))]⟩)]⟩
def fd21:FD:={ id:=21,fn:=Go.Proofs.Tryz.f21,sig:=⟨[.boxr (.pair (.slice (.int .u8)) (.pair (.int .i64) (.int .u64))),.ro (.int .i64),.ro (.int .i64)],[(.own,false,.slice (.int .i64))]⟩,loops:=[(6,in20001)],views:=[],joins:=[] }
def fd63:FD:={ id:=63,fn:=Go.Proofs.Tryz.f63,sig:=⟨[.ro tyW_],[(.own,false,.slice (.int .i64))]⟩,loops:=[],views:=[],joins:=[] }
def fd36:FD:={ id:=36,fn:=Go.Proofs.Tryz.f36,sig:=⟨[.boxr (.pair (.slice (.int .u8)) (.pair (.int .i64) (.int .u64))),.ro (tyB_)],[(.ro,false,tyB_)]⟩,loops:=[],views:=[],joins:=[] }
def fd37:FD:={ id:=37,fn:=Go.Proofs.Tryz.f37,sig:=⟨[.boxr (.pair (.slice (.int .u8)) (.pair (.int .i64) (.int .u64)))],[(.own,false,tyB_)]⟩,loops:=[],views:=[],joins:=[] }
def fd16:FD:={ id:=16,fn:=Go.Proofs.Tryz.f16,sig:=⟨[.boxr (.pair (.slice (.int .u8)) (.pair (.int .i64) (.int .u64)))],[(.ro,false,tyB_)]⟩,loops:=[],views:=[],joins:=[] }
def fd38:FD:={ id:=38,fn:=Go.Proofs.Tryz.f38,sig:=⟨[.ro (.int .i64),.ro (.int .i64),.ro (.int .i64)],[(.own,false,.bool)]⟩,loops:=[],views:=[],joins:=[] }
def in20002:LoopInfo:=⟨20002,⟨[.box .own (.st [.int .i64,.sl 1]),.row .ro (.int .i64)],[(1,.w (.c (.ptr 0))),(3,.w (.c (.int .i64)))]⟩,[(.exit 0,⟨[],[]⟩),(.ret,⟨[],[(2,.w (.c (.bool)))]⟩)]⟩
def fd17:FD:={ id:=17,fn:=Go.Proofs.Tryz.f17,sig:=⟨[.ro (tyB_)],[(.own,false,.bool)]⟩,loops:=[(4,in20002)],views:=[],joins:=[] }
def in20004:LoopInfo:=⟨20004,⟨[.box .own (.arr .u8 8),.box .own (.arr .u8 8)],[(0,.w (.c (.int .i64))),(2,.w (.c (.ptr 0))),(3,.w (.c (.ptr 1))),(4,.w (.c (.int .i64)))]⟩,[(.exit 0,⟨[.box .own (.arr .u8 8),.box .own (.arr .u8 8)],[(2,.w (.c (.ptr 0))),(3,.w (.c (.ptr 1)))]⟩)]⟩
def fd69:FD:={ id:=69,fn:=Go.Proofs.Tryz.f69,sig:=⟨[.ro (.int .i64)],[(.own,false,.arr .u8 8)]⟩,loops:=[(3,in20004)],views:=[],joins:=[] }
def fd42:FD:={ id:=42,fn:=Go.Proofs.Tryz.f42,sig:=⟨[.ro (.int .i64),.ro (.int .i64)],[(.own,false,.arr .u8 8)]⟩,loops:=[],views:=[],joins:=[] }
def in20006:LoopInfo:=⟨20006,⟨[.box .own (.arr .u8 8),.box .own (.arr .u8 8)],[(0,.w (.c (.int .i64))),(2,.w (.c (.ptr 0))),(3,.w (.c (.ptr 1))),(4,.w (.c (.int .i64)))]⟩,[(.exit 0,⟨[.box .own (.arr .u8 8),.box .own (.arr .u8 8)],[(2,.w (.c (.ptr 0))),(3,.w (.c (.ptr 1)))]⟩)]⟩
def fd40:FD:={ id:=40,fn:=Go.Proofs.Tryz.f40,sig:=⟨[.ro (.int .i64)],[(.own,false,.arr .u8 8)]⟩,loops:=[(3,in20006)],views:=[],joins:=[] }
def in20007:LoopInfo:=⟨20007,⟨[.box .own (.arr .u8 8),.box .own (.arr .u8 8),.box .own (.arr .u8 8),.box .own (.arr .u8 8)],[(2,.w (.c (.int .i64))),(3,.w (.c (.ptr 0))),(4,.w (.c (.ptr 1))),(6,.w (.c (.ptr 2))),(7,.w (.c (.ptr 3))),(8,.w (.c (.int .i64)))]⟩,[(.exit 0,⟨[.box .own (.arr .u8 8),.box .own (.arr .u8 8)],[(6,.w (.c (.ptr 0))),(7,.w (.c (.ptr 1)))]⟩)]⟩
def fd65:FD:={ id:=65,fn:=Go.Proofs.Tryz.f65,sig:=⟨[.ro (.arr .u8 8),.ro (.arr .u8 8),.ro (.int .i64)],[(.own,false,.arr .u8 8)]⟩,loops:=[(3,in20007)],views:=[],joins:=[] }
def fd91:FD:={ id:=91,fn:=Go.Proofs.Tryz.f91,sig:=⟨[.ro (.arr .u8 8),.ro (.int .i64)],[(.own,false,.arr .u8 8)]⟩,loops:=[],views:=[],joins:=[] }
def in20005:LoopInfo:=⟨20005,⟨[.row .ro (.arr .u8 8),.row .own (.arr .u8 8)],[(0,.w (.c (.sl 0))),(1,.w (.c (.int .i64))),(2,.w (.c (.int .i64))),(7,.w (.c (.sl 1))),(8,.w (.c (.int .i64)))]⟩,[(.exit 0,⟨[.row .own (.arr .u8 8)],[(7,.w (.c (.sl 0)))]⟩)]⟩
def fd67:FD:={ id:=67,fn:=Go.Proofs.Tryz.f67,sig:=⟨[.ro tyF_,.ro (.int .i64),.ro (.int .i64)],[(.own,false,.slice (.arr .u8 8))]⟩,loops:=[(3,in20005)],views:=[],joins:=[] }
def in20008:LoopInfo:=⟨20008,⟨[.box .own (.arr .u8 8),.box .own (.arr .u8 8),.box .own (.arr .u8 8)],[(1,.w (.c (.int .i64))),(2,.w (.c (.ptr 0))),(4,.w (.c (.ptr 1))),(5,.w (.c (.ptr 2))),(6,.w (.c (.int .i64)))]⟩,[(.exit 0,⟨[.box .own (.arr .u8 8),.box .own (.arr .u8 8)],[(4,.w (.c (.ptr 0))),(5,.w (.c (.ptr 1)))]⟩)]⟩
def fd92:FD:={ id:=92,fn:=Go.Proofs.Tryz.f92,sig:=⟨[.ro (.arr .u8 8),.ro (.int .i64)],[(.own,false,.arr .u8 8)]⟩,loops:=[(3,in20008)],views:=[],joins:=[] }
def fd68:FD:={ id:=68,fn:=Go.Proofs.Tryz.f68,sig:=⟨[.ro (.arr .u8 8),.ro (.int .i64)],[(.own,false,.arr .u8 8)]⟩,loops:=[],views:=[],joins:=[] }
def fd101:FD:={ id:=101,fn:=Go.Proofs.Tryz.f101,sig:=⟨[.ro (.arr .u8 8),.ro (.int .i64)],[(.own,false,.arr .u8 8)]⟩,loops:=[],views:=[],joins:=[] }
def in20011:LoopInfo:=⟨20011,⟨[.box .own (.arr .u8 8),.box .own (.arr .u8 8),.box .own (.arr .u8 8),.box .own (.arr .u8 8)],[(2,.w (.c (.int .i64))),(3,.w (.c (.ptr 0))),(4,.w (.c (.ptr 1))),(6,.w (.c (.ptr 2))),(7,.w (.c (.ptr 3))),(8,.w (.c (.int .i64)))]⟩,[(.exit 0,⟨[.box .own (.arr .u8 8),.box .own (.arr .u8 8)],[(6,.w (.c (.ptr 0))),(7,.w (.c (.ptr 1)))]⟩)]⟩
def fd100:FD:={ id:=100,fn:=Go.Proofs.Tryz.f100,sig:=⟨[.ro (.arr .u8 8),.ro (.arr .u8 8),.ro (.int .i64)],[(.own,false,.arr .u8 8)]⟩,loops:=[(3,in20011)],views:=[],joins:=[] }
def in20009:LoopInfo:=⟨20009,⟨[.row .own (.arr .u8 8)],[(1,.w (.c (.int .i64))),(5,.w (.c (.sl 0))),(6,.w (.c (.bool)))]⟩,[(.exit 0,⟨[.row .own (.arr .u8 8)],[(5,.w (.c (.sl 0)))]⟩)]⟩
def in20010:LoopInfo:=⟨20010,⟨[.row .own (.arr .u8 8)],[(1,.w (.c (.int .i64))),(5,.w (.c (.sl 0))),(6,.w (.c (.bool))),(7,.w (.c (.int .i64)))]⟩,[(.exit 2,⟨[.row .own (.arr .u8 8)],[(1,.w (.c (.int .i64))),(5,.w (.c (.sl 0))),(6,.w (.c (.bool)))]⟩)]⟩
def fd90:FD:={ id:=90,fn:=Go.Proofs.Tryz.f90,sig:=⟨[.ro tyF_,.ro (.int .i64)],[(.own,false,.slice (.arr .u8 8))]⟩,loops:=[(3,in20009),(6,in20010)],views:=[],joins:=[] }
def in20012:LoopInfo:=⟨20012,⟨[.row .own (.arr .u8 8),.box .own (.st [.int .i64,.int .i64,.sl 2]),.row .own (.arr .u8 8)],[(0,.w (.c (.int .i64))),(1,.w (.c (.int .i64))),(2,.w (.c (.sl 0))),(6,.w (.c (.ptr 1))),(7,.w (.c (.int .i64))),(8,.w (.c (.int .i64)))]⟩,[(.exit 0,⟨[.row .own (.arr .u8 8),.box .own (.st [.int .i64,.int .i64,.sl 2]),.row .own (.arr .u8 8)],[(0,.w (.c (.int .i64))),(1,.w (.c (.int .i64))),(2,.w (.c (.sl 0))),(6,.w (.c (.ptr 1))),(7,.w (.c (.int .i64))),(8,.w (.c (.int .i64)))]⟩)]⟩
def in20013:LoopInfo:=⟨20013,⟨[.row .own (.arr .u8 8),.box .own (.st [.int .i64,.int .i64,.sl 2]),.row .own (.arr .u8 8)],[(0,.w (.c (.int .i64))),(1,.w (.c (.int .i64))),(2,.w (.c (.sl 0))),(6,.w (.c (.ptr 1))),(7,.w (.c (.int .i64))),(8,.w (.c (.int .i64)))]⟩,[(.exit 2,⟨[.row .own (.arr .u8 8),.box .own (.st [.int .i64,.int .i64,.sl 2]),.row .own (.arr .u8 8)],[(0,.w (.c (.int .i64))),(1,.w (.c (.int .i64))),(2,.w (.c (.sl 0))),(6,.w (.c (.ptr 1))),(7,.w (.c (.int .i64))),(8,.w (.c (.int .i64)))]⟩)]⟩
def fd66:FD:={ id:=66,fn:=Go.Proofs.Tryz.f66,sig:=⟨[.ro (.int .i64),.ro (.int .i64),.ro tyF_],[(.own,false,tyN_)]⟩,loops:=[(4,in20012),(7,in20013)],views:=[],joins:=[] }
def fd41:FD:={ id:=41,fn:=Go.Proofs.Tryz.f41,sig:=⟨[.ro (tyN_),.ro (.arr .u8 8),.ro (.bool)],[(.own,false,tyN_)]⟩,loops:=[],views:=[],joins:=[] }
def in20003:LoopInfo:=⟨20003,⟨[.row .ro (.int .i64),.box .own (.st [.int .i64,.int .i64,.sl 2]),.row .own (.arr .u8 8),.box .own (.st [.int .i64,.int .i64,.sl 4]),.row .own (.arr .u8 8)],[(0,.w (.c (.int .i64))),(1,.w (.c (.sl 0))),(4,.w (.c (.ptr 1))),(5,.w (.c (.ptr 3))),(6,.w (.c (.int .i64)))]⟩,[(.exit 0,⟨[.box .own (.st [.int .i64,.int .i64,.sl 1]),.row .own (.arr .u8 8),.box .own (.st [.int .i64,.int .i64,.sl 3]),.row .own (.arr .u8 8)],[(4,.w (.c (.ptr 0))),(5,.w (.c (.ptr 2)))]⟩)]⟩
def fd20:FD:={ id:=20,fn:=Go.Proofs.Tryz.f20,sig:=⟨[.ro (.int .i64),.ro tyW_],[(.own,false,tyN_)]⟩,loops:=[(3,in20003)],views:=[],joins:=[] }
def in20015:LoopInfo:=⟨20015,⟨[.box .own (.arr .u8 8),.row .own (.int .i64)],[(1,.w (.c (.int .i64))),(2,.w (.c (.ptr 0))),(5,.w (.c (.sl 1))),(6,.w (.c (.int .i64)))]⟩,[(.exit 0,⟨[.row .own (.int .i64)],[(5,.w (.c (.sl 0)))]⟩)]⟩
def fd64:FD:={ id:=64,fn:=Go.Proofs.Tryz.f64,sig:=⟨[.ro (.arr .u8 8),.ro (.int .i64)],[(.own,false,.slice (.int .i64))]⟩,loops:=[(3,in20015)],views:=[],joins:=[] }
def in20014:LoopInfo:=⟨20014,⟨[.box .own (.arr .u8 8),.row .own (.int .i64)],[(0,.w (.c (.int .i64))),(3,.w (.c (.ptr 0))),(5,.w (.c (.sl 1)))]⟩,[(.ret,⟨[.row .own (.int .i64)],[(4,.w (.c (.sl 0)))]⟩)]⟩
def fd39:FD:={ id:=39,fn:=Go.Proofs.Tryz.f39,sig:=⟨[.ro (.int .i64),.ro (.arr .u8 8)],[(.own,false,.slice (.int .i64))]⟩,loops:=[(2,in20014)],views:=[],joins:=[] }
def in20016:LoopInfo:=⟨20016,⟨[.box .own (.st [.int .i64,.int .i64,.sl 1]),.row .ro (.arr .u8 8),.row .own (.int .i64),.row .own (.int .i64)],[(1,.w (.c (.ptr 0))),(3,.w (.c (.sl 2))),(4,.w (.c (.sl 3))),(5,.w (.c (.int .i64)))]⟩,[(.exit 0,⟨[.box .own (.st [.int .i64,.int .i64,.sl 1]),.row .ro (.arr .u8 8),.row .own (.int .i64),.row .own (.int .i64)],[(1,.w (.c (.ptr 0))),(3,.w (.c (.sl 2))),(4,.w (.c (.sl 3)))]⟩)]⟩
def in20017:LoopInfo:=⟨20017,⟨[.box .own (.st [.int .i64,.int .i64,.sl 1]),.row .ro (.arr .u8 8),.row .own (.int .i64),.row .own (.int .i64)],[(1,.w (.c (.ptr 0))),(3,.w (.c (.sl 2))),(4,.w (.c (.sl 3))),(6,.w (.c (.int .i64)))]⟩,[(.exit 2,⟨[.box .own (.st [.int .i64,.int .i64,.sl 1]),.row .ro (.arr .u8 8),.row .own (.int .i64)],[(1,.w (.c (.ptr 0))),(4,.w (.c (.sl 2)))]⟩)]⟩
def in20018:LoopInfo:=⟨20018,⟨[.box .own (.st [.int .i64,.int .i64,.sl 1]),.row .ro (.arr .u8 8),.row .own (.int .i64),.row .own (.int .i64)],[(1,.w (.c (.ptr 0))),(3,.w (.c (.sl 2))),(4,.w (.c (.sl 3))),(6,.w (.c (.int .i64))),(7,.w (.c (.int .i64)))]⟩,[(.exit 4,⟨[.box .own (.st [.int .i64,.int .i64,.sl 1]),.row .ro (.arr .u8 8),.row .own (.int .i64),.row .own (.int .i64)],[(1,.w (.c (.ptr 0))),(3,.w (.c (.sl 2))),(4,.w (.c (.sl 3))),(6,.w (.c (.int .i64)))]⟩)]⟩
def in20019:LoopInfo:=⟨20019,⟨[.box .own (.st [.int .i64,.int .i64,.sl 1]),.row .ro (.arr .u8 8),.row .own (.int .i64)],[(1,.w (.c (.ptr 0))),(4,.w (.c (.sl 2))),(8,.w (.c (.int .i64)))]⟩,[(.exit 6,⟨[.row .own (.int .i64)],[(4,.w (.c (.sl 0)))]⟩)]⟩
def fd19:FD:={ id:=19,fn:=Go.Proofs.Tryz.f19,sig:=⟨[.ro (tyN_)],[(.own,false,.slice (.int .i64))]⟩,loops:=[(3,in20016),(7,in20017),(10,in20018),(14,in20019)],views:=[],joins:=[] }
def fd5:FD:={ id:=5,fn:=Go.Proofs.Tryz.f5,sig:=⟨[.ro (.slice (.int .u8))],[(.ro,false,tyB_),(.ro,false,tyB_)]⟩,loops:=[],views:=[],joins:=[] }
def fd61:FD:={ id:=61,fn:=Go.Proofs.Tryz.f61,sig:=⟨[.ro (.int .i64),.ro (.int .i64),.ro (.int .i64)],[(.own,false,.bool)]⟩,loops:=[],views:=[],joins:=[] }
def fd43:FD:={ id:=43,fn:=Go.Proofs.Tryz.f43,sig:=⟨[.ro (.int .i64)],[(.own,false,.bool)]⟩,loops:=[],views:=[],joins:=[] }
def fd44:FD:={ id:=44,fn:=Go.Proofs.Tryz.f44,sig:=⟨[.ro (.int .i64),.ro (.int .i64)],[(.own,false,.bool)]⟩,loops:=[],views:=[],joins:=[] }
def in20020:LoopInfo:=⟨20020,⟨[.box .own (.st [.int .i64,.sl 1]),.row .ro (.int .i64)],[(1,.w (.c (.ptr 0))),(16,.w (.c (.sl 1))),(17,.w (.c (.int .i64))),(18,.w (.c (.int .i64)))]⟩,[(.exit 0,⟨[],[]⟩),(.ret,⟨[],[(2,.w (.c (.bool)))]⟩)]⟩
def fd22:FD:={ id:=22,fn:=Go.Proofs.Tryz.f22,sig:=⟨[.ro (tyB_)],[(.own,false,.bool)]⟩,loops:=[(4,in20020)],views:=[],joins:=[] }
def in20022:LoopInfo:=⟨20022,⟨[.box .own (.arr .u8 8),.box .own (.arr .u8 8)],[(2,.w (.c (.ptr 0))),(3,.w (.c (.ptr 1))),(6,.w (.c (.int .i64))),(7,.w (.c (.int .i64)))]⟩,[(.exit 0,⟨[.box .own (.arr .u8 8),.box .own (.arr .u8 8)],[(2,.w (.c (.ptr 0))),(3,.w (.c (.ptr 1)))]⟩)]⟩
def fd70:FD:={ id:=70,fn:=Go.Proofs.Tryz.f70,sig:=⟨[.ro (.int .i64)],[(.own,false,.arr .u8 8)]⟩,loops:=[(3,in20022)],views:=[],joins:=[] }
def fd47:FD:={ id:=47,fn:=Go.Proofs.Tryz.f47,sig:=⟨[.ro (.int .i64),.ro (.int .i64)],[(.own,false,.arr .u8 8)]⟩,loops:=[],views:=[],joins:=[] }
def in20024:LoopInfo:=⟨20024,⟨[.box .own (.arr .u8 8),.box .own (.arr .u8 8),.box .own (.arr .u8 8)],[(2,.w (.c (.ptr 0))),(4,.w (.c (.ptr 1))),(5,.w (.c (.ptr 2))),(8,.w (.c (.int .i64))),(9,.w (.c (.int .i64)))]⟩,[(.exit 0,⟨[.box .own (.arr .u8 8),.box .own (.arr .u8 8)],[(4,.w (.c (.ptr 0))),(5,.w (.c (.ptr 1)))]⟩)]⟩
def fd74:FD:={ id:=74,fn:=Go.Proofs.Tryz.f74,sig:=⟨[.ro (.arr .u8 8),.ro (.int .i64)],[(.own,false,.arr .u8 8)]⟩,loops:=[(3,in20024)],views:=[],joins:=[] }
def in20025:LoopInfo:=⟨20025,⟨[.box .own (.arr .u8 8),.box .own (.arr .u8 8)],[(0,.w (.c (.int .i64))),(2,.w (.c (.ptr 0))),(3,.w (.c (.ptr 1))),(6,.w (.c (.int .i64))),(7,.w (.c (.int .i64)))]⟩,[(.exit 0,⟨[.box .own (.arr .u8 8),.box .own (.arr .u8 8)],[(2,.w (.c (.ptr 0))),(3,.w (.c (.ptr 1)))]⟩)]⟩
def fd75:FD:={ id:=75,fn:=Go.Proofs.Tryz.f75,sig:=⟨[.ro (.int .i64)],[(.own,false,.arr .u8 8)]⟩,loops:=[(3,in20025)],views:=[],joins:=[] }
def in20026:LoopInfo:=⟨20026,⟨[.box .own (.arr .u8 8),.box .own (.arr .u8 8),.box .own (.arr .u8 8),.box .own (.arr .u8 8)],[(3,.w (.c (.ptr 0))),(4,.w (.c (.ptr 1))),(6,.w (.c (.ptr 2))),(7,.w (.c (.ptr 3))),(10,.w (.c (.int .i64))),(11,.w (.c (.int .i64)))]⟩,[(.exit 0,⟨[.box .own (.arr .u8 8),.box .own (.arr .u8 8)],[(6,.w (.c (.ptr 0))),(7,.w (.c (.ptr 1)))]⟩)]⟩
def fd73:FD:={ id:=73,fn:=Go.Proofs.Tryz.f73,sig:=⟨[.ro (.arr .u8 8),.ro (.arr .u8 8),.ro (.int .i64)],[(.own,false,.arr .u8 8)]⟩,loops:=[(3,in20026)],views:=[],joins:=[] }
def fd72:FD:={ id:=72,fn:=Go.Proofs.Tryz.f72,sig:=⟨[.ro (.arr .u8 8),.ro (.int .i64)],[(.own,false,.arr .u8 8)]⟩,loops:=[],views:=[],joins:=[] }
def in20027:LoopInfo:=⟨20027,⟨[.box .own (.arr .u8 8)],[(2,.w (.c (.ptr 0))),(5,.w (.c (.int .u64))),(8,.w (.c (.int .i64))),(9,.w (.c (.int .i64)))]⟩,[(.exit 0,⟨[],[(5,.w (.c (.int .u64)))]⟩)]⟩
def in20028:LoopInfo:=⟨20028,⟨[.box .own (.arr .u8 8)],[(2,.w (.c (.ptr 0))),(5,.w (.c (.int .u64))),(6,.w (.c (.int .i64))),(8,.w (.c (.int .i64))),(9,.w (.c (.int .i64))),(12,.w (.c (.int .i64))),(13,.w (.c (.int .i64)))]⟩,[(.exit 2,⟨[.box .own (.arr .u8 8)],[(2,.w (.c (.ptr 0))),(5,.w (.c (.int .u64))),(8,.w (.c (.int .i64))),(9,.w (.c (.int .i64)))]⟩)]⟩
def fd93:FD:={ id:=93,fn:=Go.Proofs.Tryz.f93,sig:=⟨[.ro (.arr .u8 8),.ro (.int .i64)],[(.own,false,.int .u64)]⟩,loops:=[(3,in20027),(6,in20028)],views:=[],joins:=[] }
def in20029:LoopInfo:=⟨20029,⟨[.box .own (.arr .u8 8),.box .own (.arr .u8 8)],[(2,.w (.c (.int .i64))),(6,.w (.c (.ptr 0))),(7,.w (.c (.int .u64))),(8,.w (.c (.ptr 1))),(9,.w (.c (.bool)))]⟩,[(.exit 0,⟨[.box .own (.arr .u8 8),.box .own (.arr .u8 8)],[(2,.w (.c (.int .i64))),(6,.w (.c (.ptr 0))),(8,.w (.c (.ptr 1)))]⟩)]⟩
def in20030:LoopInfo:=⟨20030,⟨[.box .own (.arr .u8 8),.box .own (.arr .u8 8)],[(2,.w (.c (.int .i64))),(6,.w (.c (.ptr 0))),(7,.w (.c (.int .u64))),(8,.w (.c (.ptr 1))),(9,.w (.c (.bool))),(10,.w (.c (.int .i64)))]⟩,[(.exit 2,⟨[.box .own (.arr .u8 8),.box .own (.arr .u8 8)],[(2,.w (.c (.int .i64))),(6,.w (.c (.ptr 0))),(7,.w (.c (.int .u64))),(8,.w (.c (.ptr 1))),(9,.w (.c (.bool)))]⟩)]⟩
def fd71:FD:={ id:=71,fn:=Go.Proofs.Tryz.f71,sig:=⟨[.ro (.arr .u8 8),.ro (.arr .u8 8),.ro (.int .i64)],[(.own,false,.arr .u8 8)]⟩,loops:=[(4,in20029),(7,in20030)],views:=[],joins:=[] }
def in20023:LoopInfo:=⟨20023,⟨[.box .own (.st [.int .i64,.int .i64,.sl 1]),.row .own (.arr .u8 8)],[(0,.w (.c (.ptr 0))),(4,.w (.c (.int .i64))),(5,.w (.c (.int .i64)))]⟩,[(.exit 0,⟨[.box .own (.st [.int .i64,.int .i64,.sl 1]),.row .own (.arr .u8 8)],[(0,.w (.c (.ptr 0))),(4,.w (.c (.int .i64)))]⟩)]⟩
def in20031:LoopInfo:=⟨20031,⟨[.box .own (.st [.int .i64,.int .i64,.sl 1]),.row .own (.arr .u8 8)],[(0,.w (.c (.ptr 0))),(4,.w (.c (.int .i64)))]⟩,[(.exit 2,⟨[.box .own (.st [.int .i64,.int .i64,.sl 1]),.row .own (.arr .u8 8)],[(0,.w (.c (.ptr 0))),(4,.w (.c (.int .i64)))]⟩)]⟩
def in20032:LoopInfo:=⟨20032,⟨[.box .own (.st [.int .i64,.int .i64,.sl 1]),.row .own (.arr .u8 8)],[(0,.w (.c (.ptr 0))),(4,.w (.c (.int .i64)))]⟩,[(.exit 4,⟨[.box .own (.st [.int .i64,.int .i64,.sl 1]),.row .own (.arr .u8 8)],[(0,.w (.c (.ptr 0)))]⟩)]⟩
def fd46:FD:={ id:=46,fn:=Go.Proofs.Tryz.f46,sig:=⟨[.box (tyN_),.ro (.arr .u8 8)],[]⟩,loops:=[(5,in20023),(11,in20031),(14,in20032)],views:=[],joins:=[] }
def fd94:FD:={ id:=94,fn:=Go.Proofs.Tryz.f94,sig:=⟨[.ro (.arr .u8 8),.ro (.int .i64)],[(.own,false,.arr .u8 8)]⟩,loops:=[],views:=[],joins:=[] }
def in20033:LoopInfo:=⟨20033,⟨[.box .own (.st [.int .i64,.int .i64,.sl 1]),.row .own (.arr .u8 8)],[(0,.w (.c (.ptr 0))),(25,.w (.c (.sl 1))),(26,.w (.c (.int .i64))),(27,.w (.c (.int .i64)))]⟩,[(.exit 0,⟨[.box .own (.st [.int .i64,.int .i64,.sl 1]),.row .own (.arr .u8 8)],[(0,.w (.c (.ptr 0)))]⟩)]⟩
def fd76:FD:={ id:=76,fn:=Go.Proofs.Tryz.f76,sig:=⟨[.box (tyN_),.ro (.int .i64)],[]⟩,loops:=[(4,in20033)],views:=[],joins:=[] }
def fd77:FD:={ id:=77,fn:=Go.Proofs.Tryz.f77,sig:=⟨[.ro (.arr .u8 8),.ro (.int .i64)],[(.own,false,.arr .u8 8)]⟩,loops:=[],views:=[],joins:=[] }
def fd48:FD:={ id:=48,fn:=Go.Proofs.Tryz.f48,sig:=⟨[.box (tyN_),.ro (.arr .u8 8)],[]⟩,loops:=[],views:=[],joins:=[] }
def in20021:LoopInfo:=⟨20021,⟨[.box .own (.st [.int .i64,.sl 1]),.row .ro (.int .i64),.box .own (.st [.int .i64,.int .i64,.sl 3]),.row .own (.arr .u8 8),.box .own (.st [.int .i64,.int .i64,.sl 5]),.row .own (.arr .u8 8)],[(1,.w (.c (.ptr 0))),(2,.w (.c (.ptr 2))),(3,.w (.c (.ptr 4))),(10,.w (.c (.sl 1))),(11,.w (.c (.int .i64))),(12,.w (.c (.int .i64)))]⟩,[(.exit 0,⟨[.box .own (.st [.int .i64,.int .i64,.sl 1]),.row .own (.arr .u8 8),.box .own (.st [.int .i64,.int .i64,.sl 3]),.row .own (.arr .u8 8)],[(2,.w (.c (.ptr 0))),(3,.w (.c (.ptr 2)))]⟩)]⟩
def fd24:FD:={ id:=24,fn:=Go.Proofs.Tryz.f24,sig:=⟨[.ro (tyB_)],[(.own,false,tyN_)]⟩,loops:=[(3,in20021)],views:=[],joins:=[] }
def in20034:LoopInfo:=⟨20034,⟨[.row .ro (.arr .u8 8),.row .ro (.arr .u8 8)],[(0,.w (.c (.sl 0))),(1,.w (.c (.sl 1))),(12,.w (.c (.int .i64))),(13,.w (.c (.int .i64)))]⟩,[(.exit 0,⟨[],[]⟩),(.ret,⟨[],[(4,.w (.c (.bool)))]⟩)]⟩
def fd45:FD:={ id:=45,fn:=Go.Proofs.Tryz.f45,sig:=⟨[.ro tyF_,.ro tyF_],[(.own,false,.bool)]⟩,loops:=[(4,in20034)],views:=[],joins:=[] }
def fd23:FD:={ id:=23,fn:=Go.Proofs.Tryz.f23,sig:=⟨[.ro (tyN_),.ro (tyN_)],[(.own,false,.bool)]⟩,loops:=[],views:=[],joins:=[] }
def fd6:FD:={ id:=6,fn:=Go.Proofs.Tryz.f6,sig:=⟨[.ro (tyB_),.ro (tyB_)],[(.own,false,.bool),(.own,false,.int .i64)]⟩,loops:=[],views:=[],joins:=[] }
def in20035:LoopInfo:=⟨20035,⟨[.box .own (.st [.int .i64,.int .i64,.sl 1]),.row .ro (.arr .u8 8),.box .own (.st [.int .i64,.int .i64,.sl 3]),.row .ro (.arr .u8 8)],[(2,.w (.c (.ptr 0))),(3,.w (.c (.ptr 2))),(5,.w (.c (.int .i64)))]⟩,[(.exit 0,⟨[],[]⟩),(.ret,⟨[],[(4,.w (.c (.bool)))]⟩)]⟩
def fd49:FD:={ id:=49,fn:=Go.Proofs.Tryz.f49,sig:=⟨[.ro (tyN_),.ro (tyN_)],[(.own,false,.bool)]⟩,loops:=[(4,in20035)],views:=[],joins:=[] }
def fd25:FD:={ id:=25,fn:=Go.Proofs.Tryz.f25,sig:=⟨[.ro (.int .i64),.ro tyW_,.ro tyW_],[(.own,false,.bool)]⟩,loops:=[],views:=[],joins:=[] }
def fd7:FD:={ id:=7,fn:=Go.Proofs.Tryz.f7,sig:=⟨[.ro (tyB_),.ro (tyB_)],[(.own,false,.bool),(.own,false,.int .i64)]⟩,loops:=[],views:=[],joins:=[] }
def in20036:LoopInfo:=⟨20036,⟨[.box .own (.st [.int .i64,.sl 1]),.row .ro (.int .i64),.box .own (.st [.int .i64,.sl 3]),.row .own (.int .i64),.box .own (.st [.int .i64,.sl 5]),.row .own (.int .i64)],[(1,.w (.c (.ptr 0))),(2,.w (.c (.ptr 2))),(3,.w (.c (.ptr 4))),(4,.w (.c (.int .i64)))]⟩,[(.exit 0,⟨[.box .own (.st [.int .i64,.sl 1]),.row .own (.int .i64),.box .own (.st [.int .i64,.sl 3]),.row .own (.int .i64)],[(2,.w (.c (.ptr 0))),(3,.w (.c (.ptr 2)))]⟩)]⟩
def fd27:FD:={ id:=27,fn:=Go.Proofs.Tryz.f27,sig:=⟨[.ro (tyB_)],[(.own,false,tyB_)]⟩,loops:=[(3,in20036)],views:=[],joins:=[] }
def fd28:FD:={ id:=28,fn:=Go.Proofs.Tryz.f28,sig:=⟨[.ro (.int .i64)],[(.own,false,.int .i64)]⟩,loops:=[],views:=[],joins:=[] }
def in20037:LoopInfo:=⟨20037,⟨[.box .own (.st [.int .i64,.sl 1]),.row .own (.int .i64),.box .own (.st [.int .i64,.sl 3]),.row .own (.int .i64),.row .ro (.int .i64)],[(1,.fn 28 []),(4,.w (.c (.ptr 0))),(5,.w (.c (.ptr 2))),(12,.w (.c (.sl 4))),(13,.w (.c (.int .i64))),(14,.w (.c (.int .i64)))]⟩,[(.exit 0,⟨[.box .own (.st [.int .i64,.sl 1]),.row .own (.int .i64),.box .own (.st [.int .i64,.sl 3]),.row .own (.int .i64)],[(4,.w (.c (.ptr 0))),(5,.w (.c (.ptr 2)))]⟩)]⟩
def fd10000:FD:={ id:=26,fn:=Go.Proofs.Tryz.f26,sig:=⟨[.ro (tyB_),.fn 28 []],[(.own,false,tyB_)]⟩,loops:=[(3,in20037)],views:=[],joins:=[] }
def fd8:FD:={ id:=8,fn:=Go.Proofs.Tryz.f8,sig:=⟨[.ro (tyB_)],[(.own,false,tyB_),(.own,false,.int .i64)]⟩,loops:=[],views:=[],joins:=[] }
def fd29:FD:={ id:=29,fn:=Go.Proofs.Tryz.f29,sig:=⟨[.ro (tyB_),.ro (tyB_)],[(.own,false,tyB_)]⟩,loops:=[],views:=[],joins:=[] }
def fd9:FD:={ id:=9,fn:=Go.Proofs.Tryz.f9,sig:=⟨[.ro (tyB_),.ro (tyB_)],[(.own,false,tyB_),(.own,false,.int .i64)]⟩,loops:=[],views:=[],joins:=[] }
def fd81:FD:={ id:=81,fn:=Go.Proofs.Tryz.f81,sig:=⟨[.ro (.int .i64)],[(.own,false,.int .i64)]⟩,loops:=[],views:=[],joins:=[] }
def in20040:LoopInfo:=⟨20040,⟨[.row .ro (.int .i64)],[(0,.w (.c (.sl 0))),(1,.w (.c (.int .i64))),(6,.w (.c (.int .i64))),(7,.w (.c (.int .i64)))]⟩,[(.exit 0,⟨[],[]⟩),(.ret,⟨[],[(4,.w (.c (.int .i64))),(5,.w (.c (.bool)))]⟩)]⟩
def fd102:FD:={ id:=102,fn:=Go.Proofs.Tryz.f102,sig:=⟨[.ro tyW_,.ro (.int .i64)],[(.own,false,.int .i64),(.own,false,.bool)]⟩,loops:=[(3,in20040)],views:=[],joins:=[] }
def in20039:LoopInfo:=⟨20039,⟨[.row .ro (.int .i64)],[(0,.w (.c (.sl 0))),(9,.w (.c (.int .i64))),(10,.w (.c (.int .i64)))]⟩,[(.exit 0,⟨[],[]⟩),(.ret,⟨[],[(2,.w (.c (.int .i64))),(3,.w (.c (.int .i64))),(4,.w (.c (.bool)))]⟩)]⟩
def fd95:FD:={ id:=95,fn:=Go.Proofs.Tryz.f95,sig:=⟨[.ro tyW_],[(.own,false,.int .i64),(.own,false,.int .i64),(.own,false,.bool)]⟩,loops:=[(2,in20039)],views:=[],joins:=[] }
def fd103:FD:={ id:=103,fn:=Go.Proofs.Tryz.f103,sig:=⟨[.ro (.int .i64)],[(.own,false,.int .i64)]⟩,loops:=[],views:=[],joins:=[] }
def in20041:LoopInfo:=⟨20041,⟨[.row .ro (.int .i64),.row .own (.int .i64),.row .ro (.int .i64)],[(0,.w (.c (.sl 0))),(2,.w (.c (.int .i64))),(7,.w (.c (.int .i64))),(8,.w (.c (.int .i64))),(9,.w (.c (.sl 1))),(34,.w (.c (.sl 2))),(35,.w (.c (.int .i64))),(36,.w (.c (.int .i64)))]⟩,[(.exit 0,⟨[.row .ro (.int .i64),.row .own (.int .i64)],[(0,.w (.c (.sl 0))),(2,.w (.c (.int .i64))),(9,.w (.c (.sl 1)))]⟩)]⟩
def fd96:FD:={ id:=96,fn:=Go.Proofs.Tryz.f96,sig:=⟨[.ro tyW_,.ro (.int .i64),.ro (.int .i64)],[(.own,false,.slice (.int .i64))]⟩,loops:=[(5,in20041)],views:=[],joins:=[] }
def in20038:LoopInfo:=⟨20038,⟨[.row .ro (.int .i64)],[(0,.w (.c (.sl 0))),(4,.w (.c (.int .i64)))]⟩,[(.ret,⟨[.row .ro (.int .i64)],[(2,.w (.c (.sl 0))),(3,.w (.c (.int .i64)))]⟩)]⟩
def fd78:FD:={ id:=78,fn:=Go.Proofs.Tryz.f78,sig:=⟨[.ro tyW_],[(.ro,false,.slice (.int .i64)),(.own,false,.int .i64)]⟩,loops:=[(3,in20038)],views:=[],joins:=[] }
def in20042:LoopInfo:=⟨20042,⟨[.row .ro (.int .i64)],[(3,.w (.c (.int .i64))),(4,.w (.c (.bool))),(7,.w (.c (.sl 0))),(8,.w (.c (.int .i64))),(9,.w (.c (.int .i64)))]⟩,[(.exit 0,⟨[],[(3,.w (.c (.int .i64))),(4,.w (.c (.bool)))]⟩)]⟩
def fd79:FD:={ id:=79,fn:=Go.Proofs.Tryz.f79,sig:=⟨[.ro tyW_],[(.own,false,.int .i64)]⟩,loops:=[(3,in20042)],views:=[],joins:=[] }
def fd50:FD:={ id:=50,fn:=Go.Proofs.Tryz.f50,sig:=⟨[.ro tyW_],[(.own,false,.int .i64),(.own,false,.int .i64)]⟩,loops:=[],views:=[],joins:=[] }
def fd30:FD:={ id:=30,fn:=Go.Proofs.Tryz.f30,sig:=⟨[.ro (tyB_)],[(.own,false,.int .i64),(.own,false,.int .i64)]⟩,loops:=[],views:=[],joins:=[] }
def fd10:FD:={ id:=10,fn:=Go.Proofs.Tryz.f10,sig:=⟨[.ro (tyB_)],[(.own,false,.bool),(.own,false,.int .i64)]⟩,loops:=[],views:=[],joins:=[] }
def in20044:LoopInfo:=⟨20044,⟨[.row .ro (.int .u8),.box .own (.st [.sl 0,.int .i64,.int .u64])],[(0,.w (.c (.sl 0))),(5,.w (.c (.ptr 1))),(6,.w (.c (.int .i64)))]⟩,[(.exit 0,⟨[.box .own (.st [.sl 1,.int .i64,.int .u64]),.row .ro (.int .u8)],[(5,.w (.c (.ptr 0)))]⟩)]⟩
def fd12:FD:={ id:=12,fn:=Go.Proofs.Tryz.f12,sig:=⟨[.ro (.slice (.int .u8)),.ro (.int .u64)],[(.ro,true,.pair (.slice (.int .u8)) (.pair (.int .i64) (.int .u64)))]⟩,loops:=[(3,in20044)],views:=[],joins:=[] }
def fd31:FD:={ id:=31,fn:=Go.Proofs.Tryz.f31,sig:=⟨[.boxr (.pair (.slice (.int .u8)) (.pair (.int .i64) (.int .u64))),.ro (.int .i64)],[(.own,false,.int .i64)]⟩,loops:=[],views:=[],joins:=[] }
def in20045:LoopInfo:=⟨20045,⟨[.box .own (.st [.sl 1,.int .i64,.int .u64]),.row .ro (.int .u8),.row .own (.int .i64)],[(0,.w (.c (.ptr 0))),(1,.w (.c (.int .i64))),(2,.w (.c (.int .i64))),(7,.w (.c (.sl 2)))]⟩,[(.exit 0,⟨[.box .own (.st [.sl 1,.int .i64,.int .u64]),.row .ro (.int .u8),.row .own (.int .i64)],[(0,.w (.c (.ptr 0))),(7,.w (.c (.sl 2)))]⟩)]⟩
def fd11:FD:={ id:=11,fn:=Go.Proofs.Tryz.f11,sig:=⟨[.boxr (.pair (.slice (.int .u8)) (.pair (.int .i64) (.int .u64))),.ro (.int .i64),.ro (.int .i64)],[(.own,false,.slice (.int .i64))]⟩,loops:=[(2,in20045)],views:=[],joins:=[] }
def fd32:FD:={ id:=32,fn:=Go.Proofs.Tryz.f32,sig:=⟨[.ro (tyB_)],[(.own,false,.int .i64)]⟩,loops:=[],views:=[],joins:=[] }
def fd33:FD:={ id:=33,fn:=Go.Proofs.Tryz.f33,sig:=⟨[.ro (tyB_)],[(.ro,false,.pair (.int .i64) (.slice (.arr .u64 4)))]⟩,loops:=[],views:=[],joins:=[] }
def fd87:FD:={ id:=87,fn:=Go.Proofs.Tryz.f87,sig:=⟨[.ro (.int .i64)],[(.own,false,.arr .u64 4)]⟩,loops:=[],views:=[],joins:=[] }
def fd60:FD:={ id:=60,fn:=Go.Proofs.Tryz.f60,sig:=⟨[.ro (.arr .u64 4)],[(.own,false,.int .i64),(.own,false,.bool)]⟩,loops:=[],views:=[],joins:=[] }
def fd89:FD:={ id:=89,fn:=Go.Proofs.Tryz.f89,sig:=⟨[.ro (.int .i64)],[(.own,false,.bool)]⟩,loops:=[],views:=[],joins:=[] }
def in20047:LoopInfo:=⟨20047,⟨[.row .ro (.int .i64)],[(0,.w (.c (.sl 0))),(1,.fn 89 []),(7,.w (.c (.int .i64))),(8,.w (.c (.int .i64)))]⟩,[(.exit 0,⟨[],[]⟩),(.ret,⟨[],[(4,.w (.c (.int .i64)))]⟩)]⟩
def fd10002:FD:={ id:=99,fn:=Go.Proofs.Tryz.f99,sig:=⟨[.ro tyW_,.fn 89 []],[(.own,false,.int .i64)]⟩,loops:=[(2,in20047)],views:=[],joins:=[] }
def fd10001:FD:={ id:=88,fn:=Go.Proofs.Tryz.f88,sig:=⟨[.ro tyW_,.fn 89 []],[(.own,false,.bool)]⟩,loops:=[],views:=[],joins:=[] }
def fd62:FD:={ id:=62,fn:=Go.Proofs.Tryz.f62,sig:=⟨[.ro (tyB_)],[(.own,false,.bool)]⟩,loops:=[],views:=[],joins:=[] }
def in20046:LoopInfo:=⟨20046,⟨[.box .own (.st [.int .i64,.sl 1]),.row .own (.int .i64),.box .own (.st [.int .i64,.sl 3]),.row .own (.int .i64),.row .ro (.arr .u64 4)],[(2,.w (.c (.ptr 0))),(4,.w (.c (.ptr 2))),(13,.w (.c (.sl 4))),(14,.w (.c (.int .i64))),(15,.w (.c (.int .i64)))]⟩,[(.exit 0,⟨[.box .own (.st [.int .i64,.sl 1]),.row .own (.int .i64),.box .own (.st [.int .i64,.sl 3]),.row .own (.int .i64)],[(2,.w (.c (.ptr 0))),(4,.w (.c (.ptr 2)))]⟩),(.ret,⟨[.box .own (.st [.int .i64,.sl 1]),.row .own (.int .i64)],[(2,.w (.c (.ptr 0))),(3,.w (.c (.int .i64)))]⟩)]⟩
def fd34:FD:={ id:=34,fn:=Go.Proofs.Tryz.f34,sig:=⟨[.ro (.pair (.int .i64) (.slice (.arr .u64 4)))],[(.own,false,tyB_),(.own,false,.int .i64)]⟩,loops:=[(3,in20046)],views:=[],joins:=[] }
def fd13:FD:={ id:=13,fn:=Go.Proofs.Tryz.f13,sig:=⟨[.ro (tyB_)],[(.own,false,tyB_),(.own,false,.int .i64)]⟩,loops:=[],views:=[],joins:=[] }
def in20048:LoopInfo:=⟨20048,⟨[.row .ro (.int .i64),.row .ro (.int .i64)],[(0,.w (.c (.sl 0))),(1,.w (.c (.sl 1))),(5,.w (.c (.int .i64)))]⟩,[(.exit 0,⟨[],[]⟩),(.ret,⟨[],[(4,.w (.c (.bool)))]⟩)]⟩
def fd14:FD:={ id:=14,fn:=Go.Proofs.Tryz.f14,sig:=⟨[.ro tyW_,.ro tyW_],[(.own,false,.bool)]⟩,loops:=[(4,in20048)],views:=[],joins:=[] }
def in20043:LoopInfo:=⟨20043,⟨[.row .ro (.int .u8),.box .own (.st [.int .i64,.sl 2]),.row .ro (.int .i64)],[(0,.w (.c (.sl 0))),(3,.w (.c (.ptr 1)))]⟩,[(.ret,⟨[],[(2,.w (.c (.bool)))]⟩)]⟩
def fd3:FD:={ id:=3,fn:=Go.Proofs.Tryz.f3,sig:=⟨[.ro (.slice (.int .u8))],[(.own,false,.bool)]⟩,loops:=[],views:=[],joins:=[(18,in20043)] }
def fdTab:List (Nat×FD):=[(4,fd4),(15,fd15),(18,fd18),(35,fd35),(21,fd21),(63,fd63),(36,fd36),(37,fd37),(16,fd16),(38,fd38),(17,fd17),(69,fd69),(42,fd42),(40,fd40),(65,fd65),(91,fd91),(67,fd67),(92,fd92),(68,fd68),(101,fd101),(100,fd100),(90,fd90),(66,fd66),(41,fd41),(20,fd20),(64,fd64),(39,fd39),(19,fd19),(5,fd5),(61,fd61),(43,fd43),(44,fd44),(22,fd22),(70,fd70),(47,fd47),(74,fd74),(75,fd75),(73,fd73),(72,fd72),(93,fd93),(71,fd71),(46,fd46),(94,fd94),(76,fd76),(77,fd77),(48,fd48),(24,fd24),(45,fd45),(23,fd23),(6,fd6),(49,fd49),(25,fd25),(7,fd7),(27,fd27),(28,fd28),(10000,fd10000),(8,fd8),(29,fd29),(9,fd9),(81,fd81),(102,fd102),(95,fd95),(103,fd103),(96,fd96),(78,fd78),(79,fd79),(50,fd50),(30,fd30),(10,fd10),(12,fd12),(31,fd31),(11,fd11),(32,fd32),(33,fd33),(87,fd87),(60,fd60),(89,fd89),(10002,fd10002),(10001,fd10001),(62,fd62),(34,fd34),(13,fd13),(14,fd14),(3,fd3)]
def ldTab:List (Nat×LD):=[(20000,⟨15,3,in20000,false⟩),(20001,⟨21,6,in20001,false⟩),(20002,⟨17,4,in20002,false⟩),(20004,⟨69,3,in20004,false⟩),(20006,⟨40,3,in20006,false⟩),(20007,⟨65,3,in20007,false⟩),(20005,⟨67,3,in20005,false⟩),(20008,⟨92,3,in20008,false⟩),(20011,⟨100,3,in20011,false⟩),(20009,⟨90,3,in20009,false⟩),(20010,⟨90,6,in20010,false⟩),(20012,⟨66,4,in20012,false⟩),(20013,⟨66,7,in20013,false⟩),(20003,⟨20,3,in20003,false⟩),(20015,⟨64,3,in20015,false⟩),(20014,⟨39,2,in20014,false⟩),(20016,⟨19,3,in20016,false⟩),(20017,⟨19,7,in20017,false⟩),(20018,⟨19,10,in20018,false⟩),(20019,⟨19,14,in20019,false⟩),(20020,⟨22,4,in20020,false⟩),(20022,⟨70,3,in20022,false⟩),(20024,⟨74,3,in20024,false⟩),(20025,⟨75,3,in20025,false⟩),(20026,⟨73,3,in20026,false⟩),(20027,⟨93,3,in20027,false⟩),(20028,⟨93,6,in20028,false⟩),(20029,⟨71,4,in20029,false⟩),(20030,⟨71,7,in20030,false⟩),(20023,⟨46,5,in20023,false⟩),(20031,⟨46,11,in20031,false⟩),(20032,⟨46,14,in20032,false⟩),(20033,⟨76,4,in20033,false⟩),(20021,⟨24,3,in20021,false⟩),(20034,⟨45,4,in20034,false⟩),(20035,⟨49,4,in20035,false⟩),(20036,⟨27,3,in20036,false⟩),(20037,⟨10000,3,in20037,false⟩),(20040,⟨102,3,in20040,false⟩),(20039,⟨95,2,in20039,false⟩),(20041,⟨96,5,in20041,false⟩),(20038,⟨78,3,in20038,false⟩),(20042,⟨79,3,in20042,false⟩),(20044,⟨12,3,in20044,false⟩),(20045,⟨11,2,in20045,false⟩),(20047,⟨10002,2,in20047,false⟩),(20046,⟨34,3,in20046,false⟩),(20048,⟨14,4,in20048,false⟩),(20043,⟨3,18,in20043,true⟩)]
def extTab:List (Nat×ExtK):=[(33,.val Go.Ev.YtlkmkabnbegfdaaGreatP.alexF)]
def pickTab:List ((FuncId×List FuncId)×Nat):=[((26,[28]),10000),((88,[89]),10001),((99,[89]),10002)]
def pick (f:FuncId):List FuncId→Nat
  | []=>f
  | l=>(pickTab.lookup (f,l)).getD 0
def primTab:List (FuncId×PrimK):=[]
def E:Env:=⟨[9,10,11],fun T=>tyTab.lookup T,pick,fun f=>fdTab.lookup f,fun f=>ldTab.lookup f,fun f=>extTab.lookup f,fun f=>primTab.lookup f⟩
def R:Oracle:=ev E
theorem go_ {f:Nat}{l:List TV}{b:Oracle→Option (List TV)}(e:∀ c,run1 E c f l=b c) {o:List TV}(h:b R=some o):R f l=some o:=zQK ((e R).trans h)
theorem R_ev (f:Nat) (l:List TV):R f l=ev E f l:=rfl
def zP8:Nat:=4
def zFu:Nat:=15
def zBa:Nat:=20000
def zW:Nat:=18
def jl:Nat:=35
def jP:Nat:=21
def zO:Nat:=20001
def zHh:Nat:=63
def zBb:Nat:=36
def zA9:Nat:=37
def jI:Nat:=16
def zFG:Nat:=38
def zAc:Nat:=17
def zCD:Nat:=20002
def zAt:Nat:=69
def zBX:Nat:=20004
def kj:Nat:=42
def jk:Nat:=40
def zBY:Nat:=20006
def kG:Nat:=65
def zBW:Nat:=20007
def zFr:Nat:=91
def zDD:Nat:=67
def jC:Nat:=20005
def zCC:Nat:=92
def zBZ:Nat:=20008
def zFt:Nat:=68
def zAP:Nat:=101
def zFs:Nat:=100
def jO:Nat:=20011
def zEM:Nat:=90
def kJ:Nat:=20009
def kd:Nat:=20010
def zDc:Nat:=66
def zAC:Nat:=20012
def zAB:Nat:=20013
def zA8:Nat:=41
def zFF:Nat:=20
def zAs:Nat:=20003
def zDE:Nat:=64
def jD:Nat:=20015
def zDd:Nat:=39
def zBV:Nat:=20014
def zFp:Nat:=19
def zBT:Nat:=20016
def zBS:Nat:=20017
def zAb:Nat:=20018
def zAa:Nat:=20019
def zAQ:Nat:=5
def kh:Nat:=61
def zFw:Nat:=43
def zER:Nat:=44
def kx:Nat:=22
def zBe:Nat:=20020
def jm:Nat:=70
def zBc:Nat:=20022
def zCe:Nat:=47
def zCG:Nat:=74
def zCi:Nat:=20024
def jK:Nat:=75
def zAf:Nat:=20025
def zDH:Nat:=73
def zFI:Nat:=20026
def zCg:Nat:=72
def zCf:Nat:=93
def zAg:Nat:=20027
def jZ:Nat:=20028
def zL3:Nat:=71
def zFJ:Nat:=20029
def zCF:Nat:=20030
def i__i_Normal__put:Nat:=46
def i__i_Normal__put_5:Nat:=20023
def i__i_Normal__put_11:Nat:=20031
def i__i_Normal__put_14:Nat:=20032
def zL2:Nat:=94
def i__i_Normal__turnBy:Nat:=76
def i__i_Normal__turnBy_4:Nat:=20033
def jn:Nat:=77
def i__i_Normal__putInverse:Nat:=48
def zCc:Nat:=24
def kw:Nat:=20021
def zy:Nat:=45
def zY:Nat:=20034
def zCb:Nat:=23
def zDK:Nat:=6
def zFq:Nat:=49
def zBU:Nat:=20035
def zEN:Nat:=25
def zDF:Nat:=7
def zEO:Nat:=27
def zAd:Nat:=20036
def zEP:Nat:=28
def zEQ:Nat:=10000
def zAe:Nat:=20037
def zBf:Nat:=8
def zHl:Nat:=29
def zAF:Nat:=9
def zAR:Nat:=81
def zFx:Nat:=102
def zBd:Nat:=20040
def zB1:Nat:=95
def jG:Nat:=20039
def zJa:Nat:=103
def zFv:Nat:=96
def zAE:Nat:=20041
def zDI:Nat:=78
def jr:Nat:=20038
def zHk:Nat:=79
def jJ:Nat:=20042
def zCd:Nat:=50
def zCj:Nat:=30
def zDL:Nat:=10
def zL0:Nat:=12
def zFE:Nat:=20044
def i__w_dice__below:Nat:=31
def zCa:Nat:=11
def zAZ:Nat:=20045
def zCh:Nat:=32
def zDJ:Nat:=33
def zBB:Nat:=87
def i_i_wide__small:Nat:=60
def zB2:Nat:=89
def kD:Nat:=10002
def zL:Nat:=20047
def zv:Nat:=10001
def zDM:Nat:=62
def i_i_poly__laurent:Nat:=34
def i_i_poly__laurent_3:Nat:=20046
def js:Nat:=13
def zEL:Nat:=14
def zAY:Nat:=20048
def iw_FnReductions:Nat:=3
def kC:Nat:=20043
end
end Go.Ev.YtlkmkabnbegfdaaGreat
