/- What the evaluator knows of this program. -/
import Derived.Test.YteclcmiopobnaaaProg
import Derived.Test.YteclcmiopobnaaaV1
namespace Go.Ev.Yteclcmiopobnaaa
open Go.Ev
@[reducible] noncomputable def tA8 (x : List Int) : TV := ⟨.arr .u8 8, x⟩
@[reducible] noncomputable def gA8 (l : List TV) (i : Nat) : List Int := getTV (.arr .u8 8) l i
@[reducible] noncomputable def tB (x : Bool) : TV := ⟨.bool, x⟩
@[reducible] noncomputable def gB (l : List TV) (i : Nat) : Bool := getTV (.bool) l i
@[reducible] noncomputable def tI (x : Int) : TV := ⟨.int .i64, x⟩
@[reducible] noncomputable def gI (l : List TV) (i : Nat) : Int := getTV (.int .i64) l i
@[reducible] noncomputable def tLA8 (x : List (List Int)) : TV := ⟨.slice (.arr .u8 8), x⟩
@[reducible] noncomputable def gLA8 (l : List TV) (i : Nat) : List (List Int) := getTV (.slice (.arr .u8 8)) l i
@[reducible] noncomputable def tLI (x : List Int) : TV := ⟨.slice (.int .i64), x⟩
@[reducible] noncomputable def gLI (l : List TV) (i : Nat) : List Int := getTV (.slice (.int .i64)) l i
@[reducible] noncomputable def tLU8 (x : List Int) : TV := ⟨.slice (.int .u8), x⟩
@[reducible] noncomputable def gLU8 (l : List TV) (i : Nat) : List Int := getTV (.slice (.int .u8)) l i
@[reducible] noncomputable def tPILI (x : Int × List Int) : TV := ⟨.pair (.int .i64) (.slice (.int .i64)), x⟩
@[reducible] noncomputable def gPILI (l : List TV) (i : Nat) : Int × List Int := getTV (.pair (.int .i64) (.slice (.int .i64))) l i
@[reducible] noncomputable def tPIPILA8 (x : Int × Int × List (List Int)) : TV := ⟨.pair (.int .i64) (.pair (.int .i64) (.slice (.arr .u8 8))), x⟩
@[reducible] noncomputable def gPIPILA8 (l : List TV) (i : Nat) : Int × Int × List (List Int) := getTV (.pair (.int .i64) (.pair (.int .i64) (.slice (.arr .u8 8)))) l i
@[reducible] noncomputable def tPLU8PIU64 (x : List Int × Int × Int) : TV := ⟨.pair (.slice (.int .u8)) (.pair (.int .i64) (.int .u64)), x⟩
@[reducible] noncomputable def gPLU8PIU64 (l : List TV) (i : Nat) : List Int × Int × Int := getTV (.pair (.slice (.int .u8)) (.pair (.int .i64) (.int .u64))) l i
@[reducible] noncomputable def tU64 (x : Int) : TV := ⟨.int .u64, x⟩
@[reducible] noncomputable def gU64 (l : List TV) (i : Nat) : Int := getTV (.int .u64) l i
noncomputable def tyTab : List (Nat × Ty) := [(2, .int .i64), (3, .int .i64), (4, .bool), (5, .int .u8), (6, .int .u8), (7, .pair (.int .i64) (.pair (.int .i64) (.pair (.bool) (.int .u8)))), (8, .pair (.int .i64) (.pair (.int .i64) (.pair (.bool) (.int .u8)))), (12, .int .u64), (21, .int .i32), (22, .slice (.int .u8)), (24, .slice (.int .i64)), (25, .pair (.int .i64) (.slice (.int .i64))), (26, .pair (.int .i64) (.slice (.int .i64))), (45, .int .u64), (47, .slice (.pair (.int .i64) (.slice (.int .i64)))), (51, .slice (.arr .u8 8)), (52, .pair (.int .i64) (.pair (.int .i64) (.slice (.arr .u8 8)))), (53, .pair (.int .i64) (.pair (.int .i64) (.slice (.arr .u8 8)))), (81, .arr .u8 8), (82, .arr .u8 8), (84, .pair (.slice (.int .u8)) (.pair (.int .i64) (.int .u64))), (85, .pair (.slice (.int .u8)) (.pair (.int .i64) (.int .u64))), (89, .slice (.int .i64)), (90, .arr .i64 10), (104, .slice (.arr .u8 8)), (105, .pair (.int .i64) (.pair (.int .i64) (.slice (.arr .u8 8)))), (106, .pair (.int .i64) (.pair (.int .i64) (.slice (.arr .u8 8)))), (109, .pair (.slice (.int .u8)) (.pair (.int .i64) (.int .u64))), (110, .pair (.slice (.int .u8)) (.pair (.int .i64) (.int .u64))), (114, .int .u64), (117, .arr .u8 8), (124, .slice (.slice (.int .i64))), (126, .slice (.int .i64)), (144, .arr .i64 8), (150, .barr 8), (158, .int .u32), (159, .int .u8), (160, .int .u8), (163, .int .i32), (164, .int .i32)]
/-- laws.big -/
noncomputable def fd6 : FD := { id := 6, fn := Go.Proofs.Try.f6, sig := ⟨[.ro (.slice (.int .u8))], [(.own, false, .bool)]⟩, loops := [], views := [], joins := [] }
noncomputable def in20000 : LoopInfo := ⟨20000, ⟨[.row .ro (.int .u8), .box .own (.st [.sl 0, .int .i64, .int .u64])], [(0, .w (.c (.sl 0))), (3, .w (.c (.ptr 1))), (4, .w (.c (.int .i64)))]⟩, [(.exit 0, ⟨[.box .own (.st [.sl 1, .int .i64, .int .u64]), .row .ro (.int .u8)], [(3, .w (.c (.ptr 0)))]⟩)]⟩
/-- spec.l01From -/
noncomputable def fd55 : FD := { id := 55, fn := Go.Proofs.Try.f55, sig := ⟨[.ro (.slice (.int .u8))], [(.ro, true, .pair (.slice (.int .u8)) (.pair (.int .i64) (.int .u64)))]⟩, loops := [(3, in20000)], views := [], joins := [] }
/-- spec.l01Next -/
noncomputable def fd60 : FD := { id := 60, fn := Go.Proofs.Try.f60, sig := ⟨[.boxr (.pair (.slice (.int .u8)) (.pair (.int .i64) (.int .u64))), .ro (.int .i64)], [(.own, false, .int .i64)]⟩, loops := [], views := [], joins := [] }
/-- spec.l01Pick -/
noncomputable def fd61 : FD := { id := 61, fn := Go.Proofs.Try.f61, sig := ⟨[.boxr (.pair (.slice (.int .u8)) (.pair (.int .i64) (.int .u64))), .ro (.slice (.int .i64))], [(.own, false, .int .i64)]⟩, loops := [], views := [], joins := [] }
noncomputable def in20001 : LoopInfo := ⟨20001, ⟨[.box .own (.st [.sl 1, .int .i64, .int .u64]), .row .ro (.int .u8), .row .own (.int .i64)], [(0, .w (.c (.ptr 0))), (1, .w (.c (.int .i64))), (7, .w (.c (.sl 2))), (8, .w (.c (.int .i64))), (9, .w (.c (.int .i64)))]⟩, [(.exit 0, ⟨[.box .own (.st [.sl 1, .int .i64, .int .u64]), .row .ro (.int .u8), .row .own (.int .i64)], [(0, .w (.c (.ptr 0))), (7, .w (.c (.sl 2)))]⟩)]⟩
/-- spec.l01Draw -/
noncomputable def fd82 : FD := { id := 82, fn := Go.Proofs.Try.f82, sig := ⟨[.boxr (.pair (.slice (.int .u8)) (.pair (.int .i64) (.int .u64))), .ro (.int .i64), .ro (.int .i64)], [(.own, false, .slice (.int .i64))]⟩, loops := [(6, in20001)], views := [], joins := [] }
/-- spec.l01Own -/
noncomputable def fd69 : FD := { id := 69, fn := Go.Proofs.Try.f69, sig := ⟨[.ro (.slice (.int .i64))], [(.own, false, .slice (.int .i64))]⟩, loops := [], views := [], joins := [] }
/-- spec.l01Broken -/
noncomputable def fd87 : FD := { id := 87, fn := Go.Proofs.Try.f87, sig := ⟨[.boxr (.pair (.slice (.int .u8)) (.pair (.int .i64) (.int .u64))), .ro (.pair (.int .i64) (.slice (.int .i64)))], [(.ro, false, .pair (.int .i64) (.slice (.int .i64)))]⟩, loops := [], views := [], joins := [] }
/-- spec.l01DrawBraid -/
noncomputable def fd111 : FD := { id := 111, fn := Go.Proofs.Try.f111, sig := ⟨[.boxr (.pair (.slice (.int .u8)) (.pair (.int .i64) (.int .u64)))], [(.own, false, .pair (.int .i64) (.slice (.int .i64)))]⟩, loops := [], views := [], joins := [] }
/-- spec.l01Spoil -/
noncomputable def fd54 : FD := { id := 54, fn := Go.Proofs.Try.f54, sig := ⟨[.boxr (.pair (.slice (.int .u8)) (.pair (.int .i64) (.int .u64)))], [(.ro, false, .pair (.int .i64) (.slice (.int .i64)))]⟩, loops := [], views := [], joins := [] }
/-- spec.DrawFirstHandle -/
noncomputable def fd7 : FD := { id := 7, fn := Go.Proofs.Try.f7, sig := ⟨[.ro (.slice (.int .u8))], [(.ro, false, .pair (.int .i64) (.slice (.int .i64)))]⟩, loops := [], views := [], joins := [] }
/-- impl.within -/
noncomputable def fd97 : FD := { id := 97, fn := Go.Proofs.Try.f97, sig := ⟨[.ro (.int .i64), .ro (.int .i64), .ro (.int .i64)], [(.own, false, .bool)]⟩, loops := [], views := [], joins := [] }
/-- impl.isCount -/
noncomputable def fd96 : FD := { id := 96, fn := Go.Proofs.Try.f96, sig := ⟨[.ro (.int .i64)], [(.own, false, .bool)]⟩, loops := [], views := [], joins := [] }
/-- impl.isLetter -/
noncomputable def fd112 : FD := { id := 112, fn := Go.Proofs.Try.f112, sig := ⟨[.ro (.int .i64), .ro (.int .i64)], [(.own, false, .bool)]⟩, loops := [], views := [], joins := [] }
noncomputable def in20002 : LoopInfo := ⟨20002, ⟨[.box .own (.st [.int .i64, .sl 1]), .row .ro (.int .i64)], [(1, .w (.c (.ptr 0))), (16, .w (.c (.sl 1))), (17, .w (.c (.int .i64))), (18, .w (.c (.int .i64)))]⟩, [(.exit 0, ⟨[], []⟩), (.ret, ⟨[], [(2, .w (.c (.bool)))]⟩)]⟩
/-- impl.IsBraid -/
noncomputable def fd56 : FD := { id := 56, fn := Go.Proofs.Try.f56, sig := ⟨[.ro (.pair (.int .i64) (.slice (.int .i64)))], [(.own, false, .bool)]⟩, loops := [(4, in20002)], views := [], joins := [] }
/-- impl.size -/
noncomputable def fd91 : FD := { id := 91, fn := Go.Proofs.Try.f91, sig := ⟨[.ro (.int .i64)], [(.own, false, .int .i64)]⟩, loops := [], views := [], joins := [] }
noncomputable def in20004 : LoopInfo := ⟨20004, ⟨[.row .ro (.int .i64)], [(0, .w (.c (.sl 0))), (1, .w (.c (.int .i64))), (6, .w (.c (.int .i64))), (7, .w (.c (.int .i64)))]⟩, [(.exit 0, ⟨[], []⟩), (.ret, ⟨[], [(4, .w (.c (.int .i64))), (5, .w (.c (.bool)))]⟩)]⟩
/-- impl.beginOf -/
noncomputable def fd113 : FD := { id := 113, fn := Go.Proofs.Try.f113, sig := ⟨[.ro (.slice (.int .i64)), .ro (.int .i64)], [(.own, false, .int .i64), (.own, false, .bool)]⟩, loops := [(3, in20004)], views := [], joins := [] }
noncomputable def in20003 : LoopInfo := ⟨20003, ⟨[.row .ro (.int .i64)], [(0, .w (.c (.sl 0))), (9, .w (.c (.int .i64))), (10, .w (.c (.int .i64)))]⟩, [(.exit 0, ⟨[], []⟩), (.ret, ⟨[], [(2, .w (.c (.int .i64))), (3, .w (.c (.int .i64))), (4, .w (.c (.bool)))]⟩)]⟩
/-- impl.firstHandle -/
noncomputable def fd57 : FD := { id := 57, fn := Go.Proofs.Try.f57, sig := ⟨[.ro (.slice (.int .i64))], [(.own, false, .int .i64), (.own, false, .int .i64), (.own, false, .bool)]⟩, loops := [(2, in20003)], views := [], joins := [] }
/-- impl.FirstHandle -/
noncomputable def fd8 : FD := { id := 8, fn := Go.Proofs.Try.f8, sig := ⟨[.ro (.pair (.int .i64) (.slice (.int .i64)))], [(.own, false, .slice (.int .i64)), (.own, false, .int .i64)]⟩, loops := [], views := [], joins := [] }
/-- spec.l01In -/
noncomputable def fd114 : FD := { id := 114, fn := Go.Proofs.Try.f114, sig := ⟨[.ro (.int .i64), .ro (.int .i64), .ro (.int .i64)], [(.own, false, .bool)]⟩, loops := [], views := [], joins := [] }
noncomputable def in20005 : LoopInfo := ⟨20005, ⟨[.box .own (.st [.int .i64, .sl 1]), .row .ro (.int .i64)], [(1, .w (.c (.ptr 0))), (3, .w (.c (.int .i64)))]⟩, [(.exit 0, ⟨[], []⟩), (.ret, ⟨[], [(2, .w (.c (.bool)))]⟩)]⟩
/-- spec.l01Is -/
noncomputable def fd58 : FD := { id := 58, fn := Go.Proofs.Try.f58, sig := ⟨[.ro (.pair (.int .i64) (.slice (.int .i64)))], [(.own, false, .bool)]⟩, loops := [(4, in20005)], views := [], joins := [] }
/-- spec.l06Index -/
noncomputable def fd115 : FD := { id := 115, fn := Go.Proofs.Try.f115, sig := ⟨[.ro (.int .i64)], [(.own, false, .int .i64)]⟩, loops := [], views := [], joins := [] }
noncomputable def in20006 : LoopInfo := ⟨20006, ⟨[.row .ro (.int .i64)], [(0, .w (.c (.sl 0))), (5, .w (.c (.int .i64)))]⟩, [(.exit 0, ⟨[], []⟩), (.ret, ⟨[], [(2, .w (.c (.int .i64))), (3, .w (.c (.int .i64))), (4, .w (.c (.bool)))]⟩)]⟩
noncomputable def in20007 : LoopInfo := ⟨20007, ⟨[.row .ro (.int .i64)], [(0, .w (.c (.sl 0))), (5, .w (.c (.int .i64))), (6, .w (.c (.int .i64))), (7, .w (.c (.int .i64)))]⟩, [(.exit 2, ⟨[.row .ro (.int .i64)], [(0, .w (.c (.sl 0))), (5, .w (.c (.int .i64)))]⟩), (.ret, ⟨[], [(2, .w (.c (.int .i64))), (3, .w (.c (.int .i64))), (4, .w (.c (.bool)))]⟩)]⟩
/-- spec.l06Handle -/
noncomputable def fd59 : FD := { id := 59, fn := Go.Proofs.Try.f59, sig := ⟨[.ro (.slice (.int .i64))], [(.own, false, .int .i64), (.own, false, .int .i64), (.own, false, .bool)]⟩, loops := [(2, in20006), (6, in20007)], views := [], joins := [] }
/-- spec.FirstHandle -/
noncomputable def fd9 : FD := { id := 9, fn := Go.Proofs.Try.f9, sig := ⟨[.ro (.pair (.int .i64) (.slice (.int .i64)))], [(.own, false, .slice (.int .i64)), (.own, false, .int .i64)]⟩, loops := [], views := [], joins := [] }
noncomputable def in20008 : LoopInfo := ⟨20008, ⟨[.box .own (.st [.int .i64, .sl 1]), .row .own (.int .i64), .box .own (.st [.int .i64, .sl 3]), .row .own (.int .i64)], [(2, .w (.c (.ptr 0))), (4, .w (.c (.ptr 2))), (5, .w (.c (.int .i64)))]⟩, [(.exit 0, ⟨[.box .own (.st [.int .i64, .sl 1]), .row .own (.int .i64), .box .own (.st [.int .i64, .sl 3]), .row .own (.int .i64)], [(2, .w (.c (.ptr 0))), (4, .w (.c (.ptr 2)))]⟩)]⟩
/-- spec.DrawReduceHandle -/
noncomputable def fd10 : FD := { id := 10, fn := Go.Proofs.Try.f10, sig := ⟨[.ro (.slice (.int .u8))], [(.ro, false, .pair (.int .i64) (.slice (.int .i64)))]⟩, loops := [(5, in20008)], views := [], joins := [] }
/-- impl.sign -/
noncomputable def fd65 : FD := { id := 65, fn := Go.Proofs.Try.f65, sig := ⟨[.ro (.int .i64)], [(.own, false, .int .i64)]⟩, loops := [], views := [], joins := [] }
noncomputable def in20009 : LoopInfo := ⟨20009, ⟨[.row .ro (.int .i64), .row .own (.int .i64), .row .ro (.int .i64)], [(0, .w (.c (.sl 0))), (2, .w (.c (.int .i64))), (7, .w (.c (.int .i64))), (8, .w (.c (.int .i64))), (9, .w (.c (.sl 1))), (34, .w (.c (.sl 2))), (35, .w (.c (.int .i64))), (36, .w (.c (.int .i64)))]⟩, [(.exit 0, ⟨[.row .ro (.int .i64), .row .own (.int .i64)], [(0, .w (.c (.sl 0))), (2, .w (.c (.int .i64))), (9, .w (.c (.sl 1)))]⟩)]⟩
/-- impl.reduced -/
noncomputable def fd62 : FD := { id := 62, fn := Go.Proofs.Try.f62, sig := ⟨[.ro (.slice (.int .i64)), .ro (.int .i64), .ro (.int .i64)], [(.own, false, .slice (.int .i64))]⟩, loops := [(5, in20009)], views := [], joins := [] }
/-- impl.ReduceHandle -/
noncomputable def fd11 : FD := { id := 11, fn := Go.Proofs.Try.f11, sig := ⟨[.ro (.pair (.int .i64) (.slice (.int .i64)))], [(.own, false, .pair (.int .i64) (.slice (.int .i64))), (.own, false, .int .i64)]⟩, loops := [], views := [], joins := [] }
noncomputable def in20010 : LoopInfo := ⟨20010, ⟨[.row .ro (.int .i64), .row .own (.int .i64)], [(0, .w (.c (.sl 0))), (2, .w (.c (.int .i64))), (7, .w (.c (.sl 1))), (8, .w (.c (.int .i64))), (9, .w (.c (.int .i64))), (10, .w (.c (.int .i64)))]⟩, [(.exit 0, ⟨[.row .ro (.int .i64), .row .own (.int .i64)], [(0, .w (.c (.sl 0))), (2, .w (.c (.int .i64))), (7, .w (.c (.sl 1)))]⟩)]⟩
/-- spec.l06Step -/
noncomputable def fd63 : FD := { id := 63, fn := Go.Proofs.Try.f63, sig := ⟨[.ro (.slice (.int .i64)), .ro (.int .i64), .ro (.int .i64)], [(.own, false, .slice (.int .i64))]⟩, loops := [(5, in20010)], views := [], joins := [] }
/-- spec.ReduceHandle -/
noncomputable def fd12 : FD := { id := 12, fn := Go.Proofs.Try.f12, sig := ⟨[.ro (.pair (.int .i64) (.slice (.int .i64)))], [(.own, false, .pair (.int .i64) (.slice (.int .i64))), (.own, false, .int .i64)]⟩, loops := [], views := [], joins := [] }
noncomputable def in20011 : LoopInfo := ⟨20011, ⟨[.row .ro (.int .i64), .row .ro (.int .i64)], [(0, .w (.c (.sl 0))), (1, .w (.c (.sl 1))), (5, .w (.c (.int .i64)))]⟩, [(.exit 0, ⟨[], []⟩), (.ret, ⟨[], [(4, .w (.c (.bool)))]⟩)]⟩
/-- laws.likeInts -/
noncomputable def fd13 : FD := { id := 13, fn := Go.Proofs.Try.f13, sig := ⟨[.ro (.slice (.int .i64)), .ro (.slice (.int .i64))], [(.own, false, .bool)]⟩, loops := [(4, in20011)], views := [], joins := [] }
/-- laws.braid5 -/
noncomputable def fd14 : FD := { id := 14, fn := Go.Proofs.Try.f14, sig := ⟨[.ro (.pair (.int .i64) (.slice (.int .i64))), .ro (.pair (.int .i64) (.slice (.int .i64)))], [(.own, false, .bool)]⟩, loops := [], views := [], joins := [] }
noncomputable def in20012 : LoopInfo := ⟨20012, ⟨[.row .own (.int .i64)], [(3, .w (.c (.sl 0))), (6, .w (.c (.int .i64))), (7, .w (.c (.int .i64)))]⟩, [(.exit 0, ⟨[.row .own (.int .i64)], [(3, .w (.c (.sl 0)))]⟩)]⟩
/-- impl.strandsOf -/
noncomputable def fd147 : FD := { id := 147, fn := Go.Proofs.Try.f147, sig := ⟨[.ro (.int .i64)], [(.own, false, .slice (.int .i64))]⟩, loops := [(3, in20012)], views := [], joins := [] }
/-- impl.endsOf$1 -/
noncomputable def fd117 : FD := { id := 117, fn := Go.Proofs.Try.f117, sig := ⟨[.ro (.int .i64), .ro (.int .i64), .ro (.int .i64)], []⟩, loops := [], views := [], joins := [] }
noncomputable def in20013 : LoopInfo := ⟨20013, ⟨[.row .own (.int .i64), .row .ro (.int .i64)], [(1, .fn 117 []), (5, .w (.c (.sl 0))), (13, .w (.c (.sl 1))), (14, .w (.c (.int .i64))), (15, .w (.c (.int .i64)))]⟩, [(.exit 0, ⟨[.row .own (.int .i64)], [(5, .w (.c (.sl 0)))]⟩)]⟩
/-- impl.follow -/
noncomputable def fd10000 : FD := { id := 116, fn := Go.Proofs.Try.f116, sig := ⟨[.ro (.pair (.int .i64) (.slice (.int .i64))), .fn 117 []], [(.own, false, .slice (.int .i64))]⟩, loops := [(3, in20013)], views := [], joins := [] }
noncomputable def in20014 : LoopInfo := ⟨20014, ⟨[.row .own (.int .i64), .row .own (.int .i64)], [(3, .w (.c (.sl 0))), (10, .w (.c (.sl 1))), (11, .w (.c (.int .i64))), (12, .w (.c (.int .i64)))]⟩, [(.exit 0, ⟨[.row .own (.int .i64)], [(3, .w (.c (.sl 0)))]⟩)]⟩
/-- impl.endsOf -/
noncomputable def fd64 : FD := { id := 64, fn := Go.Proofs.Try.f64, sig := ⟨[.ro (.pair (.int .i64) (.slice (.int .i64)))], [(.own, false, .slice (.int .i64))]⟩, loops := [(3, in20014)], views := [], joins := [] }
/-- impl.EndsOf -/
noncomputable def fd15 : FD := { id := 15, fn := Go.Proofs.Try.f15, sig := ⟨[.ro (.pair (.int .i64) (.slice (.int .i64)))], [(.own, false, .slice (.int .i64)), (.own, false, .int .i64)]⟩, loops := [], views := [], joins := [] }
noncomputable def in20015 : LoopInfo := ⟨20015, ⟨[.row .ro (.int .i64)], [(4, .w (.c (.int .i64))), (11, .w (.c (.sl 0))), (12, .w (.c (.int .i64))), (13, .w (.c (.int .i64)))]⟩, [(.exit 0, ⟨[], [(4, .w (.c (.int .i64)))]⟩)]⟩
/-- impl.SumOf -/
noncomputable def fd16 : FD := { id := 16, fn := Go.Proofs.Try.f16, sig := ⟨[.ro (.pair (.int .i64) (.slice (.int .i64)))], [(.own, false, .int .i64), (.own, false, .int .i64)]⟩, loops := [(5, in20015)], views := [], joins := [] }
/-- spec.l06Draw -/
noncomputable def fd66 : FD := { id := 66, fn := Go.Proofs.Try.f66, sig := ⟨[.boxr (.pair (.slice (.int .u8)) (.pair (.int .i64) (.int .u64)))], [(.ro, false, .pair (.int .i64) (.slice (.int .i64)))]⟩, loops := [], views := [], joins := [] }
/-- spec.DrawHandleFree -/
noncomputable def fd17 : FD := { id := 17, fn := Go.Proofs.Try.f17, sig := ⟨[.ro (.slice (.int .u8))], [(.ro, false, .pair (.int .i64) (.slice (.int .i64)))]⟩, loops := [], views := [], joins := [] }
noncomputable def in20017 : LoopInfo := ⟨20017, ⟨[.row .ro (.int .i64)], [(0, .w (.c (.sl 0))), (4, .w (.c (.int .i64)))]⟩, [(.ret, ⟨[.row .ro (.int .i64)], [(2, .w (.c (.sl 0))), (3, .w (.c (.int .i64)))]⟩)]⟩
/-- impl.reduction -/
noncomputable def fd67 : FD := { id := 67, fn := Go.Proofs.Try.f67, sig := ⟨[.ro (.slice (.int .i64))], [(.ro, false, .slice (.int .i64)), (.own, false, .int .i64)]⟩, loops := [(3, in20017)], views := [], joins := [] }
/-- impl.HandleFree -/
noncomputable def fd18 : FD := { id := 18, fn := Go.Proofs.Try.f18, sig := ⟨[.ro (.pair (.int .i64) (.slice (.int .i64)))], [(.own, false, .pair (.int .i64) (.slice (.int .i64))), (.own, false, .int .i64)]⟩, loops := [], views := [], joins := [] }
noncomputable def in20018 : LoopInfo := ⟨20018, ⟨[.row .ro (.int .i64)], [(0, .w (.c (.sl 0))), (4, .w (.c (.int .i64)))]⟩, [(.ret, ⟨[.row .ro (.int .i64)], [(2, .w (.c (.sl 0))), (3, .w (.c (.bool)))]⟩)]⟩
/-- spec.l06Reduce -/
noncomputable def fd68 : FD := { id := 68, fn := Go.Proofs.Try.f68, sig := ⟨[.ro (.slice (.int .i64))], [(.ro, false, .slice (.int .i64)), (.own, false, .bool)]⟩, loops := [(3, in20018)], views := [], joins := [] }
/-- spec.HandleFree -/
noncomputable def fd19 : FD := { id := 19, fn := Go.Proofs.Try.f19, sig := ⟨[.ro (.pair (.int .i64) (.slice (.int .i64)))], [(.own, false, .pair (.int .i64) (.slice (.int .i64))), (.own, false, .int .i64)]⟩, loops := [], views := [], joins := [] }
noncomputable def in20019 : LoopInfo := ⟨20019, ⟨[.row .ro (.int .i64)], [(3, .w (.c (.int .i64))), (4, .w (.c (.bool))), (7, .w (.c (.sl 0))), (8, .w (.c (.int .i64))), (9, .w (.c (.int .i64)))]⟩, [(.exit 0, ⟨[], [(3, .w (.c (.int .i64))), (4, .w (.c (.bool)))]⟩)]⟩
/-- impl.mainOf -/
noncomputable def fd72 : FD := { id := 72, fn := Go.Proofs.Try.f72, sig := ⟨[.ro (.slice (.int .i64))], [(.own, false, .int .i64)]⟩, loops := [(3, in20019)], views := [], joins := [] }
/-- impl.mainLetter -/
noncomputable def fd70 : FD := { id := 70, fn := Go.Proofs.Try.f70, sig := ⟨[.ro (.slice (.int .i64))], [(.own, false, .int .i64), (.own, false, .int .i64)]⟩, loops := [], views := [], joins := [] }
/-- impl.MainLetter -/
noncomputable def fd20 : FD := { id := 20, fn := Go.Proofs.Try.f20, sig := ⟨[.ro (.pair (.int .i64) (.slice (.int .i64)))], [(.own, false, .int .i64), (.own, false, .int .i64)]⟩, loops := [], views := [], joins := [] }
noncomputable def in20020 : LoopInfo := ⟨20020, ⟨[.row .ro (.int .i64)], [(0, .w (.c (.sl 0))), (4, .w (.c (.int .i64))), (5, .w (.c (.int .i64)))]⟩, [(.exit 0, ⟨[.row .ro (.int .i64)], [(0, .w (.c (.sl 0))), (4, .w (.c (.int .i64)))]⟩)]⟩
noncomputable def in20021 : LoopInfo := ⟨20021, ⟨[.row .ro (.int .i64)], [(0, .w (.c (.sl 0))), (4, .w (.c (.int .i64))), (6, .w (.c (.bool))), (7, .w (.c (.bool))), (8, .w (.c (.int .i64)))]⟩, [(.exit 2, ⟨[], [(4, .w (.c (.int .i64))), (6, .w (.c (.bool))), (7, .w (.c (.bool)))]⟩)]⟩
/-- spec.l06Main -/
noncomputable def fd75 : FD := { id := 75, fn := Go.Proofs.Try.f75, sig := ⟨[.ro (.slice (.int .i64))], [(.own, false, .int .i64), (.own, false, .int .i64)]⟩, loops := [(3, in20020), (8, in20021)], views := [], joins := [] }
/-- spec.l06Letter -/
noncomputable def fd71 : FD := { id := 71, fn := Go.Proofs.Try.f71, sig := ⟨[.ro (.slice (.int .i64))], [(.own, false, .int .i64), (.own, false, .bool)]⟩, loops := [], views := [], joins := [] }
/-- spec.MainLetter -/
noncomputable def fd21 : FD := { id := 21, fn := Go.Proofs.Try.f21, sig := ⟨[.ro (.pair (.int .i64) (.slice (.int .i64)))], [(.own, false, .int .i64), (.own, false, .int .i64)]⟩, loops := [], views := [], joins := [] }
/-- impl.WordSign -/
noncomputable def fd22 : FD := { id := 22, fn := Go.Proofs.Try.f22, sig := ⟨[.ro (.pair (.int .i64) (.slice (.int .i64)))], [(.own, false, .int .i64), (.own, false, .int .i64)]⟩, loops := [], views := [], joins := [] }
/-- impl.IsTrivial -/
noncomputable def fd23 : FD := { id := 23, fn := Go.Proofs.Try.f23, sig := ⟨[.ro (.pair (.int .i64) (.slice (.int .i64)))], [(.own, false, .bool), (.own, false, .int .i64)]⟩, loops := [], views := [], joins := [] }
noncomputable def in20023 : LoopInfo := ⟨20023, ⟨[.box .own (.arr .u8 8), .box .own (.arr .u8 8)], [(2, .w (.c (.ptr 0))), (3, .w (.c (.ptr 1))), (6, .w (.c (.int .i64))), (7, .w (.c (.int .i64)))]⟩, [(.exit 0, ⟨[.box .own (.arr .u8 8), .box .own (.arr .u8 8)], [(2, .w (.c (.ptr 0))), (3, .w (.c (.ptr 1)))]⟩)]⟩
/-- impl.nothing -/
noncomputable def fd132 : FD := { id := 132, fn := Go.Proofs.Try.f132, sig := ⟨[.ro (.int .i64)], [(.own, false, .arr .u8 8)]⟩, loops := [(3, in20023)], views := [], joins := [] }
/-- impl.exchange -/
noncomputable def fd118 : FD := { id := 118, fn := Go.Proofs.Try.f118, sig := ⟨[.ro (.int .i64), .ro (.int .i64)], [(.own, false, .arr .u8 8)]⟩, loops := [], views := [], joins := [] }
/-- impl.finePart -/
noncomputable def fd99 : FD := { id := 99, fn := Go.Proofs.Try.f99, sig := ⟨[.ro (.int .i64)], [(.own, false, .arr .u8 8)]⟩, loops := [], views := [], joins := [] }
noncomputable def in20025 : LoopInfo := ⟨20025, ⟨[.box .own (.arr .u8 8), .box .own (.arr .u8 8), .box .own (.arr .u8 8)], [(2, .w (.c (.ptr 0))), (4, .w (.c (.ptr 1))), (5, .w (.c (.ptr 2))), (8, .w (.c (.int .i64))), (9, .w (.c (.int .i64)))]⟩, [(.exit 0, ⟨[.box .own (.arr .u8 8), .box .own (.arr .u8 8)], [(4, .w (.c (.ptr 0))), (5, .w (.c (.ptr 1)))]⟩)]⟩
/-- impl.backOf -/
noncomputable def fd151 : FD := { id := 151, fn := Go.Proofs.Try.f151, sig := ⟨[.ro (.arr .u8 8), .ro (.int .i64)], [(.own, false, .arr .u8 8)]⟩, loops := [(3, in20025)], views := [], joins := [] }
/-- impl.backPart -/
noncomputable def fd137 : FD := { id := 137, fn := Go.Proofs.Try.f137, sig := ⟨[.ro (.arr .u8 8), .ro (.int .i64)], [(.own, false, .arr .u8 8)]⟩, loops := [], views := [], joins := [] }
noncomputable def in20026 : LoopInfo := ⟨20026, ⟨[.box .own (.arr .u8 8), .box .own (.arr .u8 8)], [(0, .w (.c (.int .i64))), (2, .w (.c (.ptr 0))), (3, .w (.c (.ptr 1))), (6, .w (.c (.int .i64))), (7, .w (.c (.int .i64)))]⟩, [(.exit 0, ⟨[.box .own (.arr .u8 8), .box .own (.arr .u8 8)], [(2, .w (.c (.ptr 0))), (3, .w (.c (.ptr 1)))]⟩)]⟩
/-- impl.wholePart -/
noncomputable def fd95 : FD := { id := 95, fn := Go.Proofs.Try.f95, sig := ⟨[.ro (.int .i64)], [(.own, false, .arr .u8 8)]⟩, loops := [(3, in20026)], views := [], joins := [] }
noncomputable def in20027 : LoopInfo := ⟨20027, ⟨[.box .own (.arr .u8 8), .box .own (.arr .u8 8), .box .own (.arr .u8 8), .box .own (.arr .u8 8)], [(3, .w (.c (.ptr 0))), (4, .w (.c (.ptr 1))), (6, .w (.c (.ptr 2))), (7, .w (.c (.ptr 3))), (10, .w (.c (.int .i64))), (11, .w (.c (.int .i64)))]⟩, [(.exit 0, ⟨[.box .own (.arr .u8 8), .box .own (.arr .u8 8)], [(6, .w (.c (.ptr 0))), (7, .w (.c (.ptr 1)))]⟩)]⟩
/-- impl.then -/
noncomputable def fd150 : FD := { id := 150, fn := Go.Proofs.Try.f150, sig := ⟨[.ro (.arr .u8 8), .ro (.arr .u8 8), .ro (.int .i64)], [(.own, false, .arr .u8 8)]⟩, loops := [(3, in20027)], views := [], joins := [] }
/-- impl.thenPart -/
noncomputable def fd136 : FD := { id := 136, fn := Go.Proofs.Try.f136, sig := ⟨[.ro (.arr .u8 8), .ro (.arr .u8 8), .ro (.int .i64)], [(.own, false, .arr .u8 8)]⟩, loops := [], views := [], joins := [] }
/-- impl.complementPart -/
noncomputable def fd101 : FD := { id := 101, fn := Go.Proofs.Try.f101, sig := ⟨[.ro (.arr .u8 8), .ro (.int .i64)], [(.own, false, .arr .u8 8)]⟩, loops := [], views := [], joins := [] }
/-- impl.fineGroups -/
noncomputable def fd133 : FD := { id := 133, fn := Go.Proofs.Try.f133, sig := ⟨[.ro (.int .i64)], [(.own, false, .slice (.int .i64))]⟩, loops := [], views := [], joins := [] }
noncomputable def in20029 : LoopInfo := ⟨20029, ⟨[.row .own (.int .i64)], [(0, .w (.c (.sl 0))), (6, .w (.c (.int .i64))), (7, .w (.c (.int .i64))), (28, .w (.c (.sl 0))), (29, .w (.c (.int .i64))), (30, .w (.c (.int .i64)))]⟩, [(.exit 0, ⟨[.row .own (.int .i64)], [(0, .w (.c (.sl 0)))]⟩)]⟩
/-- (impl.groups).merge -/
noncomputable def fd134 : FD := { id := 134, fn := Go.Proofs.Try.f134, sig := ⟨[.mut (.slice (.int .i64)), .ro (.int .i64), .ro (.int .i64)], []⟩, loops := [(2, in20029)], views := [], joins := [] }
noncomputable def in20030 : LoopInfo := ⟨20030, ⟨[.row .ro (.int .i64), .box .own (.arr .u8 8), .box .own (.arr .u8 8)], [(0, .w (.c (.sl 0))), (2, .w (.c (.ptr 1))), (3, .w (.c (.ptr 2))), (8, .w (.c (.sl 0))), (9, .w (.c (.int .i64))), (10, .w (.c (.int .i64)))]⟩, [(.exit 0, ⟨[.box .own (.arr .u8 8), .box .own (.arr .u8 8)], [(2, .w (.c (.ptr 0))), (3, .w (.c (.ptr 1)))]⟩)]⟩
noncomputable def in20031 : LoopInfo := ⟨20031, ⟨[.row .ro (.int .i64), .box .own (.arr .u8 8), .box .own (.arr .u8 8)], [(0, .w (.c (.sl 0))), (2, .w (.c (.ptr 1))), (3, .w (.c (.ptr 2))), (4, .w (.c (.int .i64))), (5, .w (.c (.int .i64))), (6, .w (.c (.int .i64))), (8, .w (.c (.sl 0))), (9, .w (.c (.int .i64))), (10, .w (.c (.int .i64)))]⟩, [(.exit 2, ⟨[.row .ro (.int .i64), .box .own (.arr .u8 8), .box .own (.arr .u8 8)], [(0, .w (.c (.sl 0))), (2, .w (.c (.ptr 1))), (3, .w (.c (.ptr 2))), (8, .w (.c (.sl 0))), (9, .w (.c (.int .i64))), (10, .w (.c (.int .i64)))]⟩)]⟩
/-- (impl.groups).part -/
noncomputable def fd135 : FD := { id := 135, fn := Go.Proofs.Try.f135, sig := ⟨[.ro (.slice (.int .i64))], [(.own, false, .arr .u8 8)]⟩, loops := [(3, in20030), (7, in20031)], views := [], joins := [] }
noncomputable def in20028 : LoopInfo := ⟨20028, ⟨[.box .own (.arr .u8 8), .row .own (.int .i64)], [(1, .w (.c (.int .i64))), (2, .w (.c (.ptr 0))), (6, .w (.c (.sl 1))), (11, .w (.c (.int .i64))), (12, .w (.c (.int .i64)))]⟩, [(.exit 0, ⟨[.box .own (.arr .u8 8), .row .own (.int .i64)], [(2, .w (.c (.ptr 0))), (6, .w (.c (.sl 1)))]⟩), (.ret, ⟨[.row .own (.int .i64)], [(4, .w (.c (.sl 0))), (5, .w (.c (.bool)))]⟩)]⟩
/-- impl.groupsOf -/
noncomputable def fd130 : FD := { id := 130, fn := Go.Proofs.Try.f130, sig := ⟨[.ro (.arr .u8 8), .ro (.int .i64)], [(.own, false, .slice (.int .i64)), (.own, false, .bool)]⟩, loops := [(3, in20028)], views := [], joins := [] }
noncomputable def in20032 : LoopInfo := ⟨20032, ⟨[.box .own (.arr .u8 8), .row .own (.int .i64), .row .own (.int .i64), .row .own (.int .i64)], [(6, .w (.c (.ptr 0))), (7, .w (.c (.sl 1))), (9, .w (.c (.sl 2))), (11, .w (.c (.sl 3))), (28, .w (.c (.int .i64))), (29, .w (.c (.int .i64)))]⟩, [(.exit 0, ⟨[.box .own (.arr .u8 8), .row .own (.int .i64)], [(6, .w (.c (.ptr 0))), (11, .w (.c (.sl 1)))]⟩)]⟩
noncomputable def in20033 : LoopInfo := ⟨20033, ⟨[.box .own (.arr .u8 8), .row .own (.int .i64), .row .own (.int .i64), .row .own (.int .i64)], [(6, .w (.c (.ptr 0))), (7, .w (.c (.sl 1))), (9, .w (.c (.sl 2))), (11, .w (.c (.sl 3))), (12, .w (.c (.int .i64))), (28, .w (.c (.int .i64))), (29, .w (.c (.int .i64))), (32, .w (.c (.int .i64))), (33, .w (.c (.int .i64)))]⟩, [(.exit 2, ⟨[.box .own (.arr .u8 8), .row .own (.int .i64), .row .own (.int .i64), .row .own (.int .i64)], [(6, .w (.c (.ptr 0))), (7, .w (.c (.sl 1))), (9, .w (.c (.sl 2))), (11, .w (.c (.sl 3))), (28, .w (.c (.int .i64))), (29, .w (.c (.int .i64)))]⟩)]⟩
/-- impl.meetParts -/
noncomputable def fd100 : FD := { id := 100, fn := Go.Proofs.Try.f100, sig := ⟨[.ro (.arr .u8 8), .ro (.arr .u8 8), .ro (.int .i64)], [(.own, false, .arr .u8 8)]⟩, loops := [(5, in20032), (8, in20033)], views := [], joins := [] }
noncomputable def in20024 : LoopInfo := ⟨20024, ⟨[.box .own (.st [.int .i64, .int .i64, .sl 1]), .row .own (.arr .u8 8)], [(0, .w (.c (.ptr 0))), (4, .w (.c (.int .i64))), (5, .w (.c (.int .i64)))]⟩, [(.exit 0, ⟨[.box .own (.st [.int .i64, .int .i64, .sl 1]), .row .own (.arr .u8 8)], [(0, .w (.c (.ptr 0))), (4, .w (.c (.int .i64)))]⟩)]⟩
noncomputable def in20034 : LoopInfo := ⟨20034, ⟨[.box .own (.st [.int .i64, .int .i64, .sl 1]), .row .own (.arr .u8 8)], [(0, .w (.c (.ptr 0))), (4, .w (.c (.int .i64)))]⟩, [(.exit 2, ⟨[.box .own (.st [.int .i64, .int .i64, .sl 1]), .row .own (.arr .u8 8)], [(0, .w (.c (.ptr 0))), (4, .w (.c (.int .i64)))]⟩)]⟩
noncomputable def in20035 : LoopInfo := ⟨20035, ⟨[.box .own (.st [.int .i64, .int .i64, .sl 1]), .row .own (.arr .u8 8)], [(0, .w (.c (.ptr 0))), (4, .w (.c (.int .i64)))]⟩, [(.exit 4, ⟨[.box .own (.st [.int .i64, .int .i64, .sl 1]), .row .own (.arr .u8 8)], [(0, .w (.c (.ptr 0)))]⟩)]⟩
/-- (*impl.Dual).put -/
noncomputable def fd119 : FD := { id := 119, fn := Go.Proofs.Try.f119, sig := ⟨[.box (.pair (.int .i64) (.pair (.int .i64) (.slice (.arr .u8 8)))), .ro (.arr .u8 8)], []⟩, loops := [(5, in20024), (11, in20034), (14, in20035)], views := [], joins := [] }
noncomputable def in20037 : LoopInfo := ⟨20037, ⟨[.box .own (.arr .u8 8), .box .own (.arr .u8 8), .box .own (.arr .u8 8)], [(1, .w (.c (.int .i64))), (3, .w (.c (.ptr 0))), (6, .w (.c (.ptr 1))), (7, .w (.c (.ptr 2))), (8, .w (.c (.int .i64))), (18, .w (.c (.int .i64))), (19, .w (.c (.int .i64)))]⟩, [(.exit 0, ⟨[.box .own (.arr .u8 8), .box .own (.arr .u8 8)], [(6, .w (.c (.ptr 0))), (7, .w (.c (.ptr 1)))]⟩)]⟩
/-- impl.turnPart -/
noncomputable def fd148 : FD := { id := 148, fn := Go.Proofs.Try.f148, sig := ⟨[.ro (.arr .u8 8), .ro (.int .i64), .ro (.int .i64)], [(.own, false, .arr .u8 8)]⟩, loops := [(4, in20037)], views := [], joins := [] }
noncomputable def in20036 : LoopInfo := ⟨20036, ⟨[.box .own (.st [.int .i64, .int .i64, .sl 1]), .row .own (.arr .u8 8), .box .own (.arr .u8 8)], [(0, .w (.c (.ptr 0))), (3, .w (.c (.ptr 2))), (4, .w (.c (.int .i64))), (21, .w (.c (.sl 1))), (22, .w (.c (.int .i64))), (23, .w (.c (.int .i64)))]⟩, [(.exit 0, ⟨[.box .own (.st [.int .i64, .int .i64, .sl 1]), .row .own (.arr .u8 8), .box .own (.arr .u8 8)], [(0, .w (.c (.ptr 0))), (3, .w (.c (.ptr 2))), (4, .w (.c (.int .i64)))]⟩)]⟩
/-- (*impl.Dual).putInverse -/
noncomputable def fd120 : FD := { id := 120, fn := Go.Proofs.Try.f120, sig := ⟨[.box (.pair (.int .i64) (.pair (.int .i64) (.slice (.arr .u8 8)))), .ro (.arr .u8 8)], []⟩, loops := [(4, in20036)], views := [], joins := [] }
noncomputable def in20022 : LoopInfo := ⟨20022, ⟨[.box .own (.st [.int .i64, .sl 1]), .row .ro (.int .i64), .box .own (.st [.int .i64, .int .i64, .sl 3]), .row .own (.arr .u8 8), .box .own (.st [.int .i64, .int .i64, .sl 5]), .row .own (.arr .u8 8)], [(1, .w (.c (.ptr 0))), (2, .w (.c (.ptr 2))), (3, .w (.c (.ptr 4))), (11, .w (.c (.sl 1))), (12, .w (.c (.int .i64))), (13, .w (.c (.int .i64)))]⟩, [(.exit 0, ⟨[.box .own (.st [.int .i64, .int .i64, .sl 1]), .row .own (.arr .u8 8), .box .own (.st [.int .i64, .int .i64, .sl 3]), .row .own (.arr .u8 8)], [(2, .w (.c (.ptr 0))), (3, .w (.c (.ptr 2)))]⟩)]⟩
/-- impl.dualOf -/
noncomputable def fd73 : FD := { id := 73, fn := Go.Proofs.Try.f73, sig := ⟨[.ro (.pair (.int .i64) (.slice (.int .i64)))], [(.own, false, .pair (.int .i64) (.pair (.int .i64) (.slice (.arr .u8 8))))]⟩, loops := [(3, in20022)], views := [], joins := [] }
noncomputable def in20038 : LoopInfo := ⟨20038, ⟨[.row .ro (.arr .u8 8), .row .ro (.arr .u8 8)], [(0, .w (.c (.sl 0))), (1, .w (.c (.sl 1))), (12, .w (.c (.int .i64))), (13, .w (.c (.int .i64)))]⟩, [(.exit 0, ⟨[], []⟩), (.ret, ⟨[], [(4, .w (.c (.bool)))]⟩)]⟩
/-- slices.Equal[[]impl.Part,impl.Part] -/
noncomputable def fd74 : FD := { id := 74, fn := Go.Proofs.Try.f74, sig := ⟨[.ro (.slice (.arr .u8 8)), .ro (.slice (.arr .u8 8))], [(.own, false, .bool)]⟩, loops := [(4, in20038)], views := [], joins := [] }
/-- impl.EqualByBands -/
noncomputable def fd24 : FD := { id := 24, fn := Go.Proofs.Try.f24, sig := ⟨[.ro (.pair (.int .i64) (.slice (.int .i64))), .ro (.pair (.int .i64) (.slice (.int .i64)))], [(.own, false, .bool), (.own, false, .int .i64)]⟩, loops := [], views := [], joins := [] }
/-- spec.DrawWordSign -/
noncomputable def fd25 : FD := { id := 25, fn := Go.Proofs.Try.f25, sig := ⟨[.ro (.slice (.int .u8))], [(.ro, false, .pair (.int .i64) (.slice (.int .i64)))]⟩, loops := [], views := [], joins := [] }
/-- spec.WordSign -/
noncomputable def fd26 : FD := { id := 26, fn := Go.Proofs.Try.f26, sig := ⟨[.ro (.pair (.int .i64) (.slice (.int .i64)))], [(.own, false, .int .i64), (.own, false, .int .i64)]⟩, loops := [], views := [], joins := [] }
noncomputable def in20040 : LoopInfo := ⟨20040, ⟨[.row .ro (.int .i64), .row .own (.int .i64)], [(0, .w (.c (.sl 0))), (3, .w (.c (.sl 1))), (4, .w (.c (.int .i64)))]⟩, [(.exit 0, ⟨[.row .own (.int .i64)], [(3, .w (.c (.sl 0)))]⟩)]⟩
/-- spec.l01Inverse -/
noncomputable def fd110 : FD := { id := 110, fn := Go.Proofs.Try.f110, sig := ⟨[.ro (.slice (.int .i64))], [(.own, false, .slice (.int .i64))]⟩, loops := [(3, in20040)], views := [], joins := [] }
/-- spec.l06Trivial -/
noncomputable def fd104 : FD := { id := 104, fn := Go.Proofs.Try.f104, sig := ⟨[.boxr (.pair (.slice (.int .u8)) (.pair (.int .i64) (.int .u64)))], [(.own, false, .pair (.int .i64) (.slice (.int .i64)))]⟩, loops := [], views := [34], joins := [] }
/-- spec.DrawMainLetter -/
noncomputable def fd76 : FD := { id := 76, fn := Go.Proofs.Try.f76, sig := ⟨[.ro (.slice (.int .u8))], [(.ro, false, .pair (.int .i64) (.slice (.int .i64)))]⟩, loops := [], views := [], joins := [] }
/-- spec.DrawIsTrivial -/
noncomputable def fd27 : FD := { id := 27, fn := Go.Proofs.Try.f27, sig := ⟨[.ro (.slice (.int .u8))], [(.ro, false, .pair (.int .i64) (.slice (.int .i64)))]⟩, loops := [], views := [], joins := [] }
/-- spec.IsTrivial -/
noncomputable def fd28 : FD := { id := 28, fn := Go.Proofs.Try.f28, sig := ⟨[.ro (.pair (.int .i64) (.slice (.int .i64)))], [(.own, false, .bool), (.own, false, .int .i64)]⟩, loops := [], views := [], joins := [] }
noncomputable def in20016 : LoopInfo := ⟨20016, ⟨[.row .ro (.int .u8)], [(0, .w (.c (.sl 0)))]⟩, [(.ret, ⟨[], [(2, .w (.c (.bool)))]⟩)]⟩
noncomputable def in20039 : LoopInfo := ⟨20039, ⟨[.row .ro (.int .u8)], [(0, .w (.c (.sl 0)))]⟩, [(.ret, ⟨[], [(2, .w (.c (.bool)))]⟩)]⟩
/-- laws.FnHandles -/
noncomputable def fd3 : FD := { id := 3, fn := Go.Proofs.Try.f3, sig := ⟨[.ro (.slice (.int .u8))], [(.own, false, .bool)]⟩, loops := [], views := [], joins := [(20, in20016), (34, in20039)] }
noncomputable def fdTab : List (Nat × FD) := [(6, fd6), (55, fd55), (60, fd60), (61, fd61), (82, fd82), (69, fd69), (87, fd87), (111, fd111), (54, fd54), (7, fd7), (97, fd97), (96, fd96), (112, fd112), (56, fd56), (91, fd91), (113, fd113), (57, fd57), (8, fd8), (114, fd114), (58, fd58), (115, fd115), (59, fd59), (9, fd9), (10, fd10), (65, fd65), (62, fd62), (11, fd11), (63, fd63), (12, fd12), (13, fd13), (14, fd14), (147, fd147), (117, fd117), (10000, fd10000), (64, fd64), (15, fd15), (16, fd16), (66, fd66), (17, fd17), (67, fd67), (18, fd18), (68, fd68), (19, fd19), (72, fd72), (70, fd70), (20, fd20), (75, fd75), (71, fd71), (21, fd21), (22, fd22), (23, fd23), (132, fd132), (118, fd118), (99, fd99), (151, fd151), (137, fd137), (95, fd95), (150, fd150), (136, fd136), (101, fd101), (133, fd133), (134, fd134), (135, fd135), (130, fd130), (100, fd100), (119, fd119), (148, fd148), (120, fd120), (73, fd73), (74, fd74), (24, fd24), (25, fd25), (26, fd26), (110, fd110), (104, fd104), (76, fd76), (27, fd27), (28, fd28), (3, fd3)]
noncomputable def ldTab : List (Nat × LD) := [(20000, ⟨55, 3, in20000, false⟩), (20001, ⟨82, 6, in20001, false⟩), (20002, ⟨56, 4, in20002, false⟩), (20004, ⟨113, 3, in20004, false⟩), (20003, ⟨57, 2, in20003, false⟩), (20005, ⟨58, 4, in20005, false⟩), (20006, ⟨59, 2, in20006, false⟩), (20007, ⟨59, 6, in20007, false⟩), (20008, ⟨10, 5, in20008, false⟩), (20009, ⟨62, 5, in20009, false⟩), (20010, ⟨63, 5, in20010, false⟩), (20011, ⟨13, 4, in20011, false⟩), (20012, ⟨147, 3, in20012, false⟩), (20013, ⟨10000, 3, in20013, false⟩), (20014, ⟨64, 3, in20014, false⟩), (20015, ⟨16, 5, in20015, false⟩), (20017, ⟨67, 3, in20017, false⟩), (20018, ⟨68, 3, in20018, false⟩), (20019, ⟨72, 3, in20019, false⟩), (20020, ⟨75, 3, in20020, false⟩), (20021, ⟨75, 8, in20021, false⟩), (20023, ⟨132, 3, in20023, false⟩), (20025, ⟨151, 3, in20025, false⟩), (20026, ⟨95, 3, in20026, false⟩), (20027, ⟨150, 3, in20027, false⟩), (20029, ⟨134, 2, in20029, false⟩), (20030, ⟨135, 3, in20030, false⟩), (20031, ⟨135, 7, in20031, false⟩), (20028, ⟨130, 3, in20028, false⟩), (20032, ⟨100, 5, in20032, false⟩), (20033, ⟨100, 8, in20033, false⟩), (20024, ⟨119, 5, in20024, false⟩), (20034, ⟨119, 11, in20034, false⟩), (20035, ⟨119, 14, in20035, false⟩), (20037, ⟨148, 4, in20037, false⟩), (20036, ⟨120, 4, in20036, false⟩), (20022, ⟨73, 3, in20022, false⟩), (20038, ⟨74, 4, in20038, false⟩), (20040, ⟨110, 3, in20040, false⟩), (20016, ⟨3, 20, in20016, true⟩), (20039, ⟨3, 34, in20039, true⟩)]
noncomputable def pickTab : List ((FuncId × List FuncId) × Nat) := [((116, [117]), 10000)]
noncomputable def pick (f : FuncId) : List FuncId → Nat
  | [] => f
  | l => (pickTab.lookup (f, l)).getD 0
noncomputable def E : Env := ⟨[9, 10, 11], fun T => tyTab.lookup T, pick, fun f => fdTab.lookup f, fun f => ldTab.lookup f⟩
/-- What a call answers. -/
noncomputable def R : Oracle := ev E
theorem R_ev (f : Nat) (l : List TV) : R f l = ev E f l := rfl
def iw_big : Nat := 6
def is_l01From : Nat := 55
def is_l01From_3 : Nat := 20000
def is_l01Next : Nat := 60
def is_l01Pick : Nat := 61
def is_l01Draw : Nat := 82
def is_l01Draw_6 : Nat := 20001
def is_l01Own : Nat := 69
def is_l01Broken : Nat := 87
def is_l01DrawBraid : Nat := 111
def is_l01Spoil : Nat := 54
def is_DrawFirstHandle : Nat := 7
def ii_within : Nat := 97
def ii_isCount : Nat := 96
def ii_isLetter : Nat := 112
def ii_IsBraid : Nat := 56
def ii_IsBraid_4 : Nat := 20002
def ii_size : Nat := 91
def ii_beginOf : Nat := 113
def ii_beginOf_3 : Nat := 20004
def ii_firstHandle : Nat := 57
def ii_firstHandle_2 : Nat := 20003
def ii_FirstHandle : Nat := 8
def is_l01In : Nat := 114
def is_l01Is : Nat := 58
def is_l01Is_4 : Nat := 20005
def is_l06Index : Nat := 115
def is_l06Handle : Nat := 59
def is_l06Handle_2 : Nat := 20006
def is_l06Handle_6 : Nat := 20007
def is_FirstHandle : Nat := 9
def is_DrawReduceHandle : Nat := 10
def is_DrawReduceHandle_5 : Nat := 20008
def ii_sign : Nat := 65
def ii_reduced : Nat := 62
def ii_reduced_5 : Nat := 20009
def ii_ReduceHandle : Nat := 11
def is_l06Step : Nat := 63
def is_l06Step_5 : Nat := 20010
def is_ReduceHandle : Nat := 12
def iw_likeInts : Nat := 13
def iw_likeInts_4 : Nat := 20011
def iw_braid5 : Nat := 14
def ii_strandsOf : Nat := 147
def ii_strandsOf_3 : Nat := 20012
def ii_endsOfK1 : Nat := 117
def ii_follow : Nat := 10000
def ii_follow_3 : Nat := 20013
def ii_endsOf : Nat := 64
def ii_endsOf_3 : Nat := 20014
def ii_EndsOf : Nat := 15
def ii_SumOf : Nat := 16
def ii_SumOf_5 : Nat := 20015
def is_l06Draw : Nat := 66
def is_DrawHandleFree : Nat := 17
def ii_reduction : Nat := 67
def ii_reduction_3 : Nat := 20017
def ii_HandleFree : Nat := 18
def is_l06Reduce : Nat := 68
def is_l06Reduce_3 : Nat := 20018
def is_HandleFree : Nat := 19
def ii_mainOf : Nat := 72
def ii_mainOf_3 : Nat := 20019
def ii_mainLetter : Nat := 70
def ii_MainLetter : Nat := 20
def is_l06Main : Nat := 75
def is_l06Main_3 : Nat := 20020
def is_l06Main_8 : Nat := 20021
def is_l06Letter : Nat := 71
def is_MainLetter : Nat := 21
def ii_WordSign : Nat := 22
def ii_IsTrivial : Nat := 23
def ii_nothing : Nat := 132
def ii_nothing_3 : Nat := 20023
def ii_exchange : Nat := 118
def ii_finePart : Nat := 99
def ii_backOf : Nat := 151
def ii_backOf_3 : Nat := 20025
def ii_backPart : Nat := 137
def ii_wholePart : Nat := 95
def ii_wholePart_3 : Nat := 20026
def ii_then : Nat := 150
def ii_then_3 : Nat := 20027
def ii_thenPart : Nat := 136
def ii_complementPart : Nat := 101
def ii_fineGroups : Nat := 133
def i_i_groups__merge : Nat := 134
def i_i_groups__merge_2 : Nat := 20029
def i_i_groups__part : Nat := 135
def i_i_groups__part_3 : Nat := 20030
def i_i_groups__part_7 : Nat := 20031
def ii_groupsOf : Nat := 130
def ii_groupsOf_3 : Nat := 20028
def ii_meetParts : Nat := 100
def ii_meetParts_5 : Nat := 20032
def ii_meetParts_8 : Nat := 20033
def i__i_Dual__put : Nat := 119
def i__i_Dual__put_5 : Nat := 20024
def i__i_Dual__put_11 : Nat := 20034
def i__i_Dual__put_14 : Nat := 20035
def ii_turnPart : Nat := 148
def ii_turnPart_4 : Nat := 20037
def i__i_Dual__putInverse : Nat := 120
def i__i_Dual__putInverse_4 : Nat := 20036
def ii_dualOf : Nat := 73
def ii_dualOf_3 : Nat := 20022
def ig_Equal___i_Part_i_Part_ : Nat := 74
def ig_Equal___i_Part_i_Part__4 : Nat := 20038
def ii_EqualByBands : Nat := 24
def is_DrawWordSign : Nat := 25
def is_WordSign : Nat := 26
def is_l01Inverse : Nat := 110
def is_l01Inverse_3 : Nat := 20040
def is_l06Trivial : Nat := 104
def is_DrawMainLetter : Nat := 76
def is_DrawIsTrivial : Nat := 27
def is_IsTrivial : Nat := 28
def iw_FnHandles : Nat := 3
def iw_FnHandles_j20 : Nat := 20016
def iw_FnHandles_j34 : Nat := 20039
end Go.Ev.Yteclcmiopobnaaa
