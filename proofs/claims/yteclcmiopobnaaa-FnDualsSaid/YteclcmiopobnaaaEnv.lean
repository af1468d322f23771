/- What the evaluator knows of this program. -/
import Derived.Test.YteclcmiopobnaaaProg
import Derived.Test.YteclcmiopobnaaaV1
namespace Go.Ev.Yteclcmiopobnaaa
open Go.Ev
noncomputable section
abbrev tyN_ : Ty := .pair (.int .i64) (.pair (.int .i64) (.slice (.arr .u8 8)))
abbrev tyB_ : Ty := .pair (.int .i64) (.slice (.int .i64))
abbrev tyF_ : Ty := .slice (.arr .u8 8)
abbrev tyW_ : Ty := .slice (.int .i64)
@[reducible] def tA8 (x : List Int) : TV := ⟨.arr .u8 8, x⟩
@[reducible] def gA8 (l : List TV) (i : Nat) : List Int := getTV (.arr .u8 8) l i
@[reducible] def tAB8 (x : List Bool) : TV := ⟨.barr 8, x⟩
@[reducible] def gAB8 (l : List TV) (i : Nat) : List Bool := getTV (.barr 8) l i
@[reducible] def tAi8 (x : List Int) : TV := ⟨.arr .i64 8, x⟩
@[reducible] def gAi8 (l : List TV) (i : Nat) : List Int := getTV (.arr .i64 8) l i
@[reducible] def tB (x : Bool) : TV := ⟨.bool, x⟩
@[reducible] def gB (l : List TV) (i : Nat) : Bool := getTV (.bool) l i
@[reducible] def tI (x : Int) : TV := ⟨.int .i64, x⟩
@[reducible] def gI (l : List TV) (i : Nat) : Int := getTV (.int .i64) l i
@[reducible] def tLA8 (x : List (List Int)) : TV := ⟨.slice (.arr .u8 8), x⟩
@[reducible] def gLA8 (l : List TV) (i : Nat) : List (List Int) := getTV (.slice (.arr .u8 8)) l i
@[reducible] def tLI (x : List Int) : TV := ⟨.slice (.int .i64), x⟩
@[reducible] def gLI (l : List TV) (i : Nat) : List Int := getTV (.slice (.int .i64)) l i
@[reducible] def tLLI (x : List (List Int)) : TV := ⟨.slice (.slice (.int .i64)), x⟩
@[reducible] def gLLI (l : List TV) (i : Nat) : List (List Int) := getTV (.slice (.slice (.int .i64))) l i
@[reducible] def tLU8 (x : List Int) : TV := ⟨.slice (.int .u8), x⟩
@[reducible] def gLU8 (l : List TV) (i : Nat) : List Int := getTV (.slice (.int .u8)) l i
@[reducible] def tPILI (x : Int × List Int) : TV := ⟨.pair (.int .i64) (.slice (.int .i64)), x⟩
@[reducible] def gPILI (l : List TV) (i : Nat) : Int × List Int := getTV (.pair (.int .i64) (.slice (.int .i64))) l i
@[reducible] def tPIPILA8 (x : Int × Int × List (List Int)) : TV := ⟨.pair (.int .i64) (.pair (.int .i64) (.slice (.arr .u8 8))), x⟩
@[reducible] def gPIPILA8 (l : List TV) (i : Nat) : Int × Int × List (List Int) := getTV (.pair (.int .i64) (.pair (.int .i64) (.slice (.arr .u8 8)))) l i
@[reducible] def tPLU8PIU64 (x : List Int × Int × Int) : TV := ⟨.pair (.slice (.int .u8)) (.pair (.int .i64) (.int .u64)), x⟩
@[reducible] def gPLU8PIU64 (l : List TV) (i : Nat) : List Int × Int × Int := getTV (.pair (.slice (.int .u8)) (.pair (.int .i64) (.int .u64))) l i
@[reducible] def tU64 (x : Int) : TV := ⟨.int .u64, x⟩
@[reducible] def gU64 (l : List TV) (i : Nat) : Int := getTV (.int .u64) l i
def tyTab : List (Nat × Ty) := [(2, .int .i64), (3, .int .i64), (4, .bool), (5, .int .u8), (6, .int .u8), (7, .pair (.int .i64) (.pair (.int .i64) (.pair (.bool) (.int .u8)))), (8, .pair (.int .i64) (.pair (.int .i64) (.pair (.bool) (.int .u8)))), (12, .int .u64), (21, .int .i32), (22, .slice (.int .u8)), (24, .slice (.int .i64)), (25, .pair (.int .i64) (.slice (.int .i64))), (26, .pair (.int .i64) (.slice (.int .i64))), (45, .int .u64), (47, .slice (.pair (.int .i64) (.slice (.int .i64)))), (51, .slice (.arr .u8 8)), (52, .pair (.int .i64) (.pair (.int .i64) (.slice (.arr .u8 8)))), (53, .pair (.int .i64) (.pair (.int .i64) (.slice (.arr .u8 8)))), (81, .arr .u8 8), (82, .arr .u8 8), (84, .pair (.slice (.int .u8)) (.pair (.int .i64) (.int .u64))), (85, .pair (.slice (.int .u8)) (.pair (.int .i64) (.int .u64))), (89, .slice (.int .i64)), (90, .arr .i64 10), (104, .slice (.arr .u8 8)), (105, .pair (.int .i64) (.pair (.int .i64) (.slice (.arr .u8 8)))), (106, .pair (.int .i64) (.pair (.int .i64) (.slice (.arr .u8 8)))), (109, .pair (.slice (.int .u8)) (.pair (.int .i64) (.int .u64))), (110, .pair (.slice (.int .u8)) (.pair (.int .i64) (.int .u64))), (114, .int .u64), (117, .arr .u8 8), (124, .slice (.slice (.int .i64))), (126, .slice (.int .i64)), (144, .arr .i64 8), (150, .barr 8), (158, .int .u32), (159, .int .u8), (160, .int .u8), (163, .int .i32), (164, .int .i32)]
def fd6 : FD := { id := 6, fn := Go.Proofs.Try.f6, sig := ⟨[.ro (.slice (.int .u8))], [(.own, false, .bool)]⟩, loops := [], views := [], joins := [] }
def in20000 : LoopInfo := ⟨20000, ⟨[.row .ro (.int .u8), .box .own (.st [.sl 0, .int .i64, .int .u64])], [(0, .w (.c (.sl 0))), (3, .w (.c (.ptr 1))), (4, .w (.c (.int .i64)))]⟩, [(.exit 0, ⟨[.box .own (.st [.sl 1, .int .i64, .int .u64]), .row .ro (.int .u8)], [(3, .w (.c (.ptr 0)))]⟩)]⟩
def fd55 : FD := { id := 55, fn := Go.Proofs.Try.f55, sig := ⟨[.ro (.slice (.int .u8))], [(.ro, true, .pair (.slice (.int .u8)) (.pair (.int .i64) (.int .u64)))]⟩, loops := [(3, in20000)], views := [], joins := [] }
def fd60 : FD := { id := 60, fn := Go.Proofs.Try.f60, sig := ⟨[.boxr (.pair (.slice (.int .u8)) (.pair (.int .i64) (.int .u64))), .ro (.int .i64)], [(.own, false, .int .i64)]⟩, loops := [], views := [], joins := [] }
def fd61 : FD := { id := 61, fn := Go.Proofs.Try.f61, sig := ⟨[.boxr (.pair (.slice (.int .u8)) (.pair (.int .i64) (.int .u64))), .ro tyW_], [(.own, false, .int .i64)]⟩, loops := [], views := [], joins := [] }
def in20001 : LoopInfo := ⟨20001, ⟨[.box .own (.st [.sl 1, .int .i64, .int .u64]), .row .ro (.int .u8), .row .own (.int .i64)], [(0, .w (.c (.ptr 0))), (1, .w (.c (.int .i64))), (7, .w (.c (.sl 2))), (8, .w (.c (.int .i64))), (9, .w (.c (.int .i64)))]⟩, [(.exit 0, ⟨[.box .own (.st [.sl 1, .int .i64, .int .u64]), .row .ro (.int .u8), .row .own (.int .i64)], [(0, .w (.c (.ptr 0))), (7, .w (.c (.sl 2)))]⟩)]⟩
def fd82 : FD := { id := 82, fn := Go.Proofs.Try.f82, sig := ⟨[.boxr (.pair (.slice (.int .u8)) (.pair (.int .i64) (.int .u64))), .ro (.int .i64), .ro (.int .i64)], [(.own, false, .slice (.int .i64))]⟩, loops := [(6, in20001)], views := [], joins := [] }
def fd69 : FD := { id := 69, fn := Go.Proofs.Try.f69, sig := ⟨[.ro tyW_], [(.own, false, .slice (.int .i64))]⟩, loops := [], views := [], joins := [] }
def fd87 : FD := { id := 87, fn := Go.Proofs.Try.f87, sig := ⟨[.boxr (.pair (.slice (.int .u8)) (.pair (.int .i64) (.int .u64))), .ro (tyB_)], [(.ro, false, tyB_)]⟩, loops := [], views := [], joins := [] }
def fd111 : FD := { id := 111, fn := Go.Proofs.Try.f111, sig := ⟨[.boxr (.pair (.slice (.int .u8)) (.pair (.int .i64) (.int .u64)))], [(.own, false, tyB_)]⟩, loops := [], views := [], joins := [] }
def fd54 : FD := { id := 54, fn := Go.Proofs.Try.f54, sig := ⟨[.boxr (.pair (.slice (.int .u8)) (.pair (.int .i64) (.int .u64)))], [(.ro, false, tyB_)]⟩, loops := [], views := [], joins := [] }
def fd42 : FD := { id := 42, fn := Go.Proofs.Try.f42, sig := ⟨[.ro (.slice (.int .u8))], [(.ro, false, tyB_)]⟩, loops := [], views := [], joins := [] }
def fd97 : FD := { id := 97, fn := Go.Proofs.Try.f97, sig := ⟨[.ro (.int .i64), .ro (.int .i64), .ro (.int .i64)], [(.own, false, .bool)]⟩, loops := [], views := [], joins := [] }
def fd96 : FD := { id := 96, fn := Go.Proofs.Try.f96, sig := ⟨[.ro (.int .i64)], [(.own, false, .bool)]⟩, loops := [], views := [], joins := [] }
def fd112 : FD := { id := 112, fn := Go.Proofs.Try.f112, sig := ⟨[.ro (.int .i64), .ro (.int .i64)], [(.own, false, .bool)]⟩, loops := [], views := [], joins := [] }
def in20002 : LoopInfo := ⟨20002, ⟨[.box .own (.st [.int .i64, .sl 1]), .row .ro (.int .i64)], [(1, .w (.c (.ptr 0))), (16, .w (.c (.sl 1))), (17, .w (.c (.int .i64))), (18, .w (.c (.int .i64)))]⟩, [(.exit 0, ⟨[], []⟩), (.ret, ⟨[], [(2, .w (.c (.bool)))]⟩)]⟩
def fd56 : FD := { id := 56, fn := Go.Proofs.Try.f56, sig := ⟨[.ro (tyB_)], [(.own, false, .bool)]⟩, loops := [(4, in20002)], views := [], joins := [] }
def fd91 : FD := { id := 91, fn := Go.Proofs.Try.f91, sig := ⟨[.ro (.int .i64)], [(.own, false, .int .i64)]⟩, loops := [], views := [], joins := [] }
def in20004 : LoopInfo := ⟨20004, ⟨[.box .own (.arr .u8 8), .box .own (.arr .u8 8)], [(2, .w (.c (.ptr 0))), (3, .w (.c (.ptr 1))), (6, .w (.c (.int .i64))), (7, .w (.c (.int .i64)))]⟩, [(.exit 0, ⟨[.box .own (.arr .u8 8), .box .own (.arr .u8 8)], [(2, .w (.c (.ptr 0))), (3, .w (.c (.ptr 1)))]⟩)]⟩
def fd132 : FD := { id := 132, fn := Go.Proofs.Try.f132, sig := ⟨[.ro (.int .i64)], [(.own, false, .arr .u8 8)]⟩, loops := [(3, in20004)], views := [], joins := [] }
def fd118 : FD := { id := 118, fn := Go.Proofs.Try.f118, sig := ⟨[.ro (.int .i64), .ro (.int .i64)], [(.own, false, .arr .u8 8)]⟩, loops := [], views := [], joins := [] }
def fd99 : FD := { id := 99, fn := Go.Proofs.Try.f99, sig := ⟨[.ro (.int .i64)], [(.own, false, .arr .u8 8)]⟩, loops := [], views := [], joins := [] }
def in20006 : LoopInfo := ⟨20006, ⟨[.box .own (.arr .u8 8), .box .own (.arr .u8 8), .box .own (.arr .u8 8)], [(2, .w (.c (.ptr 0))), (4, .w (.c (.ptr 1))), (5, .w (.c (.ptr 2))), (8, .w (.c (.int .i64))), (9, .w (.c (.int .i64)))]⟩, [(.exit 0, ⟨[.box .own (.arr .u8 8), .box .own (.arr .u8 8)], [(4, .w (.c (.ptr 0))), (5, .w (.c (.ptr 1)))]⟩)]⟩
def fd151 : FD := { id := 151, fn := Go.Proofs.Try.f151, sig := ⟨[.ro (.arr .u8 8), .ro (.int .i64)], [(.own, false, .arr .u8 8)]⟩, loops := [(3, in20006)], views := [], joins := [] }
def fd137 : FD := { id := 137, fn := Go.Proofs.Try.f137, sig := ⟨[.ro (.arr .u8 8), .ro (.int .i64)], [(.own, false, .arr .u8 8)]⟩, loops := [], views := [], joins := [] }
def in20007 : LoopInfo := ⟨20007, ⟨[.box .own (.arr .u8 8), .box .own (.arr .u8 8)], [(0, .w (.c (.int .i64))), (2, .w (.c (.ptr 0))), (3, .w (.c (.ptr 1))), (6, .w (.c (.int .i64))), (7, .w (.c (.int .i64)))]⟩, [(.exit 0, ⟨[.box .own (.arr .u8 8), .box .own (.arr .u8 8)], [(2, .w (.c (.ptr 0))), (3, .w (.c (.ptr 1)))]⟩)]⟩
def fd95 : FD := { id := 95, fn := Go.Proofs.Try.f95, sig := ⟨[.ro (.int .i64)], [(.own, false, .arr .u8 8)]⟩, loops := [(3, in20007)], views := [], joins := [] }
def in20008 : LoopInfo := ⟨20008, ⟨[.box .own (.arr .u8 8), .box .own (.arr .u8 8), .box .own (.arr .u8 8), .box .own (.arr .u8 8)], [(3, .w (.c (.ptr 0))), (4, .w (.c (.ptr 1))), (6, .w (.c (.ptr 2))), (7, .w (.c (.ptr 3))), (10, .w (.c (.int .i64))), (11, .w (.c (.int .i64)))]⟩, [(.exit 0, ⟨[.box .own (.arr .u8 8), .box .own (.arr .u8 8)], [(6, .w (.c (.ptr 0))), (7, .w (.c (.ptr 1)))]⟩)]⟩
def fd150 : FD := { id := 150, fn := Go.Proofs.Try.f150, sig := ⟨[.ro (.arr .u8 8), .ro (.arr .u8 8), .ro (.int .i64)], [(.own, false, .arr .u8 8)]⟩, loops := [(3, in20008)], views := [], joins := [] }
def fd136 : FD := { id := 136, fn := Go.Proofs.Try.f136, sig := ⟨[.ro (.arr .u8 8), .ro (.arr .u8 8), .ro (.int .i64)], [(.own, false, .arr .u8 8)]⟩, loops := [], views := [], joins := [] }
def fd101 : FD := { id := 101, fn := Go.Proofs.Try.f101, sig := ⟨[.ro (.arr .u8 8), .ro (.int .i64)], [(.own, false, .arr .u8 8)]⟩, loops := [], views := [], joins := [] }
def in20009 : LoopInfo := ⟨20009, ⟨[.row .own (.int .i64)], [(3, .w (.c (.sl 0))), (6, .w (.c (.int .i64))), (7, .w (.c (.int .i64)))]⟩, [(.exit 0, ⟨[.row .own (.int .i64)], [(3, .w (.c (.sl 0)))]⟩)]⟩
def fd147 : FD := { id := 147, fn := Go.Proofs.Try.f147, sig := ⟨[.ro (.int .i64)], [(.own, false, .slice (.int .i64))]⟩, loops := [(3, in20009)], views := [], joins := [] }
def fd133 : FD := { id := 133, fn := Go.Proofs.Try.f133, sig := ⟨[.ro (.int .i64)], [(.own, false, .slice (.int .i64))]⟩, loops := [], views := [], joins := [] }
def in20011 : LoopInfo := ⟨20011, ⟨[.row .own (.int .i64)], [(0, .w (.c (.sl 0))), (6, .w (.c (.int .i64))), (7, .w (.c (.int .i64))), (28, .w (.c (.sl 0))), (29, .w (.c (.int .i64))), (30, .w (.c (.int .i64)))]⟩, [(.exit 0, ⟨[.row .own (.int .i64)], [(0, .w (.c (.sl 0)))]⟩)]⟩
def fd134 : FD := { id := 134, fn := Go.Proofs.Try.f134, sig := ⟨[.mut tyW_, .ro (.int .i64), .ro (.int .i64)], []⟩, loops := [(2, in20011)], views := [], joins := [] }
def in20012 : LoopInfo := ⟨20012, ⟨[.row .ro (.int .i64), .box .own (.arr .u8 8), .box .own (.arr .u8 8)], [(0, .w (.c (.sl 0))), (2, .w (.c (.ptr 1))), (3, .w (.c (.ptr 2))), (8, .w (.c (.sl 0))), (9, .w (.c (.int .i64))), (10, .w (.c (.int .i64)))]⟩, [(.exit 0, ⟨[.box .own (.arr .u8 8), .box .own (.arr .u8 8)], [(2, .w (.c (.ptr 0))), (3, .w (.c (.ptr 1)))]⟩)]⟩
def in20013 : LoopInfo := ⟨20013, ⟨[.row .ro (.int .i64), .box .own (.arr .u8 8), .box .own (.arr .u8 8)], [(0, .w (.c (.sl 0))), (2, .w (.c (.ptr 1))), (3, .w (.c (.ptr 2))), (4, .w (.c (.int .i64))), (5, .w (.c (.int .i64))), (6, .w (.c (.int .i64))), (8, .w (.c (.sl 0))), (9, .w (.c (.int .i64))), (10, .w (.c (.int .i64)))]⟩, [(.exit 2, ⟨[.row .ro (.int .i64), .box .own (.arr .u8 8), .box .own (.arr .u8 8)], [(0, .w (.c (.sl 0))), (2, .w (.c (.ptr 1))), (3, .w (.c (.ptr 2))), (8, .w (.c (.sl 0))), (9, .w (.c (.int .i64))), (10, .w (.c (.int .i64)))]⟩)]⟩
def fd135 : FD := { id := 135, fn := Go.Proofs.Try.f135, sig := ⟨[.ro tyW_], [(.own, false, .arr .u8 8)]⟩, loops := [(3, in20012), (7, in20013)], views := [], joins := [] }
def in20010 : LoopInfo := ⟨20010, ⟨[.box .own (.arr .u8 8), .row .own (.int .i64)], [(1, .w (.c (.int .i64))), (2, .w (.c (.ptr 0))), (6, .w (.c (.sl 1))), (11, .w (.c (.int .i64))), (12, .w (.c (.int .i64)))]⟩, [(.exit 0, ⟨[.box .own (.arr .u8 8), .row .own (.int .i64)], [(2, .w (.c (.ptr 0))), (6, .w (.c (.sl 1)))]⟩), (.ret, ⟨[.row .own (.int .i64)], [(4, .w (.c (.sl 0))), (5, .w (.c (.bool)))]⟩)]⟩
def fd130 : FD := { id := 130, fn := Go.Proofs.Try.f130, sig := ⟨[.ro (.arr .u8 8), .ro (.int .i64)], [(.own, false, .slice (.int .i64)), (.own, false, .bool)]⟩, loops := [(3, in20010)], views := [], joins := [] }
def in20014 : LoopInfo := ⟨20014, ⟨[.box .own (.arr .u8 8), .row .own (.int .i64), .row .own (.int .i64), .row .own (.int .i64)], [(6, .w (.c (.ptr 0))), (7, .w (.c (.sl 1))), (9, .w (.c (.sl 2))), (11, .w (.c (.sl 3))), (28, .w (.c (.int .i64))), (29, .w (.c (.int .i64)))]⟩, [(.exit 0, ⟨[.box .own (.arr .u8 8), .row .own (.int .i64)], [(6, .w (.c (.ptr 0))), (11, .w (.c (.sl 1)))]⟩)]⟩
def in20015 : LoopInfo := ⟨20015, ⟨[.box .own (.arr .u8 8), .row .own (.int .i64), .row .own (.int .i64), .row .own (.int .i64)], [(6, .w (.c (.ptr 0))), (7, .w (.c (.sl 1))), (9, .w (.c (.sl 2))), (11, .w (.c (.sl 3))), (12, .w (.c (.int .i64))), (28, .w (.c (.int .i64))), (29, .w (.c (.int .i64))), (32, .w (.c (.int .i64))), (33, .w (.c (.int .i64)))]⟩, [(.exit 2, ⟨[.box .own (.arr .u8 8), .row .own (.int .i64), .row .own (.int .i64), .row .own (.int .i64)], [(6, .w (.c (.ptr 0))), (7, .w (.c (.sl 1))), (9, .w (.c (.sl 2))), (11, .w (.c (.sl 3))), (28, .w (.c (.int .i64))), (29, .w (.c (.int .i64)))]⟩)]⟩
def fd100 : FD := { id := 100, fn := Go.Proofs.Try.f100, sig := ⟨[.ro (.arr .u8 8), .ro (.arr .u8 8), .ro (.int .i64)], [(.own, false, .arr .u8 8)]⟩, loops := [(5, in20014), (8, in20015)], views := [], joins := [] }
def in20005 : LoopInfo := ⟨20005, ⟨[.box .own (.st [.int .i64, .int .i64, .sl 1]), .row .own (.arr .u8 8)], [(0, .w (.c (.ptr 0))), (4, .w (.c (.int .i64))), (5, .w (.c (.int .i64)))]⟩, [(.exit 0, ⟨[.box .own (.st [.int .i64, .int .i64, .sl 1]), .row .own (.arr .u8 8)], [(0, .w (.c (.ptr 0))), (4, .w (.c (.int .i64)))]⟩)]⟩
def in20016 : LoopInfo := ⟨20016, ⟨[.box .own (.st [.int .i64, .int .i64, .sl 1]), .row .own (.arr .u8 8)], [(0, .w (.c (.ptr 0))), (4, .w (.c (.int .i64)))]⟩, [(.exit 2, ⟨[.box .own (.st [.int .i64, .int .i64, .sl 1]), .row .own (.arr .u8 8)], [(0, .w (.c (.ptr 0))), (4, .w (.c (.int .i64)))]⟩)]⟩
def in20017 : LoopInfo := ⟨20017, ⟨[.box .own (.st [.int .i64, .int .i64, .sl 1]), .row .own (.arr .u8 8)], [(0, .w (.c (.ptr 0))), (4, .w (.c (.int .i64)))]⟩, [(.exit 4, ⟨[.box .own (.st [.int .i64, .int .i64, .sl 1]), .row .own (.arr .u8 8)], [(0, .w (.c (.ptr 0)))]⟩)]⟩
def fd119 : FD := { id := 119, fn := Go.Proofs.Try.f119, sig := ⟨[.box (tyN_), .ro (.arr .u8 8)], []⟩, loops := [(5, in20005), (11, in20016), (14, in20017)], views := [], joins := [] }
def in20019 : LoopInfo := ⟨20019, ⟨[.box .own (.arr .u8 8), .box .own (.arr .u8 8), .box .own (.arr .u8 8)], [(1, .w (.c (.int .i64))), (3, .w (.c (.ptr 0))), (6, .w (.c (.ptr 1))), (7, .w (.c (.ptr 2))), (8, .w (.c (.int .i64))), (18, .w (.c (.int .i64))), (19, .w (.c (.int .i64)))]⟩, [(.exit 0, ⟨[.box .own (.arr .u8 8), .box .own (.arr .u8 8)], [(6, .w (.c (.ptr 0))), (7, .w (.c (.ptr 1)))]⟩)]⟩
def fd148 : FD := { id := 148, fn := Go.Proofs.Try.f148, sig := ⟨[.ro (.arr .u8 8), .ro (.int .i64), .ro (.int .i64)], [(.own, false, .arr .u8 8)]⟩, loops := [(4, in20019)], views := [], joins := [] }
def in20018 : LoopInfo := ⟨20018, ⟨[.box .own (.st [.int .i64, .int .i64, .sl 1]), .row .own (.arr .u8 8), .box .own (.arr .u8 8)], [(0, .w (.c (.ptr 0))), (3, .w (.c (.ptr 2))), (4, .w (.c (.int .i64))), (21, .w (.c (.sl 1))), (22, .w (.c (.int .i64))), (23, .w (.c (.int .i64)))]⟩, [(.exit 0, ⟨[.box .own (.st [.int .i64, .int .i64, .sl 1]), .row .own (.arr .u8 8), .box .own (.arr .u8 8)], [(0, .w (.c (.ptr 0))), (3, .w (.c (.ptr 2))), (4, .w (.c (.int .i64)))]⟩)]⟩
def fd120 : FD := { id := 120, fn := Go.Proofs.Try.f120, sig := ⟨[.box (tyN_), .ro (.arr .u8 8)], []⟩, loops := [(4, in20018)], views := [], joins := [] }
def in20003 : LoopInfo := ⟨20003, ⟨[.box .own (.st [.int .i64, .sl 1]), .row .ro (.int .i64), .box .own (.st [.int .i64, .int .i64, .sl 3]), .row .own (.arr .u8 8), .box .own (.st [.int .i64, .int .i64, .sl 5]), .row .own (.arr .u8 8)], [(1, .w (.c (.ptr 0))), (2, .w (.c (.ptr 2))), (3, .w (.c (.ptr 4))), (11, .w (.c (.sl 1))), (12, .w (.c (.int .i64))), (13, .w (.c (.int .i64)))]⟩, [(.exit 0, ⟨[.box .own (.st [.int .i64, .int .i64, .sl 1]), .row .own (.arr .u8 8), .box .own (.st [.int .i64, .int .i64, .sl 3]), .row .own (.arr .u8 8)], [(2, .w (.c (.ptr 0))), (3, .w (.c (.ptr 2)))]⟩)]⟩
def fd73 : FD := { id := 73, fn := Go.Proofs.Try.f73, sig := ⟨[.ro (tyB_)], [(.own, false, tyN_)]⟩, loops := [(3, in20003)], views := [], joins := [] }
def fd43 : FD := { id := 43, fn := Go.Proofs.Try.f43, sig := ⟨[.ro (tyB_)], [(.own, false, tyN_), (.own, false, .int .i64)]⟩, loops := [], views := [], joins := [] }
def fd114 : FD := { id := 114, fn := Go.Proofs.Try.f114, sig := ⟨[.ro (.int .i64), .ro (.int .i64), .ro (.int .i64)], [(.own, false, .bool)]⟩, loops := [], views := [], joins := [] }
def in20020 : LoopInfo := ⟨20020, ⟨[.box .own (.st [.int .i64, .sl 1]), .row .ro (.int .i64)], [(1, .w (.c (.ptr 0))), (3, .w (.c (.int .i64)))]⟩, [(.exit 0, ⟨[], []⟩), (.ret, ⟨[], [(2, .w (.c (.bool)))]⟩)]⟩
def fd58 : FD := { id := 58, fn := Go.Proofs.Try.f58, sig := ⟨[.ro (tyB_)], [(.own, false, .bool)]⟩, loops := [(4, in20020)], views := [], joins := [] }
def in20022 : LoopInfo := ⟨20022, ⟨[.row .ro (.int .i64), .box .own (.arr .u8 8), .box .own (.arr .u8 8)], [(0, .w (.c (.int .i64))), (1, .w (.c (.sl 0))), (4, .w (.c (.ptr 1))), (5, .w (.c (.ptr 2))), (6, .w (.c (.int .i64)))]⟩, [(.exit 0, ⟨[.row .ro (.int .i64), .box .own (.arr .u8 8), .box .own (.arr .u8 8)], [(1, .w (.c (.sl 0))), (4, .w (.c (.ptr 1))), (5, .w (.c (.ptr 2)))]⟩)]⟩
def in20023 : LoopInfo := ⟨20023, ⟨[.row .ro (.int .i64), .box .own (.arr .u8 8), .box .own (.arr .u8 8)], [(1, .w (.c (.sl 0))), (4, .w (.c (.ptr 1))), (5, .w (.c (.ptr 2))), (7, .w (.c (.int .i64)))]⟩, [(.exit 2, ⟨[.box .own (.arr .u8 8), .box .own (.arr .u8 8)], [(4, .w (.c (.ptr 0))), (5, .w (.c (.ptr 1)))]⟩)]⟩
def fd160 : FD := { id := 160, fn := Go.Proofs.Try.f160, sig := ⟨[.ro (.int .i64), .ro tyW_], [(.own, false, .arr .u8 8)]⟩, loops := [(3, in20022), (7, in20023)], views := [], joins := [] }
def in20024 : LoopInfo := ⟨20024, ⟨[.box .own (.arr .u8 8), .box .own (.arr .u8 8), .box .own (.arr .u8 8)], [(0, .w (.c (.int .i64))), (4, .w (.c (.ptr 0))), (5, .w (.c (.ptr 1))), (6, .w (.c (.ptr 2))), (7, .w (.c (.int .i64)))]⟩, [(.exit 0, ⟨[.box .own (.arr .u8 8), .box .own (.arr .u8 8)], [(4, .w (.c (.ptr 0))), (6, .w (.c (.ptr 1)))]⟩)]⟩
def fd149 : FD := { id := 149, fn := Go.Proofs.Try.f149, sig := ⟨[.ro (.int .i64), .ro tyW_], [(.own, false, .arr .u8 8)]⟩, loops := [(3, in20024)], views := [], joins := [] }
def fd123 : FD := { id := 123, fn := Go.Proofs.Try.f123, sig := ⟨[.ro (.int .i64)], [(.own, false, .arr .u8 8)]⟩, loops := [], views := [], joins := [] }
def in20026 : LoopInfo := ⟨20026, ⟨[.box .own (.arr .u8 8), .box .own (.arr .u8 8), .box .own (.arr .u8 8)], [(1, .w (.c (.int .i64))), (2, .w (.c (.int .i64))), (3, .w (.c (.ptr 0))), (6, .w (.c (.ptr 1))), (7, .w (.c (.ptr 2))), (8, .w (.c (.int .i64)))]⟩, [(.exit 0, ⟨[.box .own (.arr .u8 8), .box .own (.arr .u8 8)], [(6, .w (.c (.ptr 0))), (7, .w (.c (.ptr 1)))]⟩)]⟩
def fd124 : FD := { id := 124, fn := Go.Proofs.Try.f124, sig := ⟨[.ro (.arr .u8 8), .ro (.int .i64), .ro (.int .i64)], [(.own, false, .arr .u8 8)]⟩, loops := [(3, in20026)], views := [], joins := [] }
def in20027 : LoopInfo := ⟨20027, ⟨[.box .own (.arr .u8 8), .box .own (.arr .u8 8)], [(0, .w (.c (.int .i64))), (2, .w (.c (.ptr 0))), (3, .w (.c (.ptr 1))), (4, .w (.c (.int .i64)))]⟩, [(.exit 0, ⟨[.box .own (.arr .u8 8), .box .own (.arr .u8 8)], [(2, .w (.c (.ptr 0))), (3, .w (.c (.ptr 1)))]⟩)]⟩
def fd109 : FD := { id := 109, fn := Go.Proofs.Try.f109, sig := ⟨[.ro (.int .i64)], [(.own, false, .arr .u8 8)]⟩, loops := [(3, in20027)], views := [], joins := [] }
def in20028 : LoopInfo := ⟨20028, ⟨[.box .own (.arr .u8 8), .box .own (.arr .u8 8), .box .own (.arr .u8 8)], [(1, .w (.c (.int .i64))), (2, .w (.c (.ptr 0))), (4, .w (.c (.ptr 1))), (5, .w (.c (.ptr 2))), (6, .w (.c (.int .i64)))]⟩, [(.exit 0, ⟨[.box .own (.arr .u8 8), .box .own (.arr .u8 8)], [(4, .w (.c (.ptr 0))), (5, .w (.c (.ptr 1)))]⟩)]⟩
def fd126 : FD := { id := 126, fn := Go.Proofs.Try.f126, sig := ⟨[.ro (.arr .u8 8), .ro (.int .i64)], [(.own, false, .arr .u8 8)]⟩, loops := [(3, in20028)], views := [], joins := [] }
def in20029 : LoopInfo := ⟨20029, ⟨[.box .own (.arr .u8 8), .box .own (.arr .u8 8), .box .own (.arr .u8 8), .box .own (.arr .u8 8)], [(2, .w (.c (.int .i64))), (3, .w (.c (.ptr 0))), (4, .w (.c (.ptr 1))), (6, .w (.c (.ptr 2))), (7, .w (.c (.ptr 3))), (8, .w (.c (.int .i64)))]⟩, [(.exit 0, ⟨[.box .own (.arr .u8 8), .box .own (.arr .u8 8)], [(6, .w (.c (.ptr 0))), (7, .w (.c (.ptr 1)))]⟩)]⟩
def fd125 : FD := { id := 125, fn := Go.Proofs.Try.f125, sig := ⟨[.ro (.arr .u8 8), .ro (.arr .u8 8), .ro (.int .i64)], [(.own, false, .arr .u8 8)]⟩, loops := [(3, in20029)], views := [], joins := [] }
def fd144 : FD := { id := 144, fn := Go.Proofs.Try.f144, sig := ⟨[.ro (.arr .u8 8), .ro (.int .i64)], [(.own, false, .arr .u8 8)]⟩, loops := [], views := [], joins := [] }
def in20031 : LoopInfo := ⟨20031, ⟨[.box .own (.arr .u8 8), .box .own (.arr .i64 8), .box .own (.arr .i64 8), .box .own (.barr 8)], [(1, .w (.c (.int .i64))), (2, .w (.c (.ptr 0))), (4, .w (.c (.ptr 1))), (6, .w (.c (.ptr 2))), (7, .w (.c (.ptr 3))), (8, .w (.c (.int .i64)))]⟩, [(.exit 0, ⟨[.box .own (.arr .u8 8), .box .own (.arr .i64 8), .box .own (.arr .i64 8)], [(1, .w (.c (.int .i64))), (2, .w (.c (.ptr 0))), (4, .w (.c (.ptr 1))), (6, .w (.c (.ptr 2)))]⟩), (.ret, ⟨[.box .own (.arr .i64 8)], [(4, .w (.c (.ptr 0))), (5, .w (.c (.bool)))]⟩)]⟩
def in20032 : LoopInfo := ⟨20032, ⟨[.box .own (.arr .u8 8), .box .own (.arr .i64 8), .box .own (.arr .i64 8), .box .own (.barr 8)], [(1, .w (.c (.int .i64))), (2, .w (.c (.ptr 0))), (4, .w (.c (.ptr 1))), (6, .w (.c (.ptr 2))), (9, .w (.c (.ptr 3))), (10, .w (.c (.int .i64)))]⟩, [(.exit 2, ⟨[.box .own (.arr .i64 8), .box .own (.arr .i64 8)], [(4, .w (.c (.ptr 0))), (6, .w (.c (.ptr 1)))]⟩)]⟩
def in20033 : LoopInfo := ⟨20033, ⟨[.box .own (.arr .u8 8), .box .own (.arr .i64 8), .box .own (.arr .i64 8), .box .own (.barr 8)], [(1, .w (.c (.int .i64))), (2, .w (.c (.ptr 0))), (4, .w (.c (.ptr 1))), (6, .w (.c (.ptr 2))), (9, .w (.c (.ptr 3))), (10, .w (.c (.int .i64))), (11, .w (.c (.int .i64)))]⟩, [(.exit 4, ⟨[.box .own (.arr .u8 8), .box .own (.arr .i64 8), .box .own (.arr .i64 8), .box .own (.barr 8)], [(1, .w (.c (.int .i64))), (2, .w (.c (.ptr 0))), (4, .w (.c (.ptr 1))), (6, .w (.c (.ptr 2))), (9, .w (.c (.ptr 3))), (10, .w (.c (.int .i64)))]⟩)]⟩
def fd159 : FD := { id := 159, fn := Go.Proofs.Try.f159, sig := ⟨[.ro (.arr .u8 8), .ro (.int .i64)], [(.own, false, .arr .i64 8), (.own, false, .bool)]⟩, loops := [(3, in20031), (11, in20032), (14, in20033)], views := [], joins := [] }
def in20036 : LoopInfo := ⟨20036, ⟨[.box .own (.arr .i64 8), .box .own (.arr .u8 8), .box .own (.arr .u8 8)], [(1, .w (.c (.int .i64))), (2, .w (.c (.ptr 0))), (4, .w (.c (.ptr 1))), (5, .w (.c (.ptr 2))), (6, .w (.c (.int .i64)))]⟩, [(.exit 0, ⟨[.box .own (.arr .u8 8), .box .own (.arr .u8 8)], [(4, .w (.c (.ptr 0))), (5, .w (.c (.ptr 1)))]⟩)]⟩
def in20037 : LoopInfo := ⟨20037, ⟨[.box .own (.arr .i64 8), .box .own (.arr .u8 8), .box .own (.arr .u8 8)], [(1, .w (.c (.int .i64))), (2, .w (.c (.ptr 0))), (4, .w (.c (.ptr 1))), (5, .w (.c (.ptr 2))), (6, .w (.c (.int .i64))), (7, .w (.c (.int .i64)))]⟩, [(.exit 2, ⟨[.box .own (.arr .i64 8), .box .own (.arr .u8 8), .box .own (.arr .u8 8)], [(1, .w (.c (.int .i64))), (2, .w (.c (.ptr 0))), (4, .w (.c (.ptr 1))), (5, .w (.c (.ptr 2))), (6, .w (.c (.int .i64)))]⟩)]⟩
def fd158 : FD := { id := 158, fn := Go.Proofs.Try.f158, sig := ⟨[.ro (.arr .i64 8), .ro (.int .i64)], [(.own, false, .arr .u8 8)]⟩, loops := [(3, in20036), (7, in20037)], views := [], joins := [] }
def in20034 : LoopInfo := ⟨20034, ⟨[.box .own (.arr .u8 8), .box .own (.arr .i64 8), .box .own (.arr .i64 8), .box .own (.arr .i64 8)], [(2, .w (.c (.int .i64))), (6, .w (.c (.ptr 0))), (7, .w (.c (.ptr 1))), (9, .w (.c (.ptr 2))), (11, .w (.c (.ptr 3))), (12, .w (.c (.int .i64)))]⟩, [(.exit 0, ⟨[.box .own (.arr .u8 8), .box .own (.arr .i64 8)], [(2, .w (.c (.int .i64))), (6, .w (.c (.ptr 0))), (11, .w (.c (.ptr 1)))]⟩)]⟩
def in20035 : LoopInfo := ⟨20035, ⟨[.box .own (.arr .u8 8), .box .own (.arr .i64 8), .box .own (.arr .i64 8), .box .own (.arr .i64 8)], [(2, .w (.c (.int .i64))), (6, .w (.c (.ptr 0))), (7, .w (.c (.ptr 1))), (9, .w (.c (.ptr 2))), (11, .w (.c (.ptr 3))), (12, .w (.c (.int .i64))), (13, .w (.c (.int .i64)))]⟩, [(.exit 2, ⟨[.box .own (.arr .u8 8), .box .own (.arr .i64 8), .box .own (.arr .i64 8), .box .own (.arr .i64 8)], [(2, .w (.c (.int .i64))), (6, .w (.c (.ptr 0))), (7, .w (.c (.ptr 1))), (9, .w (.c (.ptr 2))), (11, .w (.c (.ptr 3))), (12, .w (.c (.int .i64)))]⟩)]⟩
def fd143 : FD := { id := 143, fn := Go.Proofs.Try.f143, sig := ⟨[.ro (.arr .u8 8), .ro (.arr .u8 8), .ro (.int .i64)], [(.own, false, .arr .u8 8)]⟩, loops := [(5, in20034), (8, in20035)], views := [], joins := [] }
def in20030 : LoopInfo := ⟨20030, ⟨[.box .own (.st [.int .i64, .int .i64, .sl 1]), .row .ro (.arr .u8 8), .box .own (.st [.int .i64, .int .i64, .sl 3]), .row .own (.arr .u8 8), .row .own (.arr .u8 8)], [(2, .w (.c (.ptr 0))), (4, .w (.c (.ptr 2))), (5, .w (.c (.int .i64))), (6, .w (.c (.sl 4))), (7, .w (.c (.int .i64)))]⟩, [(.exit 0, ⟨[.box .own (.st [.int .i64, .int .i64, .sl 1]), .row .ro (.arr .u8 8), .box .own (.st [.int .i64, .int .i64, .sl 3]), .row .own (.arr .u8 8), .row .own (.arr .u8 8)], [(2, .w (.c (.ptr 0))), (4, .w (.c (.ptr 2))), (5, .w (.c (.int .i64))), (6, .w (.c (.sl 4)))]⟩)]⟩
def in20038 : LoopInfo := ⟨20038, ⟨[.box .own (.st [.int .i64, .int .i64, .sl 1]), .row .own (.arr .u8 8), .row .own (.arr .u8 8), .box .own (.st [.int .i64, .int .i64, .sl 4]), .row .own (.arr .u8 8)], [(4, .w (.c (.ptr 0))), (5, .w (.c (.int .i64))), (6, .w (.c (.sl 2))), (9, .w (.c (.ptr 3))), (10, .w (.c (.int .i64)))]⟩, [(.exit 2, ⟨[.box .own (.st [.int .i64, .int .i64, .sl 1]), .row .own (.arr .u8 8), .box .own (.st [.int .i64, .int .i64, .sl 3]), .row .own (.arr .u8 8)], [(4, .w (.c (.ptr 0))), (9, .w (.c (.ptr 2)))]⟩)]⟩
def fd127 : FD := { id := 127, fn := Go.Proofs.Try.f127, sig := ⟨[.ro (tyN_), .ro (.arr .u8 8)], [(.own, false, tyN_)]⟩, loops := [(4, in20030), (11, in20038)], views := [], joins := [] }
def in20021 : LoopInfo := ⟨20021, ⟨[.row .ro (.int .i64), .box .own (.st [.int .i64, .int .i64, .sl 2]), .row .own (.arr .u8 8), .box .own (.st [.int .i64, .int .i64, .sl 4]), .row .own (.arr .u8 8)], [(0, .w (.c (.int .i64))), (1, .w (.c (.sl 0))), (4, .w (.c (.ptr 1))), (5, .w (.c (.ptr 3))), (6, .w (.c (.int .i64)))]⟩, [(.exit 0, ⟨[.box .own (.st [.int .i64, .int .i64, .sl 1]), .row .own (.arr .u8 8), .box .own (.st [.int .i64, .int .i64, .sl 3]), .row .own (.arr .u8 8)], [(4, .w (.c (.ptr 0))), (5, .w (.c (.ptr 2)))]⟩)]⟩
def in20025 : LoopInfo := ⟨20025, ⟨[.row .ro (.int .i64), .box .own (.st [.int .i64, .int .i64, .sl 2]), .row .own (.arr .u8 8), .box .own (.st [.int .i64, .int .i64, .sl 4]), .row .own (.arr .u8 8), .box .own (.arr .u8 8)], [(0, .w (.c (.int .i64))), (1, .w (.c (.sl 0))), (4, .w (.c (.ptr 1))), (5, .w (.c (.ptr 3))), (6, .w (.c (.int .i64))), (8, .w (.c (.ptr 5))), (9, .w (.c (.int .i64)))]⟩, [(.exit 2, ⟨[.row .ro (.int .i64), .box .own (.st [.int .i64, .int .i64, .sl 2]), .row .own (.arr .u8 8), .box .own (.st [.int .i64, .int .i64, .sl 4]), .row .own (.arr .u8 8), .box .own (.arr .u8 8)], [(0, .w (.c (.int .i64))), (1, .w (.c (.sl 0))), (4, .w (.c (.ptr 1))), (5, .w (.c (.ptr 3))), (6, .w (.c (.int .i64))), (8, .w (.c (.ptr 5)))]⟩)]⟩
def fd93 : FD := { id := 93, fn := Go.Proofs.Try.f93, sig := ⟨[.ro (.int .i64), .ro tyW_], [(.own, false, tyN_)]⟩, loops := [(3, in20021), (11, in20025)], views := [], joins := [] }
def fd44 : FD := { id := 44, fn := Go.Proofs.Try.f44, sig := ⟨[.ro (tyB_)], [(.own, false, tyN_), (.own, false, .int .i64)]⟩, loops := [], views := [], joins := [] }
def in20039 : LoopInfo := ⟨20039, ⟨[.box .own (.st [.int .i64, .int .i64, .sl 1]), .row .ro (.arr .u8 8), .box .own (.st [.int .i64, .int .i64, .sl 3]), .row .ro (.arr .u8 8)], [(2, .w (.c (.ptr 0))), (3, .w (.c (.ptr 2))), (5, .w (.c (.int .i64)))]⟩, [(.exit 0, ⟨[], []⟩), (.ret, ⟨[], [(4, .w (.c (.bool)))]⟩)]⟩
def fd45 : FD := { id := 45, fn := Go.Proofs.Try.f45, sig := ⟨[.ro (tyN_), .ro (tyN_)], [(.own, false, .bool)]⟩, loops := [(4, in20039)], views := [], joins := [] }
def in20041 : LoopInfo := ⟨20041, ⟨[.row .ro (.int .i64)], [(0, .w (.c (.sl 0))), (5, .w (.c (.int .i64))), (12, .w (.c (.int .i64))), (13, .w (.c (.int .i64)))]⟩, [(.exit 0, ⟨[], []⟩), (.ret, ⟨[], [(2, .w (.c (.int .i64))), (3, .w (.c (.int .i64))), (4, .w (.c (.bool)))]⟩)]⟩
def in20042 : LoopInfo := ⟨20042, ⟨[.row .ro (.int .i64)], [(0, .w (.c (.sl 0))), (5, .w (.c (.int .i64))), (6, .w (.c (.int .i64))), (7, .w (.c (.int .i64))), (12, .w (.c (.int .i64))), (13, .w (.c (.int .i64)))]⟩, [(.exit 2, ⟨[.row .ro (.int .i64)], [(0, .w (.c (.sl 0))), (5, .w (.c (.int .i64))), (12, .w (.c (.int .i64))), (13, .w (.c (.int .i64)))]⟩), (.ret, ⟨[], [(2, .w (.c (.int .i64))), (3, .w (.c (.int .i64))), (4, .w (.c (.bool)))]⟩)]⟩
def in20043 : LoopInfo := ⟨20043, ⟨[.row .ro (.int .i64)], [(0, .w (.c (.sl 0))), (5, .w (.c (.int .i64))), (6, .w (.c (.int .i64))), (7, .w (.c (.int .i64))), (8, .w (.c (.int .i64))), (12, .w (.c (.int .i64))), (13, .w (.c (.int .i64)))]⟩, [(.exit 4, ⟨[.row .ro (.int .i64)], [(0, .w (.c (.sl 0))), (5, .w (.c (.int .i64))), (6, .w (.c (.int .i64))), (7, .w (.c (.int .i64))), (12, .w (.c (.int .i64))), (13, .w (.c (.int .i64)))]⟩), (.ret, ⟨[], [(2, .w (.c (.int .i64))), (3, .w (.c (.int .i64))), (4, .w (.c (.bool)))]⟩)]⟩
def in20044 : LoopInfo := ⟨20044, ⟨[.row .ro (.int .i64)], [(0, .w (.c (.sl 0))), (5, .w (.c (.int .i64))), (6, .w (.c (.int .i64))), (7, .w (.c (.int .i64))), (8, .w (.c (.int .i64))), (9, .w (.c (.int .i64))), (12, .w (.c (.int .i64))), (13, .w (.c (.int .i64)))]⟩, [(.exit 6, ⟨[.row .ro (.int .i64)], [(0, .w (.c (.sl 0))), (5, .w (.c (.int .i64))), (6, .w (.c (.int .i64))), (7, .w (.c (.int .i64))), (8, .w (.c (.int .i64))), (12, .w (.c (.int .i64))), (13, .w (.c (.int .i64)))]⟩), (.ret, ⟨[], [(2, .w (.c (.int .i64))), (3, .w (.c (.int .i64))), (4, .w (.c (.bool)))]⟩)]⟩
def fd131 : FD := { id := 131, fn := Go.Proofs.Try.f131, sig := ⟨[.ro tyW_], [(.own, false, .int .i64), (.own, false, .int .i64), (.own, false, .bool)]⟩, loops := [(3, in20041), (6, in20042), (9, in20043), (12, in20044)], views := [], joins := [] }
def fd98 : FD := { id := 98, fn := Go.Proofs.Try.f98, sig := ⟨[.ro (.arr .u8 8), .ro (.int .i64)], [(.own, false, .bool)]⟩, loops := [], views := [], joins := [] }
def in20040 : LoopInfo := ⟨20040, ⟨[.box .own (.st [.int .i64, .int .i64, .sl 1]), .row .ro (.arr .u8 8)], [(1, .w (.c (.ptr 0))), (3, .w (.c (.int .i64))), (33, .w (.c (.sl 1))), (34, .w (.c (.int .i64))), (35, .w (.c (.int .i64)))]⟩, [(.exit 0, ⟨[], []⟩), (.ret, ⟨[], [(2, .w (.c (.bool)))]⟩)]⟩
def fd47 : FD := { id := 47, fn := Go.Proofs.Try.f47, sig := ⟨[.ro (tyN_)], [(.own, false, .bool)]⟩, loops := [(5, in20040)], views := [], joins := [] }
def in20045 : LoopInfo := ⟨20045, ⟨[.row .own (.int .i64), .row .sh tyW_], [(1, .w (.c (.int .i64))), (5, .w (.c (.sl 0))), (7, .w (.c (.sl 1))), (18, .w (.c (.int .i64))), (19, .w (.c (.int .i64)))]⟩, [(.exit 0, ⟨[.row .sh tyW_], [(7, .w (.c (.sl 0)))]⟩)]⟩
def in20046 : LoopInfo := ⟨20046, ⟨[.row .own (.int .i64), .row .sh tyW_, .row .own (.int .i64)], [(1, .w (.c (.int .i64))), (5, .w (.c (.sl 0))), (7, .w (.c (.sl 1))), (8, .w (.c (.int .i64))), (9, .w (.c (.sl 2))), (10, .w (.c (.int .i64))), (18, .w (.c (.int .i64))), (19, .w (.c (.int .i64)))]⟩, [(.exit 2, ⟨[.row .own (.int .i64), .row .sh tyW_, .row .own (.int .i64)], [(1, .w (.c (.int .i64))), (5, .w (.c (.sl 0))), (7, .w (.c (.sl 1))), (9, .w (.c (.sl 2))), (18, .w (.c (.int .i64))), (19, .w (.c (.int .i64)))]⟩)]⟩
def fd128 : FD := { id := 128, fn := Go.Proofs.Try.f128, sig := ⟨[.ro (.arr .u8 8), .ro (.int .i64)], [(.ro, false, .slice tyW_)]⟩, loops := [(4, in20045), (9, in20046)], views := [], joins := [] }
def in20049 : LoopInfo := ⟨20049, ⟨[.row .own (.int .i64)], [(0, .w (.c (.int .i64))), (1, .w (.c (.int .i64))), (5, .w (.c (.sl 0))), (6, .w (.c (.int .i64)))]⟩, [(.exit 0, ⟨[.row .own (.int .i64)], [(0, .w (.c (.int .i64))), (1, .w (.c (.int .i64))), (5, .w (.c (.sl 0)))]⟩)]⟩
def in20050 : LoopInfo := ⟨20050, ⟨[.row .own (.int .i64)], [(0, .w (.c (.int .i64))), (5, .w (.c (.sl 0))), (7, .w (.c (.int .i64)))]⟩, [(.exit 2, ⟨[.row .own (.int .i64)], [(5, .w (.c (.sl 0)))]⟩)]⟩
def fd129 : FD := { id := 129, fn := Go.Proofs.Try.f129, sig := ⟨[.ro (.int .i64), .ro (.int .i64)], [(.own, false, .slice (.int .i64))]⟩, loops := [(3, in20049), (7, in20050)], views := [], joins := [] }
def in20047 : LoopInfo := ⟨20047, ⟨[.row .own (.int .i64), .row .ro tyW_], [(5, .w (.c (.sl 0))), (12, .w (.c (.sl 1))), (13, .w (.c (.int .i64))), (14, .w (.c (.int .i64)))]⟩, [(.exit 0, ⟨[.row .own (.int .i64)], [(5, .w (.c (.sl 0)))]⟩)]⟩
def in20048 : LoopInfo := ⟨20048, ⟨[.row .own (.int .i64), .row .ro (.int .i64), .row .ro tyW_], [(5, .w (.c (.sl 0))), (7, .w (.c (.sl 1))), (8, .w (.c (.int .i64))), (12, .w (.c (.sl 2))), (13, .w (.c (.int .i64))), (14, .w (.c (.int .i64)))]⟩, [(.exit 2, ⟨[.row .own (.int .i64), .row .ro tyW_], [(5, .w (.c (.sl 0))), (12, .w (.c (.sl 1))), (13, .w (.c (.int .i64))), (14, .w (.c (.int .i64)))]⟩)]⟩
def fd94 : FD := { id := 94, fn := Go.Proofs.Try.f94, sig := ⟨[.ro (.arr .u8 8), .ro (.int .i64)], [(.own, false, .slice (.int .i64))]⟩, loops := [(3, in20047), (6, in20048)], views := [], joins := [] }
def in20051 : LoopInfo := ⟨20051, ⟨[.box .own (.st [.int .i64, .sl 1]), .row .ro (.int .i64), .box .own (.st [.int .i64, .sl 3]), .row .own (.int .i64), .box .own (.st [.int .i64, .sl 5]), .row .own (.int .i64)], [(1, .w (.c (.ptr 0))), (2, .w (.c (.ptr 2))), (3, .w (.c (.ptr 4))), (4, .w (.c (.int .i64)))]⟩, [(.exit 0, ⟨[.box .own (.st [.int .i64, .sl 1]), .row .own (.int .i64), .box .own (.st [.int .i64, .sl 3]), .row .own (.int .i64)], [(2, .w (.c (.ptr 0))), (3, .w (.c (.ptr 2)))]⟩)]⟩
def fd89 : FD := { id := 89, fn := Go.Proofs.Try.f89, sig := ⟨[.ro (tyB_)], [(.own, false, tyB_)]⟩, loops := [(3, in20051)], views := [], joins := [] }
def fd90 : FD := { id := 90, fn := Go.Proofs.Try.f90, sig := ⟨[.ro (.int .i64)], [(.own, false, .int .i64)]⟩, loops := [], views := [], joins := [] }
def in20052 : LoopInfo := ⟨20052, ⟨[.box .own (.st [.int .i64, .sl 1]), .row .own (.int .i64), .box .own (.st [.int .i64, .sl 3]), .row .own (.int .i64), .row .ro (.int .i64)], [(1, .fn 90 []), (4, .w (.c (.ptr 0))), (5, .w (.c (.ptr 2))), (12, .w (.c (.sl 4))), (13, .w (.c (.int .i64))), (14, .w (.c (.int .i64)))]⟩, [(.exit 0, ⟨[.box .own (.st [.int .i64, .sl 1]), .row .own (.int .i64), .box .own (.st [.int .i64, .sl 3]), .row .own (.int .i64)], [(4, .w (.c (.ptr 0))), (5, .w (.c (.ptr 2)))]⟩)]⟩
def fd10000 : FD := { id := 88, fn := Go.Proofs.Try.f88, sig := ⟨[.ro (tyB_), .fn 90 []], [(.own, false, tyB_)]⟩, loops := [(3, in20052)], views := [], joins := [] }
def fd81 : FD := { id := 81, fn := Go.Proofs.Try.f81, sig := ⟨[.ro (tyB_), .ro (tyB_)], [(.own, false, tyB_)]⟩, loops := [], views := [], joins := [] }
def in20053 : LoopInfo := ⟨20053, ⟨[.box .own (.st [.int .i64, .int .i64, .sl 1]), .row .ro (.arr .u8 8), .box .own (.st [.int .i64, .sl 3]), .row .own (.int .i64), .box .own (.st [.int .i64, .sl 5]), .row .own (.int .i64), .box .own (.st [.int .i64, .sl 7]), .row .own (.int .i64)], [(1, .w (.c (.ptr 0))), (2, .w (.c (.ptr 2))), (4, .w (.c (.ptr 4))), (5, .w (.c (.ptr 6))), (32, .w (.c (.int .i64))), (33, .w (.c (.int .i64)))]⟩, [(.exit 0, ⟨[.box .own (.st [.int .i64, .int .i64, .sl 1]), .row .ro (.arr .u8 8), .box .own (.st [.int .i64, .sl 3]), .row .own (.int .i64), .box .own (.st [.int .i64, .sl 5]), .row .own (.int .i64)], [(1, .w (.c (.ptr 0))), (2, .w (.c (.ptr 2))), (4, .w (.c (.ptr 4)))]⟩)]⟩
def in20054 : LoopInfo := ⟨20054, ⟨[.box .own (.st [.int .i64, .int .i64, .sl 1]), .row .ro (.arr .u8 8), .box .own (.st [.int .i64, .sl 3]), .row .own (.int .i64), .box .own (.st [.int .i64, .sl 5]), .row .own (.int .i64)], [(1, .w (.c (.ptr 0))), (2, .w (.c (.ptr 2))), (4, .w (.c (.ptr 4))), (40, .w (.c (.sl 1))), (41, .w (.c (.int .i64))), (42, .w (.c (.int .i64)))]⟩, [(.exit 2, ⟨[.box .own (.st [.int .i64, .sl 1]), .row .own (.int .i64), .box .own (.st [.int .i64, .sl 3]), .row .own (.int .i64)], [(2, .w (.c (.ptr 0))), (4, .w (.c (.ptr 2)))]⟩)]⟩
def fd46 : FD := { id := 46, fn := Go.Proofs.Try.f46, sig := ⟨[.ro (tyN_)], [(.own, false, tyB_), (.own, false, .int .i64)]⟩, loops := [(8, in20053), (12, in20054)], views := [], joins := [] }
def in20057 : LoopInfo := ⟨20057, ⟨[.box .own (.arr .u8 8), .box .own (.arr .u8 8)], [(0, .w (.c (.int .i64))), (2, .w (.c (.ptr 0))), (3, .w (.c (.ptr 1))), (6, .w (.c (.int .i64))), (7, .w (.c (.int .i64)))]⟩, [(.exit 0, ⟨[.box .own (.arr .u8 8), .box .own (.arr .u8 8)], [(2, .w (.c (.ptr 0))), (3, .w (.c (.ptr 1)))]⟩)]⟩
def fd154 : FD := { id := 154, fn := Go.Proofs.Try.f154, sig := ⟨[.ro (.int .i64)], [(.own, false, .arr .u8 8)]⟩, loops := [(3, in20057)], views := [], joins := [] }
def fd153 : FD := { id := 153, fn := Go.Proofs.Try.f153, sig := ⟨[.ro (.arr .u8 8), .ro (.int .i64)], [(.own, false, .arr .u8 8)]⟩, loops := [], views := [], joins := [] }
def in20058 : LoopInfo := ⟨20058, ⟨[.box .own (.arr .u8 8)], [(2, .w (.c (.ptr 0))), (5, .w (.c (.int .u64))), (8, .w (.c (.int .i64))), (9, .w (.c (.int .i64)))]⟩, [(.exit 0, ⟨[], [(5, .w (.c (.int .u64)))]⟩)]⟩
def in20059 : LoopInfo := ⟨20059, ⟨[.box .own (.arr .u8 8)], [(2, .w (.c (.ptr 0))), (5, .w (.c (.int .u64))), (6, .w (.c (.int .i64))), (8, .w (.c (.int .i64))), (9, .w (.c (.int .i64))), (12, .w (.c (.int .i64))), (13, .w (.c (.int .i64)))]⟩, [(.exit 2, ⟨[.box .own (.arr .u8 8)], [(2, .w (.c (.ptr 0))), (5, .w (.c (.int .u64))), (8, .w (.c (.int .i64))), (9, .w (.c (.int .i64)))]⟩)]⟩
def fd161 : FD := { id := 161, fn := Go.Proofs.Try.f161, sig := ⟨[.ro (.arr .u8 8), .ro (.int .i64)], [(.own, false, .int .u64)]⟩, loops := [(3, in20058), (6, in20059)], views := [], joins := [] }
def in20060 : LoopInfo := ⟨20060, ⟨[.box .own (.arr .u8 8), .box .own (.arr .u8 8)], [(2, .w (.c (.int .i64))), (6, .w (.c (.ptr 0))), (7, .w (.c (.int .u64))), (8, .w (.c (.ptr 1))), (9, .w (.c (.bool)))]⟩, [(.exit 0, ⟨[.box .own (.arr .u8 8), .box .own (.arr .u8 8)], [(2, .w (.c (.int .i64))), (6, .w (.c (.ptr 0))), (8, .w (.c (.ptr 1)))]⟩)]⟩
def in20061 : LoopInfo := ⟨20061, ⟨[.box .own (.arr .u8 8), .box .own (.arr .u8 8)], [(2, .w (.c (.int .i64))), (6, .w (.c (.ptr 0))), (7, .w (.c (.int .u64))), (8, .w (.c (.ptr 1))), (9, .w (.c (.bool))), (10, .w (.c (.int .i64)))]⟩, [(.exit 2, ⟨[.box .own (.arr .u8 8), .box .own (.arr .u8 8)], [(2, .w (.c (.int .i64))), (6, .w (.c (.ptr 0))), (7, .w (.c (.int .u64))), (8, .w (.c (.ptr 1))), (9, .w (.c (.bool)))]⟩)]⟩
def fd152 : FD := { id := 152, fn := Go.Proofs.Try.f152, sig := ⟨[.ro (.arr .u8 8), .ro (.arr .u8 8), .ro (.int .i64)], [(.own, false, .arr .u8 8)]⟩, loops := [(4, in20060), (7, in20061)], views := [], joins := [] }
def in20056 : LoopInfo := ⟨20056, ⟨[.box .own (.st [.int .i64, .int .i64, .sl 1]), .row .own (.arr .u8 8)], [(0, .w (.c (.ptr 0))), (4, .w (.c (.int .i64))), (5, .w (.c (.int .i64)))]⟩, [(.exit 0, ⟨[.box .own (.st [.int .i64, .int .i64, .sl 1]), .row .own (.arr .u8 8)], [(0, .w (.c (.ptr 0))), (4, .w (.c (.int .i64)))]⟩)]⟩
def in20062 : LoopInfo := ⟨20062, ⟨[.box .own (.st [.int .i64, .int .i64, .sl 1]), .row .own (.arr .u8 8)], [(0, .w (.c (.ptr 0))), (4, .w (.c (.int .i64)))]⟩, [(.exit 2, ⟨[.box .own (.st [.int .i64, .int .i64, .sl 1]), .row .own (.arr .u8 8)], [(0, .w (.c (.ptr 0))), (4, .w (.c (.int .i64)))]⟩)]⟩
def in20063 : LoopInfo := ⟨20063, ⟨[.box .own (.st [.int .i64, .int .i64, .sl 1]), .row .own (.arr .u8 8)], [(0, .w (.c (.ptr 0))), (4, .w (.c (.int .i64)))]⟩, [(.exit 4, ⟨[.box .own (.st [.int .i64, .int .i64, .sl 1]), .row .own (.arr .u8 8)], [(0, .w (.c (.ptr 0)))]⟩)]⟩
def fd139 : FD := { id := 139, fn := Go.Proofs.Try.f139, sig := ⟨[.box (tyN_), .ro (.arr .u8 8)], []⟩, loops := [(5, in20056), (11, in20062), (14, in20063)], views := [], joins := [] }
def fd162 : FD := { id := 162, fn := Go.Proofs.Try.f162, sig := ⟨[.ro (.arr .u8 8), .ro (.int .i64)], [(.own, false, .arr .u8 8)]⟩, loops := [], views := [], joins := [] }
def in20064 : LoopInfo := ⟨20064, ⟨[.box .own (.st [.int .i64, .int .i64, .sl 1]), .row .own (.arr .u8 8)], [(0, .w (.c (.ptr 0))), (25, .w (.c (.sl 1))), (26, .w (.c (.int .i64))), (27, .w (.c (.int .i64)))]⟩, [(.exit 0, ⟨[.box .own (.st [.int .i64, .int .i64, .sl 1]), .row .own (.arr .u8 8)], [(0, .w (.c (.ptr 0)))]⟩)]⟩
def fd155 : FD := { id := 155, fn := Go.Proofs.Try.f155, sig := ⟨[.box (tyN_), .ro (.int .i64)], []⟩, loops := [(4, in20064)], views := [], joins := [] }
def fd156 : FD := { id := 156, fn := Go.Proofs.Try.f156, sig := ⟨[.ro (.arr .u8 8), .ro (.int .i64)], [(.own, false, .arr .u8 8)]⟩, loops := [], views := [], joins := [] }
def fd140 : FD := { id := 140, fn := Go.Proofs.Try.f140, sig := ⟨[.box (tyN_), .ro (.arr .u8 8)], []⟩, loops := [], views := [], joins := [] }
def in20055 : LoopInfo := ⟨20055, ⟨[.box .own (.st [.int .i64, .sl 1]), .row .ro (.int .i64), .box .own (.st [.int .i64, .int .i64, .sl 3]), .row .own (.arr .u8 8), .box .own (.st [.int .i64, .int .i64, .sl 5]), .row .own (.arr .u8 8)], [(1, .w (.c (.ptr 0))), (2, .w (.c (.ptr 2))), (3, .w (.c (.ptr 4))), (10, .w (.c (.sl 1))), (11, .w (.c (.int .i64))), (12, .w (.c (.int .i64)))]⟩, [(.exit 0, ⟨[.box .own (.st [.int .i64, .int .i64, .sl 1]), .row .own (.arr .u8 8), .box .own (.st [.int .i64, .int .i64, .sl 3]), .row .own (.arr .u8 8)], [(2, .w (.c (.ptr 0))), (3, .w (.c (.ptr 2)))]⟩)]⟩
def fd103 : FD := { id := 103, fn := Go.Proofs.Try.f103, sig := ⟨[.ro (tyB_)], [(.own, false, tyN_)]⟩, loops := [(3, in20055)], views := [], joins := [] }
def in20065 : LoopInfo := ⟨20065, ⟨[.row .ro (.arr .u8 8), .row .ro (.arr .u8 8)], [(0, .w (.c (.sl 0))), (1, .w (.c (.sl 1))), (12, .w (.c (.int .i64))), (13, .w (.c (.int .i64)))]⟩, [(.exit 0, ⟨[], []⟩), (.ret, ⟨[], [(4, .w (.c (.bool)))]⟩)]⟩
def fd138 : FD := { id := 138, fn := Go.Proofs.Try.f138, sig := ⟨[.ro tyF_, .ro tyF_], [(.own, false, .bool)]⟩, loops := [(4, in20065)], views := [], joins := [] }
def fd102 : FD := { id := 102, fn := Go.Proofs.Try.f102, sig := ⟨[.ro (tyN_), .ro (tyN_)], [(.own, false, .bool)]⟩, loops := [], views := [], joins := [] }
def fd48 : FD := { id := 48, fn := Go.Proofs.Try.f48, sig := ⟨[.ro (tyB_), .ro (tyB_)], [(.own, false, .bool), (.own, false, .int .i64)]⟩, loops := [], views := [], joins := [] }
def in20067 : LoopInfo := ⟨20067, ⟨[.row .ro (.int .i64), .row .own (.int .i64)], [(0, .w (.c (.sl 0))), (3, .w (.c (.sl 1))), (4, .w (.c (.int .i64)))]⟩, [(.exit 0, ⟨[.row .own (.int .i64)], [(3, .w (.c (.sl 0)))]⟩)]⟩
def fd110 : FD := { id := 110, fn := Go.Proofs.Try.f110, sig := ⟨[.ro tyW_], [(.own, false, .slice (.int .i64))]⟩, loops := [(3, in20067)], views := [], joins := [] }
def fd104 : FD := { id := 104, fn := Go.Proofs.Try.f104, sig := ⟨[.boxr (.pair (.slice (.int .u8)) (.pair (.int .i64) (.int .u64)))], [(.own, false, tyB_)]⟩, loops := [], views := [34], joins := [] }
def fd77 : FD := { id := 77, fn := Go.Proofs.Try.f77, sig := ⟨[.ro (.slice (.int .u8))], [(.ro, false, tyB_), (.ro, false, tyB_)]⟩, loops := [], views := [], joins := [] }
def fd49 : FD := { id := 49, fn := Go.Proofs.Try.f49, sig := ⟨[.ro (.slice (.int .u8))], [(.ro, false, tyB_), (.ro, false, tyB_)]⟩, loops := [], views := [], joins := [] }
def in20068 : LoopInfo := ⟨20068, ⟨[.row .ro (.arr .u8 8), .row .ro (.arr .u8 8)], [(0, .w (.c (.sl 0))), (1, .w (.c (.sl 1))), (12, .w (.c (.int .i64))), (13, .w (.c (.int .i64)))]⟩, [(.exit 0, ⟨[], []⟩), (.ret, ⟨[], [(4, .w (.c (.bool)))]⟩)]⟩
def fd74 : FD := { id := 74, fn := Go.Proofs.Try.f74, sig := ⟨[.ro tyF_, .ro tyF_], [(.own, false, .bool)]⟩, loops := [(4, in20068)], views := [], joins := [] }
def fd24 : FD := { id := 24, fn := Go.Proofs.Try.f24, sig := ⟨[.ro (tyB_), .ro (tyB_)], [(.own, false, .bool), (.own, false, .int .i64)]⟩, loops := [], views := [], joins := [] }
def in20069 : LoopInfo := ⟨20069, ⟨[.box .own (.st [.int .i64, .int .i64, .sl 1]), .row .ro (.arr .u8 8), .box .own (.st [.int .i64, .int .i64, .sl 3]), .row .ro (.arr .u8 8)], [(2, .w (.c (.ptr 0))), (3, .w (.c (.ptr 2))), (5, .w (.c (.int .i64)))]⟩, [(.exit 0, ⟨[], []⟩), (.ret, ⟨[], [(4, .w (.c (.bool)))]⟩)]⟩
def fd105 : FD := { id := 105, fn := Go.Proofs.Try.f105, sig := ⟨[.ro (tyN_), .ro (tyN_)], [(.own, false, .bool)]⟩, loops := [(4, in20069)], views := [], joins := [] }
def fd50 : FD := { id := 50, fn := Go.Proofs.Try.f50, sig := ⟨[.ro (tyB_), .ro (tyB_)], [(.own, false, .bool), (.own, false, .int .i64)]⟩, loops := [], views := [], joins := [] }
def in20073 : LoopInfo := ⟨20073, ⟨[.box .own (.arr .i64 8)], [(1, .w (.c (.int .i64))), (2, .w (.c (.ptr 0))), (5, .w (.c (.int .i64)))]⟩, [(.exit 0, ⟨[], []⟩), (.ret, ⟨[], [(4, .w (.c (.bool)))]⟩)]⟩
def in20074 : LoopInfo := ⟨20074, ⟨[.box .own (.arr .i64 8)], [(1, .w (.c (.int .i64))), (2, .w (.c (.ptr 0))), (5, .w (.c (.int .i64))), (6, .w (.c (.int .i64)))]⟩, [(.exit 2, ⟨[.box .own (.arr .i64 8)], [(1, .w (.c (.int .i64))), (2, .w (.c (.ptr 0))), (5, .w (.c (.int .i64)))]⟩), (.ret, ⟨[], [(4, .w (.c (.bool)))]⟩)]⟩
def in20075 : LoopInfo := ⟨20075, ⟨[.box .own (.arr .i64 8)], [(1, .w (.c (.int .i64))), (2, .w (.c (.ptr 0))), (5, .w (.c (.int .i64))), (6, .w (.c (.int .i64))), (7, .w (.c (.int .i64)))]⟩, [(.exit 4, ⟨[.box .own (.arr .i64 8)], [(1, .w (.c (.int .i64))), (2, .w (.c (.ptr 0))), (5, .w (.c (.int .i64))), (6, .w (.c (.int .i64)))]⟩), (.ret, ⟨[], [(4, .w (.c (.bool)))]⟩)]⟩
def in20076 : LoopInfo := ⟨20076, ⟨[.box .own (.arr .i64 8)], [(1, .w (.c (.int .i64))), (2, .w (.c (.ptr 0))), (5, .w (.c (.int .i64))), (6, .w (.c (.int .i64))), (7, .w (.c (.int .i64))), (8, .w (.c (.int .i64)))]⟩, [(.exit 6, ⟨[.box .own (.arr .i64 8)], [(1, .w (.c (.int .i64))), (2, .w (.c (.ptr 0))), (5, .w (.c (.int .i64))), (6, .w (.c (.int .i64))), (7, .w (.c (.int .i64)))]⟩), (.ret, ⟨[], [(4, .w (.c (.bool)))]⟩)]⟩
def fd157 : FD := { id := 157, fn := Go.Proofs.Try.f157, sig := ⟨[.ro (.arr .i64 8), .ro (.int .i64)], [(.own, false, .bool)]⟩, loops := [(2, in20073), (5, in20074), (8, in20075), (11, in20076)], views := [], joins := [] }
def in20071 : LoopInfo := ⟨20071, ⟨[.box .own (.st [.sl 1, .int .i64, .int .u64]), .row .ro (.int .u8), .box .own (.arr .u8 8), .box .own (.arr .i64 8)], [(0, .w (.c (.ptr 0))), (1, .w (.c (.int .i64))), (4, .w (.c (.ptr 2))), (5, .w (.c (.ptr 3))), (6, .w (.c (.int .i64)))]⟩, [(.exit 0, ⟨[.box .own (.st [.sl 1, .int .i64, .int .u64]), .row .ro (.int .u8), .box .own (.arr .u8 8), .box .own (.arr .i64 8)], [(0, .w (.c (.ptr 0))), (1, .w (.c (.int .i64))), (4, .w (.c (.ptr 2))), (5, .w (.c (.ptr 3)))]⟩)]⟩
def in20072 : LoopInfo := ⟨20072, ⟨[.box .own (.st [.sl 1, .int .i64, .int .u64]), .row .ro (.int .u8), .box .own (.arr .u8 8), .box .own (.arr .i64 8), .box .own (.arr .i64 8)], [(0, .w (.c (.ptr 0))), (1, .w (.c (.int .i64))), (4, .w (.c (.ptr 2))), (5, .w (.c (.ptr 3))), (6, .w (.c (.int .i64))), (7, .w (.c (.int .i64))), (8, .w (.c (.int .i64))), (9, .w (.c (.ptr 4))), (10, .w (.c (.int .i64)))]⟩, [(.exit 2, ⟨[.box .own (.st [.sl 1, .int .i64, .int .u64]), .row .ro (.int .u8), .box .own (.arr .u8 8), .box .own (.arr .i64 8), .box .own (.arr .i64 8)], [(0, .w (.c (.ptr 0))), (1, .w (.c (.int .i64))), (4, .w (.c (.ptr 2))), (5, .w (.c (.ptr 3))), (6, .w (.c (.int .i64))), (9, .w (.c (.ptr 4)))]⟩)]⟩
def fd141 : FD := { id := 141, fn := Go.Proofs.Try.f141, sig := ⟨[.boxr (.pair (.slice (.int .u8)) (.pair (.int .i64) (.int .u64))), .ro (.int .i64)], [(.own, false, .arr .u8 8)]⟩, loops := [(3, in20071), (8, in20072)], views := [], joins := [] }
def fd106 : FD := { id := 106, fn := Go.Proofs.Try.f106, sig := ⟨[.boxr (.pair (.slice (.int .u8)) (.pair (.int .i64) (.int .u64)))], [(.own, false, tyN_)]⟩, loops := [], views := [], joins := [] }
def fd51 : FD := { id := 51, fn := Go.Proofs.Try.f51, sig := ⟨[.ro (.slice (.int .u8))], [(.own, false, tyN_)]⟩, loops := [], views := [], joins := [] }
def fd142 : FD := { id := 142, fn := Go.Proofs.Try.f142, sig := ⟨[.ro (.arr .u8 8), .ro (.int .i64)], [(.own, false, .bool)]⟩, loops := [], views := [], joins := [] }
def in20077 : LoopInfo := ⟨20077, ⟨[.box .own (.st [.int .i64, .int .i64, .sl 1]), .row .ro (.arr .u8 8)], [(1, .w (.c (.ptr 0))), (3, .w (.c (.int .i64))), (4, .w (.c (.int .i64)))]⟩, [(.exit 0, ⟨[], []⟩), (.ret, ⟨[], [(2, .w (.c (.bool)))]⟩)]⟩
def fd107 : FD := { id := 107, fn := Go.Proofs.Try.f107, sig := ⟨[.ro (tyN_)], [(.own, false, .bool)]⟩, loops := [(5, in20077)], views := [], joins := [] }
def in20078 : LoopInfo := ⟨20078, ⟨[.box .own (.arr .i64 8), .row .sh tyW_], [(1, .w (.c (.int .i64))), (5, .w (.c (.ptr 0))), (7, .w (.c (.sl 1))), (8, .w (.c (.int .i64)))]⟩, [(.exit 0, ⟨[.row .sh tyW_], [(7, .w (.c (.sl 0)))]⟩)]⟩
def in20079 : LoopInfo := ⟨20079, ⟨[.box .own (.arr .i64 8), .row .sh tyW_, .row .own (.int .i64)], [(1, .w (.c (.int .i64))), (5, .w (.c (.ptr 0))), (7, .w (.c (.sl 1))), (8, .w (.c (.int .i64))), (9, .w (.c (.sl 2))), (10, .w (.c (.int .i64)))]⟩, [(.exit 2, ⟨[.box .own (.arr .i64 8), .row .sh tyW_, .row .own (.int .i64)], [(1, .w (.c (.int .i64))), (5, .w (.c (.ptr 0))), (7, .w (.c (.sl 1))), (8, .w (.c (.int .i64))), (9, .w (.c (.sl 2)))]⟩)]⟩
def fd145 : FD := { id := 145, fn := Go.Proofs.Try.f145, sig := ⟨[.ro (.arr .u8 8), .ro (.int .i64)], [(.ro, false, .slice tyW_)]⟩, loops := [(4, in20078), (9, in20079)], views := [], joins := [] }
def in20082 : LoopInfo := ⟨20082, ⟨[.row .own (.int .i64)], [(0, .w (.c (.int .i64))), (1, .w (.c (.int .i64))), (5, .w (.c (.sl 0))), (6, .w (.c (.int .i64)))]⟩, [(.exit 0, ⟨[.row .own (.int .i64)], [(0, .w (.c (.int .i64))), (1, .w (.c (.int .i64))), (5, .w (.c (.sl 0)))]⟩)]⟩
def in20083 : LoopInfo := ⟨20083, ⟨[.row .own (.int .i64)], [(0, .w (.c (.int .i64))), (5, .w (.c (.sl 0))), (7, .w (.c (.int .i64)))]⟩, [(.exit 2, ⟨[.row .own (.int .i64)], [(5, .w (.c (.sl 0)))]⟩)]⟩
def fd146 : FD := { id := 146, fn := Go.Proofs.Try.f146, sig := ⟨[.ro (.int .i64), .ro (.int .i64)], [(.own, false, .slice (.int .i64))]⟩, loops := [(3, in20082), (8, in20083)], views := [], joins := [] }
def in20080 : LoopInfo := ⟨20080, ⟨[.row .own (.int .i64), .row .ro tyW_], [(5, .w (.c (.sl 0))), (6, .w (.c (.sl 1))), (7, .w (.c (.int .i64)))]⟩, [(.exit 0, ⟨[.row .own (.int .i64)], [(5, .w (.c (.sl 0)))]⟩)]⟩
def in20081 : LoopInfo := ⟨20081, ⟨[.row .own (.int .i64), .row .ro tyW_], [(5, .w (.c (.sl 0))), (6, .w (.c (.sl 1))), (7, .w (.c (.int .i64))), (8, .w (.c (.int .i64)))]⟩, [(.exit 2, ⟨[.row .own (.int .i64), .row .ro tyW_], [(5, .w (.c (.sl 0))), (6, .w (.c (.sl 1))), (7, .w (.c (.int .i64)))]⟩)]⟩
def fd108 : FD := { id := 108, fn := Go.Proofs.Try.f108, sig := ⟨[.ro (.arr .u8 8), .ro (.int .i64)], [(.own, false, .slice (.int .i64))]⟩, loops := [(3, in20080), (6, in20081)], views := [], joins := [] }
def in20084 : LoopInfo := ⟨20084, ⟨[.box .own (.st [.int .i64, .int .i64, .sl 1]), .row .ro (.arr .u8 8), .box .own (.st [.int .i64, .sl 3]), .row .own (.int .i64), .row .own (.int .i64), .row .own (.int .i64)], [(1, .w (.c (.ptr 0))), (2, .w (.c (.ptr 2))), (4, .w (.c (.sl 4))), (5, .w (.c (.int .i64))), (6, .w (.c (.sl 5))), (7, .w (.c (.int .i64)))]⟩, [(.exit 0, ⟨[.box .own (.st [.int .i64, .int .i64, .sl 1]), .row .ro (.arr .u8 8), .box .own (.st [.int .i64, .sl 3]), .row .own (.int .i64), .row .own (.int .i64)], [(1, .w (.c (.ptr 0))), (2, .w (.c (.ptr 2))), (4, .w (.c (.sl 4))), (5, .w (.c (.int .i64)))]⟩)]⟩
def in20085 : LoopInfo := ⟨20085, ⟨[.box .own (.st [.int .i64, .int .i64, .sl 1]), .row .ro (.arr .u8 8), .box .own (.st [.int .i64, .sl 3]), .row .own (.int .i64), .row .own (.int .i64)], [(1, .w (.c (.ptr 0))), (2, .w (.c (.ptr 2))), (4, .w (.c (.sl 4))), (5, .w (.c (.int .i64))), (8, .w (.c (.int .i64)))]⟩, [(.exit 2, ⟨[.box .own (.st [.int .i64, .sl 1]), .row .own (.int .i64), .row .own (.int .i64)], [(2, .w (.c (.ptr 0))), (4, .w (.c (.sl 2))), (5, .w (.c (.int .i64)))]⟩)]⟩
def fd52 : FD := { id := 52, fn := Go.Proofs.Try.f52, sig := ⟨[.ro (tyN_)], [(.own, false, tyB_), (.own, false, .int .i64)]⟩, loops := [(8, in20084), (12, in20085)], views := [], joins := [] }
def in20086 : LoopInfo := ⟨20086, ⟨[.row .ro (.int .i64), .row .ro (.int .i64)], [(0, .w (.c (.sl 0))), (1, .w (.c (.sl 1))), (5, .w (.c (.int .i64)))]⟩, [(.exit 0, ⟨[], []⟩), (.ret, ⟨[], [(4, .w (.c (.bool)))]⟩)]⟩
def fd13 : FD := { id := 13, fn := Go.Proofs.Try.f13, sig := ⟨[.ro tyW_, .ro tyW_], [(.own, false, .bool)]⟩, loops := [(4, in20086)], views := [], joins := [] }
def fd14 : FD := { id := 14, fn := Go.Proofs.Try.f14, sig := ⟨[.ro (tyB_), .ro (tyB_)], [(.own, false, .bool)]⟩, loops := [], views := [], joins := [] }
def fd53 : FD := { id := 53, fn := Go.Proofs.Try.f53, sig := ⟨[.ro (tyN_)], [(.own, false, .bool)]⟩, loops := [], views := [], joins := [] }
def in20066 : LoopInfo := ⟨20066, ⟨[.row .ro (.int .u8)], [(0, .w (.c (.sl 0)))]⟩, [(.ret, ⟨[], [(2, .w (.c (.bool)))]⟩)]⟩
def in20070 : LoopInfo := ⟨20070, ⟨[.row .ro (.int .u8)], [(0, .w (.c (.sl 0)))]⟩, [(.ret, ⟨[], [(2, .w (.c (.bool)))]⟩)]⟩
def fd5 : FD := { id := 5, fn := Go.Proofs.Try.f5, sig := ⟨[.ro (.slice (.int .u8))], [(.own, false, .bool)]⟩, loops := [], views := [], joins := [(17, in20066), (26, in20070)] }
def fdTab : List (Nat × FD) := [(6, fd6), (55, fd55), (60, fd60), (61, fd61), (82, fd82), (69, fd69), (87, fd87), (111, fd111), (54, fd54), (42, fd42), (97, fd97), (96, fd96), (112, fd112), (56, fd56), (91, fd91), (132, fd132), (118, fd118), (99, fd99), (151, fd151), (137, fd137), (95, fd95), (150, fd150), (136, fd136), (101, fd101), (147, fd147), (133, fd133), (134, fd134), (135, fd135), (130, fd130), (100, fd100), (119, fd119), (148, fd148), (120, fd120), (73, fd73), (43, fd43), (114, fd114), (58, fd58), (160, fd160), (149, fd149), (123, fd123), (124, fd124), (109, fd109), (126, fd126), (125, fd125), (144, fd144), (159, fd159), (158, fd158), (143, fd143), (127, fd127), (93, fd93), (44, fd44), (45, fd45), (131, fd131), (98, fd98), (47, fd47), (128, fd128), (129, fd129), (94, fd94), (89, fd89), (90, fd90), (10000, fd10000), (81, fd81), (46, fd46), (154, fd154), (153, fd153), (161, fd161), (152, fd152), (139, fd139), (162, fd162), (155, fd155), (156, fd156), (140, fd140), (103, fd103), (138, fd138), (102, fd102), (48, fd48), (110, fd110), (104, fd104), (77, fd77), (49, fd49), (74, fd74), (24, fd24), (105, fd105), (50, fd50), (157, fd157), (141, fd141), (106, fd106), (51, fd51), (142, fd142), (107, fd107), (145, fd145), (146, fd146), (108, fd108), (52, fd52), (13, fd13), (14, fd14), (53, fd53), (5, fd5)]
def ldTab : List (Nat × LD) := [(20000, ⟨55, 3, in20000, false⟩), (20001, ⟨82, 6, in20001, false⟩), (20002, ⟨56, 4, in20002, false⟩), (20004, ⟨132, 3, in20004, false⟩), (20006, ⟨151, 3, in20006, false⟩), (20007, ⟨95, 3, in20007, false⟩), (20008, ⟨150, 3, in20008, false⟩), (20009, ⟨147, 3, in20009, false⟩), (20011, ⟨134, 2, in20011, false⟩), (20012, ⟨135, 3, in20012, false⟩), (20013, ⟨135, 7, in20013, false⟩), (20010, ⟨130, 3, in20010, false⟩), (20014, ⟨100, 5, in20014, false⟩), (20015, ⟨100, 8, in20015, false⟩), (20005, ⟨119, 5, in20005, false⟩), (20016, ⟨119, 11, in20016, false⟩), (20017, ⟨119, 14, in20017, false⟩), (20019, ⟨148, 4, in20019, false⟩), (20018, ⟨120, 4, in20018, false⟩), (20003, ⟨73, 3, in20003, false⟩), (20020, ⟨58, 4, in20020, false⟩), (20022, ⟨160, 3, in20022, false⟩), (20023, ⟨160, 7, in20023, false⟩), (20024, ⟨149, 3, in20024, false⟩), (20026, ⟨124, 3, in20026, false⟩), (20027, ⟨109, 3, in20027, false⟩), (20028, ⟨126, 3, in20028, false⟩), (20029, ⟨125, 3, in20029, false⟩), (20031, ⟨159, 3, in20031, false⟩), (20032, ⟨159, 11, in20032, false⟩), (20033, ⟨159, 14, in20033, false⟩), (20036, ⟨158, 3, in20036, false⟩), (20037, ⟨158, 7, in20037, false⟩), (20034, ⟨143, 5, in20034, false⟩), (20035, ⟨143, 8, in20035, false⟩), (20030, ⟨127, 4, in20030, false⟩), (20038, ⟨127, 11, in20038, false⟩), (20021, ⟨93, 3, in20021, false⟩), (20025, ⟨93, 11, in20025, false⟩), (20039, ⟨45, 4, in20039, false⟩), (20041, ⟨131, 3, in20041, false⟩), (20042, ⟨131, 6, in20042, false⟩), (20043, ⟨131, 9, in20043, false⟩), (20044, ⟨131, 12, in20044, false⟩), (20040, ⟨47, 5, in20040, false⟩), (20045, ⟨128, 4, in20045, false⟩), (20046, ⟨128, 9, in20046, false⟩), (20049, ⟨129, 3, in20049, false⟩), (20050, ⟨129, 7, in20050, false⟩), (20047, ⟨94, 3, in20047, false⟩), (20048, ⟨94, 6, in20048, false⟩), (20051, ⟨89, 3, in20051, false⟩), (20052, ⟨10000, 3, in20052, false⟩), (20053, ⟨46, 8, in20053, false⟩), (20054, ⟨46, 12, in20054, false⟩), (20057, ⟨154, 3, in20057, false⟩), (20058, ⟨161, 3, in20058, false⟩), (20059, ⟨161, 6, in20059, false⟩), (20060, ⟨152, 4, in20060, false⟩), (20061, ⟨152, 7, in20061, false⟩), (20056, ⟨139, 5, in20056, false⟩), (20062, ⟨139, 11, in20062, false⟩), (20063, ⟨139, 14, in20063, false⟩), (20064, ⟨155, 4, in20064, false⟩), (20055, ⟨103, 3, in20055, false⟩), (20065, ⟨138, 4, in20065, false⟩), (20067, ⟨110, 3, in20067, false⟩), (20068, ⟨74, 4, in20068, false⟩), (20069, ⟨105, 4, in20069, false⟩), (20073, ⟨157, 2, in20073, false⟩), (20074, ⟨157, 5, in20074, false⟩), (20075, ⟨157, 8, in20075, false⟩), (20076, ⟨157, 11, in20076, false⟩), (20071, ⟨141, 3, in20071, false⟩), (20072, ⟨141, 8, in20072, false⟩), (20077, ⟨107, 5, in20077, false⟩), (20078, ⟨145, 4, in20078, false⟩), (20079, ⟨145, 9, in20079, false⟩), (20082, ⟨146, 3, in20082, false⟩), (20083, ⟨146, 8, in20083, false⟩), (20080, ⟨108, 3, in20080, false⟩), (20081, ⟨108, 6, in20081, false⟩), (20084, ⟨52, 8, in20084, false⟩), (20085, ⟨52, 12, in20085, false⟩), (20086, ⟨13, 4, in20086, false⟩), (20066, ⟨5, 17, in20066, true⟩), (20070, ⟨5, 26, in20070, true⟩)]
def pickTab : List ((FuncId × List FuncId) × Nat) := [((88, [90]), 10000)]
def pick (f : FuncId) : List FuncId → Nat
  | [] => f
  | l => (pickTab.lookup (f, l)).getD 0
def E : Env := ⟨[9, 10, 11], fun T => tyTab.lookup T, pick, fun f => fdTab.lookup f, fun f => ldTab.lookup f⟩
def R : Oracle := ev E
theorem R_ev (f : Nat) (l : List TV) : R f l = ev E f l := rfl
def iw_big : Nat := 6
def is_l01From : Nat := 55
def is_l01From_3 : Nat := 20000
def is_l01Next : Nat := 60
def is_l01Pick : Nat := 61
def is_l01Draw : Nat := 82
def is_l01Draw_6 : Nat := 20001
def is_l01Own : Nat := 69
def is_l01Broken : Nat := 87
def is_l01DrawBraid : Nat := 111
def is_l01Spoil : Nat := 54
def is_DrawDualForm : Nat := 42
def ii_within : Nat := 97
def ii_isCount : Nat := 96
def ii_isLetter : Nat := 112
def ii_IsBraid : Nat := 56
def ii_IsBraid_4 : Nat := 20002
def ii_size : Nat := 91
def ii_nothing : Nat := 132
def ii_nothing_3 : Nat := 20004
def ii_exchange : Nat := 118
def ii_finePart : Nat := 99
def ii_backOf : Nat := 151
def ii_backOf_3 : Nat := 20006
def ii_backPart : Nat := 137
def ii_wholePart : Nat := 95
def ii_wholePart_3 : Nat := 20007
def ii_then : Nat := 150
def ii_then_3 : Nat := 20008
def ii_thenPart : Nat := 136
def ii_complementPart : Nat := 101
def ii_strandsOf : Nat := 147
def ii_strandsOf_3 : Nat := 20009
def ii_fineGroups : Nat := 133
def i_i_groups__merge : Nat := 134
def i_i_groups__merge_2 : Nat := 20011
def i_i_groups__part : Nat := 135
def i_i_groups__part_3 : Nat := 20012
def i_i_groups__part_7 : Nat := 20013
def ii_groupsOf : Nat := 130
def ii_groupsOf_3 : Nat := 20010
def ii_meetParts : Nat := 100
def ii_meetParts_5 : Nat := 20014
def ii_meetParts_8 : Nat := 20015
def i__i_Dual__put : Nat := 119
def i__i_Dual__put_5 : Nat := 20005
def i__i_Dual__put_11 : Nat := 20016
def i__i_Dual__put_14 : Nat := 20017
def ii_turnPart : Nat := 148
def ii_turnPart_4 : Nat := 20019
def i__i_Dual__putInverse : Nat := 120
def i__i_Dual__putInverse_4 : Nat := 20018
def ii_dualOf : Nat := 73
def ii_dualOf_3 : Nat := 20003
def ii_DualForm : Nat := 43
def is_l01In : Nat := 114
def is_l01Is : Nat := 58
def is_l01Is_4 : Nat := 20020
def is_l01Strands : Nat := 160
def is_l01Strands_3 : Nat := 20022
def is_l01Strands_7 : Nat := 20023
def is_l01Perm : Nat := 149
def is_l01Perm_3 : Nat := 20024
def is_l07Fine : Nat := 123
def is_l07Turn : Nat := 124
def is_l07Turn_3 : Nat := 20026
def is_l07Whole : Nat := 109
def is_l07Whole_3 : Nat := 20027
def is_l07Back : Nat := 126
def is_l07Back_3 : Nat := 20028
def is_l07Then : Nat := 125
def is_l07Then_3 : Nat := 20029
def is_l07Complement : Nat := 144
def is_l07Least : Nat := 159
def is_l07Least_3 : Nat := 20031
def is_l07Least_11 : Nat := 20032
def is_l07Least_14 : Nat := 20033
def is_l07Made : Nat := 158
def is_l07Made_3 : Nat := 20036
def is_l07Made_7 : Nat := 20037
def is_l07Meet : Nat := 143
def is_l07Meet_5 : Nat := 20034
def is_l07Meet_8 : Nat := 20035
def is_l07Put : Nat := 127
def is_l07Put_4 : Nat := 20030
def is_l07Put_11 : Nat := 20038
def is_l07Form : Nat := 93
def is_l07Form_3 : Nat := 20021
def is_l07Form_11 : Nat := 20025
def is_DualForm : Nat := 44
def iw_dual5 : Nat := 45
def iw_dual5_4 : Nat := 20039
def i_i_groups__crossing : Nat := 131
def i_i_groups__crossing_3 : Nat := 20041
def i_i_groups__crossing_6 : Nat := 20042
def i_i_groups__crossing_9 : Nat := 20043
def i_i_groups__crossing_12 : Nat := 20044
def ii_IsPart : Nat := 98
def ii_IsDual : Nat := 47
def ii_IsDual_5 : Nat := 20040
def ii_blocksOf : Nat := 128
def ii_blocksOf_4 : Nat := 20045
def ii_blocksOf_9 : Nat := 20046
def ii_band : Nat := 129
def ii_band_3 : Nat := 20049
def ii_band_7 : Nat := 20050
def ii_wordOfPart : Nat := 94
def ii_wordOfPart_3 : Nat := 20047
def ii_wordOfPart_6 : Nat := 20048
def ii_reversed : Nat := 89
def ii_reversed_3 : Nat := 20051
def ii_opposite : Nat := 90
def ii_letterBy : Nat := 10000
def ii_letterBy_3 : Nat := 20052
def ii_joined : Nat := 81
def ii_WordOfDual : Nat := 46
def ii_WordOfDual_8 : Nat := 20053
def ii_WordOfDual_12 : Nat := 20054
def ii_halfTurn : Nat := 154
def ii_halfTurn_3 : Nat := 20057
def ii_complement : Nat := 153
def ii_descents : Nat := 161
def ii_descents_3 : Nat := 20058
def ii_descents_6 : Nat := 20059
def ii_meet : Nat := 152
def ii_meet_4 : Nat := 20060
def ii_meet_7 : Nat := 20061
def i__i_Normal__put : Nat := 139
def i__i_Normal__put_5 : Nat := 20056
def i__i_Normal__put_11 : Nat := 20062
def i__i_Normal__put_14 : Nat := 20063
def ii_turn : Nat := 162
def i__i_Normal__turnBy : Nat := 155
def i__i_Normal__turnBy_4 : Nat := 20064
def ii_leftComplement : Nat := 156
def i__i_Normal__putInverse : Nat := 140
def ii_normalOf : Nat := 103
def ii_normalOf_3 : Nat := 20055
def ig_Equal___i_Simple_i_Simple_ : Nat := 138
def ig_Equal___i_Simple_i_Simple__4 : Nat := 20065
def ii_sameNormal : Nat := 102
def ii_SameBraid : Nat := 48
def is_l01Inverse : Nat := 110
def is_l01Inverse_3 : Nat := 20067
def is_l06Trivial : Nat := 104
def is_l01Two : Nat := 77
def is_DrawEqualByBands : Nat := 49
def ig_Equal___i_Part_i_Part_ : Nat := 74
def ig_Equal___i_Part_i_Part__4 : Nat := 20068
def ii_EqualByBands : Nat := 24
def is_l07Same : Nat := 105
def is_l07Same_4 : Nat := 20069
def is_EqualByBands : Nat := 50
def is_l07Crossing : Nat := 157
def is_l07Crossing_2 : Nat := 20073
def is_l07Crossing_5 : Nat := 20074
def is_l07Crossing_8 : Nat := 20075
def is_l07Crossing_11 : Nat := 20076
def is_l07Draw : Nat := 141
def is_l07Draw_3 : Nat := 20071
def is_l07Draw_8 : Nat := 20072
def is_l07DrawDual : Nat := 106
def is_DrawWordOfDual : Nat := 51
def is_l07Is : Nat := 142
def is_l07Dual : Nat := 107
def is_l07Dual_5 : Nat := 20077
def is_l07Blocks : Nat := 145
def is_l07Blocks_4 : Nat := 20078
def is_l07Blocks_9 : Nat := 20079
def is_l07Band : Nat := 146
def is_l07Band_3 : Nat := 20082
def is_l07Band_8 : Nat := 20083
def is_l07Word : Nat := 108
def is_l07Word_3 : Nat := 20080
def is_l07Word_6 : Nat := 20081
def is_WordOfDual : Nat := 52
def is_WordOfDual_8 : Nat := 20084
def is_WordOfDual_12 : Nat := 20085
def iw_likeInts : Nat := 13
def iw_likeInts_4 : Nat := 20086
def iw_braid5 : Nat := 14
def is_IsDual : Nat := 53
def iw_FnDuals : Nat := 5
def iw_FnDuals_j17 : Nat := 20066
def iw_FnDuals_j26 : Nat := 20070
end
end Go.Ev.Yteclcmiopobnaaa
