/- What the evaluator knows of this program. -/
import Derived.Test.YtfkpbhbghbhmgaaGreatProg
import Derived.Test.YtfkpbhbghbhmgaaGreatV1
namespace Go.Ev.YtfkpbhbghbhmgaaGreat
open Go.Ev
noncomputable section
abbrev tyN_ : Ty := .pair (.int .i64) (.pair (.int .i64) (.slice (.arr .u8 8)))
abbrev tyB_ : Ty := .pair (.int .i64) (.slice (.int .i64))
abbrev tyF_ : Ty := .slice (.arr .u8 8)
abbrev tyW_ : Ty := .slice (.int .i64)
@[reducible] def tA8 (x : List Int) : TV := ⟨.arr .u8 8, x⟩
@[reducible] def gA8 (l : List TV) (i : Nat) : List Int := getTV (.arr .u8 8) l i
@[reducible] def tAB8 (x : List Bool) : TV := ⟨.barr 8, x⟩
@[reducible] def gAB8 (l : List TV) (i : Nat) : List Bool := getTV (.barr 8) l i
@[reducible] def tB (x : Bool) : TV := ⟨.bool, x⟩
@[reducible] def gB (l : List TV) (i : Nat) : Bool := getTV (.bool) l i
@[reducible] def tI (x : Int) : TV := ⟨.int .i64, x⟩
@[reducible] def gI (l : List TV) (i : Nat) : Int := getTV (.int .i64) l i
@[reducible] def tLA8 (x : List (List Int)) : TV := ⟨.slice (.arr .u8 8), x⟩
@[reducible] def gLA8 (l : List TV) (i : Nat) : List (List Int) := getTV (.slice (.arr .u8 8)) l i
@[reducible] def tLI (x : List Int) : TV := ⟨.slice (.int .i64), x⟩
@[reducible] def gLI (l : List TV) (i : Nat) : List Int := getTV (.slice (.int .i64)) l i
@[reducible] def tLPIPILA8 (x : List (Int × Int × List (List Int))) : TV := ⟨.slice (.pair (.int .i64) (.pair (.int .i64) (.slice (.arr .u8 8)))), x⟩
@[reducible] def gLPIPILA8 (l : List TV) (i : Nat) : List (Int × Int × List (List Int)) := getTV (.slice (.pair (.int .i64) (.pair (.int .i64) (.slice (.arr .u8 8))))) l i
@[reducible] def tLU8 (x : List Int) : TV := ⟨.slice (.int .u8), x⟩
@[reducible] def gLU8 (l : List TV) (i : Nat) : List Int := getTV (.slice (.int .u8)) l i
@[reducible] def tPILI (x : Int × List Int) : TV := ⟨.pair (.int .i64) (.slice (.int .i64)), x⟩
@[reducible] def gPILI (l : List TV) (i : Nat) : Int × List Int := getTV (.pair (.int .i64) (.slice (.int .i64))) l i
@[reducible] def tPIPILA8 (x : Int × Int × List (List Int)) : TV := ⟨.pair (.int .i64) (.pair (.int .i64) (.slice (.arr .u8 8))), x⟩
@[reducible] def gPIPILA8 (l : List TV) (i : Nat) : Int × Int × List (List Int) := getTV (.pair (.int .i64) (.pair (.int .i64) (.slice (.arr .u8 8)))) l i
@[reducible] def tPLU8PIU64 (x : List Int × Int × Int) : TV := ⟨.pair (.slice (.int .u8)) (.pair (.int .i64) (.int .u64)), x⟩
@[reducible] def gPLU8PIU64 (l : List TV) (i : Nat) : List Int × Int × Int := getTV (.pair (.slice (.int .u8)) (.pair (.int .i64) (.int .u64))) l i
@[reducible] def tU64 (x : Int) : TV := ⟨.int .u64, x⟩
@[reducible] def gU64 (l : List TV) (i : Nat) : Int := getTV (.int .u64) l i
@[reducible] def tU8 (x : Int) : TV := ⟨.int .u8, x⟩
@[reducible] def gU8 (l : List TV) (i : Nat) : Int := getTV (.int .u8) l i
def tyTab : List (Nat × Ty) := [(2, .int .i64), (3, .int .i64), (4, .bool), (5, .int .u8), (6, .int .u8), (7, .pair (.int .i64) (.pair (.int .i64) (.pair (.bool) (.int .u8)))), (8, .pair (.int .i64) (.pair (.int .i64) (.pair (.bool) (.int .u8)))), (12, .int .u64), (21, .int .i32), (22, .slice (.int .u8)), (24, .slice (.arr .u8 8)), (25, .pair (.int .i64) (.pair (.int .i64) (.slice (.arr .u8 8)))), (26, .pair (.int .i64) (.pair (.int .i64) (.slice (.arr .u8 8)))), (31, .slice (.int .i64)), (35, .slice (.pair (.int .i64) (.pair (.int .i64) (.slice (.arr .u8 8))))), (47, .int .u64), (48, .pair (.int .i64) (.slice (.int .i64))), (49, .pair (.int .i64) (.slice (.int .i64))), (58, .arr .u8 8), (59, .arr .u8 8), (70, .pair (.slice (.int .u8)) (.pair (.int .i64) (.int .u64))), (71, .pair (.slice (.int .u8)) (.pair (.int .i64) (.int .u64))), (78, .pair (.slice (.int .u8)) (.pair (.int .i64) (.int .u64))), (79, .pair (.slice (.int .u8)) (.pair (.int .i64) (.int .u64))), (98, .int .u64), (104, .barr 8), (116, .int .i64), (124, .int .u32), (128, .int .u64), (146, .int .u8), (147, .int .u8), (150, .int .i32), (151, .int .i32)]
def fd4 : FD := { id := 4, fn := Go.Proofs.Tryz.f4, sig := ⟨[.ro (.slice (.int .u8))], [(.own, false, .bool)]⟩, loops := [], views := [], joins := [] }
def in20000 : LoopInfo := ⟨20000, ⟨[.row .ro (.int .u8), .box .own (.st [.sl 0, .int .i64, .int .u64])], [(0, .w (.c (.sl 0))), (3, .w (.c (.ptr 1))), (4, .w (.c (.int .i64)))]⟩, [(.exit 0, ⟨[.box .own (.st [.sl 1, .int .i64, .int .u64]), .row .ro (.int .u8)], [(3, .w (.c (.ptr 0)))]⟩)]⟩
def fd25 : FD := { id := 25, fn := Go.Proofs.Tryz.f25, sig := ⟨[.ro (.slice (.int .u8))], [(.ro, true, .pair (.slice (.int .u8)) (.pair (.int .i64) (.int .u64)))]⟩, loops := [(3, in20000)], views := [], joins := [] }
def fd56 : FD := { id := 56, fn := Go.Proofs.Tryz.f56, sig := ⟨[.boxr (.pair (.slice (.int .u8)) (.pair (.int .i64) (.int .u64))), .ro (.int .i64)], [(.own, false, .int .i64)]⟩, loops := [], views := [], joins := [] }
def fd54 : FD := { id := 54, fn := Go.Proofs.Tryz.f54, sig := ⟨[.boxr (.pair (.slice (.int .u8)) (.pair (.int .i64) (.int .u64))), .ro tyW_], [(.own, false, .int .i64)]⟩, loops := [], views := [], joins := [] }
def in20001 : LoopInfo := ⟨20001, ⟨[.box .own (.st [.sl 1, .int .i64, .int .u64]), .row .ro (.int .u8), .row .own (.int .i64)], [(0, .w (.c (.ptr 0))), (1, .w (.c (.int .i64))), (7, .w (.c (.sl 2))), (8, .w (.c (.int .i64))), (9, .w (.c (.int .i64)))]⟩, [(.exit 0, ⟨[.box .own (.st [.sl 1, .int .i64, .int .u64]), .row .ro (.int .u8), .row .own (.int .i64)], [(0, .w (.c (.ptr 0))), (7, .w (.c (.sl 2)))]⟩)]⟩
def fd55 : FD := { id := 55, fn := Go.Proofs.Tryz.f55, sig := ⟨[.boxr (.pair (.slice (.int .u8)) (.pair (.int .i64) (.int .u64))), .ro (.int .i64), .ro (.int .i64)], [(.own, false, .slice (.int .i64))]⟩, loops := [(6, in20001)], views := [], joins := [] }
def in20005 : LoopInfo := ⟨20005, ⟨[.box .own (.arr .u8 8), .box .own (.arr .u8 8)], [(0, .w (.c (.int .i64))), (2, .w (.c (.ptr 0))), (3, .w (.c (.ptr 1))), (4, .w (.c (.int .i64)))]⟩, [(.exit 0, ⟨[.box .own (.arr .u8 8), .box .own (.arr .u8 8)], [(2, .w (.c (.ptr 0))), (3, .w (.c (.ptr 1)))]⟩)]⟩
def fd71 : FD := { id := 71, fn := Go.Proofs.Tryz.f71, sig := ⟨[.ro (.int .i64)], [(.own, false, .arr .u8 8)]⟩, loops := [(3, in20005)], views := [], joins := [] }
def fd99 : FD := { id := 99, fn := Go.Proofs.Tryz.f99, sig := ⟨[.ro (.int .i64), .ro (.int .i64)], [(.own, false, .arr .u8 8)]⟩, loops := [], views := [], joins := [] }
def in20007 : LoopInfo := ⟨20007, ⟨[.box .own (.arr .u8 8), .box .own (.arr .u8 8)], [(0, .w (.c (.int .i64))), (2, .w (.c (.ptr 0))), (3, .w (.c (.ptr 1))), (4, .w (.c (.int .i64)))]⟩, [(.exit 0, ⟨[.box .own (.arr .u8 8), .box .own (.arr .u8 8)], [(2, .w (.c (.ptr 0))), (3, .w (.c (.ptr 1)))]⟩)]⟩
def fd61 : FD := { id := 61, fn := Go.Proofs.Tryz.f61, sig := ⟨[.ro (.int .i64)], [(.own, false, .arr .u8 8)]⟩, loops := [(3, in20007)], views := [], joins := [] }
def in20008 : LoopInfo := ⟨20008, ⟨[.box .own (.arr .u8 8), .box .own (.arr .u8 8), .box .own (.arr .u8 8), .box .own (.arr .u8 8)], [(2, .w (.c (.int .i64))), (3, .w (.c (.ptr 0))), (4, .w (.c (.ptr 1))), (6, .w (.c (.ptr 2))), (7, .w (.c (.ptr 3))), (8, .w (.c (.int .i64)))]⟩, [(.exit 0, ⟨[.box .own (.arr .u8 8), .box .own (.arr .u8 8)], [(6, .w (.c (.ptr 0))), (7, .w (.c (.ptr 1)))]⟩)]⟩
def fd107 : FD := { id := 107, fn := Go.Proofs.Tryz.f107, sig := ⟨[.ro (.arr .u8 8), .ro (.arr .u8 8), .ro (.int .i64)], [(.own, false, .arr .u8 8)]⟩, loops := [(3, in20008)], views := [], joins := [] }
def fd104 : FD := { id := 104, fn := Go.Proofs.Tryz.f104, sig := ⟨[.ro (.arr .u8 8), .ro (.int .i64)], [(.own, false, .arr .u8 8)]⟩, loops := [], views := [], joins := [] }
def in20006 : LoopInfo := ⟨20006, ⟨[.row .ro (.arr .u8 8), .row .own (.arr .u8 8)], [(0, .w (.c (.sl 0))), (1, .w (.c (.int .i64))), (2, .w (.c (.int .i64))), (7, .w (.c (.sl 1))), (8, .w (.c (.int .i64)))]⟩, [(.exit 0, ⟨[.row .own (.arr .u8 8)], [(7, .w (.c (.sl 0)))]⟩)]⟩
def fd100 : FD := { id := 100, fn := Go.Proofs.Tryz.f100, sig := ⟨[.ro tyF_, .ro (.int .i64), .ro (.int .i64)], [(.own, false, .slice (.arr .u8 8))]⟩, loops := [(3, in20006)], views := [], joins := [] }
def in20009 : LoopInfo := ⟨20009, ⟨[.box .own (.arr .u8 8), .box .own (.arr .u8 8), .box .own (.arr .u8 8)], [(1, .w (.c (.int .i64))), (2, .w (.c (.ptr 0))), (4, .w (.c (.ptr 1))), (5, .w (.c (.ptr 2))), (6, .w (.c (.int .i64)))]⟩, [(.exit 0, ⟨[.box .own (.arr .u8 8), .box .own (.arr .u8 8)], [(4, .w (.c (.ptr 0))), (5, .w (.c (.ptr 1)))]⟩)]⟩
def fd103 : FD := { id := 103, fn := Go.Proofs.Tryz.f103, sig := ⟨[.ro (.arr .u8 8), .ro (.int .i64)], [(.own, false, .arr .u8 8)]⟩, loops := [(3, in20009)], views := [], joins := [] }
def fd123 : FD := { id := 123, fn := Go.Proofs.Tryz.f123, sig := ⟨[.ro (.arr .u8 8), .ro (.int .i64)], [(.own, false, .arr .u8 8)]⟩, loops := [], views := [], joins := [] }
def fd106 : FD := { id := 106, fn := Go.Proofs.Tryz.f106, sig := ⟨[.ro (.arr .u8 8), .ro (.int .i64)], [(.own, false, .arr .u8 8)]⟩, loops := [], views := [], joins := [] }
def in20012 : LoopInfo := ⟨20012, ⟨[.box .own (.arr .u8 8), .box .own (.arr .u8 8), .box .own (.arr .u8 8), .box .own (.arr .u8 8)], [(2, .w (.c (.int .i64))), (3, .w (.c (.ptr 0))), (4, .w (.c (.ptr 1))), (6, .w (.c (.ptr 2))), (7, .w (.c (.ptr 3))), (8, .w (.c (.int .i64)))]⟩, [(.exit 0, ⟨[.box .own (.arr .u8 8), .box .own (.arr .u8 8)], [(6, .w (.c (.ptr 0))), (7, .w (.c (.ptr 1)))]⟩)]⟩
def fd105 : FD := { id := 105, fn := Go.Proofs.Tryz.f105, sig := ⟨[.ro (.arr .u8 8), .ro (.arr .u8 8), .ro (.int .i64)], [(.own, false, .arr .u8 8)]⟩, loops := [(3, in20012)], views := [], joins := [] }
def in20010 : LoopInfo := ⟨20010, ⟨[.row .own (.arr .u8 8)], [(1, .w (.c (.int .i64))), (5, .w (.c (.sl 0))), (6, .w (.c (.bool)))]⟩, [(.exit 0, ⟨[.row .own (.arr .u8 8)], [(5, .w (.c (.sl 0)))]⟩)]⟩
def in20011 : LoopInfo := ⟨20011, ⟨[.row .own (.arr .u8 8)], [(1, .w (.c (.int .i64))), (5, .w (.c (.sl 0))), (6, .w (.c (.bool))), (7, .w (.c (.int .i64)))]⟩, [(.exit 2, ⟨[.row .own (.arr .u8 8)], [(1, .w (.c (.int .i64))), (5, .w (.c (.sl 0))), (6, .w (.c (.bool)))]⟩)]⟩
def fd74 : FD := { id := 74, fn := Go.Proofs.Tryz.f74, sig := ⟨[.ro tyF_, .ro (.int .i64)], [(.own, false, .slice (.arr .u8 8))]⟩, loops := [(3, in20010), (6, in20011)], views := [], joins := [] }
def in20013 : LoopInfo := ⟨20013, ⟨[.row .own (.arr .u8 8), .box .own (.st [.int .i64, .int .i64, .sl 2]), .row .own (.arr .u8 8)], [(0, .w (.c (.int .i64))), (1, .w (.c (.int .i64))), (2, .w (.c (.sl 0))), (6, .w (.c (.ptr 1))), (7, .w (.c (.int .i64))), (8, .w (.c (.int .i64)))]⟩, [(.exit 0, ⟨[.row .own (.arr .u8 8), .box .own (.st [.int .i64, .int .i64, .sl 2]), .row .own (.arr .u8 8)], [(0, .w (.c (.int .i64))), (1, .w (.c (.int .i64))), (2, .w (.c (.sl 0))), (6, .w (.c (.ptr 1))), (7, .w (.c (.int .i64))), (8, .w (.c (.int .i64)))]⟩)]⟩
def in20014 : LoopInfo := ⟨20014, ⟨[.row .own (.arr .u8 8), .box .own (.st [.int .i64, .int .i64, .sl 2]), .row .own (.arr .u8 8)], [(0, .w (.c (.int .i64))), (1, .w (.c (.int .i64))), (2, .w (.c (.sl 0))), (6, .w (.c (.ptr 1))), (7, .w (.c (.int .i64))), (8, .w (.c (.int .i64)))]⟩, [(.exit 2, ⟨[.row .own (.arr .u8 8), .box .own (.st [.int .i64, .int .i64, .sl 2]), .row .own (.arr .u8 8)], [(0, .w (.c (.int .i64))), (1, .w (.c (.int .i64))), (2, .w (.c (.sl 0))), (6, .w (.c (.ptr 1))), (7, .w (.c (.int .i64))), (8, .w (.c (.int .i64)))]⟩)]⟩
def fd31 : FD := { id := 31, fn := Go.Proofs.Tryz.f31, sig := ⟨[.ro (.int .i64), .ro (.int .i64), .ro tyF_], [(.own, false, tyN_)]⟩, loops := [(4, in20013), (7, in20014)], views := [], joins := [] }
def fd98 : FD := { id := 98, fn := Go.Proofs.Tryz.f98, sig := ⟨[.ro (tyN_), .ro (.arr .u8 8), .ro (.bool)], [(.own, false, tyN_)]⟩, loops := [], views := [], joins := [] }
def in20004 : LoopInfo := ⟨20004, ⟨[.row .ro (.int .i64), .box .own (.st [.int .i64, .int .i64, .sl 2]), .row .own (.arr .u8 8), .box .own (.st [.int .i64, .int .i64, .sl 4]), .row .own (.arr .u8 8)], [(0, .w (.c (.int .i64))), (1, .w (.c (.sl 0))), (4, .w (.c (.ptr 1))), (5, .w (.c (.ptr 3))), (6, .w (.c (.int .i64)))]⟩, [(.exit 0, ⟨[.box .own (.st [.int .i64, .int .i64, .sl 1]), .row .own (.arr .u8 8), .box .own (.st [.int .i64, .int .i64, .sl 3]), .row .own (.arr .u8 8)], [(4, .w (.c (.ptr 0))), (5, .w (.c (.ptr 2)))]⟩)]⟩
def fd57 : FD := { id := 57, fn := Go.Proofs.Tryz.f57, sig := ⟨[.ro (.int .i64), .ro tyW_], [(.own, false, tyN_)]⟩, loops := [(3, in20004)], views := [], joins := [] }
def in20015 : LoopInfo := ⟨20015, ⟨[.box .own (.st [.int .i64, .int .i64, .sl 1]), .row .ro (.arr .u8 8), .box .own (.st [.int .i64, .int .i64, .sl 3]), .row .own (.arr .u8 8), .box .own (.st [.int .i64, .int .i64, .sl 5]), .row .own (.arr .u8 8)], [(1, .w (.c (.ptr 0))), (2, .w (.c (.ptr 2))), (3, .w (.c (.ptr 4))), (4, .w (.c (.int .i64)))]⟩, [(.exit 0, ⟨[.box .own (.st [.int .i64, .int .i64, .sl 1]), .row .ro (.arr .u8 8), .box .own (.st [.int .i64, .int .i64, .sl 3]), .row .own (.arr .u8 8), .box .own (.st [.int .i64, .int .i64, .sl 5]), .row .own (.arr .u8 8)], [(1, .w (.c (.ptr 0))), (2, .w (.c (.ptr 2))), (3, .w (.c (.ptr 4)))]⟩)]⟩
def fd59 : FD := { id := 59, fn := Go.Proofs.Tryz.f59, sig := ⟨[.ro (tyN_)], [(.own, false, tyN_)]⟩, loops := [(3, in20015)], views := [], joins := [] }
def fd58 : FD := { id := 58, fn := Go.Proofs.Tryz.f58, sig := ⟨[.ro (tyN_), .ro (tyN_)], [(.own, false, tyN_)]⟩, loops := [], views := [], joins := [] }
def fd101 : FD := { id := 101, fn := Go.Proofs.Tryz.f101, sig := ⟨[.boxr (.pair (.slice (.int .u8)) (.pair (.int .i64) (.int .u64))), .ro (.int .i64)], [(.own, false, tyN_)]⟩, loops := [], views := [], joins := [] }
def fd60 : FD := { id := 60, fn := Go.Proofs.Tryz.f60, sig := ⟨[.boxr (.pair (.slice (.int .u8)) (.pair (.int .i64) (.int .u64)))], [(.own, false, tyN_)]⟩, loops := [], views := [], joins := [] }
def in20002 : LoopInfo := ⟨20002, ⟨[.box .own (.st [.sl 1, .int .i64, .int .u64]), .row .ro (.int .u8), .box .own (.st [.int .i64, .int .i64, .sl 3]), .row .own (.arr .u8 8), .row .own (.int .i64)], [(0, .w (.c (.ptr 0))), (2, .w (.c (.ptr 2))), (3, .w (.c (.int .i64))), (4, .w (.c (.sl 4))), (5, .w (.c (.int .i64)))]⟩, [(.exit 0, ⟨[.box .own (.st [.sl 1, .int .i64, .int .u64]), .row .ro (.int .u8), .box .own (.st [.int .i64, .int .i64, .sl 3]), .row .own (.arr .u8 8), .row .own (.int .i64)], [(0, .w (.c (.ptr 0))), (2, .w (.c (.ptr 2))), (3, .w (.c (.int .i64))), (4, .w (.c (.sl 4)))]⟩)]⟩
def in20003 : LoopInfo := ⟨20003, ⟨[.box .own (.st [.sl 1, .int .i64, .int .u64]), .row .ro (.int .u8), .box .own (.st [.int .i64, .int .i64, .sl 3]), .row .own (.arr .u8 8), .row .own (.int .i64)], [(0, .w (.c (.ptr 0))), (2, .w (.c (.ptr 2))), (3, .w (.c (.int .i64))), (4, .w (.c (.sl 4))), (5, .w (.c (.int .i64))), (6, .w (.c (.int .i64)))]⟩, [(.exit 2, ⟨[.box .own (.st [.sl 1, .int .i64, .int .u64]), .row .ro (.int .u8), .box .own (.st [.int .i64, .int .i64, .sl 3]), .row .own (.arr .u8 8), .row .own (.int .i64)], [(0, .w (.c (.ptr 0))), (2, .w (.c (.ptr 2))), (3, .w (.c (.int .i64))), (4, .w (.c (.sl 4))), (5, .w (.c (.int .i64)))]⟩)]⟩
def fd24 : FD := { id := 24, fn := Go.Proofs.Tryz.f24, sig := ⟨[.boxr (.pair (.slice (.int .u8)) (.pair (.int .i64) (.int .u64)))], [(.own, false, tyN_)]⟩, loops := [(6, in20002), (9, in20003)], views := [], joins := [] }
def fd5 : FD := { id := 5, fn := Go.Proofs.Tryz.f5, sig := ⟨[.ro (.slice (.int .u8))], [(.own, false, tyN_)]⟩, loops := [], views := [], joins := [] }
def fd76 : FD := { id := 76, fn := Go.Proofs.Tryz.f76, sig := ⟨[.ro (.int .i64), .ro (.int .i64), .ro (.int .i64)], [(.own, false, .bool)]⟩, loops := [], views := [], joins := [] }
def fd75 : FD := { id := 75, fn := Go.Proofs.Tryz.f75, sig := ⟨[.ro (.int .i64)], [(.own, false, .bool)]⟩, loops := [], views := [], joins := [] }
def in20017 : LoopInfo := ⟨20017, ⟨[.box .own (.barr 8)], [(1, .w (.c (.int .i64))), (5, .w (.c (.ptr 0))), (12, .w (.arr .u8 8)), (13, .w (.c (.int .i64)))]⟩, [(.exit 0, ⟨[], []⟩), (.ret, ⟨[], [(4, .w (.c (.bool)))]⟩)]⟩
def fd77 : FD := { id := 77, fn := Go.Proofs.Tryz.f77, sig := ⟨[.ro (.arr .u8 8), .ro (.int .i64)], [(.own, false, .bool)]⟩, loops := [(5, in20017)], views := [], joins := [] }
def in20018 : LoopInfo := ⟨20018, ⟨[.box .own (.arr .u8 8), .box .own (.arr .u8 8)], [(2, .w (.c (.ptr 0))), (3, .w (.c (.ptr 1))), (6, .w (.c (.int .i64))), (7, .w (.c (.int .i64)))]⟩, [(.exit 0, ⟨[.box .own (.arr .u8 8), .box .own (.arr .u8 8)], [(2, .w (.c (.ptr 0))), (3, .w (.c (.ptr 1)))]⟩)]⟩
def fd78 : FD := { id := 78, fn := Go.Proofs.Tryz.f78, sig := ⟨[.ro (.int .i64)], [(.own, false, .arr .u8 8)]⟩, loops := [(3, in20018)], views := [], joins := [] }
def in20019 : LoopInfo := ⟨20019, ⟨[.box .own (.arr .u8 8), .box .own (.arr .u8 8)], [(0, .w (.c (.int .i64))), (2, .w (.c (.ptr 0))), (3, .w (.c (.ptr 1))), (6, .w (.c (.int .i64))), (7, .w (.c (.int .i64)))]⟩, [(.exit 0, ⟨[.box .own (.arr .u8 8), .box .own (.arr .u8 8)], [(2, .w (.c (.ptr 0))), (3, .w (.c (.ptr 1)))]⟩)]⟩
def fd79 : FD := { id := 79, fn := Go.Proofs.Tryz.f79, sig := ⟨[.ro (.int .i64)], [(.own, false, .arr .u8 8)]⟩, loops := [(3, in20019)], views := [], joins := [] }
def in20020 : LoopInfo := ⟨20020, ⟨[.box .own (.arr .u8 8), .box .own (.arr .u8 8), .box .own (.arr .u8 8)], [(2, .w (.c (.ptr 0))), (4, .w (.c (.ptr 1))), (5, .w (.c (.ptr 2))), (8, .w (.c (.int .i64))), (9, .w (.c (.int .i64)))]⟩, [(.exit 0, ⟨[.box .own (.arr .u8 8), .box .own (.arr .u8 8)], [(4, .w (.c (.ptr 0))), (5, .w (.c (.ptr 1)))]⟩)]⟩
def fd108 : FD := { id := 108, fn := Go.Proofs.Tryz.f108, sig := ⟨[.ro (.arr .u8 8), .ro (.int .i64)], [(.own, false, .arr .u8 8)]⟩, loops := [(3, in20020)], views := [], joins := [] }
def fd110 : FD := { id := 110, fn := Go.Proofs.Tryz.f110, sig := ⟨[.ro (.arr .u8 8), .ro (.int .i64)], [(.own, false, .bool)]⟩, loops := [], views := [], joins := [] }
def in20021 : LoopInfo := ⟨20021, ⟨[.box .own (.arr .u8 8), .row .own (.int .i64)], [(1, .w (.c (.int .i64))), (2, .w (.c (.ptr 0))), (5, .w (.c (.sl 1))), (6, .w (.c (.int .i64)))]⟩, [(.exit 0, ⟨[.row .own (.int .i64)], [(5, .w (.c (.sl 0)))]⟩)]⟩
def fd109 : FD := { id := 109, fn := Go.Proofs.Tryz.f109, sig := ⟨[.ro (.arr .u8 8), .ro (.int .i64)], [(.own, false, .slice (.int .i64))]⟩, loops := [(3, in20021)], views := [], joins := [] }
def in20022 : LoopInfo := ⟨20022, ⟨[.box .own (.arr .u8 8), .row .own (.int .i64)], [(7, .w (.c (.ptr 0))), (15, .w (.c (.sl 1))), (16, .w (.c (.int .i64))), (17, .w (.c (.int .i64)))]⟩, [(.exit 0, ⟨[], []⟩), (.ret, ⟨[], [(6, .w (.c (.bool)))]⟩)]⟩
def fd80 : FD := { id := 80, fn := Go.Proofs.Tryz.f80, sig := ⟨[.ro (.arr .u8 8), .ro (.arr .u8 8), .ro (.int .i64)], [(.own, false, .bool)]⟩, loops := [(3, in20022)], views := [], joins := [] }
def in20016 : LoopInfo := ⟨20016, ⟨[.box .own (.st [.int .i64, .int .i64, .sl 1]), .row .ro (.arr .u8 8)], [(1, .w (.c (.ptr 0))), (3, .w (.c (.int .i64))), (33, .w (.c (.sl 1))), (34, .w (.c (.int .i64))), (35, .w (.c (.int .i64)))]⟩, [(.exit 0, ⟨[], []⟩), (.ret, ⟨[], [(2, .w (.c (.bool)))]⟩)]⟩
def fd32 : FD := { id := 32, fn := Go.Proofs.Tryz.f32, sig := ⟨[.ro (tyN_)], [(.own, false, .bool)]⟩, loops := [(5, in20016)], views := [], joins := [] }
def fd68 : FD := { id := 68, fn := Go.Proofs.Tryz.f68, sig := ⟨[.ro (tyN_)], [(.own, false, tyN_)]⟩, loops := [], views := [], joins := [] }
def in20025 : LoopInfo := ⟨20025, ⟨[.box .own (.arr .u8 8), .box .own (.arr .u8 8), .box .own (.arr .u8 8), .box .own (.arr .u8 8)], [(3, .w (.c (.ptr 0))), (4, .w (.c (.ptr 1))), (6, .w (.c (.ptr 2))), (7, .w (.c (.ptr 3))), (10, .w (.c (.int .i64))), (11, .w (.c (.int .i64)))]⟩, [(.exit 0, ⟨[.box .own (.arr .u8 8), .box .own (.arr .u8 8)], [(6, .w (.c (.ptr 0))), (7, .w (.c (.ptr 1)))]⟩)]⟩
def fd111 : FD := { id := 111, fn := Go.Proofs.Tryz.f111, sig := ⟨[.ro (.arr .u8 8), .ro (.arr .u8 8), .ro (.int .i64)], [(.own, false, .arr .u8 8)]⟩, loops := [(3, in20025)], views := [], joins := [] }
def fd122 : FD := { id := 122, fn := Go.Proofs.Tryz.f122, sig := ⟨[.ro (.arr .u8 8), .ro (.int .i64)], [(.own, false, .arr .u8 8)]⟩, loops := [], views := [], joins := [] }
def fd102 : FD := { id := 102, fn := Go.Proofs.Tryz.f102, sig := ⟨[.ro (.arr .u8 8), .ro (tyN_)], [(.own, false, .arr .u8 8)]⟩, loops := [], views := [], joins := [] }
def fd120 : FD := { id := 120, fn := Go.Proofs.Tryz.f120, sig := ⟨[.ro (.arr .u8 8), .ro (.int .i64)], [(.own, false, .arr .u8 8)]⟩, loops := [], views := [], joins := [] }
def in20027 : LoopInfo := ⟨20027, ⟨[.box .own (.arr .u8 8)], [(2, .w (.c (.ptr 0))), (5, .w (.c (.int .u64))), (8, .w (.c (.int .i64))), (9, .w (.c (.int .i64)))]⟩, [(.exit 0, ⟨[], [(5, .w (.c (.int .u64)))]⟩)]⟩
def in20028 : LoopInfo := ⟨20028, ⟨[.box .own (.arr .u8 8)], [(2, .w (.c (.ptr 0))), (5, .w (.c (.int .u64))), (6, .w (.c (.int .i64))), (8, .w (.c (.int .i64))), (9, .w (.c (.int .i64))), (12, .w (.c (.int .i64))), (13, .w (.c (.int .i64)))]⟩, [(.exit 2, ⟨[.box .own (.arr .u8 8)], [(2, .w (.c (.ptr 0))), (5, .w (.c (.int .u64))), (8, .w (.c (.int .i64))), (9, .w (.c (.int .i64)))]⟩)]⟩
def fd136 : FD := { id := 136, fn := Go.Proofs.Tryz.f136, sig := ⟨[.ro (.arr .u8 8), .ro (.int .i64)], [(.own, false, .int .u64)]⟩, loops := [(3, in20027), (6, in20028)], views := [], joins := [] }
def in20029 : LoopInfo := ⟨20029, ⟨[.box .own (.arr .u8 8), .box .own (.arr .u8 8)], [(2, .w (.c (.int .i64))), (6, .w (.c (.ptr 0))), (7, .w (.c (.int .u64))), (8, .w (.c (.ptr 1))), (9, .w (.c (.bool)))]⟩, [(.exit 0, ⟨[.box .own (.arr .u8 8), .box .own (.arr .u8 8)], [(2, .w (.c (.int .i64))), (6, .w (.c (.ptr 0))), (8, .w (.c (.ptr 1)))]⟩)]⟩
def in20030 : LoopInfo := ⟨20030, ⟨[.box .own (.arr .u8 8), .box .own (.arr .u8 8)], [(2, .w (.c (.int .i64))), (6, .w (.c (.ptr 0))), (7, .w (.c (.int .u64))), (8, .w (.c (.ptr 1))), (9, .w (.c (.bool))), (10, .w (.c (.int .i64)))]⟩, [(.exit 2, ⟨[.box .own (.arr .u8 8), .box .own (.arr .u8 8)], [(2, .w (.c (.int .i64))), (6, .w (.c (.ptr 0))), (7, .w (.c (.int .u64))), (8, .w (.c (.ptr 1))), (9, .w (.c (.bool)))]⟩)]⟩
def fd119 : FD := { id := 119, fn := Go.Proofs.Tryz.f119, sig := ⟨[.ro (.arr .u8 8), .ro (.arr .u8 8), .ro (.int .i64)], [(.own, false, .arr .u8 8)]⟩, loops := [(4, in20029), (7, in20030)], views := [], joins := [] }
def in20026 : LoopInfo := ⟨20026, ⟨[.box .own (.st [.int .i64, .int .i64, .sl 1]), .row .own (.arr .u8 8)], [(0, .w (.c (.ptr 0))), (4, .w (.c (.int .i64))), (5, .w (.c (.int .i64)))]⟩, [(.exit 0, ⟨[.box .own (.st [.int .i64, .int .i64, .sl 1]), .row .own (.arr .u8 8)], [(0, .w (.c (.ptr 0))), (4, .w (.c (.int .i64)))]⟩)]⟩
def in20031 : LoopInfo := ⟨20031, ⟨[.box .own (.st [.int .i64, .int .i64, .sl 1]), .row .own (.arr .u8 8)], [(0, .w (.c (.ptr 0))), (4, .w (.c (.int .i64)))]⟩, [(.exit 2, ⟨[.box .own (.st [.int .i64, .int .i64, .sl 1]), .row .own (.arr .u8 8)], [(0, .w (.c (.ptr 0))), (4, .w (.c (.int .i64)))]⟩)]⟩
def in20032 : LoopInfo := ⟨20032, ⟨[.box .own (.st [.int .i64, .int .i64, .sl 1]), .row .own (.arr .u8 8)], [(0, .w (.c (.ptr 0))), (4, .w (.c (.int .i64)))]⟩, [(.exit 4, ⟨[.box .own (.st [.int .i64, .int .i64, .sl 1]), .row .own (.arr .u8 8)], [(0, .w (.c (.ptr 0)))]⟩)]⟩
def fd94 : FD := { id := 94, fn := Go.Proofs.Tryz.f94, sig := ⟨[.box (tyN_), .ro (.arr .u8 8)], []⟩, loops := [(5, in20026), (11, in20031), (14, in20032)], views := [], joins := [] }
def fd63 : FD := { id := 63, fn := Go.Proofs.Tryz.f63, sig := ⟨[.ro (tyN_)], [(.own, false, tyN_)]⟩, loops := [], views := [], joins := [] }
def fd64 : FD := { id := 64, fn := Go.Proofs.Tryz.f64, sig := ⟨[.ro (tyN_), .ro (tyN_)], [(.own, false, .bool)]⟩, loops := [], views := [], joins := [] }
def in20024 : LoopInfo := ⟨20024, ⟨[.box .own (.st [.int .i64, .int .i64, .sl 1]), .row .ro (.arr .u8 8), .box .own (.st [.int .i64, .int .i64, .sl 3]), .row .own (.arr .u8 8), .box .own (.st [.int .i64, .int .i64, .sl 5]), .row .ro (.arr .u8 8)], [(1, .fn 63 []), (2, .fn 64 []), (3, .w (.c (.ptr 0))), (6, .w (.c (.ptr 2))), (8, .w (.c (.ptr 4))), (16, .w (.c (.int .i64))), (17, .w (.c (.int .i64)))]⟩, [(.exit 0, ⟨[.box .own (.st [.int .i64, .int .i64, .sl 1]), .row .ro (.arr .u8 8), .box .own (.st [.int .i64, .int .i64, .sl 3]), .row .own (.arr .u8 8)], [(3, .w (.c (.ptr 0))), (6, .w (.c (.ptr 2)))]⟩), (.ret, ⟨[.box .own (.st [.int .i64, .int .i64, .sl 1]), .row .own (.arr .u8 8)], [(6, .w (.c (.ptr 0))), (7, .w (.c (.bool)))]⟩)]⟩
def fd10001 : FD := { id := 62, fn := Go.Proofs.Tryz.f62, sig := ⟨[.ro (tyN_), .fn 63 [], .fn 64 []], [(.ro, false, tyN_), (.own, false, .bool)]⟩, loops := [(3, in20024)], views := [], joins := [] }
def in20034 : LoopInfo := ⟨20034, ⟨[.box .own (.st [.int .i64, .int .i64, .sl 1]), .row .own (.arr .u8 8), .box .own (.st [.int .i64, .int .i64, .sl 3]), .row .own (.arr .u8 8), .row .ro (.arr .u8 8)], [(2, .w (.c (.ptr 0))), (4, .w (.c (.ptr 2))), (31, .w (.c (.sl 4))), (32, .w (.c (.int .i64))), (33, .w (.c (.int .i64)))]⟩, [(.exit 0, ⟨[.box .own (.st [.int .i64, .int .i64, .sl 1]), .row .own (.arr .u8 8), .box .own (.st [.int .i64, .int .i64, .sl 3]), .row .own (.arr .u8 8)], [(2, .w (.c (.ptr 0))), (4, .w (.c (.ptr 2)))]⟩)]⟩
def fd65 : FD := { id := 65, fn := Go.Proofs.Tryz.f65, sig := ⟨[.ro (tyN_)], [(.own, false, tyN_)]⟩, loops := [(7, in20034)], views := [], joins := [] }
def fd67 : FD := { id := 67, fn := Go.Proofs.Tryz.f67, sig := ⟨[.ro (tyN_)], [(.own, false, .int .i64)]⟩, loops := [], views := [], joins := [] }
def fd66 : FD := { id := 66, fn := Go.Proofs.Tryz.f66, sig := ⟨[.ro (tyN_), .ro (tyN_)], [(.own, false, .bool)]⟩, loops := [], views := [], joins := [] }
def in20033 : LoopInfo := ⟨20033, ⟨[.box .own (.st [.int .i64, .int .i64, .sl 1]), .row .ro (.arr .u8 8), .box .own (.st [.int .i64, .int .i64, .sl 3]), .row .own (.arr .u8 8), .box .own (.st [.int .i64, .int .i64, .sl 5]), .row .ro (.arr .u8 8)], [(1, .fn 65 []), (2, .fn 66 []), (3, .w (.c (.ptr 0))), (6, .w (.c (.ptr 2))), (8, .w (.c (.ptr 4))), (16, .w (.c (.int .i64))), (17, .w (.c (.int .i64)))]⟩, [(.exit 0, ⟨[.box .own (.st [.int .i64, .int .i64, .sl 1]), .row .ro (.arr .u8 8), .box .own (.st [.int .i64, .int .i64, .sl 3]), .row .own (.arr .u8 8)], [(3, .w (.c (.ptr 0))), (6, .w (.c (.ptr 2)))]⟩), (.ret, ⟨[.box .own (.st [.int .i64, .int .i64, .sl 1]), .row .own (.arr .u8 8)], [(6, .w (.c (.ptr 0))), (7, .w (.c (.bool)))]⟩)]⟩
def fd10002 : FD := { id := 62, fn := Go.Proofs.Tryz.f62, sig := ⟨[.ro (tyN_), .fn 65 [], .fn 66 []], [(.ro, false, tyN_), (.own, false, .bool)]⟩, loops := [(3, in20033)], views := [], joins := [] }
def in20023 : LoopInfo := ⟨20023, ⟨[.box .own (.st [.int .i64, .int .i64, .sl 1]), .row .ro (.arr .u8 8), .box .own (.st [.int .i64, .int .i64, .sl 3]), .row .own (.arr .u8 8)], [(1, .w (.c (.ptr 0))), (2, .w (.c (.ptr 2)))]⟩, [(.ret, ⟨[.box .own (.st [.int .i64, .int .i64, .sl 1]), .row .own (.arr .u8 8)], [(2, .w (.c (.ptr 0)))]⟩)]⟩
def fd27 : FD := { id := 27, fn := Go.Proofs.Tryz.f27, sig := ⟨[.ro (tyN_)], [(.own, false, tyN_)]⟩, loops := [(1, in20023)], views := [], joins := [] }
def fd34 : FD := { id := 34, fn := Go.Proofs.Tryz.f34, sig := ⟨[.ro (tyN_)], [(.ro, false, tyN_), (.own, false, .int .i64)]⟩, loops := [], views := [], joins := [] }
def fd10000 : FD := { id := 26, fn := Go.Proofs.Tryz.f26, sig := ⟨[.ro (tyN_), .fn 27 []], [(.ro, false, tyN_), (.own, false, .int .i64)]⟩, loops := [], views := [], joins := [] }
def fd6 : FD := { id := 6, fn := Go.Proofs.Tryz.f6, sig := ⟨[.ro (tyN_)], [(.ro, false, tyN_), (.own, false, .int .i64)]⟩, loops := [], views := [], joins := [] }
def fd69 : FD := { id := 69, fn := Go.Proofs.Tryz.f69, sig := ⟨[.ro (.int .i64), .ro (.int .i64), .ro (.int .i64)], [(.own, false, .bool)]⟩, loops := [], views := [], joins := [] }
def in20036 : LoopInfo := ⟨20036, ⟨[.box .own (.arr .u8 8), .box .own (.barr 8)], [(1, .w (.c (.int .i64))), (2, .w (.c (.ptr 0))), (5, .w (.c (.ptr 1))), (6, .w (.c (.int .i64)))]⟩, [(.exit 0, ⟨[], []⟩), (.ret, ⟨[], [(4, .w (.c (.bool)))]⟩)]⟩
def fd70 : FD := { id := 70, fn := Go.Proofs.Tryz.f70, sig := ⟨[.ro (.arr .u8 8), .ro (.int .i64)], [(.own, false, .bool)]⟩, loops := [(5, in20036)], views := [], joins := [] }
def in20037 : LoopInfo := ⟨20037, ⟨[.box .own (.arr .u8 8), .box .own (.arr .u8 8)], [(2, .w (.c (.int .i64))), (4, .w (.c (.ptr 0))), (7, .w (.c (.ptr 1))), (8, .w (.c (.int .i64)))]⟩, [(.exit 0, ⟨[], []⟩), (.ret, ⟨[], [(6, .w (.c (.bool)))]⟩)]⟩
def fd72 : FD := { id := 72, fn := Go.Proofs.Tryz.f72, sig := ⟨[.ro (.arr .u8 8), .ro (.arr .u8 8), .ro (.int .i64)], [(.own, false, .bool)]⟩, loops := [(3, in20037)], views := [], joins := [] }
def in20035 : LoopInfo := ⟨20035, ⟨[.box .own (.st [.int .i64, .int .i64, .sl 1]), .row .ro (.arr .u8 8)], [(1, .w (.c (.ptr 0))), (3, .w (.c (.int .i64))), (4, .w (.c (.int .i64)))]⟩, [(.exit 0, ⟨[], []⟩), (.ret, ⟨[], [(2, .w (.c (.bool)))]⟩)]⟩
def fd28 : FD := { id := 28, fn := Go.Proofs.Tryz.f28, sig := ⟨[.ro (tyN_)], [(.own, false, .bool)]⟩, loops := [(5, in20035)], views := [], joins := [] }
def fd90 : FD := { id := 90, fn := Go.Proofs.Tryz.f90, sig := ⟨[.ro (tyN_)], [(.own, false, .arr .u8 8)]⟩, loops := [], views := [], joins := [] }
def fd40 : FD := { id := 40, fn := Go.Proofs.Tryz.f40, sig := ⟨[.ro (tyN_)], [(.ro, false, tyN_)]⟩, loops := [], views := [], joins := [] }
def fd73 : FD := { id := 73, fn := Go.Proofs.Tryz.f73, sig := ⟨[.ro (tyN_)], [(.ro, false, tyN_)]⟩, loops := [], views := [], joins := [] }
def in20038 : LoopInfo := ⟨20038, ⟨[.box .own (.st [.int .i64, .int .i64, .sl 1]), .row .ro (.arr .u8 8), .box .own (.st [.int .i64, .int .i64, .sl 3]), .row .own (.arr .u8 8)], [(1, .w (.c (.ptr 0))), (2, .w (.c (.ptr 2))), (3, .w (.c (.int .i64)))]⟩, [(.ret, ⟨[.box .own (.st [.int .i64, .int .i64, .sl 1]), .row .ro (.arr .u8 8)], [(2, .w (.c (.ptr 0)))]⟩)]⟩
def in20039 : LoopInfo := ⟨20039, ⟨[.box .own (.st [.int .i64, .int .i64, .sl 1]), .row .ro (.arr .u8 8), .box .own (.st [.int .i64, .int .i64, .sl 3]), .row .own (.arr .u8 8), .box .own (.st [.int .i64, .int .i64, .sl 5]), .row .ro (.arr .u8 8)], [(1, .w (.c (.ptr 0))), (2, .w (.c (.ptr 2))), (3, .w (.c (.int .i64))), (4, .w (.c (.ptr 4))), (5, .w (.c (.bool))), (6, .w (.c (.int .i64)))]⟩, [(.exit 2, ⟨[.box .own (.st [.int .i64, .int .i64, .sl 1]), .row .ro (.arr .u8 8), .box .own (.st [.int .i64, .int .i64, .sl 3]), .row .own (.arr .u8 8), .box .own (.st [.int .i64, .int .i64, .sl 5]), .row .ro (.arr .u8 8)], [(1, .w (.c (.ptr 0))), (2, .w (.c (.ptr 2))), (3, .w (.c (.int .i64))), (4, .w (.c (.ptr 4))), (5, .w (.c (.bool)))]⟩)]⟩
def in20040 : LoopInfo := ⟨20040, ⟨[.box .own (.st [.int .i64, .int .i64, .sl 1]), .row .ro (.arr .u8 8), .box .own (.st [.int .i64, .int .i64, .sl 3]), .row .own (.arr .u8 8), .box .own (.st [.int .i64, .int .i64, .sl 5]), .row .ro (.arr .u8 8)], [(1, .w (.c (.ptr 0))), (2, .w (.c (.ptr 2))), (3, .w (.c (.int .i64))), (4, .w (.c (.ptr 4))), (5, .w (.c (.bool))), (7, .w (.c (.int .i64)))]⟩, [(.exit 4, ⟨[.box .own (.st [.int .i64, .int .i64, .sl 1]), .row .ro (.arr .u8 8), .box .own (.st [.int .i64, .int .i64, .sl 3]), .row .own (.arr .u8 8), .box .own (.st [.int .i64, .int .i64, .sl 5]), .row .ro (.arr .u8 8)], [(1, .w (.c (.ptr 0))), (2, .w (.c (.ptr 2))), (3, .w (.c (.int .i64))), (4, .w (.c (.ptr 4))), (5, .w (.c (.bool)))]⟩)]⟩
def fd29 : FD := { id := 29, fn := Go.Proofs.Tryz.f29, sig := ⟨[.ro (tyN_)], [(.ro, false, tyN_)]⟩, loops := [(2, in20038), (4, in20039), (11, in20040)], views := [], joins := [] }
def fd30 : FD := { id := 30, fn := Go.Proofs.Tryz.f30, sig := ⟨[.ro (tyN_)], [(.ro, false, tyN_), (.own, false, .int .i64)]⟩, loops := [], views := [], joins := [] }
def fd7 : FD := { id := 7, fn := Go.Proofs.Tryz.f7, sig := ⟨[.ro (tyN_)], [(.ro, false, tyN_), (.own, false, .int .i64)]⟩, loops := [], views := [], joins := [] }
def in20041 : LoopInfo := ⟨20041, ⟨[.box .own (.st [.int .i64, .int .i64, .sl 1]), .row .ro (.arr .u8 8), .box .own (.st [.int .i64, .int .i64, .sl 3]), .row .ro (.arr .u8 8)], [(2, .w (.c (.ptr 0))), (3, .w (.c (.ptr 2))), (5, .w (.c (.int .i64)))]⟩, [(.exit 0, ⟨[], []⟩), (.ret, ⟨[], [(4, .w (.c (.bool)))]⟩)]⟩
def fd8 : FD := { id := 8, fn := Go.Proofs.Tryz.f8, sig := ⟨[.ro (tyN_), .ro (tyN_)], [(.own, false, .bool)]⟩, loops := [(4, in20041)], views := [], joins := [] }
def fd9 : FD := { id := 9, fn := Go.Proofs.Tryz.f9, sig := ⟨[.ro (tyN_)], [(.own, false, .slice (.int .i64)), (.own, false, .int .i64)]⟩, loops := [], views := [], joins := [] }
def fd10 : FD := { id := 10, fn := Go.Proofs.Tryz.f10, sig := ⟨[.ro (tyN_)], [(.own, false, .slice (.int .i64)), (.own, false, .int .i64)]⟩, loops := [], views := [], joins := [] }
def in20042 : LoopInfo := ⟨20042, ⟨[.row .ro (.int .i64), .row .ro (.int .i64)], [(0, .w (.c (.sl 0))), (1, .w (.c (.sl 1))), (5, .w (.c (.int .i64)))]⟩, [(.exit 0, ⟨[], []⟩), (.ret, ⟨[], [(4, .w (.c (.bool)))]⟩)]⟩
def fd11 : FD := { id := 11, fn := Go.Proofs.Tryz.f11, sig := ⟨[.ro tyW_, .ro tyW_], [(.own, false, .bool)]⟩, loops := [(4, in20042)], views := [], joins := [] }
def fd95 : FD := { id := 95, fn := Go.Proofs.Tryz.f95, sig := ⟨[.ro (.int .i64), .ro (.int .i64)], [(.own, false, .arr .u8 8)]⟩, loops := [], views := [], joins := [] }
def in20045 : LoopInfo := ⟨20045, ⟨[.row .ro (.arr .u8 8), .box .own (.arr .u8 8)], [(0, .w (.c (.sl 0))), (3, .w (.c (.ptr 1))), (7, .w (.c (.int .i64))), (8, .w (.c (.int .i64)))]⟩, [(.exit 0, ⟨[], []⟩), (.ret, ⟨[], [(4, .w (.c (.int .i64)))]⟩)]⟩
def fd124 : FD := { id := 124, fn := Go.Proofs.Tryz.f124, sig := ⟨[.ro tyF_, .ro (.arr .u8 8)], [(.own, false, .int .i64)]⟩, loops := [(2, in20045)], views := [], joins := [] }
def fd112 : FD := { id := 112, fn := Go.Proofs.Tryz.f112, sig := ⟨[.ro tyF_, .ro (.arr .u8 8)], [(.own, false, .bool)]⟩, loops := [], views := [], joins := [] }
def in20043 : LoopInfo := ⟨20043, ⟨[.row .own (.arr .u8 8)], [(0, .w (.c (.int .i64))), (3, .w (.c (.sl 0))), (4, .w (.c (.int .i64)))]⟩, [(.exit 0, ⟨[.row .own (.arr .u8 8)], [(3, .w (.c (.sl 0)))]⟩)]⟩
def in20044 : LoopInfo := ⟨20044, ⟨[.row .own (.arr .u8 8)], [(0, .w (.c (.int .i64))), (3, .w (.c (.sl 0))), (4, .w (.c (.int .i64))), (5, .w (.c (.int .i64)))]⟩, [(.exit 2, ⟨[.row .own (.arr .u8 8)], [(0, .w (.c (.int .i64))), (3, .w (.c (.sl 0))), (4, .w (.c (.int .i64)))]⟩)]⟩
def fd81 : FD := { id := 81, fn := Go.Proofs.Tryz.f81, sig := ⟨[.ro (.int .i64)], [(.own, false, .slice (.arr .u8 8))]⟩, loops := [(3, in20043), (6, in20044)], views := [], joins := [] }
def in20048 : LoopInfo := ⟨20048, ⟨[.box .own (.st [.int .i64, .int .i64, .sl 1]), .row .own (.arr .u8 8)], [(0, .w (.c (.ptr 0))), (25, .w (.c (.sl 1))), (26, .w (.c (.int .i64))), (27, .w (.c (.int .i64)))]⟩, [(.exit 0, ⟨[.box .own (.st [.int .i64, .int .i64, .sl 1]), .row .own (.arr .u8 8)], [(0, .w (.c (.ptr 0)))]⟩)]⟩
def fd97 : FD := { id := 97, fn := Go.Proofs.Tryz.f97, sig := ⟨[.box (tyN_), .ro (.int .i64)], []⟩, loops := [(4, in20048)], views := [], joins := [] }
def fd121 : FD := { id := 121, fn := Go.Proofs.Tryz.f121, sig := ⟨[.ro (.arr .u8 8), .ro (.int .i64)], [(.own, false, .arr .u8 8)]⟩, loops := [], views := [], joins := [] }
def fd96 : FD := { id := 96, fn := Go.Proofs.Tryz.f96, sig := ⟨[.box (tyN_), .ro (.arr .u8 8)], []⟩, loops := [], views := [], joins := [] }
def in20049 : LoopInfo := ⟨20049, ⟨[.box .own (.st [.int .i64, .int .i64, .sl 1]), .row .own (.arr .u8 8), .box .own (.st [.int .i64, .int .i64, .sl 3]), .row .own (.arr .u8 8), .row .ro (.arr .u8 8)], [(4, .w (.c (.ptr 0))), (5, .w (.c (.ptr 2))), (14, .w (.c (.sl 4))), (15, .w (.c (.int .i64))), (16, .w (.c (.int .i64)))]⟩, [(.exit 0, ⟨[.box .own (.st [.int .i64, .int .i64, .sl 1]), .row .own (.arr .u8 8), .box .own (.st [.int .i64, .int .i64, .sl 3]), .row .own (.arr .u8 8)], [(4, .w (.c (.ptr 0))), (5, .w (.c (.ptr 2)))]⟩)]⟩
def fd52 : FD := { id := 52, fn := Go.Proofs.Tryz.f52, sig := ⟨[.ro (tyN_), .ro (tyN_)], [(.own, false, tyN_)]⟩, loops := [(4, in20049)], views := [], joins := [] }
def fd113 : FD := { id := 113, fn := Go.Proofs.Tryz.f113, sig := ⟨[.ro (tyN_), .ro (.arr .u8 8)], [(.own, false, tyN_)]⟩, loops := [], views := [], joins := [] }
def fd82 : FD := { id := 82, fn := Go.Proofs.Tryz.f82, sig := ⟨[.ro (tyN_), .ro (.arr .u8 8)], [(.own, false, tyN_)]⟩, loops := [], views := [], joins := [] }
def in20051 : LoopInfo := ⟨20051, ⟨[.row .ro (.arr .u8 8), .row .ro (.arr .u8 8)], [(0, .w (.c (.sl 0))), (1, .w (.c (.sl 1))), (12, .w (.c (.int .i64))), (13, .w (.c (.int .i64)))]⟩, [(.exit 0, ⟨[], []⟩), (.ret, ⟨[], [(4, .w (.c (.bool)))]⟩)]⟩
def fd91 : FD := { id := 91, fn := Go.Proofs.Tryz.f91, sig := ⟨[.ro tyF_, .ro tyF_], [(.own, false, .bool)]⟩, loops := [(4, in20051)], views := [], joins := [] }
def fd46 : FD := { id := 46, fn := Go.Proofs.Tryz.f46, sig := ⟨[.ro (tyN_), .ro (tyN_)], [(.own, false, .bool)]⟩, loops := [], views := [], joins := [] }
def fd83 : FD := { id := 83, fn := Go.Proofs.Tryz.f83, sig := ⟨[.ro (tyN_), .rob (tyN_)], [(.own, false, .bool)]⟩, loops := [], views := [], joins := [] }
def in20050 : LoopInfo := ⟨20050, ⟨[.row .ro (tyN_), .box .ro (.st [.int .i64, .int .i64, .sl 2]), .row .ro (.arr .u8 8)], [(0, .w (.c (.sl 0))), (1, .fn 83 [.c (.ptr 1)]), (7, .w (.c (.int .i64))), (8, .w (.c (.int .i64)))]⟩, [(.exit 0, ⟨[], []⟩), (.ret, ⟨[], [(4, .w (.c (.int .i64)))]⟩)]⟩
def fd10004 : FD := { id := 88, fn := Go.Proofs.Tryz.f88, sig := ⟨[.ro (.slice (tyN_)), .fn 83 [(.rob, tyN_)]], [(.own, false, .int .i64)]⟩, loops := [(2, in20050)], views := [], joins := [] }
def fd10003 : FD := { id := 44, fn := Go.Proofs.Tryz.f44, sig := ⟨[.ro (.slice (tyN_)), .fn 83 [(.rob, tyN_)]], [(.own, false, .bool)]⟩, loops := [], views := [], joins := [] }
def fd144 : FD := { id := 144, fn := Go.Proofs.Tryz.f144, sig := ⟨[.ro (.int .u8)], [(.own, false, .bool)]⟩, loops := [], views := [], joins := [] }
def fd142 : FD := { id := 142, fn := Go.Proofs.Tryz.f142, sig := ⟨[.ro (.int .u8), .ro (.int .u8)], [(.own, false, .int .i64)]⟩, loops := [], views := [], joins := [] }
def in20053 : LoopInfo := ⟨20053, ⟨[.row .ro (.int .u8), .row .ro (.int .u8)], [(0, .w (.c (.sl 0))), (1, .w (.c (.sl 1))), (9, .w (.c (.sl 0))), (10, .w (.c (.int .i64))), (11, .w (.c (.int .i64)))]⟩, [(.exit 0, ⟨[.row .ro (.int .u8), .row .ro (.int .u8)], [(0, .w (.c (.sl 0))), (1, .w (.c (.sl 1)))]⟩), (.ret, ⟨[], [(4, .w (.c (.int .i64)))]⟩)]⟩
def fd135 : FD := { id := 135, fn := Go.Proofs.Tryz.f135, sig := ⟨[.ro (.slice (.int .u8)), .ro (.slice (.int .u8))], [(.own, false, .int .i64)]⟩, loops := [(2, in20053)], views := [], joins := [] }
def fd117 : FD := { id := 117, fn := Go.Proofs.Tryz.f117, sig := ⟨[.ro (.arr .u8 8), .ro (.arr .u8 8)], [(.own, false, .int .i64)]⟩, loops := [], views := [], joins := [] }
def in20052 : LoopInfo := ⟨20052, ⟨[.row .ro (.arr .u8 8), .row .ro (.arr .u8 8)], [(0, .w (.c (.sl 0))), (1, .w (.c (.sl 1))), (2, .fn 117 []), (11, .w (.c (.sl 0))), (12, .w (.c (.int .i64))), (13, .w (.c (.int .i64)))]⟩, [(.exit 0, ⟨[.row .ro (.arr .u8 8), .row .ro (.arr .u8 8)], [(0, .w (.c (.sl 0))), (1, .w (.c (.sl 1)))]⟩), (.ret, ⟨[], [(6, .w (.c (.int .i64)))]⟩)]⟩
def fd10005 : FD := { id := 116, fn := Go.Proofs.Tryz.f116, sig := ⟨[.ro tyF_, .ro tyF_, .fn 117 []], [(.own, false, .int .i64)]⟩, loops := [(2, in20052)], views := [], joins := [] }
def fd85 : FD := { id := 85, fn := Go.Proofs.Tryz.f85, sig := ⟨[.ro (tyN_), .ro (tyN_)], [(.own, false, .int .i64)]⟩, loops := [], views := [], joins := [] }
def fd10006 : FD := { id := 84, fn := Go.Proofs.Tryz.f84, sig := ⟨[.muts (.slice (tyN_)), .fn 85 []], []⟩, loops := [], views := [], joins := [] }
def in20046 : LoopInfo := ⟨20046, ⟨[.row .sh (tyN_), .row .own (.arr .u8 8)], [(4, .w (.c (.sl 0))), (5, .w (.c (.sl 1))), (6, .w (.c (.int .i64)))]⟩, [(.exit 0, ⟨[.row .sh (tyN_)], [(4, .w (.c (.sl 0)))]⟩), (.ret, ⟨[.row .own (tyN_)], [(2, .w (.c (.sl 0))), (3, .w (.c (.bool)))]⟩)]⟩
def in20047 : LoopInfo := ⟨20047, ⟨[.row .sh (tyN_), .row .own (.arr .u8 8)], [(4, .w (.c (.sl 0))), (5, .w (.c (.sl 1))), (6, .w (.c (.int .i64))), (22, .w (.c (.sl 1))), (23, .w (.c (.int .i64))), (24, .w (.c (.int .i64)))]⟩, [(.exit 2, ⟨[.row .sh (tyN_), .row .own (.arr .u8 8)], [(4, .w (.c (.sl 0))), (5, .w (.c (.sl 1))), (6, .w (.c (.int .i64)))]⟩), (.ret, ⟨[.row .own (tyN_)], [(2, .w (.c (.sl 0))), (3, .w (.c (.bool)))]⟩)]⟩
def fd33 : FD := { id := 33, fn := Go.Proofs.Tryz.f33, sig := ⟨[.ro (tyN_)], [(.sh, false, .slice (tyN_)), (.own, false, .bool)]⟩, loops := [(4, in20046), (7, in20047)], views := [], joins := [] }
def fd12 : FD := { id := 12, fn := Go.Proofs.Tryz.f12, sig := ⟨[.ro (tyN_)], [(.sh, false, .slice (tyN_)), (.own, false, .int .i64)]⟩, loops := [], views := [], joins := [] }
def fd35 : FD := { id := 35, fn := Go.Proofs.Tryz.f35, sig := ⟨[.ro (tyN_)], [(.own, false, .int .i64)]⟩, loops := [], views := [], joins := [] }
def in20054 : LoopInfo := ⟨20054, ⟨[.row .own (.arr .u8 8), .box .own (.arr .u8 8)], [(0, .w (.c (.sl 0))), (2, .w (.c (.int .i64))), (3, .w (.c (.int .i64))), (5, .w (.c (.ptr 1))), (9, .w (.c (.int .i64)))]⟩, [(.exit 0, ⟨[.row .own (.arr .u8 8)], [(0, .w (.c (.sl 0)))]⟩)]⟩
def fd86 : FD := { id := 86, fn := Go.Proofs.Tryz.f86, sig := ⟨[.own tyF_, .ro (.arr .u8 8), .ro (.int .i64), .ro (.int .i64)], [(.own, false, .slice (.arr .u8 8))]⟩, loops := [(6, in20054)], views := [], joins := [] }
def fd118 : FD := { id := 118, fn := Go.Proofs.Tryz.f118, sig := ⟨[.ro (tyN_), .ro (.arr .u8 8)], [(.own, false, tyN_)]⟩, loops := [], views := [], joins := [] }
def fd87 : FD := { id := 87, fn := Go.Proofs.Tryz.f87, sig := ⟨[.ro (tyN_), .ro (.arr .u8 8)], [(.own, false, tyN_)]⟩, loops := [], views := [], joins := [] }
def in20058 : LoopInfo := ⟨20058, ⟨[.box .own (.st [.int .i64, .int .i64, .sl 1]), .row .ro (.arr .u8 8), .box .own (.st [.int .i64, .int .i64, .sl 3]), .row .ro (.arr .u8 8)], [(2, .w (.c (.ptr 0))), (3, .w (.c (.ptr 2))), (5, .w (.c (.int .i64)))]⟩, [(.exit 0, ⟨[], []⟩), (.ret, ⟨[], [(4, .w (.c (.bool)))]⟩)]⟩
def in20059 : LoopInfo := ⟨20059, ⟨[.box .own (.st [.int .i64, .int .i64, .sl 1]), .row .ro (.arr .u8 8), .box .own (.st [.int .i64, .int .i64, .sl 3]), .row .ro (.arr .u8 8)], [(2, .w (.c (.ptr 0))), (3, .w (.c (.ptr 2))), (5, .w (.c (.int .i64))), (6, .w (.c (.int .i64)))]⟩, [(.exit 2, ⟨[.box .own (.st [.int .i64, .int .i64, .sl 1]), .row .ro (.arr .u8 8), .box .own (.st [.int .i64, .int .i64, .sl 3]), .row .ro (.arr .u8 8)], [(2, .w (.c (.ptr 0))), (3, .w (.c (.ptr 2))), (5, .w (.c (.int .i64)))]⟩), (.ret, ⟨[], [(4, .w (.c (.bool)))]⟩)]⟩
def fd92 : FD := { id := 92, fn := Go.Proofs.Tryz.f92, sig := ⟨[.ro (tyN_), .ro (tyN_)], [(.own, false, .bool)]⟩, loops := [(2, in20058), (5, in20059)], views := [], joins := [] }
def in20060 : LoopInfo := ⟨20060, ⟨[.box .own (.st [.int .i64, .int .i64, .sl 1]), .row .ro (.arr .u8 8), .box .own (.st [.int .i64, .int .i64, .sl 3]), .row .ro (.arr .u8 8)], [(2, .w (.c (.ptr 0))), (3, .w (.c (.ptr 2))), (5, .w (.c (.int .i64)))]⟩, [(.exit 0, ⟨[], []⟩), (.ret, ⟨[], [(4, .w (.c (.bool)))]⟩)]⟩
def fd41 : FD := { id := 41, fn := Go.Proofs.Tryz.f41, sig := ⟨[.ro (tyN_), .ro (tyN_)], [(.own, false, .bool)]⟩, loops := [(4, in20060)], views := [], joins := [] }
def in20057 : LoopInfo := ⟨20057, ⟨[.row .ro (tyN_), .box .own (.st [.int .i64, .int .i64, .sl 2]), .row .ro (.arr .u8 8)], [(0, .w (.c (.sl 0))), (3, .w (.c (.ptr 1))), (6, .w (.c (.int .i64)))]⟩, [(.exit 0, ⟨[.row .ro (tyN_), .box .own (.st [.int .i64, .int .i64, .sl 2]), .row .ro (.arr .u8 8)], [(0, .w (.c (.sl 0))), (3, .w (.c (.ptr 1))), (6, .w (.c (.int .i64)))]⟩)]⟩
def fd48 : FD := { id := 48, fn := Go.Proofs.Tryz.f48, sig := ⟨[.ro (.slice (tyN_)), .ro (tyN_)], [(.ro, false, .slice (tyN_)), (.own, false, .bool)]⟩, loops := [(2, in20057)], views := [], joins := [] }
def in20055 : LoopInfo := ⟨20055, ⟨[.box .own (.st [.int .i64, .int .i64, .sl 1]), .row .ro (.arr .u8 8), .row .ro (tyN_), .row .sh (tyN_), .row .own (.arr .u8 8)], [(4, .w (.c (.ptr 0))), (5, .w (.c (.sl 2))), (6, .w (.c (.sl 3))), (7, .w (.c (.sl 4))), (8, .w (.c (.int .i64)))]⟩, [(.exit 0, ⟨[.row .ro (tyN_)], [(5, .w (.c (.sl 0)))]⟩), (.ret, ⟨[.row .own (tyN_)], [(2, .w (.c (.sl 0))), (3, .w (.c (.bool)))]⟩)]⟩
def in20056 : LoopInfo := ⟨20056, ⟨[.box .own (.st [.int .i64, .int .i64, .sl 1]), .row .ro (.arr .u8 8), .row .ro (tyN_), .row .sh (tyN_), .row .own (.arr .u8 8)], [(4, .w (.c (.ptr 0))), (5, .w (.c (.sl 2))), (6, .w (.c (.sl 3))), (7, .w (.c (.sl 4))), (8, .w (.c (.int .i64))), (9, .w (.c (.int .i64)))]⟩, [(.exit 2, ⟨[.box .own (.st [.int .i64, .int .i64, .sl 1]), .row .ro (.arr .u8 8), .row .ro (tyN_), .row .sh (tyN_), .row .own (.arr .u8 8)], [(4, .w (.c (.ptr 0))), (5, .w (.c (.sl 2))), (6, .w (.c (.sl 3))), (7, .w (.c (.sl 4))), (8, .w (.c (.int .i64)))]⟩), (.ret, ⟨[.row .own (tyN_)], [(2, .w (.c (.sl 0))), (3, .w (.c (.bool)))]⟩)]⟩
def fd36 : FD := { id := 36, fn := Go.Proofs.Tryz.f36, sig := ⟨[.ro (tyN_)], [(.ro, false, .slice (tyN_)), (.own, false, .bool)]⟩, loops := [(4, in20055), (7, in20056)], views := [], joins := [] }
def in20061 : LoopInfo := ⟨20061, ⟨[.row .ro (tyN_), .row .sh (tyN_)], [(5, .w (.c (.sl 0))), (7, .w (.c (.sl 1))), (8, .w (.c (.int .i64)))]⟩, [(.exit 0, ⟨[.row .sh (tyN_)], [(7, .w (.c (.sl 0)))]⟩), (.ret, ⟨[.row .own (tyN_)], [(2, .w (.c (.sl 0))), (3, .w (.c (.int .i64)))]⟩)]⟩
def fd13 : FD := { id := 13, fn := Go.Proofs.Tryz.f13, sig := ⟨[.ro (tyN_)], [(.ro, false, .slice (tyN_)), (.own, false, .int .i64)]⟩, loops := [(9, in20061)], views := [], joins := [] }
def in20062 : LoopInfo := ⟨20062, ⟨[.row .ro (tyN_), .row .ro (tyN_)], [(0, .w (.c (.sl 0))), (1, .w (.c (.sl 1))), (5, .w (.c (.int .i64)))]⟩, [(.exit 0, ⟨[], []⟩), (.ret, ⟨[], [(4, .w (.c (.bool)))]⟩)]⟩
def fd14 : FD := { id := 14, fn := Go.Proofs.Tryz.f14, sig := ⟨[.ro (.slice (tyN_)), .ro (.slice (tyN_))], [(.own, false, .bool)]⟩, loops := [(4, in20062)], views := [], joins := [] }
def fd89 : FD := { id := 89, fn := Go.Proofs.Tryz.f89, sig := ⟨[.ro (tyN_), .rob (tyN_)], [(.own, false, .bool)]⟩, loops := [], views := [], joins := [] }
def in20065 : LoopInfo := ⟨20065, ⟨[.row .ro (tyN_), .box .ro (.st [.int .i64, .int .i64, .sl 2]), .row .ro (.arr .u8 8)], [(0, .w (.c (.sl 0))), (1, .fn 89 [.c (.ptr 1)]), (7, .w (.c (.int .i64))), (8, .w (.c (.int .i64)))]⟩, [(.exit 0, ⟨[], []⟩), (.ret, ⟨[], [(4, .w (.c (.int .i64)))]⟩)]⟩
def fd10010 : FD := { id := 88, fn := Go.Proofs.Tryz.f88, sig := ⟨[.ro (.slice (tyN_)), .fn 89 [(.rob, tyN_)]], [(.own, false, .int .i64)]⟩, loops := [(2, in20065)], views := [], joins := [] }
def fd10009 : FD := { id := 44, fn := Go.Proofs.Tryz.f44, sig := ⟨[.ro (.slice (tyN_)), .fn 89 [(.rob, tyN_)]], [(.own, false, .bool)]⟩, loops := [], views := [], joins := [] }
def in20064 : LoopInfo := ⟨20064, ⟨[.box .own (.st [.int .i64, .int .i64, .sl 1]), .row .ro (.arr .u8 8), .row .sh (tyN_), .box .own (.st [.int .i64, .int .i64, .sl 4]), .row .own (.arr .u8 8)], [(1, .w (.c (.ptr 0))), (3, .w (.c (.sl 2))), (4, .w (.c (.ptr 3)))]⟩, [(.ret, ⟨[], [(2, .w (.c (.bool)))]⟩)]⟩
def fd39 : FD := { id := 39, fn := Go.Proofs.Tryz.f39, sig := ⟨[.ro (tyN_)], [(.own, false, .bool)]⟩, loops := [(4, in20064)], views := [], joins := [] }
def fd38 : FD := { id := 38, fn := Go.Proofs.Tryz.f38, sig := ⟨[.ro (tyN_)], [(.own, false, .bool)]⟩, loops := [], views := [], joins := [] }
def in20063 : LoopInfo := ⟨20063, ⟨[.row .ro (tyN_)], [(0, .w (.c (.sl 0))), (1, .fn 38 []), (7, .w (.c (.int .i64))), (8, .w (.c (.int .i64)))]⟩, [(.exit 0, ⟨[], []⟩), (.ret, ⟨[], [(4, .w (.c (.int .i64)))]⟩)]⟩
def fd10008 : FD := { id := 88, fn := Go.Proofs.Tryz.f88, sig := ⟨[.ro (.slice (tyN_)), .fn 38 []], [(.own, false, .int .i64)]⟩, loops := [(2, in20063)], views := [], joins := [] }
def in20066 : LoopInfo := ⟨20066, ⟨[.row .sh (tyN_)], [(0, .w (.c (.sl 0))), (1, .fn 38 []), (5, .w (.c (.int .i64))), (6, .w (.c (.int .i64)))]⟩, [(.exit 0, ⟨[.row .sh (tyN_)], [(0, .w (.c (.sl 0))), (5, .w (.c (.int .i64)))]⟩)]⟩
def fd10007 : FD := { id := 37, fn := Go.Proofs.Tryz.f37, sig := ⟨[.shs (.slice (tyN_)), .fn 38 []], [(.ro, false, .slice (tyN_))]⟩, loops := [(5, in20066)], views := [], joins := [], hooks := [(11, ⟨false, 2, false, true⟩)] }
def fd15 : FD := { id := 15, fn := Go.Proofs.Tryz.f15, sig := ⟨[.ro (tyN_)], [(.ro, false, .slice (tyN_)), (.own, false, .int .i64)]⟩, loops := [], views := [], joins := [] }
def in20067 : LoopInfo := ⟨20067, ⟨[.row .ro (tyN_), .row .sh (tyN_)], [(4, .w (.c (.sl 0))), (6, .w (.c (.sl 1))), (7, .w (.c (.int .i64)))]⟩, [(.exit 0, ⟨[.row .sh (tyN_)], [(6, .w (.c (.sl 0)))]⟩)]⟩
def in20068 : LoopInfo := ⟨20068, ⟨[.row .ro (tyN_), .row .sh (tyN_), .box .own (.st [.int .i64, .int .i64, .sl 3]), .row .ro (.arr .u8 8)], [(4, .w (.c (.sl 0))), (6, .w (.c (.sl 1))), (7, .w (.c (.int .i64))), (8, .w (.c (.ptr 2))), (9, .w (.c (.int .i64)))]⟩, [(.exit 2, ⟨[.row .ro (tyN_), .row .sh (tyN_), .box .own (.st [.int .i64, .int .i64, .sl 3]), .row .ro (.arr .u8 8)], [(4, .w (.c (.sl 0))), (6, .w (.c (.sl 1))), (7, .w (.c (.int .i64))), (8, .w (.c (.ptr 2)))]⟩)]⟩
def fd16 : FD := { id := 16, fn := Go.Proofs.Tryz.f16, sig := ⟨[.ro (tyN_)], [(.ro, false, .slice (tyN_)), (.own, false, .int .i64)]⟩, loops := [(6, in20067), (10, in20068)], views := [], joins := [] }
def fd42 : FD := { id := 42, fn := Go.Proofs.Tryz.f42, sig := ⟨[.ro (.slice (.int .u8))], [(.own, false, tyN_), (.own, false, tyN_)]⟩, loops := [], views := [], joins := [] }
def fd17 : FD := { id := 17, fn := Go.Proofs.Tryz.f17, sig := ⟨[.ro (.slice (.int .u8))], [(.own, false, tyN_), (.own, false, tyN_)]⟩, loops := [], views := [], joins := [] }
def fd43 : FD := { id := 43, fn := Go.Proofs.Tryz.f43, sig := ⟨[.ro (tyN_), .ro (tyN_)], [(.own, false, .int .i64)]⟩, loops := [], views := [], joins := [] }
def fd45 : FD := { id := 45, fn := Go.Proofs.Tryz.f45, sig := ⟨[.ro (tyN_), .rob (tyN_)], [(.own, false, .bool)]⟩, loops := [], views := [], joins := [] }
def in20069 : LoopInfo := ⟨20069, ⟨[.row .ro (tyN_), .box .ro (.st [.int .i64, .int .i64, .sl 2]), .row .ro (.arr .u8 8)], [(0, .w (.c (.sl 0))), (1, .fn 45 [.c (.ptr 1)]), (7, .w (.c (.int .i64))), (8, .w (.c (.int .i64)))]⟩, [(.exit 0, ⟨[], []⟩), (.ret, ⟨[], [(4, .w (.c (.int .i64)))]⟩)]⟩
def fd10012 : FD := { id := 88, fn := Go.Proofs.Tryz.f88, sig := ⟨[.ro (.slice (tyN_)), .fn 45 [(.rob, tyN_)]], [(.own, false, .int .i64)]⟩, loops := [(2, in20069)], views := [], joins := [] }
def fd10011 : FD := { id := 44, fn := Go.Proofs.Tryz.f44, sig := ⟨[.ro (.slice (tyN_)), .fn 45 [(.rob, tyN_)]], [(.own, false, .bool)]⟩, loops := [], views := [], joins := [] }
def fd18 : FD := { id := 18, fn := Go.Proofs.Tryz.f18, sig := ⟨[.ro (tyN_), .ro (tyN_)], [(.own, false, .bool), (.own, false, .int .i64)]⟩, loops := [], views := [], joins := [] }
def fd47 : FD := { id := 47, fn := Go.Proofs.Tryz.f47, sig := ⟨[.ro (tyN_), .ro (tyN_)], [(.own, false, .int .i64)]⟩, loops := [], views := [], joins := [] }
def fd19 : FD := { id := 19, fn := Go.Proofs.Tryz.f19, sig := ⟨[.ro (tyN_), .ro (tyN_)], [(.own, false, .bool), (.own, false, .int .i64)]⟩, loops := [], views := [], joins := [] }
def in20070 : LoopInfo := ⟨20070, ⟨[.row .ro (.int .u8), .box .own (.st [.sl 0, .int .i64, .int .u64])], [(0, .w (.c (.sl 0))), (5, .w (.c (.ptr 1))), (6, .w (.c (.int .i64)))]⟩, [(.exit 0, ⟨[.box .own (.st [.sl 1, .int .i64, .int .u64]), .row .ro (.int .u8)], [(5, .w (.c (.ptr 0)))]⟩)]⟩
def fd22 : FD := { id := 22, fn := Go.Proofs.Tryz.f22, sig := ⟨[.ro (.slice (.int .u8)), .ro (.int .u64)], [(.ro, true, .pair (.slice (.int .u8)) (.pair (.int .i64) (.int .u64)))]⟩, loops := [(3, in20070)], views := [], joins := [] }
def fd51 : FD := { id := 51, fn := Go.Proofs.Tryz.f51, sig := ⟨[.boxr (.pair (.slice (.int .u8)) (.pair (.int .i64) (.int .u64))), .ro (.int .i64)], [(.own, false, .int .i64)]⟩, loops := [], views := [], joins := [] }
def in20071 : LoopInfo := ⟨20071, ⟨[.box .own (.st [.sl 1, .int .i64, .int .u64]), .row .ro (.int .u8), .row .own (.int .i64)], [(0, .w (.c (.ptr 0))), (1, .w (.c (.int .i64))), (2, .w (.c (.int .i64))), (7, .w (.c (.sl 2)))]⟩, [(.exit 0, ⟨[.box .own (.st [.sl 1, .int .i64, .int .u64]), .row .ro (.int .u8), .row .own (.int .i64)], [(0, .w (.c (.ptr 0))), (7, .w (.c (.sl 2)))]⟩)]⟩
def fd21 : FD := { id := 21, fn := Go.Proofs.Tryz.f21, sig := ⟨[.boxr (.pair (.slice (.int .u8)) (.pair (.int .i64) (.int .u64))), .ro (.int .i64), .ro (.int .i64)], [(.own, false, .slice (.int .i64))]⟩, loops := [(2, in20071)], views := [], joins := [] }
def fd93 : FD := { id := 93, fn := Go.Proofs.Tryz.f93, sig := ⟨[.ro (.int .i64), .ro (.int .i64)], [(.own, false, .bool)]⟩, loops := [], views := [], joins := [] }
def in20072 : LoopInfo := ⟨20072, ⟨[.box .own (.st [.int .i64, .sl 1]), .row .ro (.int .i64)], [(1, .w (.c (.ptr 0))), (16, .w (.c (.sl 1))), (17, .w (.c (.int .i64))), (18, .w (.c (.int .i64)))]⟩, [(.exit 0, ⟨[], []⟩), (.ret, ⟨[], [(2, .w (.c (.bool)))]⟩)]⟩
def fd49 : FD := { id := 49, fn := Go.Proofs.Tryz.f49, sig := ⟨[.ro (tyB_)], [(.own, false, .bool)]⟩, loops := [(4, in20072)], views := [], joins := [] }
def in20073 : LoopInfo := ⟨20073, ⟨[.box .own (.st [.int .i64, .sl 1]), .row .ro (.int .i64), .box .own (.st [.int .i64, .int .i64, .sl 3]), .row .own (.arr .u8 8), .box .own (.st [.int .i64, .int .i64, .sl 5]), .row .own (.arr .u8 8)], [(1, .w (.c (.ptr 0))), (2, .w (.c (.ptr 2))), (3, .w (.c (.ptr 4))), (10, .w (.c (.sl 1))), (11, .w (.c (.int .i64))), (12, .w (.c (.int .i64)))]⟩, [(.exit 0, ⟨[.box .own (.st [.int .i64, .int .i64, .sl 1]), .row .own (.arr .u8 8), .box .own (.st [.int .i64, .int .i64, .sl 3]), .row .own (.arr .u8 8)], [(2, .w (.c (.ptr 0))), (3, .w (.c (.ptr 2)))]⟩)]⟩
def fd50 : FD := { id := 50, fn := Go.Proofs.Tryz.f50, sig := ⟨[.ro (tyB_)], [(.own, false, tyN_)]⟩, loops := [(3, in20073)], views := [], joins := [] }
def fd20 : FD := { id := 20, fn := Go.Proofs.Tryz.f20, sig := ⟨[.ro (tyB_)], [(.ro, false, tyN_), (.own, false, .int .i64)]⟩, loops := [], views := [], joins := [] }
def in20074 : LoopInfo := ⟨20074, ⟨[.box .own (.st [.int .i64, .int .i64, .sl 1]), .row .ro (.arr .u8 8), .box .own (.st [.int .i64, .int .i64, .sl 3]), .row .own (.arr .u8 8), .box .own (.st [.int .i64, .int .i64, .sl 5]), .row .own (.arr .u8 8)], [(1, .w (.c (.ptr 0))), (2, .w (.c (.ptr 2))), (3, .w (.c (.ptr 4))), (4, .w (.c (.int .i64)))]⟩, [(.exit 0, ⟨[.box .own (.st [.int .i64, .int .i64, .sl 1]), .row .ro (.arr .u8 8), .box .own (.st [.int .i64, .int .i64, .sl 3]), .row .own (.arr .u8 8), .box .own (.st [.int .i64, .int .i64, .sl 5]), .row .own (.arr .u8 8)], [(1, .w (.c (.ptr 0))), (2, .w (.c (.ptr 2))), (3, .w (.c (.ptr 4)))]⟩)]⟩
def fd53 : FD := { id := 53, fn := Go.Proofs.Tryz.f53, sig := ⟨[.ro (tyN_)], [(.own, false, tyN_)]⟩, loops := [(3, in20074)], views := [], joins := [] }
def fd23 : FD := { id := 23, fn := Go.Proofs.Tryz.f23, sig := ⟨[.ro (tyN_), .ro (tyN_)], [(.ro, false, tyN_), (.own, false, .int .i64)]⟩, loops := [], views := [], joins := [] }
def in20075 : LoopInfo := ⟨20075, ⟨[.box .own (.st [.int .i64, .int .i64, .sl 1]), .row .ro (.arr .u8 8), .row .sh (tyN_), .row .ro (tyN_), .row .sh (tyN_)], [(4, .w (.c (.ptr 0))), (12, .w (.c (.sl 2))), (16, .w (.c (.sl 3))), (32, .w (.c (.sl 4))), (33, .w (.c (.int .i64))), (34, .w (.c (.bool))), (35, .w (.c (.int .i64)))]⟩, [(.exit 0, ⟨[.row .sh (tyN_), .row .ro (tyN_), .row .sh (tyN_)], [(12, .w (.c (.sl 0))), (16, .w (.c (.sl 1))), (32, .w (.c (.sl 2))), (33, .w (.c (.int .i64))), (34, .w (.c (.bool)))]⟩)]⟩
def fd3 : FD := { id := 3, fn := Go.Proofs.Tryz.f3, sig := ⟨[.ro (.slice (.int .u8))], [(.own, false, .bool)]⟩, loops := [(41, in20075)], views := [], joins := [] }
def fdTab : List (Nat × FD) := [(4, fd4), (25, fd25), (56, fd56), (54, fd54), (55, fd55), (71, fd71), (99, fd99), (61, fd61), (107, fd107), (104, fd104), (100, fd100), (103, fd103), (123, fd123), (106, fd106), (105, fd105), (74, fd74), (31, fd31), (98, fd98), (57, fd57), (59, fd59), (58, fd58), (101, fd101), (60, fd60), (24, fd24), (5, fd5), (76, fd76), (75, fd75), (77, fd77), (78, fd78), (79, fd79), (108, fd108), (110, fd110), (109, fd109), (80, fd80), (32, fd32), (68, fd68), (111, fd111), (122, fd122), (102, fd102), (120, fd120), (136, fd136), (119, fd119), (94, fd94), (63, fd63), (64, fd64), (10001, fd10001), (65, fd65), (67, fd67), (66, fd66), (10002, fd10002), (27, fd27), (34, fd34), (10000, fd10000), (6, fd6), (69, fd69), (70, fd70), (72, fd72), (28, fd28), (90, fd90), (40, fd40), (73, fd73), (29, fd29), (30, fd30), (7, fd7), (8, fd8), (9, fd9), (10, fd10), (11, fd11), (95, fd95), (124, fd124), (112, fd112), (81, fd81), (97, fd97), (121, fd121), (96, fd96), (52, fd52), (113, fd113), (82, fd82), (91, fd91), (46, fd46), (83, fd83), (10004, fd10004), (10003, fd10003), (144, fd144), (142, fd142), (135, fd135), (117, fd117), (10005, fd10005), (85, fd85), (10006, fd10006), (33, fd33), (12, fd12), (35, fd35), (86, fd86), (118, fd118), (87, fd87), (92, fd92), (41, fd41), (48, fd48), (36, fd36), (13, fd13), (14, fd14), (89, fd89), (10010, fd10010), (10009, fd10009), (39, fd39), (38, fd38), (10008, fd10008), (10007, fd10007), (15, fd15), (16, fd16), (42, fd42), (17, fd17), (43, fd43), (45, fd45), (10012, fd10012), (10011, fd10011), (18, fd18), (47, fd47), (19, fd19), (22, fd22), (51, fd51), (21, fd21), (93, fd93), (49, fd49), (50, fd50), (20, fd20), (53, fd53), (23, fd23), (3, fd3)]
def ldTab : List (Nat × LD) := [(20000, ⟨25, 3, in20000, false⟩), (20001, ⟨55, 6, in20001, false⟩), (20005, ⟨71, 3, in20005, false⟩), (20007, ⟨61, 3, in20007, false⟩), (20008, ⟨107, 3, in20008, false⟩), (20006, ⟨100, 3, in20006, false⟩), (20009, ⟨103, 3, in20009, false⟩), (20012, ⟨105, 3, in20012, false⟩), (20010, ⟨74, 3, in20010, false⟩), (20011, ⟨74, 6, in20011, false⟩), (20013, ⟨31, 4, in20013, false⟩), (20014, ⟨31, 7, in20014, false⟩), (20004, ⟨57, 3, in20004, false⟩), (20015, ⟨59, 3, in20015, false⟩), (20002, ⟨24, 6, in20002, false⟩), (20003, ⟨24, 9, in20003, false⟩), (20017, ⟨77, 5, in20017, false⟩), (20018, ⟨78, 3, in20018, false⟩), (20019, ⟨79, 3, in20019, false⟩), (20020, ⟨108, 3, in20020, false⟩), (20021, ⟨109, 3, in20021, false⟩), (20022, ⟨80, 3, in20022, false⟩), (20016, ⟨32, 5, in20016, false⟩), (20025, ⟨111, 3, in20025, false⟩), (20027, ⟨136, 3, in20027, false⟩), (20028, ⟨136, 6, in20028, false⟩), (20029, ⟨119, 4, in20029, false⟩), (20030, ⟨119, 7, in20030, false⟩), (20026, ⟨94, 5, in20026, false⟩), (20031, ⟨94, 11, in20031, false⟩), (20032, ⟨94, 14, in20032, false⟩), (20024, ⟨10001, 3, in20024, false⟩), (20034, ⟨65, 7, in20034, false⟩), (20033, ⟨10002, 3, in20033, false⟩), (20023, ⟨27, 1, in20023, false⟩), (20036, ⟨70, 5, in20036, false⟩), (20037, ⟨72, 3, in20037, false⟩), (20035, ⟨28, 5, in20035, false⟩), (20038, ⟨29, 2, in20038, false⟩), (20039, ⟨29, 4, in20039, false⟩), (20040, ⟨29, 11, in20040, false⟩), (20041, ⟨8, 4, in20041, false⟩), (20042, ⟨11, 4, in20042, false⟩), (20045, ⟨124, 2, in20045, false⟩), (20043, ⟨81, 3, in20043, false⟩), (20044, ⟨81, 6, in20044, false⟩), (20048, ⟨97, 4, in20048, false⟩), (20049, ⟨52, 4, in20049, false⟩), (20051, ⟨91, 4, in20051, false⟩), (20050, ⟨10004, 2, in20050, false⟩), (20053, ⟨135, 2, in20053, false⟩), (20052, ⟨10005, 2, in20052, false⟩), (20046, ⟨33, 4, in20046, false⟩), (20047, ⟨33, 7, in20047, false⟩), (20054, ⟨86, 6, in20054, false⟩), (20058, ⟨92, 2, in20058, false⟩), (20059, ⟨92, 5, in20059, false⟩), (20060, ⟨41, 4, in20060, false⟩), (20057, ⟨48, 2, in20057, false⟩), (20055, ⟨36, 4, in20055, false⟩), (20056, ⟨36, 7, in20056, false⟩), (20061, ⟨13, 9, in20061, false⟩), (20062, ⟨14, 4, in20062, false⟩), (20065, ⟨10010, 2, in20065, false⟩), (20064, ⟨39, 4, in20064, false⟩), (20063, ⟨10008, 2, in20063, false⟩), (20066, ⟨10007, 5, in20066, false⟩), (20067, ⟨16, 6, in20067, false⟩), (20068, ⟨16, 10, in20068, false⟩), (20069, ⟨10012, 2, in20069, false⟩), (20070, ⟨22, 3, in20070, false⟩), (20071, ⟨21, 2, in20071, false⟩), (20072, ⟨49, 4, in20072, false⟩), (20073, ⟨50, 3, in20073, false⟩), (20074, ⟨53, 3, in20074, false⟩), (20075, ⟨3, 41, in20075, false⟩)]
def extTab : List (Nat × ExtK) := [(10006, .sort 85 (.pair (.int .i64) (.pair (.int .i64) (.slice (.arr .u8 8)))))]
def pickTab : List ((FuncId × List FuncId) × Nat) := [((26, [27]), 10000), ((62, [63, 64]), 10001), ((62, [65, 66]), 10002), ((44, [83]), 10003), ((88, [83]), 10004), ((116, [117]), 10005), ((84, [85]), 10006), ((37, [38]), 10007), ((88, [38]), 10008), ((44, [89]), 10009), ((88, [89]), 10010), ((44, [45]), 10011), ((88, [45]), 10012)]
def pick (f : FuncId) : List FuncId → Nat
  | [] => f
  | l => (pickTab.lookup (f, l)).getD 0
def E : Env := ⟨[9, 10, 11], fun T => tyTab.lookup T, pick, fun f => fdTab.lookup f, fun f => ldTab.lookup f, fun f => extTab.lookup f⟩
def R : Oracle := ev E
theorem go_ {f : Nat} {l : List TV} {b : Oracle → Option (List TV)} (e : ∀ c, run1 E c f l = b c) {o : List TV} (h : b R = some o) : R f l = some o := ev_step ((e R).trans h)
theorem R_ev (f : Nat) (l : List TV) : R f l = ev E f l := rfl
def iw_big : Nat := 4
def is_l01From : Nat := 25
def is_l01From_3 : Nat := 20000
def is_l01Next : Nat := 56
def is_l01Pick : Nat := 54
def is_l01Draw : Nat := 55
def is_l01Draw_6 : Nat := 20001
def is_l02Same : Nat := 71
def is_l02Same_3 : Nat := 20005
def is_l02Exchange : Nat := 99
def is_l02Half : Nat := 61
def is_l02Half_3 : Nat := 20007
def is_l02Then : Nat := 107
def is_l02Then_3 : Nat := 20008
def is_l02Turn : Nat := 104
def is_l03Turned : Nat := 100
def is_l03Turned_3 : Nat := 20006
def is_l02Back : Nat := 103
def is_l02Back_3 : Nat := 20009
def is_l02Left : Nat := 123
def is_l02Complement : Nat := 106
def is_l02Meet : Nat := 105
def is_l02Meet_3 : Nat := 20012
def is_l03Weigh : Nat := 74
def is_l03Weigh_3 : Nat := 20010
def is_l03Weigh_6 : Nat := 20011
def is_l03Make : Nat := 31
def is_l03Make_4 : Nat := 20013
def is_l03Make_7 : Nat := 20014
def is_l03Times : Nat := 98
def is_l03Of : Nat := 57
def is_l03Of_3 : Nat := 20004
def is_l03Inverse : Nat := 59
def is_l03Inverse_3 : Nat := 20015
def is_l03Product : Nat := 58
def is_l03Draw : Nat := 101
def is_l03Some : Nat := 60
def is_l04Draw : Nat := 24
def is_l04Draw_6 : Nat := 20002
def is_l04Draw_9 : Nat := 20003
def is_DrawSummitOf : Nat := 5
def ii_within : Nat := 76
def ii_isCount : Nat := 75
def ii_IsSimple : Nat := 77
def ii_IsSimple_5 : Nat := 20017
def ii_nothing : Nat := 78
def ii_nothing_3 : Nat := 20018
def ii_halfTurn : Nat := 79
def ii_halfTurn_3 : Nat := 20019
def ii_backOf : Nat := 108
def ii_backOf_3 : Nat := 20020
def ii_begins : Nat := 110
def ii_beginning : Nat := 109
def ii_beginning_3 : Nat := 20021
def ii_endsAll : Nat := 80
def ii_endsAll_3 : Nat := 20022
def ii_IsNormal : Nat := 32
def ii_IsNormal_5 : Nat := 20016
def ii_copyNormal : Nat := 68
def ii_then : Nat := 111
def ii_then_3 : Nat := 20025
def ii_turn : Nat := 122
def ii_turned : Nat := 102
def ii_complement : Nat := 120
def ii_descents : Nat := 136
def ii_descents_3 : Nat := 20027
def ii_descents_6 : Nat := 20028
def ii_meet : Nat := 119
def ii_meet_4 : Nat := 20029
def ii_meet_7 : Nat := 20030
def i__i_Normal__put : Nat := 94
def i__i_Normal__put_5 : Nat := 20026
def i__i_Normal__put_11 : Nat := 20031
def i__i_Normal__put_14 : Nat := 20032
def ii_cycled : Nat := 63
def ii_summitK1 : Nat := 64
def ii_better : Nat := 10001
def ii_better_3 : Nat := 20024
def ii_decycled : Nat := 65
def ii_decycled_7 : Nat := 20034
def ii_greatest : Nat := 67
def ii_summitK2 : Nat := 66
def ii_better_v2 : Nat := 10002
def ii_better_v2_3 : Nat := 20033
def ii_summit : Nat := 27
def ii_summit_1 : Nat := 20023
def ii_limited : Nat := 34
def ii_changed : Nat := 10000
def ii_SummitOf : Nat := 6
def is_l01In : Nat := 69
def is_l02Is : Nat := 70
def is_l02Is_5 : Nat := 20036
def is_l03Weighted : Nat := 72
def is_l03Weighted_3 : Nat := 20037
def is_l03Is : Nat := 28
def is_l03Is_5 : Nat := 20035
def is_l04First : Nat := 90
def is_l04Cycle : Nat := 40
def is_l04Decycle : Nat := 73
def is_l04Summit : Nat := 29
def is_l04Summit_2 : Nat := 20038
def is_l04Summit_4 : Nat := 20039
def is_l04Summit_11 : Nat := 20040
def is_l03Fit : Nat := 30
def is_SummitOf : Nat := 7
def iw_normal9 : Nat := 8
def iw_normal9_4 : Nat := 20041
def ii_SummitLengths : Nat := 9
def is_SummitLengths : Nat := 10
def iw_likeInts : Nat := 11
def iw_likeInts_4 : Nat := 20042
def ii_exchange : Nat := 95
def ig_Index___i_Simple_i_Simple_ : Nat := 124
def ig_Index___i_Simple_i_Simple__2 : Nat := 20045
def ig_Contains___i_Simple_i_Simple_ : Nat := 112
def ii_allSimple : Nat := 81
def ii_allSimple_3 : Nat := 20043
def ii_allSimple_6 : Nat := 20044
def i__i_Normal__turnBy : Nat := 97
def i__i_Normal__turnBy_4 : Nat := 20048
def ii_leftComplement : Nat := 121
def i__i_Normal__putInverse : Nat := 96
def ii_product : Nat := 52
def ii_product_4 : Nat := 20049
def ii_withoutHead : Nat := 113
def ii_conjugate : Nat := 82
def ig_Equal___i_Simple_i_Simple_ : Nat := 91
def ig_Equal___i_Simple_i_Simple__4 : Nat := 20051
def ii_sameNormal : Nat := 46
def ii_superSummitK1 : Nat := 83
def ig_IndexFunc___i_Normal_i_Normal_ : Nat := 10004
def ig_IndexFunc___i_Normal_i_Normal__2 : Nat := 20050
def ig_ContainsFunc___i_Normal_i_Normal_ : Nat := 10003
def icmp_isNaN_byte_ : Nat := 144
def icmp_Compare_byte_ : Nat := 142
def ig_Compare___byte_byte_ : Nat := 135
def ig_Compare___byte_byte__2 : Nat := 20053
def ii_compareSimple : Nat := 117
def ig_CompareFunc___i_Simple___i_Simple_i_Simple_i_Simple_ : Nat := 10005
def ig_CompareFunc___i_Simple___i_Simple_i_Simple_i_Simple__2 : Nat := 20052
def ii_compareFactors : Nat := 85
def ig_SortFunc___i_Normal_i_Normal_ : Nat := 10006
def ii_superSummit : Nat := 33
def ii_superSummit_4 : Nat := 20046
def ii_superSummit_7 : Nat := 20047
def ii_SuperSummit : Nat := 12
def is_l04Code : Nat := 35
def is_l04Simples : Nat := 86
def is_l04Simples_6 : Nat := 20054
def is_l03Less : Nat := 118
def is_l04Conjugate : Nat := 87
def is_l04Before : Nat := 92
def is_l04Before_2 : Nat := 20058
def is_l04Before_5 : Nat := 20059
def is_l03Like : Nat := 41
def is_l03Like_4 : Nat := 20060
def is_l04Insert : Nat := 48
def is_l04Insert_2 : Nat := 20057
def is_l04Set : Nat := 36
def is_l04Set_4 : Nat := 20055
def is_l04Set_7 : Nat := 20056
def is_SuperSummit : Nat := 13
def is_SuperSummit_9 : Nat := 20061
def iw_normals9 : Nat := 14
def iw_normals9_4 : Nat := 20062
def ii_comesBackK1 : Nat := 89
def ig_IndexFunc___i_Normal_i_Normal__v2 : Nat := 10010
def ig_IndexFunc___i_Normal_i_Normal__v2_2 : Nat := 20065
def ig_ContainsFunc___i_Normal_i_Normal__v2 : Nat := 10009
def ii_comesBack : Nat := 39
def ii_comesBack_4 : Nat := 20064
def ii_UltraSummitK1 : Nat := 38
def ig_IndexFunc___i_Normal_i_Normal__v3 : Nat := 10008
def ig_IndexFunc___i_Normal_i_Normal__v3_2 : Nat := 20063
def ig_DeleteFunc___i_Normal_i_Normal_ : Nat := 10007
def ig_DeleteFunc___i_Normal_i_Normal__5 : Nat := 20066
def ii_UltraSummit : Nat := 15
def is_UltraSummit : Nat := 16
def is_UltraSummit_6 : Nat := 20067
def is_UltraSummit_10 : Nat := 20068
def is_l04Pair : Nat := 42
def is_DrawAreConjugate : Nat := 17
def ii_areSameCount : Nat := 43
def ii_AreConjugateK1 : Nat := 45
def ig_IndexFunc___i_Normal_i_Normal__v4 : Nat := 10012
def ig_IndexFunc___i_Normal_i_Normal__v4_2 : Nat := 20069
def ig_ContainsFunc___i_Normal_i_Normal__v3 : Nat := 10011
def ii_AreConjugate : Nat := 18
def is_l03Both : Nat := 47
def is_AreConjugate : Nat := 19
def iw_roll : Nat := 22
def iw_roll_3 : Nat := 20070
def i__w_dice__below : Nat := 51
def iw_letters9 : Nat := 21
def iw_letters9_2 : Nat := 20071
def ii_isLetter : Nat := 93
def ii_IsBraid : Nat := 49
def ii_IsBraid_4 : Nat := 20072
def ii_normalOf : Nat := 50
def ii_normalOf_3 : Nat := 20073
def ii_NormalOf : Nat := 20
def ii_inverse : Nat := 53
def ii_inverse_3 : Nat := 20074
def ii_ConjugateBy : Nat := 23
def iw_FnSummits : Nat := 3
def iw_FnSummits_41 : Nat := 20075
end
end Go.Ev.YtfkpbhbghbhmgaaGreat
