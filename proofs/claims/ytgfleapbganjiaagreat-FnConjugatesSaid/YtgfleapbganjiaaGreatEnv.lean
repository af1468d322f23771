/- What the evaluator knows of this program. -/
import Derived.Test.YtgfleapbganjiaaGreatProg
import Derived.Test.YtgfleapbganjiaaGreatV1
namespace Go.Ev.YtgfleapbganjiaaGreat
open Go.Ev
noncomputable section
abbrev tyN_ : Ty := .pair (.int .i64) (.pair (.int .i64) (.slice (.arr .u8 8)))
abbrev tyB_ : Ty := .pair (.int .i64) (.slice (.int .i64))
abbrev tyF_ : Ty := .slice (.arr .u8 8)
abbrev tyW_ : Ty := .slice (.int .i64)
@[reducible] def tA8 (x : List Int) : TV := ⟨.arr .u8 8, x⟩
@[reducible] def gA8 (l : List TV) (i : Nat) : List Int := getTV (.arr .u8 8) l i
@[reducible] def tAB8 (x : List Bool) : TV := ⟨.barr 8, x⟩
@[reducible] def gAB8 (l : List TV) (i : Nat) : List Bool := getTV (.barr 8) l i
@[reducible] def tB (x : Bool) : TV := ⟨.bool, x⟩
@[reducible] def gB (l : List TV) (i : Nat) : Bool := getTV (.bool) l i
@[reducible] def tI (x : Int) : TV := ⟨.int .i64, x⟩
@[reducible] def gI (l : List TV) (i : Nat) : Int := getTV (.int .i64) l i
@[reducible] def tLA8 (x : List (List Int)) : TV := ⟨.slice (.arr .u8 8), x⟩
@[reducible] def gLA8 (l : List TV) (i : Nat) : List (List Int) := getTV (.slice (.arr .u8 8)) l i
@[reducible] def tLI (x : List Int) : TV := ⟨.slice (.int .i64), x⟩
@[reducible] def gLI (l : List TV) (i : Nat) : List Int := getTV (.slice (.int .i64)) l i
@[reducible] def tLPIPILA8 (x : List (Int × Int × List (List Int))) : TV := ⟨.slice (.pair (.int .i64) (.pair (.int .i64) (.slice (.arr .u8 8)))), x⟩
@[reducible] def gLPIPILA8 (l : List TV) (i : Nat) : List (Int × Int × List (List Int)) := getTV (.slice (.pair (.int .i64) (.pair (.int .i64) (.slice (.arr .u8 8))))) l i
@[reducible] def tLU8 (x : List Int) : TV := ⟨.slice (.int .u8), x⟩
@[reducible] def gLU8 (l : List TV) (i : Nat) : List Int := getTV (.slice (.int .u8)) l i
@[reducible] def tPILI (x : Int × List Int) : TV := ⟨.pair (.int .i64) (.slice (.int .i64)), x⟩
@[reducible] def gPILI (l : List TV) (i : Nat) : Int × List Int := getTV (.pair (.int .i64) (.slice (.int .i64))) l i
@[reducible] def tPIPILA8 (x : Int × Int × List (List Int)) : TV := ⟨.pair (.int .i64) (.pair (.int .i64) (.slice (.arr .u8 8))), x⟩
@[reducible] def gPIPILA8 (l : List TV) (i : Nat) : Int × Int × List (List Int) := getTV (.pair (.int .i64) (.pair (.int .i64) (.slice (.arr .u8 8)))) l i
@[reducible] def tPLU8PIU64 (x : List Int × Int × Int) : TV := ⟨.pair (.slice (.int .u8)) (.pair (.int .i64) (.int .u64)), x⟩
@[reducible] def gPLU8PIU64 (l : List TV) (i : Nat) : List Int × Int × Int := getTV (.pair (.slice (.int .u8)) (.pair (.int .i64) (.int .u64))) l i
@[reducible] def tU64 (x : Int) : TV := ⟨.int .u64, x⟩
@[reducible] def gU64 (l : List TV) (i : Nat) : Int := getTV (.int .u64) l i
@[reducible] def tU8 (x : Int) : TV := ⟨.int .u8, x⟩
@[reducible] def gU8 (l : List TV) (i : Nat) : Int := getTV (.int .u8) l i
def tyTab : List (Nat × Ty) := [(2, .int .i64), (3, .int .i64), (4, .bool), (5, .int .u8), (6, .int .u8), (7, .pair (.int .i64) (.pair (.int .i64) (.pair (.bool) (.int .u8)))), (8, .pair (.int .i64) (.pair (.int .i64) (.pair (.bool) (.int .u8)))), (12, .int .u64), (21, .int .i32), (22, .slice (.int .u8)), (24, .slice (.arr .u8 8)), (25, .pair (.int .i64) (.pair (.int .i64) (.slice (.arr .u8 8)))), (26, .pair (.int .i64) (.pair (.int .i64) (.slice (.arr .u8 8)))), (37, .slice (.int .i64)), (41, .int .u64), (42, .pair (.int .i64) (.slice (.int .i64))), (43, .pair (.int .i64) (.slice (.int .i64))), (48, .arr .u8 8), (49, .arr .u8 8), (59, .pair (.slice (.int .u8)) (.pair (.int .i64) (.int .u64))), (60, .pair (.slice (.int .u8)) (.pair (.int .i64) (.int .u64))), (61, .slice (.pair (.int .i64) (.pair (.int .i64) (.slice (.arr .u8 8))))), (75, .pair (.slice (.int .u8)) (.pair (.int .i64) (.int .u64))), (76, .pair (.slice (.int .u8)) (.pair (.int .i64) (.int .u64))), (88, .int .u64), (99, .barr 8), (109, .int .i64), (117, .int .u32), (120, .int .u64), (138, .int .u8), (139, .int .u8), (142, .int .i32), (143, .int .i32)]
def fd4 : FD := { id := 4, fn := Go.Proofs.Tryz.f4, sig := ⟨[.ro (.slice (.int .u8))], [(.own, false, .bool)]⟩, loops := [], views := [], joins := [] }
def in20000 : LoopInfo := ⟨20000, ⟨[.row .ro (.int .u8), .box .own (.st [.sl 0, .int .i64, .int .u64])], [(0, .w (.c (.sl 0))), (3, .w (.c (.ptr 1))), (4, .w (.c (.int .i64)))]⟩, [(.exit 0, ⟨[.box .own (.st [.sl 1, .int .i64, .int .u64]), .row .ro (.int .u8)], [(3, .w (.c (.ptr 0)))]⟩)]⟩
def fd36 : FD := { id := 36, fn := Go.Proofs.Tryz.f36, sig := ⟨[.ro (.slice (.int .u8))], [(.ro, true, .pair (.slice (.int .u8)) (.pair (.int .i64) (.int .u64)))]⟩, loops := [(3, in20000)], views := [], joins := [] }
def fd55 : FD := { id := 55, fn := Go.Proofs.Tryz.f55, sig := ⟨[.boxr (.pair (.slice (.int .u8)) (.pair (.int .i64) (.int .u64))), .ro (.int .i64)], [(.own, false, .int .i64)]⟩, loops := [], views := [], joins := [] }
def fd66 : FD := { id := 66, fn := Go.Proofs.Tryz.f66, sig := ⟨[.boxr (.pair (.slice (.int .u8)) (.pair (.int .i64) (.int .u64))), .ro tyW_], [(.own, false, .int .i64)]⟩, loops := [], views := [], joins := [] }
def in20001 : LoopInfo := ⟨20001, ⟨[.box .own (.st [.sl 1, .int .i64, .int .u64]), .row .ro (.int .u8), .row .own (.int .i64)], [(0, .w (.c (.ptr 0))), (1, .w (.c (.int .i64))), (7, .w (.c (.sl 2))), (8, .w (.c (.int .i64))), (9, .w (.c (.int .i64)))]⟩, [(.exit 0, ⟨[.box .own (.st [.sl 1, .int .i64, .int .u64]), .row .ro (.int .u8), .row .own (.int .i64)], [(0, .w (.c (.ptr 0))), (7, .w (.c (.sl 2)))]⟩)]⟩
def fd57 : FD := { id := 57, fn := Go.Proofs.Tryz.f57, sig := ⟨[.boxr (.pair (.slice (.int .u8)) (.pair (.int .i64) (.int .u64))), .ro (.int .i64), .ro (.int .i64)], [(.own, false, .slice (.int .i64))]⟩, loops := [(6, in20001)], views := [], joins := [] }
def in20005 : LoopInfo := ⟨20005, ⟨[.box .own (.arr .u8 8), .box .own (.arr .u8 8)], [(0, .w (.c (.int .i64))), (2, .w (.c (.ptr 0))), (3, .w (.c (.ptr 1))), (4, .w (.c (.int .i64)))]⟩, [(.exit 0, ⟨[.box .own (.arr .u8 8), .box .own (.arr .u8 8)], [(2, .w (.c (.ptr 0))), (3, .w (.c (.ptr 1)))]⟩)]⟩
def fd71 : FD := { id := 71, fn := Go.Proofs.Tryz.f71, sig := ⟨[.ro (.int .i64)], [(.own, false, .arr .u8 8)]⟩, loops := [(3, in20005)], views := [], joins := [] }
def fd99 : FD := { id := 99, fn := Go.Proofs.Tryz.f99, sig := ⟨[.ro (.int .i64), .ro (.int .i64)], [(.own, false, .arr .u8 8)]⟩, loops := [], views := [], joins := [] }
def in20007 : LoopInfo := ⟨20007, ⟨[.box .own (.arr .u8 8), .box .own (.arr .u8 8)], [(0, .w (.c (.int .i64))), (2, .w (.c (.ptr 0))), (3, .w (.c (.ptr 1))), (4, .w (.c (.int .i64)))]⟩, [(.exit 0, ⟨[.box .own (.arr .u8 8), .box .own (.arr .u8 8)], [(2, .w (.c (.ptr 0))), (3, .w (.c (.ptr 1)))]⟩)]⟩
def fd68 : FD := { id := 68, fn := Go.Proofs.Tryz.f68, sig := ⟨[.ro (.int .i64)], [(.own, false, .arr .u8 8)]⟩, loops := [(3, in20007)], views := [], joins := [] }
def in20008 : LoopInfo := ⟨20008, ⟨[.box .own (.arr .u8 8), .box .own (.arr .u8 8), .box .own (.arr .u8 8), .box .own (.arr .u8 8)], [(2, .w (.c (.int .i64))), (3, .w (.c (.ptr 0))), (4, .w (.c (.ptr 1))), (6, .w (.c (.ptr 2))), (7, .w (.c (.ptr 3))), (8, .w (.c (.int .i64)))]⟩, [(.exit 0, ⟨[.box .own (.arr .u8 8), .box .own (.arr .u8 8)], [(6, .w (.c (.ptr 0))), (7, .w (.c (.ptr 1)))]⟩)]⟩
def fd107 : FD := { id := 107, fn := Go.Proofs.Tryz.f107, sig := ⟨[.ro (.arr .u8 8), .ro (.arr .u8 8), .ro (.int .i64)], [(.own, false, .arr .u8 8)]⟩, loops := [(3, in20008)], views := [], joins := [] }
def fd75 : FD := { id := 75, fn := Go.Proofs.Tryz.f75, sig := ⟨[.ro (.arr .u8 8), .ro (.int .i64)], [(.own, false, .arr .u8 8)]⟩, loops := [], views := [], joins := [] }
def in20006 : LoopInfo := ⟨20006, ⟨[.row .ro (.arr .u8 8), .row .own (.arr .u8 8)], [(0, .w (.c (.sl 0))), (1, .w (.c (.int .i64))), (2, .w (.c (.int .i64))), (7, .w (.c (.sl 1))), (8, .w (.c (.int .i64)))]⟩, [(.exit 0, ⟨[.row .own (.arr .u8 8)], [(7, .w (.c (.sl 0)))]⟩)]⟩
def fd64 : FD := { id := 64, fn := Go.Proofs.Tryz.f64, sig := ⟨[.ro tyF_, .ro (.int .i64), .ro (.int .i64)], [(.own, false, .slice (.arr .u8 8))]⟩, loops := [(3, in20006)], views := [], joins := [] }
def in20009 : LoopInfo := ⟨20009, ⟨[.box .own (.arr .u8 8), .box .own (.arr .u8 8), .box .own (.arr .u8 8)], [(1, .w (.c (.int .i64))), (2, .w (.c (.ptr 0))), (4, .w (.c (.ptr 1))), (5, .w (.c (.ptr 2))), (6, .w (.c (.int .i64)))]⟩, [(.exit 0, ⟨[.box .own (.arr .u8 8), .box .own (.arr .u8 8)], [(4, .w (.c (.ptr 0))), (5, .w (.c (.ptr 1)))]⟩)]⟩
def fd106 : FD := { id := 106, fn := Go.Proofs.Tryz.f106, sig := ⟨[.ro (.arr .u8 8), .ro (.int .i64)], [(.own, false, .arr .u8 8)]⟩, loops := [(3, in20009)], views := [], joins := [] }
def fd104 : FD := { id := 104, fn := Go.Proofs.Tryz.f104, sig := ⟨[.ro (.arr .u8 8), .ro (.int .i64)], [(.own, false, .arr .u8 8)]⟩, loops := [], views := [], joins := [] }
def fd81 : FD := { id := 81, fn := Go.Proofs.Tryz.f81, sig := ⟨[.ro (.arr .u8 8), .ro (.int .i64)], [(.own, false, .arr .u8 8)]⟩, loops := [], views := [], joins := [] }
def in20012 : LoopInfo := ⟨20012, ⟨[.box .own (.arr .u8 8), .box .own (.arr .u8 8), .box .own (.arr .u8 8), .box .own (.arr .u8 8)], [(2, .w (.c (.int .i64))), (3, .w (.c (.ptr 0))), (4, .w (.c (.ptr 1))), (6, .w (.c (.ptr 2))), (7, .w (.c (.ptr 3))), (8, .w (.c (.int .i64)))]⟩, [(.exit 0, ⟨[.box .own (.arr .u8 8), .box .own (.arr .u8 8)], [(6, .w (.c (.ptr 0))), (7, .w (.c (.ptr 1)))]⟩)]⟩
def fd80 : FD := { id := 80, fn := Go.Proofs.Tryz.f80, sig := ⟨[.ro (.arr .u8 8), .ro (.arr .u8 8), .ro (.int .i64)], [(.own, false, .arr .u8 8)]⟩, loops := [(3, in20012)], views := [], joins := [] }
def in20010 : LoopInfo := ⟨20010, ⟨[.row .own (.arr .u8 8)], [(1, .w (.c (.int .i64))), (5, .w (.c (.sl 0))), (6, .w (.c (.bool)))]⟩, [(.exit 0, ⟨[.row .own (.arr .u8 8)], [(5, .w (.c (.sl 0)))]⟩)]⟩
def in20011 : LoopInfo := ⟨20011, ⟨[.row .own (.arr .u8 8)], [(1, .w (.c (.int .i64))), (5, .w (.c (.sl 0))), (6, .w (.c (.bool))), (7, .w (.c (.int .i64)))]⟩, [(.exit 2, ⟨[.row .own (.arr .u8 8)], [(1, .w (.c (.int .i64))), (5, .w (.c (.sl 0))), (6, .w (.c (.bool)))]⟩)]⟩
def fd73 : FD := { id := 73, fn := Go.Proofs.Tryz.f73, sig := ⟨[.ro tyF_, .ro (.int .i64)], [(.own, false, .slice (.arr .u8 8))]⟩, loops := [(3, in20010), (6, in20011)], views := [], joins := [] }
def in20013 : LoopInfo := ⟨20013, ⟨[.row .own (.arr .u8 8), .box .own (.st [.int .i64, .int .i64, .sl 2]), .row .own (.arr .u8 8)], [(0, .w (.c (.int .i64))), (1, .w (.c (.int .i64))), (2, .w (.c (.sl 0))), (6, .w (.c (.ptr 1))), (7, .w (.c (.int .i64))), (8, .w (.c (.int .i64)))]⟩, [(.exit 0, ⟨[.row .own (.arr .u8 8), .box .own (.st [.int .i64, .int .i64, .sl 2]), .row .own (.arr .u8 8)], [(0, .w (.c (.int .i64))), (1, .w (.c (.int .i64))), (2, .w (.c (.sl 0))), (6, .w (.c (.ptr 1))), (7, .w (.c (.int .i64))), (8, .w (.c (.int .i64)))]⟩)]⟩
def in20014 : LoopInfo := ⟨20014, ⟨[.row .own (.arr .u8 8), .box .own (.st [.int .i64, .int .i64, .sl 2]), .row .own (.arr .u8 8)], [(0, .w (.c (.int .i64))), (1, .w (.c (.int .i64))), (2, .w (.c (.sl 0))), (6, .w (.c (.ptr 1))), (7, .w (.c (.int .i64))), (8, .w (.c (.int .i64)))]⟩, [(.exit 2, ⟨[.row .own (.arr .u8 8), .box .own (.st [.int .i64, .int .i64, .sl 2]), .row .own (.arr .u8 8)], [(0, .w (.c (.int .i64))), (1, .w (.c (.int .i64))), (2, .w (.c (.sl 0))), (6, .w (.c (.ptr 1))), (7, .w (.c (.int .i64))), (8, .w (.c (.int .i64)))]⟩)]⟩
def fd40 : FD := { id := 40, fn := Go.Proofs.Tryz.f40, sig := ⟨[.ro (.int .i64), .ro (.int .i64), .ro tyF_], [(.own, false, tyN_)]⟩, loops := [(4, in20013), (7, in20014)], views := [], joins := [] }
def fd65 : FD := { id := 65, fn := Go.Proofs.Tryz.f65, sig := ⟨[.ro (tyN_), .ro (.arr .u8 8), .ro (.bool)], [(.own, false, tyN_)]⟩, loops := [], views := [], joins := [] }
def in20004 : LoopInfo := ⟨20004, ⟨[.row .ro (.int .i64), .box .own (.st [.int .i64, .int .i64, .sl 2]), .row .own (.arr .u8 8), .box .own (.st [.int .i64, .int .i64, .sl 4]), .row .own (.arr .u8 8)], [(0, .w (.c (.int .i64))), (1, .w (.c (.sl 0))), (4, .w (.c (.ptr 1))), (5, .w (.c (.ptr 3))), (6, .w (.c (.int .i64)))]⟩, [(.exit 0, ⟨[.box .own (.st [.int .i64, .int .i64, .sl 1]), .row .own (.arr .u8 8), .box .own (.st [.int .i64, .int .i64, .sl 3]), .row .own (.arr .u8 8)], [(4, .w (.c (.ptr 0))), (5, .w (.c (.ptr 2)))]⟩)]⟩
def fd56 : FD := { id := 56, fn := Go.Proofs.Tryz.f56, sig := ⟨[.ro (.int .i64), .ro tyW_], [(.own, false, tyN_)]⟩, loops := [(3, in20004)], views := [], joins := [] }
def in20015 : LoopInfo := ⟨20015, ⟨[.box .own (.st [.int .i64, .int .i64, .sl 1]), .row .ro (.arr .u8 8), .box .own (.st [.int .i64, .int .i64, .sl 3]), .row .own (.arr .u8 8), .box .own (.st [.int .i64, .int .i64, .sl 5]), .row .own (.arr .u8 8)], [(1, .w (.c (.ptr 0))), (2, .w (.c (.ptr 2))), (3, .w (.c (.ptr 4))), (4, .w (.c (.int .i64)))]⟩, [(.exit 0, ⟨[.box .own (.st [.int .i64, .int .i64, .sl 1]), .row .ro (.arr .u8 8), .box .own (.st [.int .i64, .int .i64, .sl 3]), .row .own (.arr .u8 8), .box .own (.st [.int .i64, .int .i64, .sl 5]), .row .own (.arr .u8 8)], [(1, .w (.c (.ptr 0))), (2, .w (.c (.ptr 2))), (3, .w (.c (.ptr 4)))]⟩)]⟩
def fd34 : FD := { id := 34, fn := Go.Proofs.Tryz.f34, sig := ⟨[.ro (tyN_)], [(.own, false, tyN_)]⟩, loops := [(3, in20015)], views := [], joins := [] }
def fd33 : FD := { id := 33, fn := Go.Proofs.Tryz.f33, sig := ⟨[.ro (tyN_), .ro (tyN_)], [(.own, false, tyN_)]⟩, loops := [], views := [], joins := [] }
def fd105 : FD := { id := 105, fn := Go.Proofs.Tryz.f105, sig := ⟨[.boxr (.pair (.slice (.int .u8)) (.pair (.int .i64) (.int .u64))), .ro (.int .i64)], [(.own, false, tyN_)]⟩, loops := [], views := [], joins := [] }
def fd67 : FD := { id := 67, fn := Go.Proofs.Tryz.f67, sig := ⟨[.boxr (.pair (.slice (.int .u8)) (.pair (.int .i64) (.int .u64)))], [(.own, false, tyN_)]⟩, loops := [], views := [], joins := [] }
def in20002 : LoopInfo := ⟨20002, ⟨[.box .own (.st [.sl 1, .int .i64, .int .u64]), .row .ro (.int .u8), .box .own (.st [.int .i64, .int .i64, .sl 3]), .row .own (.arr .u8 8), .row .own (.int .i64)], [(0, .w (.c (.ptr 0))), (2, .w (.c (.ptr 2))), (3, .w (.c (.int .i64))), (4, .w (.c (.sl 4))), (5, .w (.c (.int .i64)))]⟩, [(.exit 0, ⟨[.box .own (.st [.sl 1, .int .i64, .int .u64]), .row .ro (.int .u8), .box .own (.st [.int .i64, .int .i64, .sl 3]), .row .own (.arr .u8 8), .row .own (.int .i64)], [(0, .w (.c (.ptr 0))), (2, .w (.c (.ptr 2))), (3, .w (.c (.int .i64))), (4, .w (.c (.sl 4)))]⟩)]⟩
def in20003 : LoopInfo := ⟨20003, ⟨[.box .own (.st [.sl 1, .int .i64, .int .u64]), .row .ro (.int .u8), .box .own (.st [.int .i64, .int .i64, .sl 3]), .row .own (.arr .u8 8), .row .own (.int .i64)], [(0, .w (.c (.ptr 0))), (2, .w (.c (.ptr 2))), (3, .w (.c (.int .i64))), (4, .w (.c (.sl 4))), (5, .w (.c (.int .i64))), (6, .w (.c (.int .i64)))]⟩, [(.exit 2, ⟨[.box .own (.st [.sl 1, .int .i64, .int .u64]), .row .ro (.int .u8), .box .own (.st [.int .i64, .int .i64, .sl 3]), .row .own (.arr .u8 8), .row .own (.int .i64)], [(0, .w (.c (.ptr 0))), (2, .w (.c (.ptr 2))), (3, .w (.c (.int .i64))), (4, .w (.c (.sl 4))), (5, .w (.c (.int .i64)))]⟩)]⟩
def fd35 : FD := { id := 35, fn := Go.Proofs.Tryz.f35, sig := ⟨[.boxr (.pair (.slice (.int .u8)) (.pair (.int .i64) (.int .u64)))], [(.own, false, tyN_)]⟩, loops := [(6, in20002), (9, in20003)], views := [], joins := [] }
def fd63 : FD := { id := 63, fn := Go.Proofs.Tryz.f63, sig := ⟨[.ro (.int .i64), .ro (.int .i64), .ro (.int .i64)], [(.own, false, .bool)]⟩, loops := [], views := [], joins := [] }
def in20017 : LoopInfo := ⟨20017, ⟨[.box .own (.arr .u8 8), .box .own (.barr 8)], [(1, .w (.c (.int .i64))), (2, .w (.c (.ptr 0))), (5, .w (.c (.ptr 1))), (6, .w (.c (.int .i64)))]⟩, [(.exit 0, ⟨[], []⟩), (.ret, ⟨[], [(4, .w (.c (.bool)))]⟩)]⟩
def fd70 : FD := { id := 70, fn := Go.Proofs.Tryz.f70, sig := ⟨[.ro (.arr .u8 8), .ro (.int .i64)], [(.own, false, .bool)]⟩, loops := [(5, in20017)], views := [], joins := [] }
def in20018 : LoopInfo := ⟨20018, ⟨[.box .own (.arr .u8 8), .box .own (.arr .u8 8)], [(2, .w (.c (.int .i64))), (4, .w (.c (.ptr 0))), (7, .w (.c (.ptr 1))), (8, .w (.c (.int .i64)))]⟩, [(.exit 0, ⟨[], []⟩), (.ret, ⟨[], [(6, .w (.c (.bool)))]⟩)]⟩
def fd72 : FD := { id := 72, fn := Go.Proofs.Tryz.f72, sig := ⟨[.ro (.arr .u8 8), .ro (.arr .u8 8), .ro (.int .i64)], [(.own, false, .bool)]⟩, loops := [(3, in20018)], views := [], joins := [] }
def in20016 : LoopInfo := ⟨20016, ⟨[.box .own (.st [.int .i64, .int .i64, .sl 1]), .row .ro (.arr .u8 8)], [(1, .w (.c (.ptr 0))), (3, .w (.c (.int .i64))), (4, .w (.c (.int .i64)))]⟩, [(.exit 0, ⟨[], []⟩), (.ret, ⟨[], [(2, .w (.c (.bool)))]⟩)]⟩
def fd39 : FD := { id := 39, fn := Go.Proofs.Tryz.f39, sig := ⟨[.ro (tyN_)], [(.own, false, .bool)]⟩, loops := [(5, in20016)], views := [], joins := [] }
def fd26 : FD := { id := 26, fn := Go.Proofs.Tryz.f26, sig := ⟨[.ro (.slice (.int .u8))], [(.own, false, tyN_), (.own, false, tyN_)]⟩, loops := [], views := [], joins := [] }
def fd5 : FD := { id := 5, fn := Go.Proofs.Tryz.f5, sig := ⟨[.ro (.slice (.int .u8))], [(.own, false, tyN_), (.own, false, tyN_)]⟩, loops := [], views := [], joins := [] }
def fd58 : FD := { id := 58, fn := Go.Proofs.Tryz.f58, sig := ⟨[.ro (.int .i64), .ro (.int .i64), .ro (.int .i64)], [(.own, false, .bool)]⟩, loops := [], views := [], joins := [] }
def fd82 : FD := { id := 82, fn := Go.Proofs.Tryz.f82, sig := ⟨[.ro (.int .i64)], [(.own, false, .bool)]⟩, loops := [], views := [], joins := [] }
def in20020 : LoopInfo := ⟨20020, ⟨[.box .own (.barr 8)], [(1, .w (.c (.int .i64))), (5, .w (.c (.ptr 0))), (12, .w (.arr .u8 8)), (13, .w (.c (.int .i64)))]⟩, [(.exit 0, ⟨[], []⟩), (.ret, ⟨[], [(4, .w (.c (.bool)))]⟩)]⟩
def fd83 : FD := { id := 83, fn := Go.Proofs.Tryz.f83, sig := ⟨[.ro (.arr .u8 8), .ro (.int .i64)], [(.own, false, .bool)]⟩, loops := [(5, in20020)], views := [], joins := [] }
def in20021 : LoopInfo := ⟨20021, ⟨[.box .own (.arr .u8 8), .box .own (.arr .u8 8)], [(2, .w (.c (.ptr 0))), (3, .w (.c (.ptr 1))), (6, .w (.c (.int .i64))), (7, .w (.c (.int .i64)))]⟩, [(.exit 0, ⟨[.box .own (.arr .u8 8), .box .own (.arr .u8 8)], [(2, .w (.c (.ptr 0))), (3, .w (.c (.ptr 1)))]⟩)]⟩
def fd84 : FD := { id := 84, fn := Go.Proofs.Tryz.f84, sig := ⟨[.ro (.int .i64)], [(.own, false, .arr .u8 8)]⟩, loops := [(3, in20021)], views := [], joins := [] }
def in20022 : LoopInfo := ⟨20022, ⟨[.box .own (.arr .u8 8), .box .own (.arr .u8 8)], [(0, .w (.c (.int .i64))), (2, .w (.c (.ptr 0))), (3, .w (.c (.ptr 1))), (6, .w (.c (.int .i64))), (7, .w (.c (.int .i64)))]⟩, [(.exit 0, ⟨[.box .own (.arr .u8 8), .box .own (.arr .u8 8)], [(2, .w (.c (.ptr 0))), (3, .w (.c (.ptr 1)))]⟩)]⟩
def fd85 : FD := { id := 85, fn := Go.Proofs.Tryz.f85, sig := ⟨[.ro (.int .i64)], [(.own, false, .arr .u8 8)]⟩, loops := [(3, in20022)], views := [], joins := [] }
def in20023 : LoopInfo := ⟨20023, ⟨[.box .own (.arr .u8 8), .box .own (.arr .u8 8), .box .own (.arr .u8 8)], [(2, .w (.c (.ptr 0))), (4, .w (.c (.ptr 1))), (5, .w (.c (.ptr 2))), (8, .w (.c (.int .i64))), (9, .w (.c (.int .i64)))]⟩, [(.exit 0, ⟨[.box .own (.arr .u8 8), .box .own (.arr .u8 8)], [(4, .w (.c (.ptr 0))), (5, .w (.c (.ptr 1)))]⟩)]⟩
def fd102 : FD := { id := 102, fn := Go.Proofs.Tryz.f102, sig := ⟨[.ro (.arr .u8 8), .ro (.int .i64)], [(.own, false, .arr .u8 8)]⟩, loops := [(3, in20023)], views := [], joins := [] }
def fd112 : FD := { id := 112, fn := Go.Proofs.Tryz.f112, sig := ⟨[.ro (.arr .u8 8), .ro (.int .i64)], [(.own, false, .bool)]⟩, loops := [], views := [], joins := [] }
def in20024 : LoopInfo := ⟨20024, ⟨[.box .own (.arr .u8 8), .row .own (.int .i64)], [(1, .w (.c (.int .i64))), (2, .w (.c (.ptr 0))), (5, .w (.c (.sl 1))), (6, .w (.c (.int .i64)))]⟩, [(.exit 0, ⟨[.row .own (.int .i64)], [(5, .w (.c (.sl 0)))]⟩)]⟩
def fd111 : FD := { id := 111, fn := Go.Proofs.Tryz.f111, sig := ⟨[.ro (.arr .u8 8), .ro (.int .i64)], [(.own, false, .slice (.int .i64))]⟩, loops := [(3, in20024)], views := [], joins := [] }
def in20025 : LoopInfo := ⟨20025, ⟨[.box .own (.arr .u8 8), .row .own (.int .i64)], [(7, .w (.c (.ptr 0))), (15, .w (.c (.sl 1))), (16, .w (.c (.int .i64))), (17, .w (.c (.int .i64)))]⟩, [(.exit 0, ⟨[], []⟩), (.ret, ⟨[], [(6, .w (.c (.bool)))]⟩)]⟩
def fd86 : FD := { id := 86, fn := Go.Proofs.Tryz.f86, sig := ⟨[.ro (.arr .u8 8), .ro (.arr .u8 8), .ro (.int .i64)], [(.own, false, .bool)]⟩, loops := [(3, in20025)], views := [], joins := [] }
def in20019 : LoopInfo := ⟨20019, ⟨[.box .own (.st [.int .i64, .int .i64, .sl 1]), .row .ro (.arr .u8 8)], [(1, .w (.c (.ptr 0))), (3, .w (.c (.int .i64))), (33, .w (.c (.sl 1))), (34, .w (.c (.int .i64))), (35, .w (.c (.int .i64)))]⟩, [(.exit 0, ⟨[], []⟩), (.ret, ⟨[], [(2, .w (.c (.bool)))]⟩)]⟩
def fd46 : FD := { id := 46, fn := Go.Proofs.Tryz.f46, sig := ⟨[.ro (tyN_)], [(.own, false, .bool)]⟩, loops := [(5, in20019)], views := [], joins := [] }
def fd27 : FD := { id := 27, fn := Go.Proofs.Tryz.f27, sig := ⟨[.ro (tyN_), .ro (tyN_)], [(.own, false, .int .i64)]⟩, loops := [], views := [], joins := [] }
def in20028 : LoopInfo := ⟨20028, ⟨[.box .own (.arr .u8 8), .box .own (.arr .u8 8), .box .own (.arr .u8 8), .box .own (.arr .u8 8)], [(3, .w (.c (.ptr 0))), (4, .w (.c (.ptr 1))), (6, .w (.c (.ptr 2))), (7, .w (.c (.ptr 3))), (10, .w (.c (.int .i64))), (11, .w (.c (.int .i64)))]⟩, [(.exit 0, ⟨[.box .own (.arr .u8 8), .box .own (.arr .u8 8)], [(6, .w (.c (.ptr 0))), (7, .w (.c (.ptr 1)))]⟩)]⟩
def fd101 : FD := { id := 101, fn := Go.Proofs.Tryz.f101, sig := ⟨[.ro (.arr .u8 8), .ro (.arr .u8 8), .ro (.int .i64)], [(.own, false, .arr .u8 8)]⟩, loops := [(3, in20028)], views := [], joins := [] }
def fd100 : FD := { id := 100, fn := Go.Proofs.Tryz.f100, sig := ⟨[.ro (.arr .u8 8), .ro (.int .i64)], [(.own, false, .arr .u8 8)]⟩, loops := [], views := [], joins := [] }
def in20027 : LoopInfo := ⟨20027, ⟨[.box .own (.st [.int .i64, .int .i64, .sl 1]), .row .own (.arr .u8 8)], [(0, .w (.c (.ptr 0))), (25, .w (.c (.sl 1))), (26, .w (.c (.int .i64))), (27, .w (.c (.int .i64)))]⟩, [(.exit 0, ⟨[.box .own (.st [.int .i64, .int .i64, .sl 1]), .row .own (.arr .u8 8)], [(0, .w (.c (.ptr 0)))]⟩)]⟩
def fd60 : FD := { id := 60, fn := Go.Proofs.Tryz.f60, sig := ⟨[.box (tyN_), .ro (.int .i64)], []⟩, loops := [(4, in20027)], views := [], joins := [] }
def fd103 : FD := { id := 103, fn := Go.Proofs.Tryz.f103, sig := ⟨[.ro (.arr .u8 8), .ro (.int .i64)], [(.own, false, .arr .u8 8)]⟩, loops := [], views := [], joins := [] }
def fd78 : FD := { id := 78, fn := Go.Proofs.Tryz.f78, sig := ⟨[.ro (.arr .u8 8), .ro (.int .i64)], [(.own, false, .arr .u8 8)]⟩, loops := [], views := [], joins := [] }
def in20030 : LoopInfo := ⟨20030, ⟨[.box .own (.arr .u8 8)], [(2, .w (.c (.ptr 0))), (5, .w (.c (.int .u64))), (8, .w (.c (.int .i64))), (9, .w (.c (.int .i64)))]⟩, [(.exit 0, ⟨[], [(5, .w (.c (.int .u64)))]⟩)]⟩
def in20031 : LoopInfo := ⟨20031, ⟨[.box .own (.arr .u8 8)], [(2, .w (.c (.ptr 0))), (5, .w (.c (.int .u64))), (6, .w (.c (.int .i64))), (8, .w (.c (.int .i64))), (9, .w (.c (.int .i64))), (12, .w (.c (.int .i64))), (13, .w (.c (.int .i64)))]⟩, [(.exit 2, ⟨[.box .own (.arr .u8 8)], [(2, .w (.c (.ptr 0))), (5, .w (.c (.int .u64))), (8, .w (.c (.int .i64))), (9, .w (.c (.int .i64)))]⟩)]⟩
def fd109 : FD := { id := 109, fn := Go.Proofs.Tryz.f109, sig := ⟨[.ro (.arr .u8 8), .ro (.int .i64)], [(.own, false, .int .u64)]⟩, loops := [(3, in20030), (6, in20031)], views := [], joins := [] }
def in20032 : LoopInfo := ⟨20032, ⟨[.box .own (.arr .u8 8), .box .own (.arr .u8 8)], [(2, .w (.c (.int .i64))), (6, .w (.c (.ptr 0))), (7, .w (.c (.int .u64))), (8, .w (.c (.ptr 1))), (9, .w (.c (.bool)))]⟩, [(.exit 0, ⟨[.box .own (.arr .u8 8), .box .own (.arr .u8 8)], [(2, .w (.c (.int .i64))), (6, .w (.c (.ptr 0))), (8, .w (.c (.ptr 1)))]⟩)]⟩
def in20033 : LoopInfo := ⟨20033, ⟨[.box .own (.arr .u8 8), .box .own (.arr .u8 8)], [(2, .w (.c (.int .i64))), (6, .w (.c (.ptr 0))), (7, .w (.c (.int .u64))), (8, .w (.c (.ptr 1))), (9, .w (.c (.bool))), (10, .w (.c (.int .i64)))]⟩, [(.exit 2, ⟨[.box .own (.arr .u8 8), .box .own (.arr .u8 8)], [(2, .w (.c (.int .i64))), (6, .w (.c (.ptr 0))), (7, .w (.c (.int .u64))), (8, .w (.c (.ptr 1))), (9, .w (.c (.bool)))]⟩)]⟩
def fd77 : FD := { id := 77, fn := Go.Proofs.Tryz.f77, sig := ⟨[.ro (.arr .u8 8), .ro (.arr .u8 8), .ro (.int .i64)], [(.own, false, .arr .u8 8)]⟩, loops := [(4, in20032), (7, in20033)], views := [], joins := [] }
def in20029 : LoopInfo := ⟨20029, ⟨[.box .own (.st [.int .i64, .int .i64, .sl 1]), .row .own (.arr .u8 8)], [(0, .w (.c (.ptr 0))), (4, .w (.c (.int .i64))), (5, .w (.c (.int .i64)))]⟩, [(.exit 0, ⟨[.box .own (.st [.int .i64, .int .i64, .sl 1]), .row .own (.arr .u8 8)], [(0, .w (.c (.ptr 0))), (4, .w (.c (.int .i64)))]⟩)]⟩
def in20034 : LoopInfo := ⟨20034, ⟨[.box .own (.st [.int .i64, .int .i64, .sl 1]), .row .own (.arr .u8 8)], [(0, .w (.c (.ptr 0))), (4, .w (.c (.int .i64)))]⟩, [(.exit 2, ⟨[.box .own (.st [.int .i64, .int .i64, .sl 1]), .row .own (.arr .u8 8)], [(0, .w (.c (.ptr 0))), (4, .w (.c (.int .i64)))]⟩)]⟩
def in20035 : LoopInfo := ⟨20035, ⟨[.box .own (.st [.int .i64, .int .i64, .sl 1]), .row .own (.arr .u8 8)], [(0, .w (.c (.ptr 0))), (4, .w (.c (.int .i64)))]⟩, [(.exit 4, ⟨[.box .own (.st [.int .i64, .int .i64, .sl 1]), .row .own (.arr .u8 8)], [(0, .w (.c (.ptr 0)))]⟩)]⟩
def fd61 : FD := { id := 61, fn := Go.Proofs.Tryz.f61, sig := ⟨[.box (tyN_), .ro (.arr .u8 8)], []⟩, loops := [(5, in20029), (11, in20034), (14, in20035)], views := [], joins := [] }
def fd62 : FD := { id := 62, fn := Go.Proofs.Tryz.f62, sig := ⟨[.box (tyN_), .ro (.arr .u8 8)], []⟩, loops := [], views := [], joins := [] }
def in20026 : LoopInfo := ⟨20026, ⟨[.box .own (.st [.int .i64, .int .i64, .sl 1]), .row .ro (.arr .u8 8), .box .own (.st [.int .i64, .int .i64, .sl 3]), .row .own (.arr .u8 8), .box .own (.st [.int .i64, .int .i64, .sl 5]), .row .own (.arr .u8 8)], [(1, .w (.c (.ptr 0))), (2, .w (.c (.ptr 2))), (3, .w (.c (.ptr 4))), (4, .w (.c (.int .i64)))]⟩, [(.exit 0, ⟨[.box .own (.st [.int .i64, .int .i64, .sl 1]), .row .ro (.arr .u8 8), .box .own (.st [.int .i64, .int .i64, .sl 3]), .row .own (.arr .u8 8), .box .own (.st [.int .i64, .int .i64, .sl 5]), .row .own (.arr .u8 8)], [(1, .w (.c (.ptr 0))), (2, .w (.c (.ptr 2))), (3, .w (.c (.ptr 4)))]⟩)]⟩
def fd30 : FD := { id := 30, fn := Go.Proofs.Tryz.f30, sig := ⟨[.ro (tyN_)], [(.own, false, tyN_)]⟩, loops := [(3, in20026)], views := [], joins := [] }
def fd59 : FD := { id := 59, fn := Go.Proofs.Tryz.f59, sig := ⟨[.ro (tyN_)], [(.own, false, tyN_)]⟩, loops := [], views := [], joins := [] }
def in20036 : LoopInfo := ⟨20036, ⟨[.box .own (.st [.int .i64, .int .i64, .sl 1]), .row .own (.arr .u8 8), .box .own (.st [.int .i64, .int .i64, .sl 3]), .row .own (.arr .u8 8), .row .ro (.arr .u8 8)], [(4, .w (.c (.ptr 0))), (5, .w (.c (.ptr 2))), (14, .w (.c (.sl 4))), (15, .w (.c (.int .i64))), (16, .w (.c (.int .i64)))]⟩, [(.exit 0, ⟨[.box .own (.st [.int .i64, .int .i64, .sl 1]), .row .own (.arr .u8 8), .box .own (.st [.int .i64, .int .i64, .sl 3]), .row .own (.arr .u8 8)], [(4, .w (.c (.ptr 0))), (5, .w (.c (.ptr 2)))]⟩)]⟩
def fd29 : FD := { id := 29, fn := Go.Proofs.Tryz.f29, sig := ⟨[.ro (tyN_), .ro (tyN_)], [(.own, false, tyN_)]⟩, loops := [(4, in20036)], views := [], joins := [] }
def fd28 : FD := { id := 28, fn := Go.Proofs.Tryz.f28, sig := ⟨[.own (tyN_)], [(.own, false, tyN_), (.own, false, .int .i64)]⟩, loops := [], views := [], joins := [] }
def fd6 : FD := { id := 6, fn := Go.Proofs.Tryz.f6, sig := ⟨[.ro (tyN_), .ro (tyN_)], [(.own, false, tyN_), (.own, false, .int .i64)]⟩, loops := [], views := [], joins := [] }
def fd31 : FD := { id := 31, fn := Go.Proofs.Tryz.f31, sig := ⟨[.ro (tyN_), .ro (tyN_)], [(.own, false, .int .i64)]⟩, loops := [], views := [], joins := [] }
def fd32 : FD := { id := 32, fn := Go.Proofs.Tryz.f32, sig := ⟨[.ro (tyN_)], [(.ro, false, tyN_), (.own, false, .int .i64)]⟩, loops := [], views := [], joins := [] }
def fd7 : FD := { id := 7, fn := Go.Proofs.Tryz.f7, sig := ⟨[.ro (tyN_), .ro (tyN_)], [(.ro, false, tyN_), (.own, false, .int .i64)]⟩, loops := [], views := [], joins := [] }
def in20037 : LoopInfo := ⟨20037, ⟨[.box .own (.st [.int .i64, .int .i64, .sl 1]), .row .ro (.arr .u8 8), .box .own (.st [.int .i64, .int .i64, .sl 3]), .row .ro (.arr .u8 8)], [(2, .w (.c (.ptr 0))), (3, .w (.c (.ptr 2))), (5, .w (.c (.int .i64)))]⟩, [(.exit 0, ⟨[], []⟩), (.ret, ⟨[], [(4, .w (.c (.bool)))]⟩)]⟩
def fd8 : FD := { id := 8, fn := Go.Proofs.Tryz.f8, sig := ⟨[.ro (tyN_), .ro (tyN_)], [(.own, false, .bool)]⟩, loops := [(4, in20037)], views := [], joins := [] }
def fd9 : FD := { id := 9, fn := Go.Proofs.Tryz.f9, sig := ⟨[.ro (.slice (.int .u8))], [(.own, false, tyN_)]⟩, loops := [], views := [], joins := [] }
def fd69 : FD := { id := 69, fn := Go.Proofs.Tryz.f69, sig := ⟨[.ro (.arr .u8 8), .ro (tyN_)], [(.own, false, .arr .u8 8)]⟩, loops := [], views := [], joins := [] }
def fd38 : FD := { id := 38, fn := Go.Proofs.Tryz.f38, sig := ⟨[.ro (tyN_)], [(.own, false, tyN_)]⟩, loops := [], views := [], joins := [] }
def fd10000 : FD := { id := 37, fn := Go.Proofs.Tryz.f37, sig := ⟨[.ro (tyN_), .fn 38 []], [(.own, false, tyN_), (.own, false, .int .i64)]⟩, loops := [], views := [], joins := [] }
def fd10 : FD := { id := 10, fn := Go.Proofs.Tryz.f10, sig := ⟨[.ro (tyN_)], [(.own, false, tyN_), (.own, false, .int .i64)]⟩, loops := [], views := [], joins := [] }
def fd74 : FD := { id := 74, fn := Go.Proofs.Tryz.f74, sig := ⟨[.ro (tyN_)], [(.own, false, .arr .u8 8)]⟩, loops := [], views := [], joins := [] }
def fd41 : FD := { id := 41, fn := Go.Proofs.Tryz.f41, sig := ⟨[.ro (tyN_)], [(.ro, false, tyN_)]⟩, loops := [], views := [], joins := [] }
def fd11 : FD := { id := 11, fn := Go.Proofs.Tryz.f11, sig := ⟨[.ro (tyN_)], [(.ro, false, tyN_), (.own, false, .int .i64)]⟩, loops := [], views := [], joins := [] }
def in20038 : LoopInfo := ⟨20038, ⟨[.box .own (.st [.int .i64, .int .i64, .sl 1]), .row .own (.arr .u8 8), .box .own (.st [.int .i64, .int .i64, .sl 3]), .row .own (.arr .u8 8), .row .ro (.arr .u8 8)], [(2, .w (.c (.ptr 0))), (4, .w (.c (.ptr 2))), (31, .w (.c (.sl 4))), (32, .w (.c (.int .i64))), (33, .w (.c (.int .i64)))]⟩, [(.exit 0, ⟨[.box .own (.st [.int .i64, .int .i64, .sl 1]), .row .own (.arr .u8 8), .box .own (.st [.int .i64, .int .i64, .sl 3]), .row .own (.arr .u8 8)], [(2, .w (.c (.ptr 0))), (4, .w (.c (.ptr 2)))]⟩)]⟩
def fd42 : FD := { id := 42, fn := Go.Proofs.Tryz.f42, sig := ⟨[.ro (tyN_)], [(.own, false, tyN_)]⟩, loops := [(7, in20038)], views := [], joins := [] }
def fd10001 : FD := { id := 37, fn := Go.Proofs.Tryz.f37, sig := ⟨[.ro (tyN_), .fn 42 []], [(.own, false, tyN_), (.own, false, .int .i64)]⟩, loops := [], views := [], joins := [] }
def fd12 : FD := { id := 12, fn := Go.Proofs.Tryz.f12, sig := ⟨[.ro (tyN_)], [(.own, false, tyN_), (.own, false, .int .i64)]⟩, loops := [], views := [], joins := [] }
def fd43 : FD := { id := 43, fn := Go.Proofs.Tryz.f43, sig := ⟨[.ro (tyN_)], [(.ro, false, tyN_)]⟩, loops := [], views := [], joins := [] }
def fd13 : FD := { id := 13, fn := Go.Proofs.Tryz.f13, sig := ⟨[.ro (tyN_)], [(.ro, false, tyN_), (.own, false, .int .i64)]⟩, loops := [], views := [], joins := [] }
def fd108 : FD := { id := 108, fn := Go.Proofs.Tryz.f108, sig := ⟨[.ro (tyN_), .ro (.arr .u8 8)], [(.own, false, tyN_)]⟩, loops := [], views := [], joins := [] }
def fd76 : FD := { id := 76, fn := Go.Proofs.Tryz.f76, sig := ⟨[.ro (tyN_), .ro (.arr .u8 8)], [(.own, false, tyN_)]⟩, loops := [], views := [], joins := [] }
def fd44 : FD := { id := 44, fn := Go.Proofs.Tryz.f44, sig := ⟨[.ro (tyN_)], [(.own, false, tyN_)]⟩, loops := [], views := [], joins := [] }
def fd10002 : FD := { id := 37, fn := Go.Proofs.Tryz.f37, sig := ⟨[.ro (tyN_), .fn 44 []], [(.own, false, tyN_), (.own, false, .int .i64)]⟩, loops := [], views := [], joins := [] }
def fd14 : FD := { id := 14, fn := Go.Proofs.Tryz.f14, sig := ⟨[.ro (tyN_)], [(.own, false, tyN_), (.own, false, .int .i64)]⟩, loops := [], views := [], joins := [] }
def fd110 : FD := { id := 110, fn := Go.Proofs.Tryz.f110, sig := ⟨[.ro (tyN_), .ro (.arr .u8 8)], [(.own, false, tyN_)]⟩, loops := [], views := [], joins := [] }
def fd79 : FD := { id := 79, fn := Go.Proofs.Tryz.f79, sig := ⟨[.ro (tyN_), .ro (.arr .u8 8)], [(.own, false, tyN_)]⟩, loops := [], views := [], joins := [] }
def fd45 : FD := { id := 45, fn := Go.Proofs.Tryz.f45, sig := ⟨[.ro (tyN_)], [(.ro, false, tyN_)]⟩, loops := [], views := [], joins := [] }
def fd15 : FD := { id := 15, fn := Go.Proofs.Tryz.f15, sig := ⟨[.ro (tyN_)], [(.ro, false, tyN_), (.own, false, .int .i64)]⟩, loops := [], views := [], joins := [] }
def fd16 : FD := { id := 16, fn := Go.Proofs.Tryz.f16, sig := ⟨[.ro (.slice (.int .u8))], [(.own, false, tyN_)]⟩, loops := [], views := [], joins := [] }
def fd17 : FD := { id := 17, fn := Go.Proofs.Tryz.f17, sig := ⟨[.ro (tyN_)], [(.own, false, .bool), (.own, false, .int .i64)]⟩, loops := [], views := [], joins := [] }
def fd18 : FD := { id := 18, fn := Go.Proofs.Tryz.f18, sig := ⟨[.ro (tyN_)], [(.own, false, .bool), (.own, false, .int .i64)]⟩, loops := [], views := [], joins := [] }
def in20039 : LoopInfo := ⟨20039, ⟨[.box .own (.st [.int .i64, .int .i64, .sl 1]), .row .ro (.arr .u8 8), .box .own (.st [.int .i64, .int .i64, .sl 3]), .row .own (.arr .u8 8)], [(1, .w (.c (.ptr 0))), (4, .w (.c (.ptr 2))), (13, .w (.c (.int .i64))), (14, .w (.c (.int .i64)))]⟩, [(.exit 0, ⟨[.box .own (.st [.int .i64, .int .i64, .sl 1]), .row .ro (.arr .u8 8), .box .own (.st [.int .i64, .int .i64, .sl 3]), .row .own (.arr .u8 8)], [(1, .w (.c (.ptr 0))), (4, .w (.c (.ptr 2)))]⟩)]⟩
def fd19 : FD := { id := 19, fn := Go.Proofs.Tryz.f19, sig := ⟨[.ro (tyN_)], [(.own, false, .bool), (.own, false, .int .i64)]⟩, loops := [(5, in20039)], views := [], joins := [] }
def in20040 : LoopInfo := ⟨20040, ⟨[.box .own (.st [.int .i64, .int .i64, .sl 1]), .row .ro (.arr .u8 8), .box .own (.st [.int .i64, .int .i64, .sl 3]), .row .own (.arr .u8 8)], [(1, .w (.c (.ptr 0))), (4, .w (.c (.ptr 2))), (5, .w (.c (.int .i64)))]⟩, [(.exit 0, ⟨[], []⟩), (.ret, ⟨[], [(2, .w (.c (.bool))), (3, .w (.c (.int .i64)))]⟩)]⟩
def fd20 : FD := { id := 20, fn := Go.Proofs.Tryz.f20, sig := ⟨[.ro (tyN_)], [(.own, false, .bool), (.own, false, .int .i64)]⟩, loops := [(5, in20040)], views := [], joins := [] }
def in20041 : LoopInfo := ⟨20041, ⟨[.row .ro (.int .u8), .box .own (.st [.sl 0, .int .i64, .int .u64])], [(0, .w (.c (.sl 0))), (5, .w (.c (.ptr 1))), (6, .w (.c (.int .i64)))]⟩, [(.exit 0, ⟨[.box .own (.st [.sl 1, .int .i64, .int .u64]), .row .ro (.int .u8)], [(5, .w (.c (.ptr 0)))]⟩)]⟩
def fd23 : FD := { id := 23, fn := Go.Proofs.Tryz.f23, sig := ⟨[.ro (.slice (.int .u8)), .ro (.int .u64)], [(.ro, true, .pair (.slice (.int .u8)) (.pair (.int .i64) (.int .u64)))]⟩, loops := [(3, in20041)], views := [], joins := [] }
def fd49 : FD := { id := 49, fn := Go.Proofs.Tryz.f49, sig := ⟨[.boxr (.pair (.slice (.int .u8)) (.pair (.int .i64) (.int .u64))), .ro (.int .i64)], [(.own, false, .int .i64)]⟩, loops := [], views := [], joins := [] }
def in20042 : LoopInfo := ⟨20042, ⟨[.box .own (.st [.sl 1, .int .i64, .int .u64]), .row .ro (.int .u8), .row .own (.int .i64)], [(0, .w (.c (.ptr 0))), (1, .w (.c (.int .i64))), (2, .w (.c (.int .i64))), (7, .w (.c (.sl 2)))]⟩, [(.exit 0, ⟨[.box .own (.st [.sl 1, .int .i64, .int .u64]), .row .ro (.int .u8), .row .own (.int .i64)], [(0, .w (.c (.ptr 0))), (7, .w (.c (.sl 2)))]⟩)]⟩
def fd22 : FD := { id := 22, fn := Go.Proofs.Tryz.f22, sig := ⟨[.boxr (.pair (.slice (.int .u8)) (.pair (.int .i64) (.int .u64))), .ro (.int .i64), .ro (.int .i64)], [(.own, false, .slice (.int .i64))]⟩, loops := [(2, in20042)], views := [], joins := [] }
def fd87 : FD := { id := 87, fn := Go.Proofs.Tryz.f87, sig := ⟨[.ro (.int .i64), .ro (.int .i64)], [(.own, false, .bool)]⟩, loops := [], views := [], joins := [] }
def in20043 : LoopInfo := ⟨20043, ⟨[.box .own (.st [.int .i64, .sl 1]), .row .ro (.int .i64)], [(1, .w (.c (.ptr 0))), (16, .w (.c (.sl 1))), (17, .w (.c (.int .i64))), (18, .w (.c (.int .i64)))]⟩, [(.exit 0, ⟨[], []⟩), (.ret, ⟨[], [(2, .w (.c (.bool)))]⟩)]⟩
def fd47 : FD := { id := 47, fn := Go.Proofs.Tryz.f47, sig := ⟨[.ro (tyB_)], [(.own, false, .bool)]⟩, loops := [(4, in20043)], views := [], joins := [] }
def fd88 : FD := { id := 88, fn := Go.Proofs.Tryz.f88, sig := ⟨[.ro (.int .i64), .ro (.int .i64)], [(.own, false, .arr .u8 8)]⟩, loops := [], views := [], joins := [] }
def in20044 : LoopInfo := ⟨20044, ⟨[.box .own (.st [.int .i64, .sl 1]), .row .ro (.int .i64), .box .own (.st [.int .i64, .int .i64, .sl 3]), .row .own (.arr .u8 8), .box .own (.st [.int .i64, .int .i64, .sl 5]), .row .own (.arr .u8 8)], [(1, .w (.c (.ptr 0))), (2, .w (.c (.ptr 2))), (3, .w (.c (.ptr 4))), (10, .w (.c (.sl 1))), (11, .w (.c (.int .i64))), (12, .w (.c (.int .i64)))]⟩, [(.exit 0, ⟨[.box .own (.st [.int .i64, .int .i64, .sl 1]), .row .own (.arr .u8 8), .box .own (.st [.int .i64, .int .i64, .sl 3]), .row .own (.arr .u8 8)], [(2, .w (.c (.ptr 0))), (3, .w (.c (.ptr 2)))]⟩)]⟩
def fd48 : FD := { id := 48, fn := Go.Proofs.Tryz.f48, sig := ⟨[.ro (tyB_)], [(.own, false, tyN_)]⟩, loops := [(3, in20044)], views := [], joins := [] }
def fd21 : FD := { id := 21, fn := Go.Proofs.Tryz.f21, sig := ⟨[.ro (tyB_)], [(.own, false, tyN_), (.own, false, .int .i64)]⟩, loops := [], views := [], joins := [] }
def fd90 : FD := { id := 90, fn := Go.Proofs.Tryz.f90, sig := ⟨[.ro (tyN_), .ro (tyN_)], [(.own, false, .bool)]⟩, loops := [], views := [], joins := [] }
def in20047 : LoopInfo := ⟨20047, ⟨[.box .own (.st [.int .i64, .int .i64, .sl 1]), .row .ro (.arr .u8 8), .box .own (.st [.int .i64, .int .i64, .sl 3]), .row .own (.arr .u8 8), .box .own (.st [.int .i64, .int .i64, .sl 5]), .row .ro (.arr .u8 8)], [(1, .fn 38 []), (2, .fn 90 []), (3, .w (.c (.ptr 0))), (6, .w (.c (.ptr 2))), (8, .w (.c (.ptr 4))), (16, .w (.c (.int .i64))), (17, .w (.c (.int .i64)))]⟩, [(.exit 0, ⟨[.box .own (.st [.int .i64, .int .i64, .sl 1]), .row .ro (.arr .u8 8), .box .own (.st [.int .i64, .int .i64, .sl 3]), .row .own (.arr .u8 8)], [(3, .w (.c (.ptr 0))), (6, .w (.c (.ptr 2)))]⟩), (.ret, ⟨[.box .own (.st [.int .i64, .int .i64, .sl 1]), .row .own (.arr .u8 8)], [(6, .w (.c (.ptr 0))), (7, .w (.c (.bool)))]⟩)]⟩
def fd10003 : FD := { id := 89, fn := Go.Proofs.Tryz.f89, sig := ⟨[.ro (tyN_), .fn 38 [], .fn 90 []], [(.ro, false, tyN_), (.own, false, .bool)]⟩, loops := [(3, in20047)], views := [], joins := [] }
def fd92 : FD := { id := 92, fn := Go.Proofs.Tryz.f92, sig := ⟨[.ro (tyN_)], [(.own, false, .int .i64)]⟩, loops := [], views := [], joins := [] }
def fd91 : FD := { id := 91, fn := Go.Proofs.Tryz.f91, sig := ⟨[.ro (tyN_), .ro (tyN_)], [(.own, false, .bool)]⟩, loops := [], views := [], joins := [] }
def in20048 : LoopInfo := ⟨20048, ⟨[.box .own (.st [.int .i64, .int .i64, .sl 1]), .row .ro (.arr .u8 8), .box .own (.st [.int .i64, .int .i64, .sl 3]), .row .own (.arr .u8 8), .box .own (.st [.int .i64, .int .i64, .sl 5]), .row .ro (.arr .u8 8)], [(1, .fn 42 []), (2, .fn 91 []), (3, .w (.c (.ptr 0))), (6, .w (.c (.ptr 2))), (8, .w (.c (.ptr 4))), (16, .w (.c (.int .i64))), (17, .w (.c (.int .i64)))]⟩, [(.exit 0, ⟨[.box .own (.st [.int .i64, .int .i64, .sl 1]), .row .ro (.arr .u8 8), .box .own (.st [.int .i64, .int .i64, .sl 3]), .row .own (.arr .u8 8)], [(3, .w (.c (.ptr 0))), (6, .w (.c (.ptr 2)))]⟩), (.ret, ⟨[.box .own (.st [.int .i64, .int .i64, .sl 1]), .row .own (.arr .u8 8)], [(6, .w (.c (.ptr 0))), (7, .w (.c (.bool)))]⟩)]⟩
def fd10004 : FD := { id := 89, fn := Go.Proofs.Tryz.f89, sig := ⟨[.ro (tyN_), .fn 42 [], .fn 91 []], [(.ro, false, tyN_), (.own, false, .bool)]⟩, loops := [(3, in20048)], views := [], joins := [] }
def in20046 : LoopInfo := ⟨20046, ⟨[.box .own (.st [.int .i64, .int .i64, .sl 1]), .row .ro (.arr .u8 8), .box .own (.st [.int .i64, .int .i64, .sl 3]), .row .own (.arr .u8 8)], [(1, .w (.c (.ptr 0))), (2, .w (.c (.ptr 2)))]⟩, [(.ret, ⟨[.box .own (.st [.int .i64, .int .i64, .sl 1]), .row .own (.arr .u8 8)], [(2, .w (.c (.ptr 0)))]⟩)]⟩
def fd50 : FD := { id := 50, fn := Go.Proofs.Tryz.f50, sig := ⟨[.ro (tyN_)], [(.own, false, tyN_)]⟩, loops := [(1, in20046)], views := [], joins := [] }
def in20051 : LoopInfo := ⟨20051, ⟨[.row .ro (.arr .u8 8), .box .own (.arr .u8 8)], [(0, .w (.c (.sl 0))), (3, .w (.c (.ptr 1))), (7, .w (.c (.int .i64))), (8, .w (.c (.int .i64)))]⟩, [(.exit 0, ⟨[], []⟩), (.ret, ⟨[], [(4, .w (.c (.int .i64)))]⟩)]⟩
def fd118 : FD := { id := 118, fn := Go.Proofs.Tryz.f118, sig := ⟨[.ro tyF_, .ro (.arr .u8 8)], [(.own, false, .int .i64)]⟩, loops := [(2, in20051)], views := [], joins := [] }
def fd113 : FD := { id := 113, fn := Go.Proofs.Tryz.f113, sig := ⟨[.ro tyF_, .ro (.arr .u8 8)], [(.own, false, .bool)]⟩, loops := [], views := [], joins := [] }
def in20049 : LoopInfo := ⟨20049, ⟨[.row .own (.arr .u8 8)], [(0, .w (.c (.int .i64))), (3, .w (.c (.sl 0))), (4, .w (.c (.int .i64)))]⟩, [(.exit 0, ⟨[.row .own (.arr .u8 8)], [(3, .w (.c (.sl 0)))]⟩)]⟩
def in20050 : LoopInfo := ⟨20050, ⟨[.row .own (.arr .u8 8)], [(0, .w (.c (.int .i64))), (3, .w (.c (.sl 0))), (4, .w (.c (.int .i64))), (5, .w (.c (.int .i64)))]⟩, [(.exit 2, ⟨[.row .own (.arr .u8 8)], [(0, .w (.c (.int .i64))), (3, .w (.c (.sl 0))), (4, .w (.c (.int .i64)))]⟩)]⟩
def fd93 : FD := { id := 93, fn := Go.Proofs.Tryz.f93, sig := ⟨[.ro (.int .i64)], [(.own, false, .slice (.arr .u8 8))]⟩, loops := [(3, in20049), (6, in20050)], views := [], joins := [] }
def in20055 : LoopInfo := ⟨20055, ⟨[.row .ro (.arr .u8 8), .row .ro (.arr .u8 8)], [(0, .w (.c (.sl 0))), (1, .w (.c (.sl 1))), (12, .w (.c (.int .i64))), (13, .w (.c (.int .i64)))]⟩, [(.exit 0, ⟨[], []⟩), (.ret, ⟨[], [(4, .w (.c (.bool)))]⟩)]⟩
def fd98 : FD := { id := 98, fn := Go.Proofs.Tryz.f98, sig := ⟨[.ro tyF_, .ro tyF_], [(.own, false, .bool)]⟩, loops := [(4, in20055)], views := [], joins := [] }
def fd54 : FD := { id := 54, fn := Go.Proofs.Tryz.f54, sig := ⟨[.ro (tyN_), .ro (tyN_)], [(.own, false, .bool)]⟩, loops := [], views := [], joins := [] }
def fd94 : FD := { id := 94, fn := Go.Proofs.Tryz.f94, sig := ⟨[.ro (tyN_), .rob (tyN_)], [(.own, false, .bool)]⟩, loops := [], views := [], joins := [] }
def in20054 : LoopInfo := ⟨20054, ⟨[.row .ro (tyN_), .box .ro (.st [.int .i64, .int .i64, .sl 2]), .row .ro (.arr .u8 8)], [(0, .w (.c (.sl 0))), (1, .fn 94 [.c (.ptr 1)]), (7, .w (.c (.int .i64))), (8, .w (.c (.int .i64)))]⟩, [(.exit 0, ⟨[], []⟩), (.ret, ⟨[], [(4, .w (.c (.int .i64)))]⟩)]⟩
def fd10006 : FD := { id := 97, fn := Go.Proofs.Tryz.f97, sig := ⟨[.ro (.slice (tyN_)), .fn 94 [(.rob, tyN_)]], [(.own, false, .int .i64)]⟩, loops := [(2, in20054)], views := [], joins := [] }
def fd10005 : FD := { id := 52, fn := Go.Proofs.Tryz.f52, sig := ⟨[.ro (.slice (tyN_)), .fn 94 [(.rob, tyN_)]], [(.own, false, .bool)]⟩, loops := [], views := [], joins := [] }
def fd137 : FD := { id := 137, fn := Go.Proofs.Tryz.f137, sig := ⟨[.ro (.int .u8)], [(.own, false, .bool)]⟩, loops := [], views := [], joins := [] }
def fd135 : FD := { id := 135, fn := Go.Proofs.Tryz.f135, sig := ⟨[.ro (.int .u8), .ro (.int .u8)], [(.own, false, .int .i64)]⟩, loops := [], views := [], joins := [] }
def in20057 : LoopInfo := ⟨20057, ⟨[.row .ro (.int .u8), .row .ro (.int .u8)], [(0, .w (.c (.sl 0))), (1, .w (.c (.sl 1))), (9, .w (.c (.sl 0))), (10, .w (.c (.int .i64))), (11, .w (.c (.int .i64)))]⟩, [(.exit 0, ⟨[.row .ro (.int .u8), .row .ro (.int .u8)], [(0, .w (.c (.sl 0))), (1, .w (.c (.sl 1)))]⟩), (.ret, ⟨[], [(4, .w (.c (.int .i64)))]⟩)]⟩
def fd129 : FD := { id := 129, fn := Go.Proofs.Tryz.f129, sig := ⟨[.ro (.slice (.int .u8)), .ro (.slice (.int .u8))], [(.own, false, .int .i64)]⟩, loops := [(2, in20057)], views := [], joins := [] }
def fd117 : FD := { id := 117, fn := Go.Proofs.Tryz.f117, sig := ⟨[.ro (.arr .u8 8), .ro (.arr .u8 8)], [(.own, false, .int .i64)]⟩, loops := [], views := [], joins := [] }
def in20056 : LoopInfo := ⟨20056, ⟨[.row .ro (.arr .u8 8), .row .ro (.arr .u8 8)], [(0, .w (.c (.sl 0))), (1, .w (.c (.sl 1))), (2, .fn 117 []), (11, .w (.c (.sl 0))), (12, .w (.c (.int .i64))), (13, .w (.c (.int .i64)))]⟩, [(.exit 0, ⟨[.row .ro (.arr .u8 8), .row .ro (.arr .u8 8)], [(0, .w (.c (.sl 0))), (1, .w (.c (.sl 1)))]⟩), (.ret, ⟨[], [(6, .w (.c (.int .i64)))]⟩)]⟩
def fd10007 : FD := { id := 116, fn := Go.Proofs.Tryz.f116, sig := ⟨[.ro tyF_, .ro tyF_, .fn 117 []], [(.own, false, .int .i64)]⟩, loops := [(2, in20056)], views := [], joins := [] }
def fd96 : FD := { id := 96, fn := Go.Proofs.Tryz.f96, sig := ⟨[.ro (tyN_), .ro (tyN_)], [(.own, false, .int .i64)]⟩, loops := [], views := [], joins := [] }
def fd10008 : FD := { id := 95, fn := Go.Proofs.Tryz.f95, sig := ⟨[.muts (.slice (tyN_)), .fn 96 []], []⟩, loops := [], views := [], joins := [] }
def in20052 : LoopInfo := ⟨20052, ⟨[.row .sh (tyN_), .row .own (.arr .u8 8)], [(4, .w (.c (.sl 0))), (5, .w (.c (.sl 1))), (6, .w (.c (.int .i64)))]⟩, [(.exit 0, ⟨[.row .sh (tyN_)], [(4, .w (.c (.sl 0)))]⟩), (.ret, ⟨[.row .own (tyN_)], [(2, .w (.c (.sl 0))), (3, .w (.c (.bool)))]⟩)]⟩
def in20053 : LoopInfo := ⟨20053, ⟨[.row .sh (tyN_), .row .own (.arr .u8 8)], [(4, .w (.c (.sl 0))), (5, .w (.c (.sl 1))), (6, .w (.c (.int .i64))), (22, .w (.c (.sl 1))), (23, .w (.c (.int .i64))), (24, .w (.c (.int .i64)))]⟩, [(.exit 2, ⟨[.row .sh (tyN_), .row .own (.arr .u8 8)], [(4, .w (.c (.sl 0))), (5, .w (.c (.sl 1))), (6, .w (.c (.int .i64)))]⟩), (.ret, ⟨[.row .own (tyN_)], [(2, .w (.c (.sl 0))), (3, .w (.c (.bool)))]⟩)]⟩
def fd51 : FD := { id := 51, fn := Go.Proofs.Tryz.f51, sig := ⟨[.ro (tyN_)], [(.ro, false, .slice (tyN_)), (.own, false, .bool)]⟩, loops := [(4, in20052), (7, in20053)], views := [], joins := [] }
def fd53 : FD := { id := 53, fn := Go.Proofs.Tryz.f53, sig := ⟨[.ro (tyN_), .rob (tyN_)], [(.own, false, .bool)]⟩, loops := [], views := [], joins := [] }
def in20058 : LoopInfo := ⟨20058, ⟨[.row .ro (tyN_), .box .ro (.st [.int .i64, .int .i64, .sl 2]), .row .ro (.arr .u8 8)], [(0, .w (.c (.sl 0))), (1, .fn 53 [.c (.ptr 1)]), (7, .w (.c (.int .i64))), (8, .w (.c (.int .i64)))]⟩, [(.exit 0, ⟨[], []⟩), (.ret, ⟨[], [(4, .w (.c (.int .i64)))]⟩)]⟩
def fd10010 : FD := { id := 97, fn := Go.Proofs.Tryz.f97, sig := ⟨[.ro (.slice (tyN_)), .fn 53 [(.rob, tyN_)]], [(.own, false, .int .i64)]⟩, loops := [(2, in20058)], views := [], joins := [] }
def fd10009 : FD := { id := 52, fn := Go.Proofs.Tryz.f52, sig := ⟨[.ro (.slice (tyN_)), .fn 53 [(.rob, tyN_)]], [(.own, false, .bool)]⟩, loops := [], views := [], joins := [] }
def fd24 : FD := { id := 24, fn := Go.Proofs.Tryz.f24, sig := ⟨[.ro (tyN_), .ro (tyN_)], [(.own, false, .bool), (.own, false, .int .i64)]⟩, loops := [], views := [], joins := [] }
def fd25 : FD := { id := 25, fn := Go.Proofs.Tryz.f25, sig := ⟨[.ro (tyN_), .ro (tyN_)], [(.own, false, tyN_), (.own, false, .int .i64)]⟩, loops := [], views := [], joins := [] }
def in20045 : LoopInfo := ⟨20045, ⟨[.box .own (.st [.int .i64, .int .i64, .sl 1]), .row .ro (.arr .u8 8), .box .own (.st [.int .i64, .int .i64, .sl 3]), .row .ro (.arr .u8 8), .box .own (.st [.int .i64, .int .i64, .sl 5]), .row .own (.arr .u8 8), .box .own (.st [.int .i64, .int .i64, .sl 7]), .row .ro (.arr .u8 8), .box .own (.st [.int .i64, .int .i64, .sl 9]), .row .own (.arr .u8 8), .box .own (.st [.int .i64, .int .i64, .sl 11]), .row .own (.arr .u8 8), .box .own (.st [.int .i64, .int .i64, .sl 13]), .row .own (.arr .u8 8)], [(3, .w (.c (.ptr 0))), (4, .w (.c (.ptr 2))), (5, .w (.c (.ptr 4))), (6, .w (.c (.int .i64))), (9, .w (.c (.ptr 6))), (10, .w (.c (.ptr 8))), (11, .w (.c (.int .i64))), (14, .w (.c (.ptr 10))), (15, .w (.c (.int .i64))), (18, .w (.c (.ptr 12))), (19, .w (.c (.int .i64)))]⟩, [(.ret, ⟨[], [(2, .w (.c (.bool)))]⟩)]⟩
def in20059 : LoopInfo := ⟨20059, ⟨[.box .own (.st [.int .i64, .int .i64, .sl 1]), .row .ro (.arr .u8 8), .box .own (.st [.int .i64, .int .i64, .sl 3]), .row .ro (.arr .u8 8), .box .own (.st [.int .i64, .int .i64, .sl 5]), .row .own (.arr .u8 8)], [(3, .w (.c (.ptr 0))), (4, .w (.c (.ptr 2))), (5, .w (.c (.ptr 4))), (6, .w (.c (.int .i64)))]⟩, [(.ret, ⟨[], [(2, .w (.c (.bool)))]⟩)]⟩
def fd3 : FD := { id := 3, fn := Go.Proofs.Tryz.f3, sig := ⟨[.ro (.slice (.int .u8))], [(.own, false, .bool)]⟩, loops := [], views := [], joins := [(35, in20045), (44, in20059)] }
def fdTab : List (Nat × FD) := [(4, fd4), (36, fd36), (55, fd55), (66, fd66), (57, fd57), (71, fd71), (99, fd99), (68, fd68), (107, fd107), (75, fd75), (64, fd64), (106, fd106), (104, fd104), (81, fd81), (80, fd80), (73, fd73), (40, fd40), (65, fd65), (56, fd56), (34, fd34), (33, fd33), (105, fd105), (67, fd67), (35, fd35), (63, fd63), (70, fd70), (72, fd72), (39, fd39), (26, fd26), (5, fd5), (58, fd58), (82, fd82), (83, fd83), (84, fd84), (85, fd85), (102, fd102), (112, fd112), (111, fd111), (86, fd86), (46, fd46), (27, fd27), (101, fd101), (100, fd100), (60, fd60), (103, fd103), (78, fd78), (109, fd109), (77, fd77), (61, fd61), (62, fd62), (30, fd30), (59, fd59), (29, fd29), (28, fd28), (6, fd6), (31, fd31), (32, fd32), (7, fd7), (8, fd8), (9, fd9), (69, fd69), (38, fd38), (10000, fd10000), (10, fd10), (74, fd74), (41, fd41), (11, fd11), (42, fd42), (10001, fd10001), (12, fd12), (43, fd43), (13, fd13), (108, fd108), (76, fd76), (44, fd44), (10002, fd10002), (14, fd14), (110, fd110), (79, fd79), (45, fd45), (15, fd15), (16, fd16), (17, fd17), (18, fd18), (19, fd19), (20, fd20), (23, fd23), (49, fd49), (22, fd22), (87, fd87), (47, fd47), (88, fd88), (48, fd48), (21, fd21), (90, fd90), (10003, fd10003), (92, fd92), (91, fd91), (10004, fd10004), (50, fd50), (118, fd118), (113, fd113), (93, fd93), (98, fd98), (54, fd54), (94, fd94), (10006, fd10006), (10005, fd10005), (137, fd137), (135, fd135), (129, fd129), (117, fd117), (10007, fd10007), (96, fd96), (10008, fd10008), (51, fd51), (53, fd53), (10010, fd10010), (10009, fd10009), (24, fd24), (25, fd25), (3, fd3)]
def ldTab : List (Nat × LD) := [(20000, ⟨36, 3, in20000, false⟩), (20001, ⟨57, 6, in20001, false⟩), (20005, ⟨71, 3, in20005, false⟩), (20007, ⟨68, 3, in20007, false⟩), (20008, ⟨107, 3, in20008, false⟩), (20006, ⟨64, 3, in20006, false⟩), (20009, ⟨106, 3, in20009, false⟩), (20012, ⟨80, 3, in20012, false⟩), (20010, ⟨73, 3, in20010, false⟩), (20011, ⟨73, 6, in20011, false⟩), (20013, ⟨40, 4, in20013, false⟩), (20014, ⟨40, 7, in20014, false⟩), (20004, ⟨56, 3, in20004, false⟩), (20015, ⟨34, 3, in20015, false⟩), (20002, ⟨35, 6, in20002, false⟩), (20003, ⟨35, 9, in20003, false⟩), (20017, ⟨70, 5, in20017, false⟩), (20018, ⟨72, 3, in20018, false⟩), (20016, ⟨39, 5, in20016, false⟩), (20020, ⟨83, 5, in20020, false⟩), (20021, ⟨84, 3, in20021, false⟩), (20022, ⟨85, 3, in20022, false⟩), (20023, ⟨102, 3, in20023, false⟩), (20024, ⟨111, 3, in20024, false⟩), (20025, ⟨86, 3, in20025, false⟩), (20019, ⟨46, 5, in20019, false⟩), (20028, ⟨101, 3, in20028, false⟩), (20027, ⟨60, 4, in20027, false⟩), (20030, ⟨109, 3, in20030, false⟩), (20031, ⟨109, 6, in20031, false⟩), (20032, ⟨77, 4, in20032, false⟩), (20033, ⟨77, 7, in20033, false⟩), (20029, ⟨61, 5, in20029, false⟩), (20034, ⟨61, 11, in20034, false⟩), (20035, ⟨61, 14, in20035, false⟩), (20026, ⟨30, 3, in20026, false⟩), (20036, ⟨29, 4, in20036, false⟩), (20037, ⟨8, 4, in20037, false⟩), (20038, ⟨42, 7, in20038, false⟩), (20039, ⟨19, 5, in20039, false⟩), (20040, ⟨20, 5, in20040, false⟩), (20041, ⟨23, 3, in20041, false⟩), (20042, ⟨22, 2, in20042, false⟩), (20043, ⟨47, 4, in20043, false⟩), (20044, ⟨48, 3, in20044, false⟩), (20047, ⟨10003, 3, in20047, false⟩), (20048, ⟨10004, 3, in20048, false⟩), (20046, ⟨50, 1, in20046, false⟩), (20051, ⟨118, 2, in20051, false⟩), (20049, ⟨93, 3, in20049, false⟩), (20050, ⟨93, 6, in20050, false⟩), (20055, ⟨98, 4, in20055, false⟩), (20054, ⟨10006, 2, in20054, false⟩), (20057, ⟨129, 2, in20057, false⟩), (20056, ⟨10007, 2, in20056, false⟩), (20052, ⟨51, 4, in20052, false⟩), (20053, ⟨51, 7, in20053, false⟩), (20058, ⟨10010, 2, in20058, false⟩), (20045, ⟨3, 35, in20045, true⟩), (20059, ⟨3, 44, in20059, true⟩)]
def extTab : List (Nat × ExtK) := [(10008, .sort 96 (.pair (.int .i64) (.pair (.int .i64) (.slice (.arr .u8 8)))))]
def pickTab : List ((FuncId × List FuncId) × Nat) := [((37, [38]), 10000), ((37, [42]), 10001), ((37, [44]), 10002), ((89, [38, 90]), 10003), ((89, [42, 91]), 10004), ((52, [94]), 10005), ((97, [94]), 10006), ((116, [117]), 10007), ((95, [96]), 10008), ((52, [53]), 10009), ((97, [53]), 10010)]
def pick (f : FuncId) : List FuncId → Nat
  | [] => f
  | l => (pickTab.lookup (f, l)).getD 0
def E : Env := ⟨[9, 10, 11], fun T => tyTab.lookup T, pick, fun f => fdTab.lookup f, fun f => ldTab.lookup f, fun f => extTab.lookup f⟩
def R : Oracle := ev E
theorem R_ev (f : Nat) (l : List TV) : R f l = ev E f l := rfl
def iw_big : Nat := 4
def is_l01From : Nat := 36
def is_l01From_3 : Nat := 20000
def is_l01Next : Nat := 55
def is_l01Pick : Nat := 66
def is_l01Draw : Nat := 57
def is_l01Draw_6 : Nat := 20001
def is_l02Same : Nat := 71
def is_l02Same_3 : Nat := 20005
def is_l02Exchange : Nat := 99
def is_l02Half : Nat := 68
def is_l02Half_3 : Nat := 20007
def is_l02Then : Nat := 107
def is_l02Then_3 : Nat := 20008
def is_l02Turn : Nat := 75
def is_l03Turned : Nat := 64
def is_l03Turned_3 : Nat := 20006
def is_l02Back : Nat := 106
def is_l02Back_3 : Nat := 20009
def is_l02Left : Nat := 104
def is_l02Complement : Nat := 81
def is_l02Meet : Nat := 80
def is_l02Meet_3 : Nat := 20012
def is_l03Weigh : Nat := 73
def is_l03Weigh_3 : Nat := 20010
def is_l03Weigh_6 : Nat := 20011
def is_l03Make : Nat := 40
def is_l03Make_4 : Nat := 20013
def is_l03Make_7 : Nat := 20014
def is_l03Times : Nat := 65
def is_l03Of : Nat := 56
def is_l03Of_3 : Nat := 20004
def is_l03Inverse : Nat := 34
def is_l03Inverse_3 : Nat := 20015
def is_l03Product : Nat := 33
def is_l03Draw : Nat := 105
def is_l03Some : Nat := 67
def is_l04Draw : Nat := 35
def is_l04Draw_6 : Nat := 20002
def is_l04Draw_9 : Nat := 20003
def is_l01In : Nat := 63
def is_l02Is : Nat := 70
def is_l02Is_5 : Nat := 20017
def is_l03Weighted : Nat := 72
def is_l03Weighted_3 : Nat := 20018
def is_l03Is : Nat := 39
def is_l03Is_5 : Nat := 20016
def is_l04Pair : Nat := 26
def is_DrawConjugateBy : Nat := 5
def ii_within : Nat := 58
def ii_isCount : Nat := 82
def ii_IsSimple : Nat := 83
def ii_IsSimple_5 : Nat := 20020
def ii_nothing : Nat := 84
def ii_nothing_3 : Nat := 20021
def ii_halfTurn : Nat := 85
def ii_halfTurn_3 : Nat := 20022
def ii_backOf : Nat := 102
def ii_backOf_3 : Nat := 20023
def ii_begins : Nat := 112
def ii_beginning : Nat := 111
def ii_beginning_3 : Nat := 20024
def ii_endsAll : Nat := 86
def ii_endsAll_3 : Nat := 20025
def ii_IsNormal : Nat := 46
def ii_IsNormal_5 : Nat := 20019
def ii_areSameCount : Nat := 27
def ii_then : Nat := 101
def ii_then_3 : Nat := 20028
def ii_turn : Nat := 100
def i__i_Normal__turnBy : Nat := 60
def i__i_Normal__turnBy_4 : Nat := 20027
def ii_leftComplement : Nat := 103
def ii_complement : Nat := 78
def ii_descents : Nat := 109
def ii_descents_3 : Nat := 20030
def ii_descents_6 : Nat := 20031
def ii_meet : Nat := 77
def ii_meet_4 : Nat := 20032
def ii_meet_7 : Nat := 20033
def i__i_Normal__put : Nat := 61
def i__i_Normal__put_5 : Nat := 20029
def i__i_Normal__put_11 : Nat := 20034
def i__i_Normal__put_14 : Nat := 20035
def i__i_Normal__putInverse : Nat := 62
def ii_inverse : Nat := 30
def ii_inverse_3 : Nat := 20026
def ii_copyNormal : Nat := 59
def ii_product : Nat := 29
def ii_product_4 : Nat := 20036
def ii_limited : Nat := 28
def ii_ConjugateBy : Nat := 6
def is_l03Both : Nat := 31
def is_l03Fit : Nat := 32
def is_ConjugateBy : Nat := 7
def iw_normal9 : Nat := 8
def iw_normal9_4 : Nat := 20037
def is_DrawCyclingOf : Nat := 9
def ii_turned : Nat := 69
def ii_cycled : Nat := 38
def ii_changed : Nat := 10000
def ii_CyclingOf : Nat := 10
def is_l04First : Nat := 74
def is_l04Cycle : Nat := 41
def is_CyclingOf : Nat := 11
def ii_decycled : Nat := 42
def ii_decycled_7 : Nat := 20038
def ii_changed_v2 : Nat := 10001
def ii_DecyclingOf : Nat := 12
def is_l04Decycle : Nat := 43
def is_DecyclingOf : Nat := 13
def ii_withoutHead : Nat := 108
def ii_conjugate : Nat := 76
def ii_slid : Nat := 44
def ii_changed_v3 : Nat := 10002
def ii_SlidingOf : Nat := 14
def is_l03Less : Nat := 110
def is_l04Conjugate : Nat := 79
def is_l04Slide : Nat := 45
def is_SlidingOf : Nat := 15
def is_DrawIsCentral : Nat := 16
def ii_IsCentral : Nat := 17
def is_IsCentral : Nat := 18
def ii_IsPeriodic : Nat := 19
def ii_IsPeriodic_5 : Nat := 20039
def is_IsPeriodic : Nat := 20
def is_IsPeriodic_5 : Nat := 20040
def iw_roll : Nat := 23
def iw_roll_3 : Nat := 20041
def i__w_dice__below : Nat := 49
def iw_letters9 : Nat := 22
def iw_letters9_2 : Nat := 20042
def ii_isLetter : Nat := 87
def ii_IsBraid : Nat := 47
def ii_IsBraid_4 : Nat := 20043
def ii_exchange : Nat := 88
def ii_normalOf : Nat := 48
def ii_normalOf_3 : Nat := 20044
def ii_NormalOf : Nat := 21
def ii_summitK1 : Nat := 90
def ii_better : Nat := 10003
def ii_better_3 : Nat := 20047
def ii_greatest : Nat := 92
def ii_summitK2 : Nat := 91
def ii_better_v2 : Nat := 10004
def ii_better_v2_3 : Nat := 20048
def ii_summit : Nat := 50
def ii_summit_1 : Nat := 20046
def ig_Index___i_Simple_i_Simple_ : Nat := 118
def ig_Index___i_Simple_i_Simple__2 : Nat := 20051
def ig_Contains___i_Simple_i_Simple_ : Nat := 113
def ii_allSimple : Nat := 93
def ii_allSimple_3 : Nat := 20049
def ii_allSimple_6 : Nat := 20050
def ig_Equal___i_Simple_i_Simple_ : Nat := 98
def ig_Equal___i_Simple_i_Simple__4 : Nat := 20055
def ii_sameNormal : Nat := 54
def ii_superSummitK1 : Nat := 94
def ig_IndexFunc___i_Normal_i_Normal_ : Nat := 10006
def ig_IndexFunc___i_Normal_i_Normal__2 : Nat := 20054
def ig_ContainsFunc___i_Normal_i_Normal_ : Nat := 10005
def icmp_isNaN_byte_ : Nat := 137
def icmp_Compare_byte_ : Nat := 135
def ig_Compare___byte_byte_ : Nat := 129
def ig_Compare___byte_byte__2 : Nat := 20057
def ii_compareSimple : Nat := 117
def ig_CompareFunc___i_Simple___i_Simple_i_Simple_i_Simple_ : Nat := 10007
def ig_CompareFunc___i_Simple___i_Simple_i_Simple_i_Simple__2 : Nat := 20056
def ii_compareFactors : Nat := 96
def ig_SortFunc___i_Normal_i_Normal_ : Nat := 10008
def ii_superSummit : Nat := 51
def ii_superSummit_4 : Nat := 20052
def ii_superSummit_7 : Nat := 20053
def ii_AreConjugateK1 : Nat := 53
def ig_IndexFunc___i_Normal_i_Normal__v2 : Nat := 10010
def ig_IndexFunc___i_Normal_i_Normal__v2_2 : Nat := 20058
def ig_ContainsFunc___i_Normal_i_Normal__v2 : Nat := 10009
def ii_AreConjugate : Nat := 24
def ii_MultiplyNormals : Nat := 25
def iw_FnConjugates : Nat := 3
def iw_FnConjugates_j35 : Nat := 20045
def iw_FnConjugates_j44 : Nat := 20059
end
end Go.Ev.YtgfleapbganjiaaGreat
