/- What the evaluator knows of this program. -/
import Derived.Test.YtknhngnhjdpedaaGreatProg
import Derived.Test.YtknhngnhjdpedaaGreatV1
namespace Go.Ev.YtknhngnhjdpedaaGreat
open Go.Ev
noncomputable section
abbrev tyN_ : Ty := .pair (.int .i64) (.pair (.int .i64) (.slice (.arr .u8 8)))
abbrev tyB_ : Ty := .pair (.int .i64) (.slice (.int .i64))
abbrev tyF_ : Ty := .slice (.arr .u8 8)
abbrev tyW_ : Ty := .slice (.int .i64)
@[reducible] def tA8 (x : List Int) : TV := ⟨.arr .u8 8, x⟩
@[reducible] def gA8 (l : List TV) (i : Nat) : List Int := getTV (.arr .u8 8) l i
@[reducible] def tAB8 (x : List Bool) : TV := ⟨.barr 8, x⟩
@[reducible] def gAB8 (l : List TV) (i : Nat) : List Bool := getTV (.barr 8) l i
@[reducible] def tAi8 (x : List Int) : TV := ⟨.arr .i64 8, x⟩
@[reducible] def gAi8 (l : List TV) (i : Nat) : List Int := getTV (.arr .i64 8) l i
@[reducible] def tB (x : Bool) : TV := ⟨.bool, x⟩
@[reducible] def gB (l : List TV) (i : Nat) : Bool := getTV (.bool) l i
@[reducible] def tI (x : Int) : TV := ⟨.int .i64, x⟩
@[reducible] def gI (l : List TV) (i : Nat) : Int := getTV (.int .i64) l i
@[reducible] def tLA8 (x : List (List Int)) : TV := ⟨.slice (.arr .u8 8), x⟩
@[reducible] def gLA8 (l : List TV) (i : Nat) : List (List Int) := getTV (.slice (.arr .u8 8)) l i
@[reducible] def tLB (x : List Bool) : TV := ⟨.slice (.bool), x⟩
@[reducible] def gLB (l : List TV) (i : Nat) : List Bool := getTV (.slice (.bool)) l i
@[reducible] def tLI (x : List Int) : TV := ⟨.slice (.int .i64), x⟩
@[reducible] def gLI (l : List TV) (i : Nat) : List Int := getTV (.slice (.int .i64)) l i
@[reducible] def tLLI (x : List (List Int)) : TV := ⟨.slice (.slice (.int .i64)), x⟩
@[reducible] def gLLI (l : List TV) (i : Nat) : List (List Int) := getTV (.slice (.slice (.int .i64))) l i
@[reducible] def tLU8 (x : List Int) : TV := ⟨.slice (.int .u8), x⟩
@[reducible] def gLU8 (l : List TV) (i : Nat) : List Int := getTV (.slice (.int .u8)) l i
@[reducible] def jE (x : Int × List Int) : TV := ⟨.pair (.int .i64) (.slice (.int .i64)), x⟩
@[reducible] def zSH (l : List TV) (i : Nat) : Int × List Int := getTV (.pair (.int .i64) (.slice (.int .i64))) l i
@[reducible] def zD (x : List Int × Int × Int) : TV := ⟨.pair (.slice (.int .u8)) (.pair (.int .i64) (.int .u64)), x⟩
@[reducible] def zG (l : List TV) (i : Nat) : List Int × Int × Int := getTV (.pair (.slice (.int .u8)) (.pair (.int .i64) (.int .u64))) l i
@[reducible] def tU64 (x : Int) : TV := ⟨.int .u64, x⟩
@[reducible] def gU64 (l : List TV) (i : Nat) : Int := getTV (.int .u64) l i
@[reducible] def tU8 (x : Int) : TV := ⟨.int .u8, x⟩
@[reducible] def gU8 (l : List TV) (i : Nat) : Int := getTV (.int .u8) l i
def tyTab : List (Nat × Ty) := [(2, .int .i64), (3, .int .i64), (4, .bool), (5, .int .u8), (6, .int .u8), (7, .pair (.int .i64) (.pair (.int .i64) (.pair (.bool) (.int .u8)))), (8, .pair (.int .i64) (.pair (.int .i64) (.pair (.bool) (.int .u8)))), (12, .int .u64), (21, .int .i32), (22, .slice (.int .u8)), (24, .arr .u8 8), (25, .arr .u8 8), (34, .slice (.slice (.int .i64))), (38, .slice (.int .i64)), (39, .pair (.int .i64) (.slice (.int .i64))), (40, .pair (.int .i64) (.slice (.int .i64))), (47, .slice (.arr .u8 8)), (57, .slice (.int .i64)), (70, .slice (.bool)), (80, .arr .i64 8), (81, .barr 8), (99, .int .u64), (100, .pair (.slice (.int .u8)) (.pair (.int .i64) (.int .u64))), (101, .pair (.slice (.int .u8)) (.pair (.int .i64) (.int .u64))), (102, .int .u64), (107, .arr .u8 8), (112, .int .i64), (120, .int .u32), (123, .int .u64), (139, .int .u8), (140, .int .u8), (143, .int .i32), (144, .int .i32)]
def fd4 : FD := { id := 4, fn := Go.Proofs.Tryz.f4, sig := ⟨[.ro (.slice (.int .u8))], [(.own, false, .bool)]⟩, loops := [], views := [], joins := [] }
def in20000 : LoopInfo := ⟨20000, ⟨[.row .ro (.int .u8), .box .own (.st [.sl 0, .int .i64, .int .u64])], [(0, .w (.c (.sl 0))), (3, .w (.c (.ptr 1))), (4, .w (.c (.int .i64)))]⟩, [(.exit 0, ⟨[.box .own (.st [.sl 1, .int .i64, .int .u64]), .row .ro (.int .u8)], [(3, .w (.c (.ptr 0)))]⟩)], []⟩
def fd54 : FD := { id := 54, fn := Go.Proofs.Tryz.f54, sig := ⟨[.ro (.slice (.int .u8))], [(.ro, true, .pair (.slice (.int .u8)) (.pair (.int .i64) (.int .u64)))]⟩, loops := [(3, in20000)], views := [], joins := [] }
def fd55 : FD := { id := 55, fn := Go.Proofs.Tryz.f55, sig := ⟨[.boxr (.pair (.slice (.int .u8)) (.pair (.int .i64) (.int .u64))), .ro (.int .i64)], [(.own, false, .int .i64)]⟩, loops := [], views := [], joins := [] }
def fd58 : FD := { id := 58, fn := Go.Proofs.Tryz.f58, sig := ⟨[.boxr (.pair (.slice (.int .u8)) (.pair (.int .i64) (.int .u64))), .ro tyW_], [(.own, false, .int .i64)]⟩, loops := [], views := [], joins := [] }
def in20003 : LoopInfo := ⟨20003, ⟨[.box .own (.arr .i64 8)], [(1, .w (.c (.int .i64))), (2, .w (.c (.ptr 0))), (5, .w (.c (.int .i64)))]⟩, [(.exit 0, ⟨[], []⟩), (.ret, ⟨[], [(4, .w (.c (.bool)))]⟩)], []⟩
def in20004 : LoopInfo := ⟨20004, ⟨[.box .own (.arr .i64 8)], [(1, .w (.c (.int .i64))), (2, .w (.c (.ptr 0))), (5, .w (.c (.int .i64))), (6, .w (.c (.int .i64)))]⟩, [(.exit 2, ⟨[.box .own (.arr .i64 8)], [(1, .w (.c (.int .i64))), (2, .w (.c (.ptr 0))), (5, .w (.c (.int .i64)))]⟩), (.ret, ⟨[], [(4, .w (.c (.bool)))]⟩)], []⟩
def in20005 : LoopInfo := ⟨20005, ⟨[.box .own (.arr .i64 8)], [(1, .w (.c (.int .i64))), (2, .w (.c (.ptr 0))), (5, .w (.c (.int .i64))), (6, .w (.c (.int .i64))), (7, .w (.c (.int .i64)))]⟩, [(.exit 4, ⟨[.box .own (.arr .i64 8)], [(1, .w (.c (.int .i64))), (2, .w (.c (.ptr 0))), (5, .w (.c (.int .i64))), (6, .w (.c (.int .i64)))]⟩), (.ret, ⟨[], [(4, .w (.c (.bool)))]⟩)], []⟩
def in20006 : LoopInfo := ⟨20006, ⟨[.box .own (.arr .i64 8)], [(1, .w (.c (.int .i64))), (2, .w (.c (.ptr 0))), (5, .w (.c (.int .i64))), (6, .w (.c (.int .i64))), (7, .w (.c (.int .i64))), (8, .w (.c (.int .i64)))]⟩, [(.exit 6, ⟨[.box .own (.arr .i64 8)], [(1, .w (.c (.int .i64))), (2, .w (.c (.ptr 0))), (5, .w (.c (.int .i64))), (6, .w (.c (.int .i64))), (7, .w (.c (.int .i64)))]⟩), (.ret, ⟨[], [(4, .w (.c (.bool)))]⟩)], []⟩
def fd60 : FD := { id := 60, fn := Go.Proofs.Tryz.f60, sig := ⟨[.ro (.arr .i64 8), .ro (.int .i64)], [(.own, false, .bool)]⟩, loops := [(2, in20003), (5, in20004), (8, in20005), (11, in20006)], views := [], joins := [] }
def in20007 : LoopInfo := ⟨20007, ⟨[.box .own (.arr .i64 8), .box .own (.arr .u8 8), .box .own (.arr .u8 8)], [(1, .w (.c (.int .i64))), (2, .w (.c (.ptr 0))), (4, .w (.c (.ptr 1))), (5, .w (.c (.ptr 2))), (6, .w (.c (.int .i64)))]⟩, [(.exit 0, ⟨[.box .own (.arr .u8 8), .box .own (.arr .u8 8)], [(4, .w (.c (.ptr 0))), (5, .w (.c (.ptr 1)))]⟩)], []⟩
def in20008 : LoopInfo := ⟨20008, ⟨[.box .own (.arr .i64 8), .box .own (.arr .u8 8), .box .own (.arr .u8 8)], [(1, .w (.c (.int .i64))), (2, .w (.c (.ptr 0))), (4, .w (.c (.ptr 1))), (5, .w (.c (.ptr 2))), (6, .w (.c (.int .i64))), (7, .w (.c (.int .i64)))]⟩, [(.exit 2, ⟨[.box .own (.arr .i64 8), .box .own (.arr .u8 8), .box .own (.arr .u8 8)], [(1, .w (.c (.int .i64))), (2, .w (.c (.ptr 0))), (4, .w (.c (.ptr 1))), (5, .w (.c (.ptr 2))), (6, .w (.c (.int .i64)))]⟩)], []⟩
def fd61 : FD := { id := 61, fn := Go.Proofs.Tryz.f61, sig := ⟨[.ro (.arr .i64 8), .ro (.int .i64)], [(.own, false, .arr .u8 8)]⟩, loops := [(3, in20007), (7, in20008)], views := [], joins := [] }
def in20001 : LoopInfo := ⟨20001, ⟨[.box .own (.st [.sl 1, .int .i64, .int .u64]), .row .ro (.int .u8), .box .own (.arr .u8 8), .box .own (.arr .i64 8)], [(0, .w (.c (.ptr 0))), (1, .w (.c (.int .i64))), (4, .w (.c (.ptr 2))), (5, .w (.c (.ptr 3))), (6, .w (.c (.int .i64)))]⟩, [(.exit 0, ⟨[.box .own (.st [.sl 1, .int .i64, .int .u64]), .row .ro (.int .u8), .box .own (.arr .u8 8), .box .own (.arr .i64 8)], [(0, .w (.c (.ptr 0))), (1, .w (.c (.int .i64))), (4, .w (.c (.ptr 2))), (5, .w (.c (.ptr 3)))]⟩)], []⟩
def in20002 : LoopInfo := ⟨20002, ⟨[.box .own (.st [.sl 1, .int .i64, .int .u64]), .row .ro (.int .u8), .box .own (.arr .u8 8), .box .own (.arr .i64 8), .box .own (.arr .i64 8)], [(0, .w (.c (.ptr 0))), (1, .w (.c (.int .i64))), (4, .w (.c (.ptr 2))), (5, .w (.c (.ptr 3))), (6, .w (.c (.int .i64))), (7, .w (.c (.int .i64))), (8, .w (.c (.int .i64))), (9, .w (.c (.ptr 4))), (10, .w (.c (.int .i64)))]⟩, [(.exit 2, ⟨[.box .own (.st [.sl 1, .int .i64, .int .u64]), .row .ro (.int .u8), .box .own (.arr .u8 8), .box .own (.arr .i64 8), .box .own (.arr .i64 8)], [(0, .w (.c (.ptr 0))), (1, .w (.c (.int .i64))), (4, .w (.c (.ptr 2))), (5, .w (.c (.ptr 3))), (6, .w (.c (.int .i64))), (9, .w (.c (.ptr 4)))]⟩)], []⟩
def fd57 : FD := { id := 57, fn := Go.Proofs.Tryz.f57, sig := ⟨[.boxr (.pair (.slice (.int .u8)) (.pair (.int .i64) (.int .u64))), .ro (.int .i64)], [(.own, false, .arr .u8 8)]⟩, loops := [(3, in20001), (8, in20002)], views := [], joins := [] }
def fd71 : FD := { id := 71, fn := Go.Proofs.Tryz.f71, sig := ⟨[.boxr (.pair (.slice (.int .u8)) (.pair (.int .i64) (.int .u64)))], [(.own, false, .arr .u8 8), (.own, false, .int .i64)]⟩, loops := [], views := [], joins := [] }
def fd32 : FD := { id := 32, fn := Go.Proofs.Tryz.f32, sig := ⟨[.ro (.slice (.int .u8))], [(.own, false, .arr .u8 8), (.own, false, .arr .u8 8), (.own, false, .int .i64)]⟩, loops := [], views := [], joins := [] }
def fd5 : FD := { id := 5, fn := Go.Proofs.Tryz.f5, sig := ⟨[.ro (.slice (.int .u8))], [(.own, false, .arr .u8 8), (.own, false, .arr .u8 8), (.own, false, .int .i64)]⟩, loops := [], views := [], joins := [] }
def fd50 : FD := { id := 50, fn := Go.Proofs.Tryz.f50, sig := ⟨[.ro (.int .i64), .ro (.int .i64), .ro (.int .i64)], [(.own, false, .bool)]⟩, loops := [], views := [], joins := [] }
def fd44 : FD := { id := 44, fn := Go.Proofs.Tryz.f44, sig := ⟨[.ro (.int .i64)], [(.own, false, .bool)]⟩, loops := [], views := [], joins := [] }
def in20009 : LoopInfo := ⟨20009, ⟨[.row .own (.int .i64)], [(3, .w (.c (.sl 0))), (6, .w (.c (.int .i64))), (7, .w (.c (.int .i64)))]⟩, [(.exit 0, ⟨[.row .own (.int .i64)], [(3, .w (.c (.sl 0)))]⟩)], []⟩
def fd78 : FD := { id := 78, fn := Go.Proofs.Tryz.f78, sig := ⟨[.ro (.int .i64)], [(.own, false, .slice (.int .i64))]⟩, loops := [(3, in20009)], views := [], joins := [] }
def fd49 : FD := { id := 49, fn := Go.Proofs.Tryz.f49, sig := ⟨[.ro (.int .i64)], [(.own, false, .slice (.int .i64))]⟩, loops := [], views := [], joins := [] }
def in20011 : LoopInfo := ⟨20011, ⟨[.row .own (.int .i64)], [(0, .w (.c (.sl 0))), (6, .w (.c (.int .i64))), (7, .w (.c (.int .i64))), (28, .w (.c (.sl 0))), (29, .w (.c (.int .i64))), (30, .w (.c (.int .i64)))]⟩, [(.exit 0, ⟨[.row .own (.int .i64)], [(0, .w (.c (.sl 0)))]⟩)], []⟩
def fd37 : FD := { id := 37, fn := Go.Proofs.Tryz.f37, sig := ⟨[.mut tyW_, .ro (.int .i64), .ro (.int .i64)], []⟩, loops := [(2, in20011)], views := [], joins := [] }
def in20012 : LoopInfo := ⟨20012, ⟨[.row .ro (.int .i64), .box .own (.arr .u8 8), .box .own (.arr .u8 8)], [(0, .w (.c (.sl 0))), (2, .w (.c (.ptr 1))), (3, .w (.c (.ptr 2))), (8, .w (.c (.sl 0))), (9, .w (.c (.int .i64))), (10, .w (.c (.int .i64)))]⟩, [(.exit 0, ⟨[.box .own (.arr .u8 8), .box .own (.arr .u8 8)], [(2, .w (.c (.ptr 0))), (3, .w (.c (.ptr 1)))]⟩)], []⟩
def in20013 : LoopInfo := ⟨20013, ⟨[.row .ro (.int .i64), .box .own (.arr .u8 8), .box .own (.arr .u8 8)], [(0, .w (.c (.sl 0))), (2, .w (.c (.ptr 1))), (3, .w (.c (.ptr 2))), (4, .w (.c (.int .i64))), (5, .w (.c (.int .i64))), (6, .w (.c (.int .i64))), (8, .w (.c (.sl 0))), (9, .w (.c (.int .i64))), (10, .w (.c (.int .i64)))]⟩, [(.exit 2, ⟨[.row .ro (.int .i64), .box .own (.arr .u8 8), .box .own (.arr .u8 8)], [(0, .w (.c (.sl 0))), (2, .w (.c (.ptr 1))), (3, .w (.c (.ptr 2))), (8, .w (.c (.sl 0))), (9, .w (.c (.int .i64))), (10, .w (.c (.int .i64)))]⟩)], []⟩
def fd39 : FD := { id := 39, fn := Go.Proofs.Tryz.f39, sig := ⟨[.ro tyW_], [(.own, false, .arr .u8 8)]⟩, loops := [(3, in20012), (7, in20013)], views := [], joins := [] }
def in20010 : LoopInfo := ⟨20010, ⟨[.box .own (.arr .u8 8), .row .own (.int .i64)], [(1, .w (.c (.int .i64))), (2, .w (.c (.ptr 0))), (6, .w (.c (.sl 1))), (11, .w (.c (.int .i64))), (12, .w (.c (.int .i64)))]⟩, [(.exit 0, ⟨[.box .own (.arr .u8 8), .row .own (.int .i64)], [(2, .w (.c (.ptr 0))), (6, .w (.c (.sl 1)))]⟩), (.ret, ⟨[.row .own (.int .i64)], [(4, .w (.c (.sl 0))), (5, .w (.c (.bool)))]⟩)], []⟩
def fd36 : FD := { id := 36, fn := Go.Proofs.Tryz.f36, sig := ⟨[.ro (.arr .u8 8), .ro (.int .i64)], [(.own, false, .slice (.int .i64)), (.own, false, .bool)]⟩, loops := [(3, in20010)], views := [], joins := [] }
def in20014 : LoopInfo := ⟨20014, ⟨[.row .ro (.int .i64)], [(0, .w (.c (.sl 0))), (5, .w (.c (.int .i64))), (12, .w (.c (.int .i64))), (13, .w (.c (.int .i64)))]⟩, [(.exit 0, ⟨[], []⟩), (.ret, ⟨[], [(2, .w (.c (.int .i64))), (3, .w (.c (.int .i64))), (4, .w (.c (.bool)))]⟩)], []⟩
def in20015 : LoopInfo := ⟨20015, ⟨[.row .ro (.int .i64)], [(0, .w (.c (.sl 0))), (5, .w (.c (.int .i64))), (6, .w (.c (.int .i64))), (7, .w (.c (.int .i64))), (12, .w (.c (.int .i64))), (13, .w (.c (.int .i64)))]⟩, [(.exit 2, ⟨[.row .ro (.int .i64)], [(0, .w (.c (.sl 0))), (5, .w (.c (.int .i64))), (12, .w (.c (.int .i64))), (13, .w (.c (.int .i64)))]⟩), (.ret, ⟨[], [(2, .w (.c (.int .i64))), (3, .w (.c (.int .i64))), (4, .w (.c (.bool)))]⟩)], []⟩
def in20016 : LoopInfo := ⟨20016, ⟨[.row .ro (.int .i64)], [(0, .w (.c (.sl 0))), (5, .w (.c (.int .i64))), (6, .w (.c (.int .i64))), (7, .w (.c (.int .i64))), (8, .w (.c (.int .i64))), (12, .w (.c (.int .i64))), (13, .w (.c (.int .i64)))]⟩, [(.exit 4, ⟨[.row .ro (.int .i64)], [(0, .w (.c (.sl 0))), (5, .w (.c (.int .i64))), (6, .w (.c (.int .i64))), (7, .w (.c (.int .i64))), (12, .w (.c (.int .i64))), (13, .w (.c (.int .i64)))]⟩), (.ret, ⟨[], [(2, .w (.c (.int .i64))), (3, .w (.c (.int .i64))), (4, .w (.c (.bool)))]⟩)], []⟩
def in20017 : LoopInfo := ⟨20017, ⟨[.row .ro (.int .i64)], [(0, .w (.c (.sl 0))), (5, .w (.c (.int .i64))), (6, .w (.c (.int .i64))), (7, .w (.c (.int .i64))), (8, .w (.c (.int .i64))), (9, .w (.c (.int .i64))), (12, .w (.c (.int .i64))), (13, .w (.c (.int .i64)))]⟩, [(.exit 6, ⟨[.row .ro (.int .i64)], [(0, .w (.c (.sl 0))), (5, .w (.c (.int .i64))), (6, .w (.c (.int .i64))), (7, .w (.c (.int .i64))), (8, .w (.c (.int .i64))), (12, .w (.c (.int .i64))), (13, .w (.c (.int .i64)))]⟩), (.ret, ⟨[], [(2, .w (.c (.int .i64))), (3, .w (.c (.int .i64))), (4, .w (.c (.bool)))]⟩)], []⟩
def fd38 : FD := { id := 38, fn := Go.Proofs.Tryz.f38, sig := ⟨[.ro tyW_], [(.own, false, .int .i64), (.own, false, .int .i64), (.own, false, .bool)]⟩, loops := [(3, in20014), (6, in20015), (9, in20016), (12, in20017)], views := [], joins := [] }
def fd10 : FD := { id := 10, fn := Go.Proofs.Tryz.f10, sig := ⟨[.ro (.arr .u8 8), .ro (.int .i64)], [(.own, false, .bool)]⟩, loops := [], views := [], joins := [] }
def in20018 : LoopInfo := ⟨20018, ⟨[.box .own (.arr .u8 8), .row .own (.int .i64), .row .own (.int .i64), .row .own (.int .i64)], [(6, .w (.c (.ptr 0))), (7, .w (.c (.sl 1))), (9, .w (.c (.sl 2))), (11, .w (.c (.sl 3))), (28, .w (.c (.int .i64))), (29, .w (.c (.int .i64)))]⟩, [(.exit 0, ⟨[.box .own (.arr .u8 8), .row .own (.int .i64)], [(6, .w (.c (.ptr 0))), (11, .w (.c (.sl 1)))]⟩)], []⟩
def in20019 : LoopInfo := ⟨20019, ⟨[.box .own (.arr .u8 8), .row .own (.int .i64), .row .own (.int .i64), .row .own (.int .i64)], [(6, .w (.c (.ptr 0))), (7, .w (.c (.sl 1))), (9, .w (.c (.sl 2))), (11, .w (.c (.sl 3))), (12, .w (.c (.int .i64))), (28, .w (.c (.int .i64))), (29, .w (.c (.int .i64))), (32, .w (.c (.int .i64))), (33, .w (.c (.int .i64)))]⟩, [(.exit 2, ⟨[.box .own (.arr .u8 8), .row .own (.int .i64), .row .own (.int .i64), .row .own (.int .i64)], [(6, .w (.c (.ptr 0))), (7, .w (.c (.sl 1))), (9, .w (.c (.sl 2))), (11, .w (.c (.sl 3))), (28, .w (.c (.int .i64))), (29, .w (.c (.int .i64)))]⟩)], []⟩
def fd33 : FD := { id := 33, fn := Go.Proofs.Tryz.f33, sig := ⟨[.ro (.arr .u8 8), .ro (.arr .u8 8), .ro (.int .i64)], [(.own, false, .arr .u8 8)]⟩, loops := [(5, in20018), (8, in20019)], views := [], joins := [] }
def fd6 : FD := { id := 6, fn := Go.Proofs.Tryz.f6, sig := ⟨[.ro (.arr .u8 8), .ro (.arr .u8 8), .ro (.int .i64)], [(.own, false, .arr .u8 8), (.own, false, .int .i64)]⟩, loops := [], views := [], joins := [] }
def fd59 : FD := { id := 59, fn := Go.Proofs.Tryz.f59, sig := ⟨[.ro (.int .i64), .ro (.int .i64), .ro (.int .i64)], [(.own, false, .bool)]⟩, loops := [], views := [], joins := [] }
def in20020 : LoopInfo := ⟨20020, ⟨[.box .own (.arr .u8 8), .box .own (.arr .i64 8), .box .own (.arr .i64 8), .box .own (.barr 8)], [(1, .w (.c (.int .i64))), (2, .w (.c (.ptr 0))), (4, .w (.c (.ptr 1))), (6, .w (.c (.ptr 2))), (7, .w (.c (.ptr 3))), (8, .w (.c (.int .i64)))]⟩, [(.exit 0, ⟨[.box .own (.arr .u8 8), .box .own (.arr .i64 8), .box .own (.arr .i64 8)], [(1, .w (.c (.int .i64))), (2, .w (.c (.ptr 0))), (4, .w (.c (.ptr 1))), (6, .w (.c (.ptr 2)))]⟩), (.ret, ⟨[.box .own (.arr .i64 8)], [(4, .w (.c (.ptr 0))), (5, .w (.c (.bool)))]⟩)], []⟩
def in20021 : LoopInfo := ⟨20021, ⟨[.box .own (.arr .u8 8), .box .own (.arr .i64 8), .box .own (.arr .i64 8), .box .own (.barr 8)], [(1, .w (.c (.int .i64))), (2, .w (.c (.ptr 0))), (4, .w (.c (.ptr 1))), (6, .w (.c (.ptr 2))), (9, .w (.c (.ptr 3))), (10, .w (.c (.int .i64)))]⟩, [(.exit 2, ⟨[.box .own (.arr .i64 8), .box .own (.arr .i64 8)], [(4, .w (.c (.ptr 0))), (6, .w (.c (.ptr 1)))]⟩)], []⟩
def in20022 : LoopInfo := ⟨20022, ⟨[.box .own (.arr .u8 8), .box .own (.arr .i64 8), .box .own (.arr .i64 8), .box .own (.barr 8)], [(1, .w (.c (.int .i64))), (2, .w (.c (.ptr 0))), (4, .w (.c (.ptr 1))), (6, .w (.c (.ptr 2))), (9, .w (.c (.ptr 3))), (10, .w (.c (.int .i64))), (11, .w (.c (.int .i64)))]⟩, [(.exit 4, ⟨[.box .own (.arr .u8 8), .box .own (.arr .i64 8), .box .own (.arr .i64 8), .box .own (.barr 8)], [(1, .w (.c (.int .i64))), (2, .w (.c (.ptr 0))), (4, .w (.c (.ptr 1))), (6, .w (.c (.ptr 2))), (9, .w (.c (.ptr 3))), (10, .w (.c (.int .i64)))]⟩)], []⟩
def fd74 : FD := { id := 74, fn := Go.Proofs.Tryz.f74, sig := ⟨[.ro (.arr .u8 8), .ro (.int .i64)], [(.own, false, .arr .i64 8), (.own, false, .bool)]⟩, loops := [(3, in20020), (11, in20021), (14, in20022)], views := [], joins := [] }
def fd45 : FD := { id := 45, fn := Go.Proofs.Tryz.f45, sig := ⟨[.ro (.arr .u8 8), .ro (.int .i64)], [(.own, false, .bool)]⟩, loops := [], views := [], joins := [] }
def fd34 : FD := { id := 34, fn := Go.Proofs.Tryz.f34, sig := ⟨[.ro (.arr .u8 8), .ro (.arr .u8 8), .ro (.int .i64)], [(.own, false, .int .i64)]⟩, loops := [], views := [], joins := [] }
def in20023 : LoopInfo := ⟨20023, ⟨[.box .own (.arr .u8 8), .box .own (.arr .i64 8), .box .own (.arr .i64 8), .box .own (.arr .i64 8)], [(2, .w (.c (.int .i64))), (6, .w (.c (.ptr 0))), (7, .w (.c (.ptr 1))), (9, .w (.c (.ptr 2))), (11, .w (.c (.ptr 3))), (12, .w (.c (.int .i64)))]⟩, [(.exit 0, ⟨[.box .own (.arr .u8 8), .box .own (.arr .i64 8)], [(2, .w (.c (.int .i64))), (6, .w (.c (.ptr 0))), (11, .w (.c (.ptr 1)))]⟩)], []⟩
def in20024 : LoopInfo := ⟨20024, ⟨[.box .own (.arr .u8 8), .box .own (.arr .i64 8), .box .own (.arr .i64 8), .box .own (.arr .i64 8)], [(2, .w (.c (.int .i64))), (6, .w (.c (.ptr 0))), (7, .w (.c (.ptr 1))), (9, .w (.c (.ptr 2))), (11, .w (.c (.ptr 3))), (12, .w (.c (.int .i64))), (13, .w (.c (.int .i64)))]⟩, [(.exit 2, ⟨[.box .own (.arr .u8 8), .box .own (.arr .i64 8), .box .own (.arr .i64 8), .box .own (.arr .i64 8)], [(2, .w (.c (.int .i64))), (6, .w (.c (.ptr 0))), (7, .w (.c (.ptr 1))), (9, .w (.c (.ptr 2))), (11, .w (.c (.ptr 3))), (12, .w (.c (.int .i64)))]⟩)], []⟩
def fd35 : FD := { id := 35, fn := Go.Proofs.Tryz.f35, sig := ⟨[.ro (.arr .u8 8), .ro (.arr .u8 8), .ro (.int .i64)], [(.own, false, .arr .u8 8)]⟩, loops := [(5, in20023), (8, in20024)], views := [], joins := [] }
def fd7 : FD := { id := 7, fn := Go.Proofs.Tryz.f7, sig := ⟨[.ro (.arr .u8 8), .ro (.arr .u8 8), .ro (.int .i64)], [(.own, false, .arr .u8 8), (.own, false, .int .i64)]⟩, loops := [], views := [], joins := [] }
def in20025 : LoopInfo := ⟨20025, ⟨[.box .own (.arr .u8 8), .box .own (.arr .u8 8), .row .own (.int .i64)], [(4, .w (.c (.ptr 0))), (6, .w (.c (.ptr 1))), (8, .w (.c (.sl 2))), (31, .w (.c (.int .i64))), (32, .w (.c (.int .i64)))]⟩, [(.exit 0, ⟨[.box .own (.arr .u8 8), .row .own (.int .i64)], [(6, .w (.c (.ptr 0))), (8, .w (.c (.sl 1)))]⟩)], []⟩
def in20026 : LoopInfo := ⟨20026, ⟨[.box .own (.arr .u8 8), .row .own (.int .i64)], [(6, .w (.c (.ptr 0))), (8, .w (.c (.sl 1)))]⟩, [(.ret, ⟨[.box .own (.arr .u8 8)], [(6, .w (.c (.ptr 0))), (7, .w (.c (.int .i64)))]⟩)], []⟩
def fd8 : FD := { id := 8, fn := Go.Proofs.Tryz.f8, sig := ⟨[.ro (.arr .u8 8), .ro (.arr .u8 8), .ro (.int .i64)], [(.own, false, .arr .u8 8), (.own, false, .int .i64)]⟩, loops := [(5, in20025), (9, in20026)], views := [], joins := [] }
def in20027 : LoopInfo := ⟨20027, ⟨[.box .own (.arr .u8 8), .box .own (.arr .u8 8), .box .own (.arr .u8 8)], [(1, .w (.c (.int .i64))), (2, .w (.c (.ptr 0))), (4, .w (.c (.ptr 1))), (5, .w (.c (.ptr 2))), (6, .w (.c (.int .i64)))]⟩, [(.exit 0, ⟨[.box .own (.arr .u8 8), .box .own (.arr .u8 8)], [(4, .w (.c (.ptr 0))), (5, .w (.c (.ptr 1)))]⟩)], []⟩
def fd43 : FD := { id := 43, fn := Go.Proofs.Tryz.f43, sig := ⟨[.ro (.arr .u8 8), .ro (.int .i64)], [(.own, false, .arr .u8 8)]⟩, loops := [(3, in20027)], views := [], joins := [] }
def in20028 : LoopInfo := ⟨20028, ⟨[.box .own (.arr .u8 8), .box .own (.arr .u8 8)], [(0, .w (.c (.int .i64))), (2, .w (.c (.ptr 0))), (3, .w (.c (.ptr 1))), (4, .w (.c (.int .i64)))]⟩, [(.exit 0, ⟨[.box .own (.arr .u8 8), .box .own (.arr .u8 8)], [(2, .w (.c (.ptr 0))), (3, .w (.c (.ptr 1)))]⟩)], []⟩
def fd42 : FD := { id := 42, fn := Go.Proofs.Tryz.f42, sig := ⟨[.ro (.int .i64)], [(.own, false, .arr .u8 8)]⟩, loops := [(3, in20028)], views := [], joins := [] }
def in20029 : LoopInfo := ⟨20029, ⟨[.box .own (.arr .u8 8), .box .own (.arr .u8 8), .box .own (.arr .u8 8), .box .own (.arr .u8 8)], [(2, .w (.c (.int .i64))), (3, .w (.c (.ptr 0))), (4, .w (.c (.ptr 1))), (6, .w (.c (.ptr 2))), (7, .w (.c (.ptr 3))), (8, .w (.c (.int .i64)))]⟩, [(.exit 0, ⟨[.box .own (.arr .u8 8), .box .own (.arr .u8 8)], [(6, .w (.c (.ptr 0))), (7, .w (.c (.ptr 1)))]⟩)], []⟩
def fd41 : FD := { id := 41, fn := Go.Proofs.Tryz.f41, sig := ⟨[.ro (.arr .u8 8), .ro (.arr .u8 8), .ro (.int .i64)], [(.own, false, .arr .u8 8)]⟩, loops := [(3, in20029)], views := [], joins := [] }
def fd40 : FD := { id := 40, fn := Go.Proofs.Tryz.f40, sig := ⟨[.ro (.arr .u8 8), .ro (.int .i64)], [(.own, false, .arr .u8 8)]⟩, loops := [], views := [], joins := [] }
def fd9 : FD := { id := 9, fn := Go.Proofs.Tryz.f9, sig := ⟨[.ro (.arr .u8 8), .ro (.arr .u8 8), .ro (.int .i64)], [(.own, false, .arr .u8 8), (.own, false, .int .i64)]⟩, loops := [], views := [], joins := [] }
def fd11 : FD := { id := 11, fn := Go.Proofs.Tryz.f11, sig := ⟨[.ro (.arr .u8 8), .ro (.int .i64)], [(.own, false, .bool)]⟩, loops := [], views := [], joins := [] }
def in20030 : LoopInfo := ⟨20030, ⟨[.box .own (.arr .u8 8), .box .own (.arr .u8 8), .box .own (.arr .u8 8)], [(2, .w (.c (.ptr 0))), (4, .w (.c (.ptr 1))), (5, .w (.c (.ptr 2))), (8, .w (.c (.int .i64))), (9, .w (.c (.int .i64)))]⟩, [(.exit 0, ⟨[.box .own (.arr .u8 8), .box .own (.arr .u8 8)], [(4, .w (.c (.ptr 0))), (5, .w (.c (.ptr 1)))]⟩)], []⟩
def fd87 : FD := { id := 87, fn := Go.Proofs.Tryz.f87, sig := ⟨[.ro (.arr .u8 8), .ro (.int .i64)], [(.own, false, .arr .u8 8)]⟩, loops := [(3, in20030)], views := [], joins := [] }
def fd76 : FD := { id := 76, fn := Go.Proofs.Tryz.f76, sig := ⟨[.ro (.arr .u8 8), .ro (.int .i64)], [(.own, false, .arr .u8 8)]⟩, loops := [], views := [], joins := [] }
def in20031 : LoopInfo := ⟨20031, ⟨[.box .own (.arr .u8 8), .box .own (.arr .u8 8)], [(0, .w (.c (.int .i64))), (2, .w (.c (.ptr 0))), (3, .w (.c (.ptr 1))), (6, .w (.c (.int .i64))), (7, .w (.c (.int .i64)))]⟩, [(.exit 0, ⟨[.box .own (.arr .u8 8), .box .own (.arr .u8 8)], [(2, .w (.c (.ptr 0))), (3, .w (.c (.ptr 1)))]⟩)], []⟩
def fd77 : FD := { id := 77, fn := Go.Proofs.Tryz.f77, sig := ⟨[.ro (.int .i64)], [(.own, false, .arr .u8 8)]⟩, loops := [(3, in20031)], views := [], joins := [] }
def in20032 : LoopInfo := ⟨20032, ⟨[.box .own (.arr .u8 8), .box .own (.arr .u8 8), .box .own (.arr .u8 8), .box .own (.arr .u8 8)], [(3, .w (.c (.ptr 0))), (4, .w (.c (.ptr 1))), (6, .w (.c (.ptr 2))), (7, .w (.c (.ptr 3))), (10, .w (.c (.int .i64))), (11, .w (.c (.int .i64)))]⟩, [(.exit 0, ⟨[.box .own (.arr .u8 8), .box .own (.arr .u8 8)], [(6, .w (.c (.ptr 0))), (7, .w (.c (.ptr 1)))]⟩)], []⟩
def fd86 : FD := { id := 86, fn := Go.Proofs.Tryz.f86, sig := ⟨[.ro (.arr .u8 8), .ro (.arr .u8 8), .ro (.int .i64)], [(.own, false, .arr .u8 8)]⟩, loops := [(3, in20032)], views := [], joins := [] }
def fd75 : FD := { id := 75, fn := Go.Proofs.Tryz.f75, sig := ⟨[.ro (.arr .u8 8), .ro (.arr .u8 8), .ro (.int .i64)], [(.own, false, .arr .u8 8)]⟩, loops := [], views := [], joins := [] }
def fd46 : FD := { id := 46, fn := Go.Proofs.Tryz.f46, sig := ⟨[.ro (.arr .u8 8), .ro (.int .i64)], [(.own, false, .arr .u8 8)]⟩, loops := [], views := [], joins := [] }
def fd12 : FD := { id := 12, fn := Go.Proofs.Tryz.f12, sig := ⟨[.ro (.arr .u8 8), .ro (.int .i64)], [(.own, false, .arr .u8 8), (.own, false, .int .i64)]⟩, loops := [], views := [], joins := [] }
def in20033 : LoopInfo := ⟨20033, ⟨[.row .own (.int .i64), .row .own tyW_], [(1, .w (.c (.int .i64))), (5, .w (.c (.sl 0))), (7, .w (.c (.sl 1))), (18, .w (.c (.int .i64))), (19, .w (.c (.int .i64)))]⟩, [(.exit 0, ⟨[.row .own tyW_], [(7, .w (.c (.sl 0)))]⟩)], []⟩
def in20034 : LoopInfo := ⟨20034, ⟨[.row .own (.int .i64), .row .own tyW_, .row .own (.int .i64)], [(1, .w (.c (.int .i64))), (5, .w (.c (.sl 0))), (7, .w (.c (.sl 1))), (8, .w (.c (.int .i64))), (9, .w (.c (.sl 2))), (10, .w (.c (.int .i64))), (18, .w (.c (.int .i64))), (19, .w (.c (.int .i64)))]⟩, [(.exit 2, ⟨[.row .own (.int .i64), .row .own tyW_, .row .own (.int .i64)], [(1, .w (.c (.int .i64))), (5, .w (.c (.sl 0))), (7, .w (.c (.sl 1))), (9, .w (.c (.sl 2))), (18, .w (.c (.int .i64))), (19, .w (.c (.int .i64)))]⟩)], []⟩
def fd47 : FD := { id := 47, fn := Go.Proofs.Tryz.f47, sig := ⟨[.ro (.arr .u8 8), .ro (.int .i64)], [(.own, false, .slice tyW_)]⟩, loops := [(4, in20033), (9, in20034)], views := [], joins := [], moves := [17, 47, 48] }
def fd13 : FD := { id := 13, fn := Go.Proofs.Tryz.f13, sig := ⟨[.ro (.arr .u8 8), .ro (.int .i64)], [(.own, false, .int .i64), (.own, false, .int .i64)]⟩, loops := [], views := [], joins := [] }
def in20035 : LoopInfo := ⟨20035, ⟨[.box .own (.arr .u8 8), .box .own (.arr .u8 8), .box .own (.arr .u8 8)], [(1, .w (.c (.int .i64))), (3, .w (.c (.ptr 0))), (6, .w (.c (.ptr 1))), (7, .w (.c (.ptr 2))), (8, .w (.c (.int .i64))), (18, .w (.c (.int .i64))), (19, .w (.c (.int .i64)))]⟩, [(.exit 0, ⟨[.box .own (.arr .u8 8), .box .own (.arr .u8 8)], [(6, .w (.c (.ptr 0))), (7, .w (.c (.ptr 1)))]⟩)], []⟩
def fd48 : FD := { id := 48, fn := Go.Proofs.Tryz.f48, sig := ⟨[.ro (.arr .u8 8), .ro (.int .i64), .ro (.int .i64)], [(.own, false, .arr .u8 8)]⟩, loops := [(4, in20035)], views := [], joins := [] }
def fd14 : FD := { id := 14, fn := Go.Proofs.Tryz.f14, sig := ⟨[.ro (.arr .u8 8), .ro (.int .i64)], [(.own, false, .arr .u8 8), (.own, false, .int .i64)]⟩, loops := [], views := [], joins := [] }
def fd15 : FD := { id := 15, fn := Go.Proofs.Tryz.f15, sig := ⟨[.ro (.arr .u8 8), .ro (.int .i64)], [(.own, false, .slice tyW_), (.own, false, .int .i64)]⟩, loops := [], views := [], joins := [] }
def in20036 : LoopInfo := ⟨20036, ⟨[.box .own (.arr .u8 8), .row .own (.int .i64), .row .own (.bool), .row .ro tyW_], [(1, .w (.c (.int .i64))), (4, .w (.c (.ptr 0))), (6, .w (.c (.sl 1))), (7, .w (.c (.sl 2))), (23, .w (.c (.sl 3))), (24, .w (.c (.int .i64))), (25, .w (.c (.int .i64)))]⟩, [(.exit 0, ⟨[.box .own (.arr .u8 8), .row .own (.int .i64)], [(4, .w (.c (.ptr 0))), (6, .w (.c (.sl 1)))]⟩), (.ret, ⟨[.box .own (.arr .u8 8)], [(4, .w (.c (.ptr 0))), (5, .w (.c (.int .i64)))]⟩)], []⟩
def in20037 : LoopInfo := ⟨20037, ⟨[.box .own (.arr .u8 8), .row .own (.int .i64), .row .own (.bool), .row .ro (.int .i64), .row .ro tyW_], [(1, .w (.c (.int .i64))), (4, .w (.c (.ptr 0))), (6, .w (.c (.sl 1))), (7, .w (.c (.sl 2))), (9, .w (.c (.sl 3))), (23, .w (.c (.sl 4))), (24, .w (.c (.int .i64))), (25, .w (.c (.int .i64))), (33, .w (.c (.sl 3))), (34, .w (.c (.int .i64))), (35, .w (.c (.int .i64)))]⟩, [(.exit 2, ⟨[.box .own (.arr .u8 8), .row .own (.int .i64), .row .own (.bool), .row .ro tyW_], [(1, .w (.c (.int .i64))), (4, .w (.c (.ptr 0))), (6, .w (.c (.sl 1))), (7, .w (.c (.sl 2))), (23, .w (.c (.sl 3))), (24, .w (.c (.int .i64))), (25, .w (.c (.int .i64)))]⟩), (.ret, ⟨[.box .own (.arr .u8 8)], [(4, .w (.c (.ptr 0))), (5, .w (.c (.int .i64)))]⟩)], []⟩
def fd16 : FD := { id := 16, fn := Go.Proofs.Tryz.f16, sig := ⟨[.ro (.slice tyW_), .ro (.int .i64)], [(.own, false, .arr .u8 8), (.own, false, .int .i64)]⟩, loops := [(5, in20036), (10, in20037)], views := [], joins := [] }
def in20040 : LoopInfo := ⟨20040, ⟨[.row .own (.int .i64)], [(0, .w (.c (.int .i64))), (1, .w (.c (.int .i64))), (5, .w (.c (.sl 0))), (6, .w (.c (.int .i64)))]⟩, [(.exit 0, ⟨[.row .own (.int .i64)], [(0, .w (.c (.int .i64))), (1, .w (.c (.int .i64))), (5, .w (.c (.sl 0)))]⟩)], []⟩
def in20041 : LoopInfo := ⟨20041, ⟨[.row .own (.int .i64)], [(0, .w (.c (.int .i64))), (5, .w (.c (.sl 0))), (7, .w (.c (.int .i64)))]⟩, [(.exit 2, ⟨[.row .own (.int .i64)], [(5, .w (.c (.sl 0)))]⟩)], []⟩
def fd69 : FD := { id := 69, fn := Go.Proofs.Tryz.f69, sig := ⟨[.ro (.int .i64), .ro (.int .i64)], [(.own, false, .slice (.int .i64))]⟩, loops := [(3, in20040), (7, in20041)], views := [], joins := [] }
def in20038 : LoopInfo := ⟨20038, ⟨[.row .own (.int .i64), .row .own tyW_], [(5, .w (.c (.sl 0))), (12, .w (.c (.sl 1))), (13, .w (.c (.int .i64))), (14, .w (.c (.int .i64)))]⟩, [(.exit 0, ⟨[.row .own (.int .i64)], [(5, .w (.c (.sl 0)))]⟩)], []⟩
def in20039 : LoopInfo := ⟨20039, ⟨[.row .own (.int .i64), .row .ro (.int .i64), .row .own tyW_], [(5, .w (.c (.sl 0))), (7, .w (.c (.sl 1))), (8, .w (.c (.int .i64))), (12, .w (.c (.sl 2))), (13, .w (.c (.int .i64))), (14, .w (.c (.int .i64)))]⟩, [(.exit 2, ⟨[.row .own (.int .i64), .row .own tyW_], [(5, .w (.c (.sl 0))), (12, .w (.c (.sl 1))), (13, .w (.c (.int .i64))), (14, .w (.c (.int .i64)))]⟩)], []⟩
def fd51 : FD := { id := 51, fn := Go.Proofs.Tryz.f51, sig := ⟨[.ro (.arr .u8 8), .ro (.int .i64)], [(.own, false, .slice (.int .i64))]⟩, loops := [(3, in20038), (6, in20039)], views := [], joins := [] }
def fd17 : FD := { id := 17, fn := Go.Proofs.Tryz.f17, sig := ⟨[.ro (.arr .u8 8), .ro (.int .i64)], [(.own, false, tyB_), (.own, false, .int .i64)]⟩, loops := [], views := [], joins := [] }
def fd79 : FD := { id := 79, fn := Go.Proofs.Tryz.f79, sig := ⟨[.ro (.int .i64), .ro (.int .i64)], [(.own, false, .bool)]⟩, loops := [], views := [], joins := [] }
def in20042 : LoopInfo := ⟨20042, ⟨[.box .own (.st [.int .i64, .sl 1]), .row .ro (.int .i64)], [(1, .w (.c (.ptr 0))), (16, .w (.c (.sl 1))), (17, .w (.c (.int .i64))), (18, .w (.c (.int .i64)))]⟩, [(.exit 0, ⟨[], []⟩), (.ret, ⟨[], [(2, .w (.c (.bool)))]⟩)], []⟩
def fd52 : FD := { id := 52, fn := Go.Proofs.Tryz.f52, sig := ⟨[.ro (tyB_)], [(.own, false, .bool)]⟩, loops := [(4, in20042)], views := [], joins := [] }
def fd88 : FD := { id := 88, fn := Go.Proofs.Tryz.f88, sig := ⟨[.ro (.int .i64)], [(.own, false, .int .i64)]⟩, loops := [], views := [], joins := [] }
def fd81 : FD := { id := 81, fn := Go.Proofs.Tryz.f81, sig := ⟨[.ro (.int .i64), .ro (.int .i64), .ro (.int .i64)], []⟩, loops := [], views := [], joins := [] }
def in20043 : LoopInfo := ⟨20043, ⟨[.row .own (.int .i64), .row .ro (.int .i64)], [(1, .fn 81 []), (5, .w (.c (.sl 0))), (13, .w (.c (.sl 1))), (14, .w (.c (.int .i64))), (15, .w (.c (.int .i64)))]⟩, [(.exit 0, ⟨[.row .own (.int .i64)], [(5, .w (.c (.sl 0)))]⟩)], []⟩
def fd10000 : FD := { id := 80, fn := Go.Proofs.Tryz.f80, sig := ⟨[.ro (tyB_), .fn 81 []], [(.own, false, .slice (.int .i64))]⟩, loops := [(3, in20043)], views := [], joins := [] }
def in20044 : LoopInfo := ⟨20044, ⟨[.row .own (.int .i64), .row .own (.int .i64)], [(3, .w (.c (.sl 0))), (10, .w (.c (.sl 1))), (11, .w (.c (.int .i64))), (12, .w (.c (.int .i64)))]⟩, [(.exit 0, ⟨[.row .own (.int .i64)], [(3, .w (.c (.sl 0)))]⟩)], []⟩
def fd53 : FD := { id := 53, fn := Go.Proofs.Tryz.f53, sig := ⟨[.ro (tyB_)], [(.own, false, .slice (.int .i64))]⟩, loops := [(3, in20044)], views := [], joins := [] }
def fd18 : FD := { id := 18, fn := Go.Proofs.Tryz.f18, sig := ⟨[.ro (tyB_)], [(.own, false, .slice (.int .i64)), (.own, false, .int .i64)]⟩, loops := [], views := [], joins := [] }
def in20047 : LoopInfo := ⟨20047, ⟨[.box .own (.arr .i64 8), .row .own tyW_], [(1, .w (.c (.int .i64))), (5, .w (.c (.ptr 0))), (7, .w (.c (.sl 1))), (8, .w (.c (.int .i64)))]⟩, [(.exit 0, ⟨[.row .own tyW_], [(7, .w (.c (.sl 0)))]⟩)], []⟩
def in20048 : LoopInfo := ⟨20048, ⟨[.box .own (.arr .i64 8), .row .own tyW_, .row .own (.int .i64)], [(1, .w (.c (.int .i64))), (5, .w (.c (.ptr 0))), (7, .w (.c (.sl 1))), (8, .w (.c (.int .i64))), (9, .w (.c (.sl 2))), (10, .w (.c (.int .i64)))]⟩, [(.exit 2, ⟨[.box .own (.arr .i64 8), .row .own tyW_, .row .own (.int .i64)], [(1, .w (.c (.int .i64))), (5, .w (.c (.ptr 0))), (7, .w (.c (.sl 1))), (8, .w (.c (.int .i64))), (9, .w (.c (.sl 2)))]⟩)], []⟩
def fd56 : FD := { id := 56, fn := Go.Proofs.Tryz.f56, sig := ⟨[.ro (.arr .u8 8), .ro (.int .i64)], [(.own, false, .slice tyW_)]⟩, loops := [(4, in20047), (9, in20048)], views := [], joins := [], moves := [17, 46, 47] }
def fd19 : FD := { id := 19, fn := Go.Proofs.Tryz.f19, sig := ⟨[.ro (.slice (.int .u8))], [(.ro, false, .slice tyW_), (.own, false, .int .i64)]⟩, loops := [], views := [], joins := [] }
def in20049 : LoopInfo := ⟨20049, ⟨[.row .ro tyW_, .box .own (.arr .u8 8), .box .own (.arr .i64 8), .box .own (.barr 8)], [(0, .w (.c (.sl 0))), (1, .w (.c (.int .i64))), (4, .w (.c (.ptr 1))), (6, .w (.c (.ptr 2))), (7, .w (.c (.ptr 3))), (8, .w (.c (.int .i64)))]⟩, [(.exit 0, ⟨[.box .own (.arr .u8 8), .box .own (.arr .i64 8)], [(1, .w (.c (.int .i64))), (4, .w (.c (.ptr 0))), (6, .w (.c (.ptr 1)))]⟩), (.ret, ⟨[.box .own (.arr .u8 8)], [(4, .w (.c (.ptr 0))), (5, .w (.c (.int .i64)))]⟩)], []⟩
def in20050 : LoopInfo := ⟨20050, ⟨[.row .ro tyW_, .box .own (.arr .u8 8), .box .own (.arr .i64 8), .box .own (.barr 8)], [(0, .w (.c (.sl 0))), (1, .w (.c (.int .i64))), (4, .w (.c (.ptr 1))), (6, .w (.c (.ptr 2))), (7, .w (.c (.ptr 3))), (8, .w (.c (.int .i64))), (9, .w (.c (.int .i64)))]⟩, [(.exit 2, ⟨[.row .ro tyW_, .box .own (.arr .u8 8), .box .own (.arr .i64 8), .box .own (.barr 8)], [(0, .w (.c (.sl 0))), (1, .w (.c (.int .i64))), (4, .w (.c (.ptr 1))), (6, .w (.c (.ptr 2))), (7, .w (.c (.ptr 3))), (8, .w (.c (.int .i64)))]⟩), (.ret, ⟨[.box .own (.arr .u8 8)], [(4, .w (.c (.ptr 0))), (5, .w (.c (.int .i64)))]⟩)], []⟩
def fd20 : FD := { id := 20, fn := Go.Proofs.Tryz.f20, sig := ⟨[.ro (.slice tyW_), .ro (.int .i64)], [(.own, false, .arr .u8 8), (.own, false, .int .i64)]⟩, loops := [(5, in20049), (8, in20050)], views := [], joins := [] }
def fd62 : FD := { id := 62, fn := Go.Proofs.Tryz.f62, sig := ⟨[.boxr (.pair (.slice (.int .u8)) (.pair (.int .i64) (.int .u64))), .ro (.int .i64)], [(.own, false, .int .i64)]⟩, loops := [], views := [], joins := [] }
def fd21 : FD := { id := 21, fn := Go.Proofs.Tryz.f21, sig := ⟨[.ro (.slice (.int .u8))], [(.own, false, .int .i64)]⟩, loops := [], views := [], joins := [] }
def fd64 : FD := { id := 64, fn := Go.Proofs.Tryz.f64, sig := ⟨[.ro tyW_, .box tyF_], []⟩, loops := [], views := [], joins := [] }
def in20051 : LoopInfo := ⟨20051, ⟨[.row .own (.int .i64), .box .own (.c (.sl 2)), .row .own (.arr .u8 8)], [(0, .w (.c (.sl 0))), (1, .w (.c (.int .i64))), (2, .fn 64 [.c (.ptr 1)]), (15, .w (.c (.int .i64))), (16, .w (.c (.int .i64)))]⟩, [(.exit 0, ⟨[.row .own (.int .i64), .box .own (.c (.sl 2)), .row .own (.arr .u8 8)], [(0, .w (.c (.sl 0))), (2, .fn 64 [.c (.ptr 1)])]⟩)], []⟩
def fd10001 : FD := { id := 63, fn := Go.Proofs.Tryz.f63, sig := ⟨[.mut tyW_, .ro (.int .i64), .fn 64 [(.box, .slice (.arr .u8 8))]], []⟩, loops := [(3, in20051)], views := [], joins := [] }
def fd99 : FD := { id := 99, fn := Go.Proofs.Tryz.f99, sig := ⟨[.ro (.int .u8)], [(.own, false, .bool)]⟩, loops := [], views := [], joins := [] }
def fd84 : FD := { id := 84, fn := Go.Proofs.Tryz.f84, sig := ⟨[.ro (.int .u8), .ro (.int .u8)], [(.own, false, .int .i64)]⟩, loops := [], views := [], joins := [] }
def in20052 : LoopInfo := ⟨20052, ⟨[.row .ro (.int .u8), .row .ro (.int .u8)], [(0, .w (.c (.sl 0))), (1, .w (.c (.sl 1))), (9, .w (.c (.sl 0))), (10, .w (.c (.int .i64))), (11, .w (.c (.int .i64)))]⟩, [(.exit 0, ⟨[.row .ro (.int .u8), .row .ro (.int .u8)], [(0, .w (.c (.sl 0))), (1, .w (.c (.sl 1)))]⟩), (.ret, ⟨[], [(4, .w (.c (.int .i64)))]⟩)], []⟩
def fd67 : FD := { id := 67, fn := Go.Proofs.Tryz.f67, sig := ⟨[.ro (.slice (.int .u8)), .ro (.slice (.int .u8))], [(.own, false, .int .i64)]⟩, loops := [(2, in20052)], views := [], joins := [] }
def fd66 : FD := { id := 66, fn := Go.Proofs.Tryz.f66, sig := ⟨[.ro (.arr .u8 8), .ro (.arr .u8 8)], [(.own, false, .int .i64)]⟩, loops := [], views := [], joins := [] }
def fd10002 : FD := { id := 65, fn := Go.Proofs.Tryz.f65, sig := ⟨[.mut tyF_, .fn 66 []], []⟩, loops := [], views := [], joins := [] }
def fd22 : FD := { id := 22, fn := Go.Proofs.Tryz.f22, sig := ⟨[.ro (.int .i64)], [(.own, false, .slice (.arr .u8 8)), (.own, false, .int .i64)]⟩, loops := [], views := [], joins := [] }
def in20054 : LoopInfo := ⟨20054, ⟨[.box .own (.arr .u8 8), .box .own (.arr .u8 8)], [(2, .w (.c (.ptr 0))), (3, .w (.c (.ptr 1))), (5, .w (.c (.int .i64)))]⟩, [(.exit 0, ⟨[], []⟩), (.ret, ⟨[], [(4, .w (.c (.bool)))]⟩)], []⟩
def fd85 : FD := { id := 85, fn := Go.Proofs.Tryz.f85, sig := ⟨[.ro (.arr .u8 8), .ro (.arr .u8 8)], [(.own, false, .bool)]⟩, loops := [(2, in20054)], views := [], joins := [] }
def in20053 : LoopInfo := ⟨20053, ⟨[.row .ro (.arr .u8 8), .box .own (.arr .u8 8)], [(3, .w (.c (.sl 0))), (9, .w (.c (.ptr 1))), (10, .w (.c (.int .i64)))]⟩, [(.exit 0, ⟨[.row .ro (.arr .u8 8), .box .own (.arr .u8 8)], [(3, .w (.c (.sl 0))), (9, .w (.c (.ptr 1))), (10, .w (.c (.int .i64)))]⟩)], []⟩
def in20055 : LoopInfo := ⟨20055, ⟨[.row .ro (.arr .u8 8), .box .own (.arr .i64 8)], [(1, .w (.c (.int .i64))), (2, .w (.c (.int .i64))), (3, .w (.c (.sl 0))), (4, .w (.c (.ptr 1))), (12, .w (.c (.int .i64)))]⟩, [(.exit 2, ⟨[.row .ro (.arr .u8 8)], [(3, .w (.c (.sl 0)))]⟩)], []⟩
def fd68 : FD := { id := 68, fn := Go.Proofs.Tryz.f68, sig := ⟨[.ro (.arr .i64 8), .ro (.int .i64), .ro (.int .i64), .ro tyF_], [(.ro, false, .slice (.arr .u8 8))]⟩, loops := [(5, in20053), (10, in20055)], views := [], joins := [] }
def fd23 : FD := { id := 23, fn := Go.Proofs.Tryz.f23, sig := ⟨[.ro (.int .i64)], [(.ro, false, .slice (.arr .u8 8)), (.own, false, .int .i64)]⟩, loops := [], views := [], joins := [] }
def fd24 : FD := { id := 24, fn := Go.Proofs.Tryz.f24, sig := ⟨[.ro (.slice (.int .u8))], [(.own, false, .int .i64), (.own, false, .int .i64), (.own, false, .int .i64)]⟩, loops := [], views := [], joins := [] }
def fd25 : FD := { id := 25, fn := Go.Proofs.Tryz.f25, sig := ⟨[.ro (.int .i64), .ro (.int .i64), .ro (.int .i64)], [(.own, false, tyB_), (.own, false, .int .i64)]⟩, loops := [], views := [], joins := [] }
def in20057 : LoopInfo := ⟨20057, ⟨[.row .own (.int .i64)], [(0, .w (.c (.int .i64))), (1, .w (.c (.int .i64))), (5, .w (.c (.sl 0))), (6, .w (.c (.int .i64)))]⟩, [(.exit 0, ⟨[.row .own (.int .i64)], [(0, .w (.c (.int .i64))), (1, .w (.c (.int .i64))), (5, .w (.c (.sl 0)))]⟩)], []⟩
def in20058 : LoopInfo := ⟨20058, ⟨[.row .own (.int .i64)], [(0, .w (.c (.int .i64))), (5, .w (.c (.sl 0))), (7, .w (.c (.int .i64)))]⟩, [(.exit 2, ⟨[.row .own (.int .i64)], [(5, .w (.c (.sl 0)))]⟩)], []⟩
def fd70 : FD := { id := 70, fn := Go.Proofs.Tryz.f70, sig := ⟨[.ro (.int .i64), .ro (.int .i64)], [(.own, false, .slice (.int .i64))]⟩, loops := [(3, in20057), (8, in20058)], views := [], joins := [] }
def fd26 : FD := { id := 26, fn := Go.Proofs.Tryz.f26, sig := ⟨[.ro (.int .i64), .ro (.int .i64), .ro (.int .i64)], [(.own, false, tyB_), (.own, false, .int .i64)]⟩, loops := [], views := [], joins := [] }
def fd27 : FD := { id := 27, fn := Go.Proofs.Tryz.f27, sig := ⟨[.ro (.slice (.int .u8))], [(.own, false, .arr .u8 8), (.own, false, .int .i64)]⟩, loops := [], views := [], joins := [] }
def fd28 : FD := { id := 28, fn := Go.Proofs.Tryz.f28, sig := ⟨[.ro (.arr .u8 8), .ro (.int .i64)], [(.own, false, .int .i64), (.own, false, .int .i64)]⟩, loops := [], views := [], joins := [] }
def fd29 : FD := { id := 29, fn := Go.Proofs.Tryz.f29, sig := ⟨[.ro (.arr .u8 8), .ro (.int .i64)], [(.own, false, .arr .u8 8), (.own, false, .int .i64)]⟩, loops := [], views := [], joins := [] }
def in20059 : LoopInfo := ⟨20059, ⟨[.box .own (.arr .u8 8), .box .own (.arr .u8 8), .box .own (.arr .u8 8)], [(1, .w (.c (.int .i64))), (2, .w (.c (.int .i64))), (3, .w (.c (.ptr 0))), (6, .w (.c (.ptr 1))), (7, .w (.c (.ptr 2))), (8, .w (.c (.int .i64)))]⟩, [(.exit 0, ⟨[.box .own (.arr .u8 8), .box .own (.arr .u8 8)], [(6, .w (.c (.ptr 0))), (7, .w (.c (.ptr 1)))]⟩)], []⟩
def fd72 : FD := { id := 72, fn := Go.Proofs.Tryz.f72, sig := ⟨[.ro (.arr .u8 8), .ro (.int .i64), .ro (.int .i64)], [(.own, false, .arr .u8 8)]⟩, loops := [(3, in20059)], views := [], joins := [] }
def fd30 : FD := { id := 30, fn := Go.Proofs.Tryz.f30, sig := ⟨[.ro (.arr .u8 8), .ro (.int .i64)], [(.own, false, .arr .u8 8), (.own, false, .int .i64)]⟩, loops := [], views := [], joins := [] }
def in20060 : LoopInfo := ⟨20060, ⟨[.row .ro (.int .i64), .row .ro (.int .i64)], [(0, .w (.c (.sl 0))), (1, .w (.c (.sl 1))), (5, .w (.c (.int .i64)))]⟩, [(.exit 0, ⟨[], []⟩), (.ret, ⟨[], [(4, .w (.c (.bool)))]⟩)], []⟩
def fd73 : FD := { id := 73, fn := Go.Proofs.Tryz.f73, sig := ⟨[.ro tyW_, .ro tyW_], [(.own, false, .bool)]⟩, loops := [(4, in20060)], views := [], joins := [] }
def fd31 : FD := { id := 31, fn := Go.Proofs.Tryz.f31, sig := ⟨[.ro (tyB_), .ro (tyB_)], [(.own, false, .bool)]⟩, loops := [], views := [], joins := [] }
def in20045 : LoopInfo := ⟨20045, ⟨[.row .ro (.int .u8), .box .own (.arr .u8 8), .row .own (.int .i64)], [(0, .w (.c (.sl 0))), (3, .w (.c (.ptr 1))), (5, .w (.c (.int .i64))), (36, .w (.c (.sl 2))), (38, .w (.c (.int .i64)))]⟩, [(.exit 0, ⟨[.row .ro (.int .u8)], [(0, .w (.c (.sl 0)))]⟩), (.ret, ⟨[], [(2, .w (.c (.bool)))]⟩)], []⟩
def in20056 : LoopInfo := ⟨20056, ⟨[.row .ro (.int .u8), .row .own (.arr .u8 8), .row .ro (.arr .u8 8)], [(0, .w (.c (.sl 0))), (46, .w (.c (.sl 1))), (48, .w (.c (.sl 2))), (50, .w (.c (.int .i64)))]⟩, [(.exit 2, ⟨[.row .ro (.int .u8)], [(0, .w (.c (.sl 0)))]⟩), (.ret, ⟨[], [(2, .w (.c (.bool)))]⟩)], []⟩
def in20046 : LoopInfo := ⟨20046, ⟨[.row .ro (.int .u8)], [(0, .w (.c (.sl 0)))]⟩, [(.ret, ⟨[], [(2, .w (.c (.bool)))]⟩)], []⟩
def fd3 : FD := { id := 3, fn := Go.Proofs.Tryz.f3, sig := ⟨[.ro (.slice (.int .u8))], [(.own, false, .bool)]⟩, loops := [(28, in20045), (41, in20056)], views := [], joins := [(32, in20046)] }
def fdTab : List (Nat × FD) := [(4, fd4), (54, fd54), (55, fd55), (58, fd58), (60, fd60), (61, fd61), (57, fd57), (71, fd71), (32, fd32), (5, fd5), (50, fd50), (44, fd44), (78, fd78), (49, fd49), (37, fd37), (39, fd39), (36, fd36), (38, fd38), (10, fd10), (33, fd33), (6, fd6), (59, fd59), (74, fd74), (45, fd45), (34, fd34), (35, fd35), (7, fd7), (8, fd8), (43, fd43), (42, fd42), (41, fd41), (40, fd40), (9, fd9), (11, fd11), (87, fd87), (76, fd76), (77, fd77), (86, fd86), (75, fd75), (46, fd46), (12, fd12), (47, fd47), (13, fd13), (48, fd48), (14, fd14), (15, fd15), (16, fd16), (69, fd69), (51, fd51), (17, fd17), (79, fd79), (52, fd52), (88, fd88), (81, fd81), (10000, fd10000), (53, fd53), (18, fd18), (56, fd56), (19, fd19), (20, fd20), (62, fd62), (21, fd21), (64, fd64), (10001, fd10001), (99, fd99), (84, fd84), (67, fd67), (66, fd66), (10002, fd10002), (22, fd22), (85, fd85), (68, fd68), (23, fd23), (24, fd24), (25, fd25), (70, fd70), (26, fd26), (27, fd27), (28, fd28), (29, fd29), (72, fd72), (30, fd30), (73, fd73), (31, fd31), (3, fd3)]
def ldTab : List (Nat × LD) := [(20000, ⟨54, 3, in20000, false⟩), (20003, ⟨60, 2, in20003, false⟩), (20004, ⟨60, 5, in20004, false⟩), (20005, ⟨60, 8, in20005, false⟩), (20006, ⟨60, 11, in20006, false⟩), (20007, ⟨61, 3, in20007, false⟩), (20008, ⟨61, 7, in20008, false⟩), (20001, ⟨57, 3, in20001, false⟩), (20002, ⟨57, 8, in20002, false⟩), (20009, ⟨78, 3, in20009, false⟩), (20011, ⟨37, 2, in20011, false⟩), (20012, ⟨39, 3, in20012, false⟩), (20013, ⟨39, 7, in20013, false⟩), (20010, ⟨36, 3, in20010, false⟩), (20014, ⟨38, 3, in20014, false⟩), (20015, ⟨38, 6, in20015, false⟩), (20016, ⟨38, 9, in20016, false⟩), (20017, ⟨38, 12, in20017, false⟩), (20018, ⟨33, 5, in20018, false⟩), (20019, ⟨33, 8, in20019, false⟩), (20020, ⟨74, 3, in20020, false⟩), (20021, ⟨74, 11, in20021, false⟩), (20022, ⟨74, 14, in20022, false⟩), (20023, ⟨35, 5, in20023, false⟩), (20024, ⟨35, 8, in20024, false⟩), (20025, ⟨8, 5, in20025, false⟩), (20026, ⟨8, 9, in20026, false⟩), (20027, ⟨43, 3, in20027, false⟩), (20028, ⟨42, 3, in20028, false⟩), (20029, ⟨41, 3, in20029, false⟩), (20030, ⟨87, 3, in20030, false⟩), (20031, ⟨77, 3, in20031, false⟩), (20032, ⟨86, 3, in20032, false⟩), (20033, ⟨47, 4, in20033, false⟩), (20034, ⟨47, 9, in20034, false⟩), (20035, ⟨48, 4, in20035, false⟩), (20036, ⟨16, 5, in20036, false⟩), (20037, ⟨16, 10, in20037, false⟩), (20040, ⟨69, 3, in20040, false⟩), (20041, ⟨69, 7, in20041, false⟩), (20038, ⟨51, 3, in20038, false⟩), (20039, ⟨51, 6, in20039, false⟩), (20042, ⟨52, 4, in20042, false⟩), (20043, ⟨10000, 3, in20043, false⟩), (20044, ⟨53, 3, in20044, false⟩), (20047, ⟨56, 4, in20047, false⟩), (20048, ⟨56, 9, in20048, false⟩), (20049, ⟨20, 5, in20049, false⟩), (20050, ⟨20, 8, in20050, false⟩), (20051, ⟨10001, 3, in20051, false⟩), (20052, ⟨67, 2, in20052, false⟩), (20054, ⟨85, 2, in20054, false⟩), (20053, ⟨68, 5, in20053, false⟩), (20055, ⟨68, 10, in20055, false⟩), (20057, ⟨70, 3, in20057, false⟩), (20058, ⟨70, 8, in20058, false⟩), (20059, ⟨72, 3, in20059, false⟩), (20060, ⟨73, 4, in20060, false⟩), (20045, ⟨3, 28, in20045, false⟩), (20056, ⟨3, 41, in20056, false⟩), (20046, ⟨3, 32, in20046, true⟩)]
def extTab : List (Nat × ExtK) := [(19, .dpb 54 55 57 56 58), (10002, .sort 66 (.arr .u8 8))]
def pickTab : List ((FuncId × List FuncId) × Nat) := [((80, [81]), 10000), ((63, [64]), 10001), ((65, [66]), 10002)]
def pick (f : FuncId) : List FuncId → Nat
  | [] => f
  | l => (pickTab.lookup (f, l)).getD 0
def E : Env := ⟨[9, 10, 11], fun T => tyTab.lookup T, pick, fun f => fdTab.lookup f, fun f => ldTab.lookup f, fun f => extTab.lookup f⟩
def R : Oracle := ev E
theorem go_ {f : Nat} {l : List TV} {b : Oracle → Option (List TV)} (e : ∀ c, run1 E c f l = b c) {o : List TV} (h : b R = some o) : R f l = some o := zSN ((e R).trans h)
theorem R_ev (f : Nat) (l : List TV) : R f l = ev E f l := rfl
def zPN : Nat := 4
def jh : Nat := 54
def zB4 : Nat := 20000
def zJ : Nat := 55
def zl : Nat := 58
def zu : Nat := 60
def kO : Nat := 20003
def kN : Nat := 20004
def kM : Nat := 20005
def zU : Nat := 20006
def je : Nat := 61
def zAp : Nat := 20007
def jd : Nat := 20008
def zAL : Nat := 57
def zAr : Nat := 20001
def zAq : Nat := 20002
def zCp : Nat := 71
def zF0 : Nat := 32
def jq : Nat := 5
def jv : Nat := 50
def zBU : Nat := 44
def zAs : Nat := 78
def jI : Nat := 20009
def kt : Nat := 49
def i_i_groups__merge : Nat := 37
def i_i_groups__merge_2 : Nat := 20011
def i_i_groups__part : Nat := 39
def i_i_groups__part_3 : Nat := 20012
def i_i_groups__part_7 : Nat := 20013
def kg : Nat := 36
def zq : Nat := 20010
def i_i_groups__crossing : Nat := 38
def i_i_groups__crossing_3 : Nat := 20014
def i_i_groups__crossing_6 : Nat := 20015
def i_i_groups__crossing_9 : Nat := 20016
def i_i_groups__crossing_12 : Nat := 20017
def zj : Nat := 10
def zB5 : Nat := 33
def zAc : Nat := 20018
def kS : Nat := 20019
def kT : Nat := 6
def zBB : Nat := 59
def kf : Nat := 74
def zR : Nat := 20020
def kR : Nat := 20021
def zW : Nat := 20022
def zBA : Nat := 45
def zCV : Nat := 34
def zBT : Nat := 35
def zB0 : Nat := 20023
def ke : Nat := 20024
def zAa : Nat := 7
def jJ : Nat := 8
def kP : Nat := 20025
def zS : Nat := 20026
def zCX : Nat := 43
def zB3 : Nat := 20027
def zCo : Nat := 42
def zA9 : Nat := 20028
def zCW : Nat := 41
def zBz : Nat := 20029
def za : Nat := 40
def jH : Nat := 9
def zHn : Nat := 11
def zHr : Nat := 87
def zCy : Nat := 20030
def zEb : Nat := 76
def zDd : Nat := 77
def zAb : Nat := 20031
def zLz : Nat := 86
def zFM : Nat := 20032
def zEY : Nat := 75
def zAM : Nat := 46
def zk : Nat := 12
def zAN : Nat := 47
def jx : Nat := 20033
def jw : Nat := 20034
def zBg : Nat := 13
def zEX : Nat := 48
def zBD : Nat := 20035
def kw : Nat := 14
def zBh : Nat := 15
def jy : Nat := 16
def kx : Nat := 20036
def zr : Nat := 20037
def zJu : Nat := 69
def zFO : Nat := 20040
def zFN : Nat := 20041
def zCv : Nat := 51
def ju : Nat := 20038
def jt : Nat := 20039
def zCz : Nat := 17
def zEZ : Nat := 79
def zDt : Nat := 52
def zB6 : Nat := 20042
def zL0 : Nat := 88
def zEa : Nat := 81
def zHp : Nat := 10000
def zCw : Nat := 20043
def zHq : Nat := 53
def zCx : Nat := 20044
def zHs : Nat := 18
def jf : Nat := 56
def jG : Nat := 20047
def jF : Nat := 20048
def jX : Nat := 19
def zBe : Nat := 20
def kq : Nat := 20049
def zw : Nat := 20050
def zDr : Nat := 62
def zBf : Nat := 21
def zC1 : Nat := 64
def ku : Nat := 10001
def zx : Nat := 20051
def icmp_isNaN_byte_ : Nat := 99
def icmp_Compare_byte_ : Nat := 84
def kH : Nat := 67
def zX : Nat := 20052
def zC0 : Nat := 66
def zc : Nat := 10002
def zC2 : Nat := 22
def zDc : Nat := 85
def zAZ : Nat := 20054
def zCY : Nat := 68
def zCq : Nat := 20053
def jg : Nat := 20055
def zCt : Nat := 23
def zCs : Nat := 24
def zHt : Nat := 25
def zF1 : Nat := 70
def zB2 : Nat := 20057
def zB1 : Nat := 20058
def zHo : Nat := 26
def zCr : Nat := 27
def zHm : Nat := 28
def jY : Nat := 29
def zFz : Nat := 72
def zBy : Nat := 20059
def zBC : Nat := 30
def zEV : Nat := 73
def zA6 : Nat := 20060
def zHl : Nat := 31
def iw_FnParts : Nat := 3
def zA8 : Nat := 20045
def zA7 : Nat := 20056
def zAY : Nat := 20046
end
end Go.Ev.YtknhngnhjdpedaaGreat
