/- What the evaluator knows of this program. -/
import Derived.Test.YtmdkgikjnaijeaaGreatProg
import Derived.Test.YtmdkgikjnaijeaaGreatV1
namespace Go.Ev.YtmdkgikjnaijeaaGreat
open Go.Ev
noncomputable section
abbrev tyN_ : Ty := .pair (.int .i64) (.pair (.int .i64) (.slice (.arr .u8 8)))
abbrev tyB_ : Ty := .pair (.int .i64) (.slice (.int .i64))
abbrev tyF_ : Ty := .slice (.arr .u8 8)
abbrev tyW_ : Ty := .slice (.int .i64)
@[reducible] def tA8 (x : List Int) : TV := ⟨.arr .u8 8, x⟩
@[reducible] def gA8 (l : List TV) (i : Nat) : List Int := getTV (.arr .u8 8) l i
@[reducible] def tAB8 (x : List Bool) : TV := ⟨.barr 8, x⟩
@[reducible] def gAB8 (l : List TV) (i : Nat) : List Bool := getTV (.barr 8) l i
@[reducible] def tB (x : Bool) : TV := ⟨.bool, x⟩
@[reducible] def gB (l : List TV) (i : Nat) : Bool := getTV (.bool) l i
@[reducible] def tI (x : Int) : TV := ⟨.int .i64, x⟩
@[reducible] def gI (l : List TV) (i : Nat) : Int := getTV (.int .i64) l i
@[reducible] def tLA8 (x : List (List Int)) : TV := ⟨.slice (.arr .u8 8), x⟩
@[reducible] def gLA8 (l : List TV) (i : Nat) : List (List Int) := getTV (.slice (.arr .u8 8)) l i
@[reducible] def tLI (x : List Int) : TV := ⟨.slice (.int .i64), x⟩
@[reducible] def gLI (l : List TV) (i : Nat) : List Int := getTV (.slice (.int .i64)) l i
@[reducible] def zB (x : List (Int × Int × List (List Int))) : TV := ⟨.slice (.pair (.int .i64) (.pair (.int .i64) (.slice (.arr .u8 8)))), x⟩
@[reducible] def zG (l : List TV) (i : Nat) : List (Int × Int × List (List Int)) := getTV (.slice (.pair (.int .i64) (.pair (.int .i64) (.slice (.arr .u8 8))))) l i
@[reducible] def tLU8 (x : List Int) : TV := ⟨.slice (.int .u8), x⟩
@[reducible] def gLU8 (l : List TV) (i : Nat) : List Int := getTV (.slice (.int .u8)) l i
@[reducible] def zA (x : Int × Int × List (List Int)) : TV := ⟨.pair (.int .i64) (.pair (.int .i64) (.slice (.arr .u8 8))), x⟩
@[reducible] def zD (l : List TV) (i : Nat) : Int × Int × List (List Int) := getTV (.pair (.int .i64) (.pair (.int .i64) (.slice (.arr .u8 8)))) l i
@[reducible] def tU64 (x : Int) : TV := ⟨.int .u64, x⟩
@[reducible] def gU64 (l : List TV) (i : Nat) : Int := getTV (.int .u64) l i
@[reducible] def tU8 (x : Int) : TV := ⟨.int .u8, x⟩
@[reducible] def gU8 (l : List TV) (i : Nat) : Int := getTV (.int .u8) l i
def tyTab : List (Nat × Ty) := [(2, .int .i64), (3, .int .i64), (4, .bool), (5, .int .u8), (6, .int .u8), (7, .pair (.int .i64) (.pair (.int .i64) (.pair (.bool) (.int .u8)))), (8, .pair (.int .i64) (.pair (.int .i64) (.pair (.bool) (.int .u8)))), (12, .int .u64), (21, .int .i32), (22, .slice (.arr .u8 8)), (23, .pair (.int .i64) (.pair (.int .i64) (.slice (.arr .u8 8)))), (24, .pair (.int .i64) (.pair (.int .i64) (.slice (.arr .u8 8)))), (26, .slice (.pair (.int .i64) (.pair (.int .i64) (.slice (.arr .u8 8))))), (29, .slice (.arr .u8 8)), (30, .pair (.int .i64) (.pair (.int .i64) (.slice (.arr .u8 8)))), (31, .pair (.int .i64) (.pair (.int .i64) (.slice (.arr .u8 8)))), (51, .arr .u8 8), (52, .arr .u8 8), (75, .barr 8), (76, .slice (.int .i64)), (84, .int .u64), (92, .int .i64), (100, .int .u32), (102, .int .u64), (104, .slice (.int .u8)), (107, .int .u64), (125, .int .u8), (126, .int .u8), (129, .int .i32), (130, .int .i32)]
def fd13 : FD := { id := 13, fn := Go.Proofs.Tryz.f13, sig := ⟨[.ro tyF_, .ro (.int .i64)], [(.own, false, .int .i64)]⟩, loops := [], views := [], joins := [] }
def fd4 : FD := { id := 4, fn := Go.Proofs.Tryz.f4, sig := ⟨[.ro (tyN_), .ro (.int .i64)], [(.own, false, .int .i64)]⟩, loops := [], views := [], joins := [] }
def in20001 : LoopInfo := ⟨20001, ⟨[.box .own (.arr .u8 8), .box .own (.arr .u8 8), .box .own (.arr .u8 8)], [(1, .w (.c (.ptr 0))), (2, .w (.c (.ptr 1))), (3, .w (.c (.ptr 2))), (4, .w (.c (.int .i64)))]⟩, [(.exit 0, ⟨[.box .own (.arr .u8 8), .box .own (.arr .u8 8)], [(2, .w (.c (.ptr 0))), (3, .w (.c (.ptr 1)))]⟩)], []⟩
def fd30 : FD := { id := 30, fn := Go.Proofs.Tryz.f30, sig := ⟨[.ro (.arr .u8 8)], [(.own, false, .arr .u8 8)]⟩, loops := [(3, in20001)], views := [], joins := [] }
def in20000 : LoopInfo := ⟨20000, ⟨[.row .ro (.arr .u8 8), .row .own (.arr .u8 8)], [(0, .w (.c (.sl 0))), (3, .w (.c (.sl 1))), (4, .w (.c (.int .i64)))]⟩, [(.exit 0, ⟨[.row .own (.arr .u8 8)], [(3, .w (.c (.sl 0)))]⟩)], []⟩
def fd17 : FD := { id := 17, fn := Go.Proofs.Tryz.f17, sig := ⟨[.ro tyF_], [(.own, false, .slice (.arr .u8 8))]⟩, loops := [(3, in20000)], views := [], joins := [] }
def fd6 : FD := { id := 6, fn := Go.Proofs.Tryz.f6, sig := ⟨[.ro (tyN_)], [(.own, false, tyN_)]⟩, loops := [], views := [], joins := [] }
def fd46 : FD := { id := 46, fn := Go.Proofs.Tryz.f46, sig := ⟨[.ro (.int .i64), .ro (.int .i64), .ro (.int .i64)], [(.own, false, .bool)]⟩, loops := [], views := [], joins := [] }
def in20003 : LoopInfo := ⟨20003, ⟨[.box .own (.arr .u8 8), .box .own (.barr 8)], [(1, .w (.c (.int .i64))), (2, .w (.c (.ptr 0))), (5, .w (.c (.ptr 1))), (6, .w (.c (.int .i64)))]⟩, [(.exit 0, ⟨[], []⟩), (.ret, ⟨[], [(4, .w (.c (.bool)))]⟩)], []⟩
def fd66 : FD := { id := 66, fn := Go.Proofs.Tryz.f66, sig := ⟨[.ro (.arr .u8 8), .ro (.int .i64)], [(.own, false, .bool)]⟩, loops := [(5, in20003)], views := [], joins := [] }
def in20004 : LoopInfo := ⟨20004, ⟨[.box .own (.arr .u8 8), .box .own (.arr .u8 8)], [(0, .w (.c (.int .i64))), (2, .w (.c (.ptr 0))), (3, .w (.c (.ptr 1))), (4, .w (.c (.int .i64)))]⟩, [(.exit 0, ⟨[.box .own (.arr .u8 8), .box .own (.arr .u8 8)], [(2, .w (.c (.ptr 0))), (3, .w (.c (.ptr 1)))]⟩)], []⟩
def fd43 : FD := { id := 43, fn := Go.Proofs.Tryz.f43, sig := ⟨[.ro (.int .i64)], [(.own, false, .arr .u8 8)]⟩, loops := [(3, in20004)], views := [], joins := [] }
def in20005 : LoopInfo := ⟨20005, ⟨[.box .own (.arr .u8 8), .box .own (.arr .u8 8)], [(0, .w (.c (.int .i64))), (2, .w (.c (.ptr 0))), (3, .w (.c (.ptr 1))), (4, .w (.c (.int .i64)))]⟩, [(.exit 0, ⟨[.box .own (.arr .u8 8), .box .own (.arr .u8 8)], [(2, .w (.c (.ptr 0))), (3, .w (.c (.ptr 1)))]⟩)], []⟩
def fd48 : FD := { id := 48, fn := Go.Proofs.Tryz.f48, sig := ⟨[.ro (.int .i64)], [(.own, false, .arr .u8 8)]⟩, loops := [(3, in20005)], views := [], joins := [] }
def in20006 : LoopInfo := ⟨20006, ⟨[.box .own (.arr .u8 8), .box .own (.arr .u8 8), .box .own (.arr .u8 8)], [(1, .w (.c (.int .i64))), (2, .w (.c (.ptr 0))), (4, .w (.c (.ptr 1))), (5, .w (.c (.ptr 2))), (6, .w (.c (.int .i64)))]⟩, [(.exit 0, ⟨[.box .own (.arr .u8 8), .box .own (.arr .u8 8)], [(4, .w (.c (.ptr 0))), (5, .w (.c (.ptr 1)))]⟩)], []⟩
def fd75 : FD := { id := 75, fn := Go.Proofs.Tryz.f75, sig := ⟨[.ro (.arr .u8 8), .ro (.int .i64)], [(.own, false, .arr .u8 8)]⟩, loops := [(3, in20006)], views := [], joins := [] }
def in20007 : LoopInfo := ⟨20007, ⟨[.box .own (.arr .u8 8), .box .own (.arr .u8 8)], [(2, .w (.c (.int .i64))), (4, .w (.c (.ptr 0))), (7, .w (.c (.ptr 1))), (8, .w (.c (.int .i64)))]⟩, [(.exit 0, ⟨[], []⟩), (.ret, ⟨[], [(6, .w (.c (.bool)))]⟩)], []⟩
def fd67 : FD := { id := 67, fn := Go.Proofs.Tryz.f67, sig := ⟨[.ro (.arr .u8 8), .ro (.arr .u8 8), .ro (.int .i64)], [(.own, false, .bool)]⟩, loops := [(3, in20007)], views := [], joins := [] }
def in20002 : LoopInfo := ⟨20002, ⟨[.box .own (.st [.int .i64, .int .i64, .sl 1]), .row .ro (.arr .u8 8)], [(1, .w (.c (.ptr 0))), (3, .w (.c (.int .i64))), (4, .w (.c (.int .i64)))]⟩, [(.exit 0, ⟨[], []⟩), (.ret, ⟨[], [(2, .w (.c (.bool)))]⟩)], []⟩
def fd40 : FD := { id := 40, fn := Go.Proofs.Tryz.f40, sig := ⟨[.ro (tyN_)], [(.own, false, .bool)]⟩, loops := [(5, in20002)], views := [], joins := [] }
def fd25 : FD := { id := 25, fn := Go.Proofs.Tryz.f25, sig := ⟨[.ro (tyN_)], [(.own, false, .int .i64)]⟩, loops := [], views := [], joins := [] }
def in20010 : LoopInfo := ⟨20010, ⟨[.box .own (.arr .u8 8), .box .own (.arr .u8 8), .box .own (.arr .u8 8), .box .own (.arr .u8 8)], [(2, .w (.c (.int .i64))), (3, .w (.c (.ptr 0))), (4, .w (.c (.ptr 1))), (6, .w (.c (.ptr 2))), (7, .w (.c (.ptr 3))), (8, .w (.c (.int .i64)))]⟩, [(.exit 0, ⟨[.box .own (.arr .u8 8), .box .own (.arr .u8 8)], [(6, .w (.c (.ptr 0))), (7, .w (.c (.ptr 1)))]⟩)], []⟩
def fd74 : FD := { id := 74, fn := Go.Proofs.Tryz.f74, sig := ⟨[.ro (.arr .u8 8), .ro (.arr .u8 8), .ro (.int .i64)], [(.own, false, .arr .u8 8)]⟩, loops := [(3, in20010)], views := [], joins := [] }
def fd49 : FD := { id := 49, fn := Go.Proofs.Tryz.f49, sig := ⟨[.ro (.arr .u8 8), .ro (.int .i64)], [(.own, false, .arr .u8 8)]⟩, loops := [], views := [], joins := [] }
def fd29 : FD := { id := 29, fn := Go.Proofs.Tryz.f29, sig := ⟨[.ro (tyN_)], [(.own, false, .arr .u8 8)]⟩, loops := [], views := [], joins := [] }
def fd73 : FD := { id := 73, fn := Go.Proofs.Tryz.f73, sig := ⟨[.ro (.arr .u8 8), .ro (.int .i64)], [(.own, false, .arr .u8 8)]⟩, loops := [], views := [], joins := [] }
def fd97 : FD := { id := 97, fn := Go.Proofs.Tryz.f97, sig := ⟨[.ro (.int .i64), .ro (.int .i64)], [(.own, false, .arr .u8 8)]⟩, loops := [], views := [], joins := [] }
def in20013 : LoopInfo := ⟨20013, ⟨[.box .own (.arr .u8 8), .box .own (.arr .u8 8), .box .own (.arr .u8 8), .box .own (.arr .u8 8)], [(2, .w (.c (.int .i64))), (3, .w (.c (.ptr 0))), (4, .w (.c (.ptr 1))), (6, .w (.c (.ptr 2))), (7, .w (.c (.ptr 3))), (8, .w (.c (.int .i64)))]⟩, [(.exit 0, ⟨[.box .own (.arr .u8 8), .box .own (.arr .u8 8)], [(6, .w (.c (.ptr 0))), (7, .w (.c (.ptr 1)))]⟩)], []⟩
def fd72 : FD := { id := 72, fn := Go.Proofs.Tryz.f72, sig := ⟨[.ro (.arr .u8 8), .ro (.arr .u8 8), .ro (.int .i64)], [(.own, false, .arr .u8 8)]⟩, loops := [(3, in20013)], views := [], joins := [] }
def in20011 : LoopInfo := ⟨20011, ⟨[.row .own (.arr .u8 8)], [(1, .w (.c (.int .i64))), (5, .w (.c (.sl 0))), (6, .w (.c (.bool)))]⟩, [(.exit 0, ⟨[.row .own (.arr .u8 8)], [(5, .w (.c (.sl 0)))]⟩)], []⟩
def in20012 : LoopInfo := ⟨20012, ⟨[.row .own (.arr .u8 8)], [(1, .w (.c (.int .i64))), (5, .w (.c (.sl 0))), (6, .w (.c (.bool))), (7, .w (.c (.int .i64)))]⟩, [(.exit 2, ⟨[.row .own (.arr .u8 8)], [(1, .w (.c (.int .i64))), (5, .w (.c (.sl 0))), (6, .w (.c (.bool)))]⟩)], []⟩
def fd47 : FD := { id := 47, fn := Go.Proofs.Tryz.f47, sig := ⟨[.ro tyF_, .ro (.int .i64)], [(.own, false, .slice (.arr .u8 8))]⟩, loops := [(3, in20011), (6, in20012)], views := [], joins := [] }
def in20014 : LoopInfo := ⟨20014, ⟨[.row .own (.arr .u8 8), .box .own (.st [.int .i64, .int .i64, .sl 2]), .row .own (.arr .u8 8)], [(0, .w (.c (.int .i64))), (1, .w (.c (.int .i64))), (2, .w (.c (.sl 0))), (6, .w (.c (.ptr 1))), (7, .w (.c (.int .i64))), (8, .w (.c (.int .i64)))]⟩, [(.exit 0, ⟨[.row .own (.arr .u8 8), .box .own (.st [.int .i64, .int .i64, .sl 2]), .row .own (.arr .u8 8)], [(0, .w (.c (.int .i64))), (1, .w (.c (.int .i64))), (2, .w (.c (.sl 0))), (6, .w (.c (.ptr 1))), (7, .w (.c (.int .i64))), (8, .w (.c (.int .i64)))]⟩)], []⟩
def in20015 : LoopInfo := ⟨20015, ⟨[.row .own (.arr .u8 8), .box .own (.st [.int .i64, .int .i64, .sl 2]), .row .own (.arr .u8 8)], [(0, .w (.c (.int .i64))), (1, .w (.c (.int .i64))), (2, .w (.c (.sl 0))), (6, .w (.c (.ptr 1))), (7, .w (.c (.int .i64))), (8, .w (.c (.int .i64)))]⟩, [(.exit 2, ⟨[.row .own (.arr .u8 8), .box .own (.st [.int .i64, .int .i64, .sl 2]), .row .own (.arr .u8 8)], [(0, .w (.c (.int .i64))), (1, .w (.c (.int .i64))), (2, .w (.c (.sl 0))), (6, .w (.c (.ptr 1))), (7, .w (.c (.int .i64))), (8, .w (.c (.int .i64)))]⟩)], []⟩
def fd28 : FD := { id := 28, fn := Go.Proofs.Tryz.f28, sig := ⟨[.ro (.int .i64), .ro (.int .i64), .ro tyF_], [(.own, false, tyN_)]⟩, loops := [(4, in20014), (7, in20015)], views := [], joins := [] }
def fd15 : FD := { id := 15, fn := Go.Proofs.Tryz.f15, sig := ⟨[.ro (tyN_)], [(.ro, false, tyN_)]⟩, loops := [], views := [], joins := [] }
def fd68 : FD := { id := 68, fn := Go.Proofs.Tryz.f68, sig := ⟨[.ro (tyN_)], [(.ro, false, tyN_)]⟩, loops := [], views := [], joins := [] }
def in20008 : LoopInfo := ⟨20008, ⟨[.box .own (.st [.int .i64, .int .i64, .sl 1]), .row .ro (.arr .u8 8), .box .own (.st [.int .i64, .int .i64, .sl 3]), .row .own (.arr .u8 8)], [(1, .w (.c (.ptr 0))), (2, .w (.c (.ptr 2))), (3, .w (.c (.int .i64)))]⟩, [(.ret, ⟨[.box .own (.st [.int .i64, .int .i64, .sl 1]), .row .ro (.arr .u8 8)], [(2, .w (.c (.ptr 0)))]⟩)], []⟩
def in20009 : LoopInfo := ⟨20009, ⟨[.box .own (.st [.int .i64, .int .i64, .sl 1]), .row .ro (.arr .u8 8), .box .own (.st [.int .i64, .int .i64, .sl 3]), .row .own (.arr .u8 8), .box .own (.st [.int .i64, .int .i64, .sl 5]), .row .ro (.arr .u8 8)], [(1, .w (.c (.ptr 0))), (2, .w (.c (.ptr 2))), (3, .w (.c (.int .i64))), (4, .w (.c (.ptr 4))), (5, .w (.c (.bool))), (6, .w (.c (.int .i64)))]⟩, [(.exit 2, ⟨[.box .own (.st [.int .i64, .int .i64, .sl 1]), .row .ro (.arr .u8 8), .box .own (.st [.int .i64, .int .i64, .sl 3]), .row .own (.arr .u8 8), .box .own (.st [.int .i64, .int .i64, .sl 5]), .row .ro (.arr .u8 8)], [(1, .w (.c (.ptr 0))), (2, .w (.c (.ptr 2))), (3, .w (.c (.int .i64))), (4, .w (.c (.ptr 4))), (5, .w (.c (.bool)))]⟩)], []⟩
def in20016 : LoopInfo := ⟨20016, ⟨[.box .own (.st [.int .i64, .int .i64, .sl 1]), .row .ro (.arr .u8 8), .box .own (.st [.int .i64, .int .i64, .sl 3]), .row .own (.arr .u8 8), .box .own (.st [.int .i64, .int .i64, .sl 5]), .row .ro (.arr .u8 8)], [(1, .w (.c (.ptr 0))), (2, .w (.c (.ptr 2))), (3, .w (.c (.int .i64))), (4, .w (.c (.ptr 4))), (5, .w (.c (.bool))), (7, .w (.c (.int .i64)))]⟩, [(.exit 4, ⟨[.box .own (.st [.int .i64, .int .i64, .sl 1]), .row .ro (.arr .u8 8), .box .own (.st [.int .i64, .int .i64, .sl 3]), .row .own (.arr .u8 8), .box .own (.st [.int .i64, .int .i64, .sl 5]), .row .ro (.arr .u8 8)], [(1, .w (.c (.ptr 0))), (2, .w (.c (.ptr 2))), (3, .w (.c (.int .i64))), (4, .w (.c (.ptr 4))), (5, .w (.c (.bool)))]⟩)], []⟩
def fd41 : FD := { id := 41, fn := Go.Proofs.Tryz.f41, sig := ⟨[.ro (tyN_)], [(.ro, false, tyN_)]⟩, loops := [(2, in20008), (4, in20009), (11, in20016)], views := [], joins := [] }
def in20017 : LoopInfo := ⟨20017, ⟨[.row .own (.arr .u8 8), .box .own (.arr .u8 8)], [(0, .w (.c (.sl 0))), (2, .w (.c (.int .i64))), (3, .w (.c (.int .i64))), (5, .w (.c (.ptr 1))), (9, .w (.c (.int .i64)))]⟩, [(.exit 0, ⟨[.row .own (.arr .u8 8)], [(0, .w (.c (.sl 0)))]⟩)], []⟩
def fd42 : FD := { id := 42, fn := Go.Proofs.Tryz.f42, sig := ⟨[.own tyF_, .ro (.arr .u8 8), .ro (.int .i64), .ro (.int .i64)], [(.own, false, .slice (.arr .u8 8))]⟩, loops := [(6, in20017)], views := [], joins := [] }
def fd96 : FD := { id := 96, fn := Go.Proofs.Tryz.f96, sig := ⟨[.ro (.arr .u8 8), .ro (.int .i64)], [(.own, false, .arr .u8 8)]⟩, loops := [], views := [], joins := [] }
def fd70 : FD := { id := 70, fn := Go.Proofs.Tryz.f70, sig := ⟨[.ro (tyN_), .ro (.arr .u8 8)], [(.own, false, tyN_)]⟩, loops := [], views := [], joins := [] }
def in20020 : LoopInfo := ⟨20020, ⟨[.row .ro (.arr .u8 8), .row .own (.arr .u8 8)], [(0, .w (.c (.sl 0))), (1, .w (.c (.int .i64))), (2, .w (.c (.int .i64))), (7, .w (.c (.sl 1))), (8, .w (.c (.int .i64)))]⟩, [(.exit 0, ⟨[.row .own (.arr .u8 8)], [(7, .w (.c (.sl 0)))]⟩)], []⟩
def fd95 : FD := { id := 95, fn := Go.Proofs.Tryz.f95, sig := ⟨[.ro tyF_, .ro (.int .i64), .ro (.int .i64)], [(.own, false, .slice (.arr .u8 8))]⟩, loops := [(3, in20020)], views := [], joins := [] }
def fd69 : FD := { id := 69, fn := Go.Proofs.Tryz.f69, sig := ⟨[.ro (tyN_), .ro (.arr .u8 8), .ro (.bool)], [(.own, false, tyN_)]⟩, loops := [], views := [], joins := [] }
def fd44 : FD := { id := 44, fn := Go.Proofs.Tryz.f44, sig := ⟨[.ro (tyN_), .ro (.arr .u8 8)], [(.own, false, tyN_)]⟩, loops := [], views := [], joins := [] }
def in20022 : LoopInfo := ⟨20022, ⟨[.box .own (.st [.int .i64, .int .i64, .sl 1]), .row .ro (.arr .u8 8), .box .own (.st [.int .i64, .int .i64, .sl 3]), .row .ro (.arr .u8 8)], [(2, .w (.c (.ptr 0))), (3, .w (.c (.ptr 2))), (5, .w (.c (.int .i64)))]⟩, [(.exit 0, ⟨[], []⟩), (.ret, ⟨[], [(4, .w (.c (.bool)))]⟩)], []⟩
def in20023 : LoopInfo := ⟨20023, ⟨[.box .own (.st [.int .i64, .int .i64, .sl 1]), .row .ro (.arr .u8 8), .box .own (.st [.int .i64, .int .i64, .sl 3]), .row .ro (.arr .u8 8)], [(2, .w (.c (.ptr 0))), (3, .w (.c (.ptr 2))), (5, .w (.c (.int .i64))), (6, .w (.c (.int .i64)))]⟩, [(.exit 2, ⟨[.box .own (.st [.int .i64, .int .i64, .sl 1]), .row .ro (.arr .u8 8), .box .own (.st [.int .i64, .int .i64, .sl 3]), .row .ro (.arr .u8 8)], [(2, .w (.c (.ptr 0))), (3, .w (.c (.ptr 2))), (5, .w (.c (.int .i64)))]⟩), (.ret, ⟨[], [(4, .w (.c (.bool)))]⟩)], []⟩
def fd71 : FD := { id := 71, fn := Go.Proofs.Tryz.f71, sig := ⟨[.ro (tyN_), .ro (tyN_)], [(.own, false, .bool)]⟩, loops := [(2, in20022), (5, in20023)], views := [], joins := [] }
def in20024 : LoopInfo := ⟨20024, ⟨[.box .own (.st [.int .i64, .int .i64, .sl 1]), .row .ro (.arr .u8 8), .box .own (.st [.int .i64, .int .i64, .sl 3]), .row .ro (.arr .u8 8)], [(2, .w (.c (.ptr 0))), (3, .w (.c (.ptr 2))), (5, .w (.c (.int .i64)))]⟩, [(.exit 0, ⟨[], []⟩), (.ret, ⟨[], [(4, .w (.c (.bool)))]⟩)], []⟩
def fd16 : FD := { id := 16, fn := Go.Proofs.Tryz.f16, sig := ⟨[.ro (tyN_), .ro (tyN_)], [(.own, false, .bool)]⟩, loops := [(4, in20024)], views := [], joins := [] }
def in20021 : LoopInfo := ⟨20021, ⟨[.row .ro (tyN_), .box .own (.st [.int .i64, .int .i64, .sl 2]), .row .ro (.arr .u8 8)], [(0, .w (.c (.sl 0))), (3, .w (.c (.ptr 1))), (6, .w (.c (.int .i64)))]⟩, [(.exit 0, ⟨[.row .ro (tyN_), .box .own (.st [.int .i64, .int .i64, .sl 2]), .row .ro (.arr .u8 8)], [(0, .w (.c (.sl 0))), (3, .w (.c (.ptr 1))), (6, .w (.c (.int .i64)))]⟩)], []⟩
def fd45 : FD := { id := 45, fn := Go.Proofs.Tryz.f45, sig := ⟨[.ro (.slice (tyN_)), .ro (tyN_)], [(.ro, false, .slice (tyN_)), (.own, false, .bool)]⟩, loops := [(2, in20021)], views := [], joins := [] }
def in20018 : LoopInfo := ⟨20018, ⟨[.box .own (.st [.int .i64, .int .i64, .sl 1]), .row .ro (.arr .u8 8), .row .ro (tyN_), .row .sh (tyN_), .row .own (.arr .u8 8)], [(4, .w (.c (.ptr 0))), (5, .w (.c (.sl 2))), (6, .w (.c (.sl 3))), (7, .w (.c (.sl 4))), (8, .w (.c (.int .i64)))]⟩, [(.exit 0, ⟨[.row .ro (tyN_)], [(5, .w (.c (.sl 0)))]⟩), (.ret, ⟨[.row .own (tyN_)], [(2, .w (.c (.sl 0))), (3, .w (.c (.bool)))]⟩)], []⟩
def in20019 : LoopInfo := ⟨20019, ⟨[.box .own (.st [.int .i64, .int .i64, .sl 1]), .row .ro (.arr .u8 8), .row .ro (tyN_), .row .sh (tyN_), .row .own (.arr .u8 8)], [(4, .w (.c (.ptr 0))), (5, .w (.c (.sl 2))), (6, .w (.c (.sl 3))), (7, .w (.c (.sl 4))), (8, .w (.c (.int .i64))), (9, .w (.c (.int .i64)))]⟩, [(.exit 2, ⟨[.box .own (.st [.int .i64, .int .i64, .sl 1]), .row .ro (.arr .u8 8), .row .ro (tyN_), .row .sh (tyN_), .row .own (.arr .u8 8)], [(4, .w (.c (.ptr 0))), (5, .w (.c (.sl 2))), (6, .w (.c (.sl 3))), (7, .w (.c (.sl 4))), (8, .w (.c (.int .i64)))]⟩), (.ret, ⟨[.row .own (tyN_)], [(2, .w (.c (.sl 0))), (3, .w (.c (.bool)))]⟩)], []⟩
def fd26 : FD := { id := 26, fn := Go.Proofs.Tryz.f26, sig := ⟨[.ro (tyN_)], [(.ro, false, .slice (tyN_)), (.own, false, .bool)]⟩, loops := [(4, in20018), (7, in20019)], views := [], joins := [] }
def fd27 : FD := { id := 27, fn := Go.Proofs.Tryz.f27, sig := ⟨[.own (tyN_)], [(.own, false, tyN_), (.own, false, .int .i64)]⟩, loops := [], views := [], joins := [] }
def in20025 : LoopInfo := ⟨20025, ⟨[.row .ro (tyN_), .row .own (tyN_)], [(5, .w (.c (.sl 0))), (7, .w (.c (.sl 1))), (8, .w (.c (.int .i64)))]⟩, [(.exit 0, ⟨[.row .own (tyN_)], [(7, .w (.c (.sl 0)))]⟩), (.ret, ⟨[.row .own (tyN_)], [(2, .w (.c (.sl 0))), (3, .w (.c (.int .i64)))]⟩)], []⟩
def fd14 : FD := { id := 14, fn := Go.Proofs.Tryz.f14, sig := ⟨[.ro (tyN_)], [(.own, false, .slice (tyN_)), (.own, false, .int .i64)]⟩, loops := [(9, in20025)], views := [], joins := [], moves := [23, 57, 58] }
def in20026 : LoopInfo := ⟨20026, ⟨[.row .own (tyN_), .row .sh (tyN_)], [(4, .w (.c (.sl 0))), (6, .w (.c (.sl 1))), (7, .w (.c (.int .i64)))]⟩, [(.exit 0, ⟨[.row .sh (tyN_)], [(6, .w (.c (.sl 0)))]⟩)], []⟩
def in20027 : LoopInfo := ⟨20027, ⟨[.row .own (tyN_), .row .sh (tyN_), .box .own (.st [.int .i64, .int .i64, .sl 3]), .row .ro (.arr .u8 8)], [(4, .w (.c (.sl 0))), (6, .w (.c (.sl 1))), (7, .w (.c (.int .i64))), (8, .w (.c (.ptr 2))), (9, .w (.c (.int .i64)))]⟩, [(.exit 2, ⟨[.row .own (tyN_), .row .sh (tyN_), .box .own (.st [.int .i64, .int .i64, .sl 3]), .row .ro (.arr .u8 8)], [(4, .w (.c (.sl 0))), (6, .w (.c (.sl 1))), (7, .w (.c (.int .i64))), (8, .w (.c (.ptr 2)))]⟩)], []⟩
def fd5 : FD := { id := 5, fn := Go.Proofs.Tryz.f5, sig := ⟨[.ro (tyN_)], [(.ro, false, .slice (tyN_)), (.own, false, .int .i64)]⟩, loops := [(6, in20026), (10, in20027)], views := [], joins := [] }
def fd51 : FD := { id := 51, fn := Go.Proofs.Tryz.f51, sig := ⟨[.ro (.int .i64), .ro (.int .i64), .ro (.int .i64)], [(.own, false, .bool)]⟩, loops := [], views := [], joins := [] }
def fd50 : FD := { id := 50, fn := Go.Proofs.Tryz.f50, sig := ⟨[.ro (.int .i64)], [(.own, false, .bool)]⟩, loops := [], views := [], joins := [] }
def in20030 : LoopInfo := ⟨20030, ⟨[.box .own (.barr 8)], [(1, .w (.c (.int .i64))), (5, .w (.c (.ptr 0))), (12, .w (.arr .u8 8)), (13, .w (.c (.int .i64)))]⟩, [(.exit 0, ⟨[], []⟩), (.ret, ⟨[], [(4, .w (.c (.bool)))]⟩)], []⟩
def fd52 : FD := { id := 52, fn := Go.Proofs.Tryz.f52, sig := ⟨[.ro (.arr .u8 8), .ro (.int .i64)], [(.own, false, .bool)]⟩, loops := [(5, in20030)], views := [], joins := [] }
def in20031 : LoopInfo := ⟨20031, ⟨[.box .own (.arr .u8 8), .box .own (.arr .u8 8)], [(2, .w (.c (.ptr 0))), (3, .w (.c (.ptr 1))), (6, .w (.c (.int .i64))), (7, .w (.c (.int .i64)))]⟩, [(.exit 0, ⟨[.box .own (.arr .u8 8), .box .own (.arr .u8 8)], [(2, .w (.c (.ptr 0))), (3, .w (.c (.ptr 1)))]⟩)], []⟩
def fd53 : FD := { id := 53, fn := Go.Proofs.Tryz.f53, sig := ⟨[.ro (.int .i64)], [(.own, false, .arr .u8 8)]⟩, loops := [(3, in20031)], views := [], joins := [] }
def in20032 : LoopInfo := ⟨20032, ⟨[.box .own (.arr .u8 8), .box .own (.arr .u8 8)], [(0, .w (.c (.int .i64))), (2, .w (.c (.ptr 0))), (3, .w (.c (.ptr 1))), (6, .w (.c (.int .i64))), (7, .w (.c (.int .i64)))]⟩, [(.exit 0, ⟨[.box .own (.arr .u8 8), .box .own (.arr .u8 8)], [(2, .w (.c (.ptr 0))), (3, .w (.c (.ptr 1)))]⟩)], []⟩
def fd54 : FD := { id := 54, fn := Go.Proofs.Tryz.f54, sig := ⟨[.ro (.int .i64)], [(.own, false, .arr .u8 8)]⟩, loops := [(3, in20032)], views := [], joins := [] }
def in20033 : LoopInfo := ⟨20033, ⟨[.box .own (.arr .u8 8), .box .own (.arr .u8 8), .box .own (.arr .u8 8)], [(2, .w (.c (.ptr 0))), (4, .w (.c (.ptr 1))), (5, .w (.c (.ptr 2))), (8, .w (.c (.int .i64))), (9, .w (.c (.int .i64)))]⟩, [(.exit 0, ⟨[.box .own (.arr .u8 8), .box .own (.arr .u8 8)], [(4, .w (.c (.ptr 0))), (5, .w (.c (.ptr 1)))]⟩)], []⟩
def fd76 : FD := { id := 76, fn := Go.Proofs.Tryz.f76, sig := ⟨[.ro (.arr .u8 8), .ro (.int .i64)], [(.own, false, .arr .u8 8)]⟩, loops := [(3, in20033)], views := [], joins := [] }
def fd78 : FD := { id := 78, fn := Go.Proofs.Tryz.f78, sig := ⟨[.ro (.arr .u8 8), .ro (.int .i64)], [(.own, false, .bool)]⟩, loops := [], views := [], joins := [] }
def in20034 : LoopInfo := ⟨20034, ⟨[.box .own (.arr .u8 8), .row .own (.int .i64)], [(1, .w (.c (.int .i64))), (2, .w (.c (.ptr 0))), (5, .w (.c (.sl 1))), (6, .w (.c (.int .i64)))]⟩, [(.exit 0, ⟨[.row .own (.int .i64)], [(5, .w (.c (.sl 0)))]⟩)], []⟩
def fd77 : FD := { id := 77, fn := Go.Proofs.Tryz.f77, sig := ⟨[.ro (.arr .u8 8), .ro (.int .i64)], [(.own, false, .slice (.int .i64))]⟩, loops := [(3, in20034)], views := [], joins := [] }
def in20035 : LoopInfo := ⟨20035, ⟨[.box .own (.arr .u8 8), .row .own (.int .i64)], [(7, .w (.c (.ptr 0))), (15, .w (.c (.sl 1))), (16, .w (.c (.int .i64))), (17, .w (.c (.int .i64)))]⟩, [(.exit 0, ⟨[], []⟩), (.ret, ⟨[], [(6, .w (.c (.bool)))]⟩)], []⟩
def fd55 : FD := { id := 55, fn := Go.Proofs.Tryz.f55, sig := ⟨[.ro (.arr .u8 8), .ro (.arr .u8 8), .ro (.int .i64)], [(.own, false, .bool)]⟩, loops := [(3, in20035)], views := [], joins := [] }
def in20029 : LoopInfo := ⟨20029, ⟨[.box .own (.st [.int .i64, .int .i64, .sl 1]), .row .ro (.arr .u8 8)], [(1, .w (.c (.ptr 0))), (3, .w (.c (.int .i64))), (33, .w (.c (.sl 1))), (34, .w (.c (.int .i64))), (35, .w (.c (.int .i64)))]⟩, [(.exit 0, ⟨[], []⟩), (.ret, ⟨[], [(2, .w (.c (.bool)))]⟩)], []⟩
def fd31 : FD := { id := 31, fn := Go.Proofs.Tryz.f31, sig := ⟨[.ro (tyN_)], [(.own, false, .bool)]⟩, loops := [(5, in20029)], views := [], joins := [] }
def fd62 : FD := { id := 62, fn := Go.Proofs.Tryz.f62, sig := ⟨[.ro (tyN_)], [(.own, false, tyN_)]⟩, loops := [], views := [], joins := [] }
def in20038 : LoopInfo := ⟨20038, ⟨[.box .own (.arr .u8 8), .box .own (.arr .u8 8), .box .own (.arr .u8 8), .box .own (.arr .u8 8)], [(3, .w (.c (.ptr 0))), (4, .w (.c (.ptr 1))), (6, .w (.c (.ptr 2))), (7, .w (.c (.ptr 3))), (10, .w (.c (.int .i64))), (11, .w (.c (.int .i64)))]⟩, [(.exit 0, ⟨[.box .own (.arr .u8 8), .box .own (.arr .u8 8)], [(6, .w (.c (.ptr 0))), (7, .w (.c (.ptr 1)))]⟩)], []⟩
def fd84 : FD := { id := 84, fn := Go.Proofs.Tryz.f84, sig := ⟨[.ro (.arr .u8 8), .ro (.arr .u8 8), .ro (.int .i64)], [(.own, false, .arr .u8 8)]⟩, loops := [(3, in20038)], views := [], joins := [] }
def fd94 : FD := { id := 94, fn := Go.Proofs.Tryz.f94, sig := ⟨[.ro (.arr .u8 8), .ro (.int .i64)], [(.own, false, .arr .u8 8)]⟩, loops := [], views := [], joins := [] }
def fd64 : FD := { id := 64, fn := Go.Proofs.Tryz.f64, sig := ⟨[.ro (.arr .u8 8), .ro (tyN_)], [(.own, false, .arr .u8 8)]⟩, loops := [], views := [], joins := [] }
def fd93 : FD := { id := 93, fn := Go.Proofs.Tryz.f93, sig := ⟨[.ro (.arr .u8 8), .ro (.int .i64)], [(.own, false, .arr .u8 8)]⟩, loops := [], views := [], joins := [] }
def in20040 : LoopInfo := ⟨20040, ⟨[.box .own (.arr .u8 8)], [(2, .w (.c (.ptr 0))), (5, .w (.c (.int .u64))), (8, .w (.c (.int .i64))), (9, .w (.c (.int .i64)))]⟩, [(.exit 0, ⟨[], [(5, .w (.c (.int .u64)))]⟩)], []⟩
def in20041 : LoopInfo := ⟨20041, ⟨[.box .own (.arr .u8 8)], [(2, .w (.c (.ptr 0))), (5, .w (.c (.int .u64))), (6, .w (.c (.int .i64))), (8, .w (.c (.int .i64))), (9, .w (.c (.int .i64))), (12, .w (.c (.int .i64))), (13, .w (.c (.int .i64)))]⟩, [(.exit 2, ⟨[.box .own (.arr .u8 8)], [(2, .w (.c (.ptr 0))), (5, .w (.c (.int .u64))), (8, .w (.c (.int .i64))), (9, .w (.c (.int .i64)))]⟩)], []⟩
def fd112 : FD := { id := 112, fn := Go.Proofs.Tryz.f112, sig := ⟨[.ro (.arr .u8 8), .ro (.int .i64)], [(.own, false, .int .u64)]⟩, loops := [(3, in20040), (6, in20041)], views := [], joins := [] }
def in20042 : LoopInfo := ⟨20042, ⟨[.box .own (.arr .u8 8), .box .own (.arr .u8 8)], [(2, .w (.c (.int .i64))), (6, .w (.c (.ptr 0))), (7, .w (.c (.int .u64))), (8, .w (.c (.ptr 1))), (9, .w (.c (.bool)))]⟩, [(.exit 0, ⟨[.box .own (.arr .u8 8), .box .own (.arr .u8 8)], [(2, .w (.c (.int .i64))), (6, .w (.c (.ptr 0))), (8, .w (.c (.ptr 1)))]⟩)], []⟩
def in20043 : LoopInfo := ⟨20043, ⟨[.box .own (.arr .u8 8), .box .own (.arr .u8 8)], [(2, .w (.c (.int .i64))), (6, .w (.c (.ptr 0))), (7, .w (.c (.int .u64))), (8, .w (.c (.ptr 1))), (9, .w (.c (.bool))), (10, .w (.c (.int .i64)))]⟩, [(.exit 2, ⟨[.box .own (.arr .u8 8), .box .own (.arr .u8 8)], [(2, .w (.c (.int .i64))), (6, .w (.c (.ptr 0))), (7, .w (.c (.int .u64))), (8, .w (.c (.ptr 1))), (9, .w (.c (.bool)))]⟩)], []⟩
def fd92 : FD := { id := 92, fn := Go.Proofs.Tryz.f92, sig := ⟨[.ro (.arr .u8 8), .ro (.arr .u8 8), .ro (.int .i64)], [(.own, false, .arr .u8 8)]⟩, loops := [(4, in20042), (7, in20043)], views := [], joins := [] }
def in20039 : LoopInfo := ⟨20039, ⟨[.box .own (.st [.int .i64, .int .i64, .sl 1]), .row .own (.arr .u8 8)], [(0, .w (.c (.ptr 0))), (4, .w (.c (.int .i64))), (5, .w (.c (.int .i64)))]⟩, [(.exit 0, ⟨[.box .own (.st [.int .i64, .int .i64, .sl 1]), .row .own (.arr .u8 8)], [(0, .w (.c (.ptr 0))), (4, .w (.c (.int .i64)))]⟩)], []⟩
def in20044 : LoopInfo := ⟨20044, ⟨[.box .own (.st [.int .i64, .int .i64, .sl 1]), .row .own (.arr .u8 8)], [(0, .w (.c (.ptr 0))), (4, .w (.c (.int .i64)))]⟩, [(.exit 2, ⟨[.box .own (.st [.int .i64, .int .i64, .sl 1]), .row .own (.arr .u8 8)], [(0, .w (.c (.ptr 0))), (4, .w (.c (.int .i64)))]⟩)], []⟩
def in20045 : LoopInfo := ⟨20045, ⟨[.box .own (.st [.int .i64, .int .i64, .sl 1]), .row .own (.arr .u8 8)], [(0, .w (.c (.ptr 0))), (4, .w (.c (.int .i64)))]⟩, [(.exit 4, ⟨[.box .own (.st [.int .i64, .int .i64, .sl 1]), .row .own (.arr .u8 8)], [(0, .w (.c (.ptr 0)))]⟩)], []⟩
def fd63 : FD := { id := 63, fn := Go.Proofs.Tryz.f63, sig := ⟨[.box (tyN_), .ro (.arr .u8 8)], []⟩, loops := [(5, in20039), (11, in20044), (14, in20045)], views := [], joins := [] }
def fd35 : FD := { id := 35, fn := Go.Proofs.Tryz.f35, sig := ⟨[.ro (tyN_)], [(.own, false, tyN_)]⟩, loops := [], views := [], joins := [] }
def fd80 : FD := { id := 80, fn := Go.Proofs.Tryz.f80, sig := ⟨[.ro (tyN_), .ro (tyN_)], [(.own, false, .bool)]⟩, loops := [], views := [], joins := [] }
def in20037 : LoopInfo := ⟨20037, ⟨[.box .own (.st [.int .i64, .int .i64, .sl 1]), .row .ro (.arr .u8 8), .box .own (.st [.int .i64, .int .i64, .sl 3]), .row .own (.arr .u8 8), .box .own (.st [.int .i64, .int .i64, .sl 5]), .row .ro (.arr .u8 8)], [(1, .fn 35 []), (2, .fn 80 []), (3, .w (.c (.ptr 0))), (6, .w (.c (.ptr 2))), (8, .w (.c (.ptr 4))), (16, .w (.c (.int .i64))), (17, .w (.c (.int .i64)))]⟩, [(.exit 0, ⟨[.box .own (.st [.int .i64, .int .i64, .sl 1]), .row .ro (.arr .u8 8), .box .own (.st [.int .i64, .int .i64, .sl 3]), .row .own (.arr .u8 8)], [(3, .w (.c (.ptr 0))), (6, .w (.c (.ptr 2)))]⟩), (.ret, ⟨[.box .own (.st [.int .i64, .int .i64, .sl 1]), .row .own (.arr .u8 8)], [(6, .w (.c (.ptr 0))), (7, .w (.c (.bool)))]⟩)], []⟩
def fd10000 : FD := { id := 79, fn := Go.Proofs.Tryz.f79, sig := ⟨[.ro (tyN_), .fn 35 [], .fn 80 []], [(.ro, false, tyN_), (.own, false, .bool)]⟩, loops := [(3, in20037)], views := [], joins := [] }
def in20047 : LoopInfo := ⟨20047, ⟨[.box .own (.st [.int .i64, .int .i64, .sl 1]), .row .own (.arr .u8 8), .box .own (.st [.int .i64, .int .i64, .sl 3]), .row .own (.arr .u8 8), .row .ro (.arr .u8 8)], [(2, .w (.c (.ptr 0))), (4, .w (.c (.ptr 2))), (31, .w (.c (.sl 4))), (32, .w (.c (.int .i64))), (33, .w (.c (.int .i64)))]⟩, [(.exit 0, ⟨[.box .own (.st [.int .i64, .int .i64, .sl 1]), .row .own (.arr .u8 8), .box .own (.st [.int .i64, .int .i64, .sl 3]), .row .own (.arr .u8 8)], [(2, .w (.c (.ptr 0))), (4, .w (.c (.ptr 2)))]⟩)], []⟩
def fd81 : FD := { id := 81, fn := Go.Proofs.Tryz.f81, sig := ⟨[.ro (tyN_)], [(.own, false, tyN_)]⟩, loops := [(7, in20047)], views := [], joins := [] }
def fd83 : FD := { id := 83, fn := Go.Proofs.Tryz.f83, sig := ⟨[.ro (tyN_)], [(.own, false, .int .i64)]⟩, loops := [], views := [], joins := [] }
def fd82 : FD := { id := 82, fn := Go.Proofs.Tryz.f82, sig := ⟨[.ro (tyN_), .ro (tyN_)], [(.own, false, .bool)]⟩, loops := [], views := [], joins := [] }
def in20046 : LoopInfo := ⟨20046, ⟨[.box .own (.st [.int .i64, .int .i64, .sl 1]), .row .ro (.arr .u8 8), .box .own (.st [.int .i64, .int .i64, .sl 3]), .row .own (.arr .u8 8), .box .own (.st [.int .i64, .int .i64, .sl 5]), .row .ro (.arr .u8 8)], [(1, .fn 81 []), (2, .fn 82 []), (3, .w (.c (.ptr 0))), (6, .w (.c (.ptr 2))), (8, .w (.c (.ptr 4))), (16, .w (.c (.int .i64))), (17, .w (.c (.int .i64)))]⟩, [(.exit 0, ⟨[.box .own (.st [.int .i64, .int .i64, .sl 1]), .row .ro (.arr .u8 8), .box .own (.st [.int .i64, .int .i64, .sl 3]), .row .own (.arr .u8 8)], [(3, .w (.c (.ptr 0))), (6, .w (.c (.ptr 2)))]⟩), (.ret, ⟨[.box .own (.st [.int .i64, .int .i64, .sl 1]), .row .own (.arr .u8 8)], [(6, .w (.c (.ptr 0))), (7, .w (.c (.bool)))]⟩)], []⟩
def fd10001 : FD := { id := 79, fn := Go.Proofs.Tryz.f79, sig := ⟨[.ro (tyN_), .fn 81 [], .fn 82 []], [(.ro, false, tyN_), (.own, false, .bool)]⟩, loops := [(3, in20046)], views := [], joins := [] }
def in20036 : LoopInfo := ⟨20036, ⟨[.box .own (.st [.int .i64, .int .i64, .sl 1]), .row .ro (.arr .u8 8), .box .own (.st [.int .i64, .int .i64, .sl 3]), .row .own (.arr .u8 8)], [(1, .w (.c (.ptr 0))), (2, .w (.c (.ptr 2)))]⟩, [(.ret, ⟨[.box .own (.st [.int .i64, .int .i64, .sl 1]), .row .own (.arr .u8 8)], [(2, .w (.c (.ptr 0)))]⟩)], []⟩
def fd56 : FD := { id := 56, fn := Go.Proofs.Tryz.f56, sig := ⟨[.ro (tyN_)], [(.own, false, tyN_)]⟩, loops := [(1, in20036)], views := [], joins := [] }
def fd85 : FD := { id := 85, fn := Go.Proofs.Tryz.f85, sig := ⟨[.ro (.int .i64), .ro (.int .i64)], [(.own, false, .arr .u8 8)]⟩, loops := [], views := [], joins := [] }
def in20050 : LoopInfo := ⟨20050, ⟨[.row .ro (.arr .u8 8), .box .own (.arr .u8 8)], [(0, .w (.c (.sl 0))), (3, .w (.c (.ptr 1))), (7, .w (.c (.int .i64))), (8, .w (.c (.int .i64)))]⟩, [(.exit 0, ⟨[], []⟩), (.ret, ⟨[], [(4, .w (.c (.int .i64)))]⟩)], []⟩
def fd98 : FD := { id := 98, fn := Go.Proofs.Tryz.f98, sig := ⟨[.ro tyF_, .ro (.arr .u8 8)], [(.own, false, .int .i64)]⟩, loops := [(2, in20050)], views := [], joins := [] }
def fd86 : FD := { id := 86, fn := Go.Proofs.Tryz.f86, sig := ⟨[.ro tyF_, .ro (.arr .u8 8)], [(.own, false, .bool)]⟩, loops := [], views := [], joins := [] }
def in20048 : LoopInfo := ⟨20048, ⟨[.row .own (.arr .u8 8)], [(0, .w (.c (.int .i64))), (3, .w (.c (.sl 0))), (4, .w (.c (.int .i64)))]⟩, [(.exit 0, ⟨[.row .own (.arr .u8 8)], [(3, .w (.c (.sl 0)))]⟩)], []⟩
def in20049 : LoopInfo := ⟨20049, ⟨[.row .own (.arr .u8 8)], [(0, .w (.c (.int .i64))), (3, .w (.c (.sl 0))), (4, .w (.c (.int .i64))), (5, .w (.c (.int .i64)))]⟩, [(.exit 2, ⟨[.row .own (.arr .u8 8)], [(0, .w (.c (.int .i64))), (3, .w (.c (.sl 0))), (4, .w (.c (.int .i64)))]⟩)], []⟩
def fd57 : FD := { id := 57, fn := Go.Proofs.Tryz.f57, sig := ⟨[.ro (.int .i64)], [(.own, false, .slice (.arr .u8 8))]⟩, loops := [(3, in20048), (6, in20049)], views := [], joins := [] }
def in20053 : LoopInfo := ⟨20053, ⟨[.box .own (.st [.int .i64, .int .i64, .sl 1]), .row .own (.arr .u8 8)], [(0, .w (.c (.ptr 0))), (25, .w (.c (.sl 1))), (26, .w (.c (.int .i64))), (27, .w (.c (.int .i64)))]⟩, [(.exit 0, ⟨[.box .own (.st [.int .i64, .int .i64, .sl 1]), .row .own (.arr .u8 8)], [(0, .w (.c (.ptr 0)))]⟩)], []⟩
def fd113 : FD := { id := 113, fn := Go.Proofs.Tryz.f113, sig := ⟨[.box (tyN_), .ro (.int .i64)], []⟩, loops := [(4, in20053)], views := [], joins := [] }
def fd114 : FD := { id := 114, fn := Go.Proofs.Tryz.f114, sig := ⟨[.ro (.arr .u8 8), .ro (.int .i64)], [(.own, false, .arr .u8 8)]⟩, loops := [], views := [], joins := [] }
def fd99 : FD := { id := 99, fn := Go.Proofs.Tryz.f99, sig := ⟨[.box (tyN_), .ro (.arr .u8 8)], []⟩, loops := [], views := [], joins := [] }
def in20054 : LoopInfo := ⟨20054, ⟨[.box .own (.st [.int .i64, .int .i64, .sl 1]), .row .own (.arr .u8 8), .box .own (.st [.int .i64, .int .i64, .sl 3]), .row .own (.arr .u8 8), .row .ro (.arr .u8 8)], [(4, .w (.c (.ptr 0))), (5, .w (.c (.ptr 2))), (14, .w (.c (.sl 4))), (15, .w (.c (.int .i64))), (16, .w (.c (.int .i64)))]⟩, [(.exit 0, ⟨[.box .own (.st [.int .i64, .int .i64, .sl 1]), .row .own (.arr .u8 8), .box .own (.st [.int .i64, .int .i64, .sl 3]), .row .own (.arr .u8 8)], [(4, .w (.c (.ptr 0))), (5, .w (.c (.ptr 2)))]⟩)], []⟩
def fd100 : FD := { id := 100, fn := Go.Proofs.Tryz.f100, sig := ⟨[.ro (tyN_), .ro (tyN_)], [(.own, false, tyN_)]⟩, loops := [(4, in20054)], views := [], joins := [] }
def fd87 : FD := { id := 87, fn := Go.Proofs.Tryz.f87, sig := ⟨[.ro (tyN_), .ro (.arr .u8 8)], [(.own, false, tyN_)]⟩, loops := [], views := [], joins := [] }
def fd58 : FD := { id := 58, fn := Go.Proofs.Tryz.f58, sig := ⟨[.ro (tyN_), .ro (.arr .u8 8)], [(.own, false, tyN_)]⟩, loops := [], views := [], joins := [] }
def in20056 : LoopInfo := ⟨20056, ⟨[.row .ro (.arr .u8 8), .row .ro (.arr .u8 8)], [(0, .w (.c (.sl 0))), (1, .w (.c (.sl 1))), (12, .w (.c (.int .i64))), (13, .w (.c (.int .i64)))]⟩, [(.exit 0, ⟨[], []⟩), (.ret, ⟨[], [(4, .w (.c (.bool)))]⟩)], []⟩
def fd65 : FD := { id := 65, fn := Go.Proofs.Tryz.f65, sig := ⟨[.ro tyF_, .ro tyF_], [(.own, false, .bool)]⟩, loops := [(4, in20056)], views := [], joins := [] }
def fd36 : FD := { id := 36, fn := Go.Proofs.Tryz.f36, sig := ⟨[.ro (tyN_), .ro (tyN_)], [(.own, false, .bool)]⟩, loops := [], views := [], joins := [] }
def fd59 : FD := { id := 59, fn := Go.Proofs.Tryz.f59, sig := ⟨[.ro (tyN_), .rob (tyN_)], [(.own, false, .bool)]⟩, loops := [], views := [], joins := [] }
def in20055 : LoopInfo := ⟨20055, ⟨[.row .ro (tyN_), .box .ro (.st [.int .i64, .int .i64, .sl 2]), .row .ro (.arr .u8 8)], [(0, .w (.c (.sl 0))), (1, .fn 59 [.c (.ptr 1)]), (7, .w (.c (.int .i64))), (8, .w (.c (.int .i64)))]⟩, [(.exit 0, ⟨[], []⟩), (.ret, ⟨[], [(4, .w (.c (.int .i64)))]⟩)], []⟩
def fd10003 : FD := { id := 34, fn := Go.Proofs.Tryz.f34, sig := ⟨[.ro (.slice (tyN_)), .fn 59 [(.rob, tyN_)]], [(.own, false, .int .i64)]⟩, loops := [(2, in20055)], views := [], joins := [] }
def fd10002 : FD := { id := 37, fn := Go.Proofs.Tryz.f37, sig := ⟨[.ro (.slice (tyN_)), .fn 59 [(.rob, tyN_)]], [(.own, false, .bool)]⟩, loops := [], views := [], joins := [] }
def fd122 : FD := { id := 122, fn := Go.Proofs.Tryz.f122, sig := ⟨[.ro (.int .u8)], [(.own, false, .bool)]⟩, loops := [], views := [], joins := [] }
def fd120 : FD := { id := 120, fn := Go.Proofs.Tryz.f120, sig := ⟨[.ro (.int .u8), .ro (.int .u8)], [(.own, false, .int .i64)]⟩, loops := [], views := [], joins := [] }
def in20058 : LoopInfo := ⟨20058, ⟨[.row .ro (.int .u8), .row .ro (.int .u8)], [(0, .w (.c (.sl 0))), (1, .w (.c (.sl 1))), (9, .w (.c (.sl 0))), (10, .w (.c (.int .i64))), (11, .w (.c (.int .i64)))]⟩, [(.exit 0, ⟨[.row .ro (.int .u8), .row .ro (.int .u8)], [(0, .w (.c (.sl 0))), (1, .w (.c (.sl 1)))]⟩), (.ret, ⟨[], [(4, .w (.c (.int .i64)))]⟩)], []⟩
def fd111 : FD := { id := 111, fn := Go.Proofs.Tryz.f111, sig := ⟨[.ro (.slice (.int .u8)), .ro (.slice (.int .u8))], [(.own, false, .int .i64)]⟩, loops := [(2, in20058)], views := [], joins := [] }
def fd91 : FD := { id := 91, fn := Go.Proofs.Tryz.f91, sig := ⟨[.ro (.arr .u8 8), .ro (.arr .u8 8)], [(.own, false, .int .i64)]⟩, loops := [], views := [], joins := [] }
def in20057 : LoopInfo := ⟨20057, ⟨[.row .ro (.arr .u8 8), .row .ro (.arr .u8 8)], [(0, .w (.c (.sl 0))), (1, .w (.c (.sl 1))), (2, .fn 91 []), (11, .w (.c (.sl 0))), (12, .w (.c (.int .i64))), (13, .w (.c (.int .i64)))]⟩, [(.exit 0, ⟨[.row .ro (.arr .u8 8), .row .ro (.arr .u8 8)], [(0, .w (.c (.sl 0))), (1, .w (.c (.sl 1)))]⟩), (.ret, ⟨[], [(6, .w (.c (.int .i64)))]⟩)], []⟩
def fd10004 : FD := { id := 90, fn := Go.Proofs.Tryz.f90, sig := ⟨[.ro tyF_, .ro tyF_, .fn 91 []], [(.own, false, .int .i64)]⟩, loops := [(2, in20057)], views := [], joins := [] }
def fd61 : FD := { id := 61, fn := Go.Proofs.Tryz.f61, sig := ⟨[.ro (tyN_), .ro (tyN_)], [(.own, false, .int .i64)]⟩, loops := [], views := [], joins := [] }
def fd10005 : FD := { id := 60, fn := Go.Proofs.Tryz.f60, sig := ⟨[.mut (.slice (tyN_)), .fn 61 []], []⟩, loops := [], views := [], joins := [] }
def in20051 : LoopInfo := ⟨20051, ⟨[.row .own (tyN_), .row .own (.arr .u8 8)], [(4, .w (.c (.sl 0))), (5, .w (.c (.sl 1))), (6, .w (.c (.int .i64)))]⟩, [(.exit 0, ⟨[.row .own (tyN_)], [(4, .w (.c (.sl 0)))]⟩), (.ret, ⟨[.row .own (tyN_)], [(2, .w (.c (.sl 0))), (3, .w (.c (.bool)))]⟩)], []⟩
def in20052 : LoopInfo := ⟨20052, ⟨[.row .own (tyN_), .row .own (.arr .u8 8)], [(4, .w (.c (.sl 0))), (5, .w (.c (.sl 1))), (6, .w (.c (.int .i64))), (22, .w (.c (.sl 1))), (23, .w (.c (.int .i64))), (24, .w (.c (.int .i64)))]⟩, [(.exit 2, ⟨[.row .own (tyN_), .row .own (.arr .u8 8)], [(4, .w (.c (.sl 0))), (5, .w (.c (.sl 1))), (6, .w (.c (.int .i64)))]⟩), (.ret, ⟨[.row .own (tyN_)], [(2, .w (.c (.sl 0))), (3, .w (.c (.bool)))]⟩)], []⟩
def fd32 : FD := { id := 32, fn := Go.Proofs.Tryz.f32, sig := ⟨[.ro (tyN_)], [(.own, false, .slice (tyN_)), (.own, false, .bool)]⟩, loops := [(4, in20051), (7, in20052)], views := [], joins := [], moves := [12, 60, 61], hooks := [(16, ⟨false, 1, true, false, false⟩)] }
def fd33 : FD := { id := 33, fn := Go.Proofs.Tryz.f33, sig := ⟨[.ro (tyN_)], [(.ro, false, tyN_), (.own, false, .int .i64)]⟩, loops := [], views := [], joins := [] }
def fd18 : FD := { id := 18, fn := Go.Proofs.Tryz.f18, sig := ⟨[.ro (tyN_)], [(.own, false, .slice (tyN_)), (.own, false, .int .i64)]⟩, loops := [], views := [], joins := [] }
def fd38 : FD := { id := 38, fn := Go.Proofs.Tryz.f38, sig := ⟨[.ro (tyN_), .rob (tyN_)], [(.own, false, .bool)]⟩, loops := [], views := [], joins := [] }
def in20060 : LoopInfo := ⟨20060, ⟨[.row .ro (tyN_), .box .ro (.st [.int .i64, .int .i64, .sl 2]), .row .ro (.arr .u8 8)], [(0, .w (.c (.sl 0))), (1, .fn 38 [.c (.ptr 1)]), (7, .w (.c (.int .i64))), (8, .w (.c (.int .i64)))]⟩, [(.exit 0, ⟨[], []⟩), (.ret, ⟨[], [(4, .w (.c (.int .i64)))]⟩)], []⟩
def fd10007 : FD := { id := 34, fn := Go.Proofs.Tryz.f34, sig := ⟨[.ro (.slice (tyN_)), .fn 38 [(.rob, tyN_)]], [(.own, false, .int .i64)]⟩, loops := [(2, in20060)], views := [], joins := [] }
def fd10006 : FD := { id := 37, fn := Go.Proofs.Tryz.f37, sig := ⟨[.ro (.slice (tyN_)), .fn 38 [(.rob, tyN_)]], [(.own, false, .bool)]⟩, loops := [], views := [], joins := [] }
def in20059 : LoopInfo := ⟨20059, ⟨[.box .own (.st [.int .i64, .int .i64, .sl 1]), .row .ro (.arr .u8 8), .row .sh (tyN_), .box .own (.st [.int .i64, .int .i64, .sl 4]), .row .own (.arr .u8 8)], [(1, .w (.c (.ptr 0))), (3, .w (.c (.sl 2))), (4, .w (.c (.ptr 3)))]⟩, [(.ret, ⟨[], [(2, .w (.c (.bool)))]⟩)], []⟩
def fd21 : FD := { id := 21, fn := Go.Proofs.Tryz.f21, sig := ⟨[.ro (tyN_)], [(.own, false, .bool)]⟩, loops := [(4, in20059)], views := [], joins := [] }
def fd20 : FD := { id := 20, fn := Go.Proofs.Tryz.f20, sig := ⟨[.ro (tyN_)], [(.own, false, .bool)]⟩, loops := [], views := [], joins := [] }
def fd10008 : FD := { id := 19, fn := Go.Proofs.Tryz.f19, sig := ⟨[.own (.slice (tyN_)), .fn 20 []], [(.own, false, .slice (tyN_))]⟩, loops := [], views := [], joins := [] }
def fd7 : FD := { id := 7, fn := Go.Proofs.Tryz.f7, sig := ⟨[.ro (tyN_)], [(.own, false, .slice (tyN_)), (.own, false, .int .i64)]⟩, loops := [], views := [], joins := [], hooks := [(4, ⟨false, 1, true, false, true⟩)] }
def in20063 : LoopInfo := ⟨20063, ⟨[.box .own (.arr .u8 8), .box .own (.arr .u8 8)], [(2, .w (.c (.ptr 0))), (3, .w (.c (.ptr 1))), (5, .w (.c (.int .i64)))]⟩, [(.exit 0, ⟨[], []⟩), (.ret, ⟨[], [(4, .w (.c (.bool)))]⟩)], []⟩
def fd39 : FD := { id := 39, fn := Go.Proofs.Tryz.f39, sig := ⟨[.ro (.arr .u8 8), .ro (.arr .u8 8)], [(.own, false, .bool)]⟩, loops := [(2, in20063)], views := [], joins := [] }
def in20062 : LoopInfo := ⟨20062, ⟨[.row .ro (.arr .u8 8), .row .ro (.arr .u8 8)], [(0, .w (.c (.sl 0))), (1, .w (.c (.sl 1))), (5, .w (.c (.int .i64)))]⟩, [(.exit 0, ⟨[], []⟩), (.ret, ⟨[], [(4, .w (.c (.bool)))]⟩)], []⟩
def fd22 : FD := { id := 22, fn := Go.Proofs.Tryz.f22, sig := ⟨[.ro tyF_, .ro tyF_], [(.own, false, .bool)]⟩, loops := [(4, in20062)], views := [], joins := [] }
def fd9 : FD := { id := 9, fn := Go.Proofs.Tryz.f9, sig := ⟨[.ro (tyN_), .ro (tyN_)], [(.own, false, .bool)]⟩, loops := [], views := [], joins := [] }
def in20061 : LoopInfo := ⟨20061, ⟨[.row .ro (tyN_), .row .ro (tyN_)], [(0, .w (.c (.sl 0))), (1, .w (.c (.sl 1))), (5, .w (.c (.int .i64)))]⟩, [(.exit 0, ⟨[], []⟩), (.ret, ⟨[], [(4, .w (.c (.bool)))]⟩)], []⟩
def fd8 : FD := { id := 8, fn := Go.Proofs.Tryz.f8, sig := ⟨[.ro (.slice (tyN_)), .ro (.slice (tyN_))], [(.own, false, .bool)]⟩, loops := [(4, in20061)], views := [], joins := [] }
def in20064 : LoopInfo := ⟨20064, ⟨[.row .own (.arr .u8 8)], [(0, .w (.c (.sl 0))), (1, .w (.c (.int .i64))), (5, .w (.c (.int .i64)))]⟩, [(.exit 0, ⟨[.row .own (.arr .u8 8)], [(0, .w (.c (.sl 0))), (1, .w (.c (.int .i64)))]⟩)], []⟩
def in20065 : LoopInfo := ⟨20065, ⟨[.row .own (.arr .u8 8)], [(0, .w (.c (.sl 0))), (1, .w (.c (.int .i64))), (5, .w (.c (.int .i64))), (6, .w (.c (.int .i64)))]⟩, [(.exit 2, ⟨[.row .own (.arr .u8 8)], [(0, .w (.c (.sl 0))), (1, .w (.c (.int .i64))), (5, .w (.c (.int .i64)))]⟩)], []⟩
def fd23 : FD := { id := 23, fn := Go.Proofs.Tryz.f23, sig := ⟨[.mut tyF_, .ro (.int .i64)], [(.own, false, .int .i64)]⟩, loops := [(2, in20064), (5, in20065)], views := [], joins := [] }
def fd10 : FD := { id := 10, fn := Go.Proofs.Tryz.f10, sig := ⟨[.mut (tyN_), .ro (.int .i64)], [(.own, false, .int .i64)]⟩, loops := [], views := [], joins := [] }
def in20066 : LoopInfo := ⟨20066, ⟨[.row .own (tyN_)], [(0, .w (.c (.sl 0))), (1, .w (.c (.int .i64))), (5, .w (.c (.int .i64)))]⟩, [(.exit 0, ⟨[.row .own (tyN_)], [(0, .w (.c (.sl 0))), (1, .w (.c (.int .i64)))]⟩)], []⟩
def fd11 : FD := { id := 11, fn := Go.Proofs.Tryz.f11, sig := ⟨[.mut (.slice (tyN_)), .ro (.int .i64)], [(.own, false, .int .i64)]⟩, loops := [(2, in20066)], views := [], joins := [], hooks := [(8, ⟨true, 4, false, false, false⟩)] }
def in20068 : LoopInfo := ⟨20068, ⟨[.row .ro (.arr .u8 8)], [(0, .w (.c (.sl 0))), (1, .w (.c (.int .i64))), (5, .w (.c (.int .i64)))]⟩, [(.exit 0, ⟨[], [(1, .w (.c (.int .i64)))]⟩), (.ret, ⟨[], [(4, .w (.c (.int .i64)))]⟩)], []⟩
def in20069 : LoopInfo := ⟨20069, ⟨[.row .ro (.arr .u8 8)], [(0, .w (.c (.sl 0))), (1, .w (.c (.int .i64))), (5, .w (.c (.int .i64))), (6, .w (.c (.int .i64)))]⟩, [(.exit 2, ⟨[.row .ro (.arr .u8 8)], [(0, .w (.c (.sl 0))), (1, .w (.c (.int .i64))), (5, .w (.c (.int .i64)))]⟩), (.ret, ⟨[], [(4, .w (.c (.int .i64)))]⟩)], []⟩
def fd24 : FD := { id := 24, fn := Go.Proofs.Tryz.f24, sig := ⟨[.ro tyF_, .ro (.int .i64)], [(.own, false, .int .i64)]⟩, loops := [(2, in20068), (5, in20069)], views := [], joins := [] }
def in20067 : LoopInfo := ⟨20067, ⟨[.row .ro (tyN_)], [(0, .w (.c (.sl 0))), (1, .w (.c (.int .i64))), (5, .w (.c (.int .i64)))]⟩, [(.exit 0, ⟨[], [(1, .w (.c (.int .i64)))]⟩), (.ret, ⟨[], [(4, .w (.c (.int .i64)))]⟩)], []⟩
def fd12 : FD := { id := 12, fn := Go.Proofs.Tryz.f12, sig := ⟨[.ro (.slice (tyN_)), .ro (.int .i64)], [(.own, false, .int .i64)]⟩, loops := [(2, in20067)], views := [], joins := [] }
def in20028 : LoopInfo := ⟨20028, ⟨[.row .ro (.arr .u8 8), .box .own (.st [.int .i64, .int .i64, .sl 0]), .row .ro (tyN_)], [(0, .w (.st [.int .i64, .int .i64, .sl 0])), (1, .w (.c (.ptr 1))), (4, .w (.c (.sl 2))), (5, .w (.c (.int .i64)))]⟩, [(.ret, ⟨[.row .ro (.arr .u8 8)], [(0, .w (.st [.int .i64, .int .i64, .sl 0])), (2, .w (.c (.bool)))]⟩)], [(4, .slice (tyN_))]⟩
def fd3 : FD := { id := 3, fn := Go.Proofs.Tryz.f3, sig := ⟨[.ro (tyN_)], [(.own, false, .bool)]⟩, loops := [], views := [], joins := [(6, in20028)], hooks := [(17, ⟨false, 2, false, false, false⟩)], keeps := [0] }
def fdTab : List (Nat × FD) := [(13, fd13), (4, fd4), (30, fd30), (17, fd17), (6, fd6), (46, fd46), (66, fd66), (43, fd43), (48, fd48), (75, fd75), (67, fd67), (40, fd40), (25, fd25), (74, fd74), (49, fd49), (29, fd29), (73, fd73), (97, fd97), (72, fd72), (47, fd47), (28, fd28), (15, fd15), (68, fd68), (41, fd41), (42, fd42), (96, fd96), (70, fd70), (95, fd95), (69, fd69), (44, fd44), (71, fd71), (16, fd16), (45, fd45), (26, fd26), (27, fd27), (14, fd14), (5, fd5), (51, fd51), (50, fd50), (52, fd52), (53, fd53), (54, fd54), (76, fd76), (78, fd78), (77, fd77), (55, fd55), (31, fd31), (62, fd62), (84, fd84), (94, fd94), (64, fd64), (93, fd93), (112, fd112), (92, fd92), (63, fd63), (35, fd35), (80, fd80), (10000, fd10000), (81, fd81), (83, fd83), (82, fd82), (10001, fd10001), (56, fd56), (85, fd85), (98, fd98), (86, fd86), (57, fd57), (113, fd113), (114, fd114), (99, fd99), (100, fd100), (87, fd87), (58, fd58), (65, fd65), (36, fd36), (59, fd59), (10003, fd10003), (10002, fd10002), (122, fd122), (120, fd120), (111, fd111), (91, fd91), (10004, fd10004), (61, fd61), (10005, fd10005), (32, fd32), (33, fd33), (18, fd18), (38, fd38), (10007, fd10007), (10006, fd10006), (21, fd21), (20, fd20), (10008, fd10008), (7, fd7), (39, fd39), (22, fd22), (9, fd9), (8, fd8), (23, fd23), (10, fd10), (11, fd11), (24, fd24), (12, fd12), (3, fd3)]
def ldTab : List (Nat × LD) := [(20001, ⟨30, 3, in20001, false⟩), (20000, ⟨17, 3, in20000, false⟩), (20003, ⟨66, 5, in20003, false⟩), (20004, ⟨43, 3, in20004, false⟩), (20005, ⟨48, 3, in20005, false⟩), (20006, ⟨75, 3, in20006, false⟩), (20007, ⟨67, 3, in20007, false⟩), (20002, ⟨40, 5, in20002, false⟩), (20010, ⟨74, 3, in20010, false⟩), (20013, ⟨72, 3, in20013, false⟩), (20011, ⟨47, 3, in20011, false⟩), (20012, ⟨47, 6, in20012, false⟩), (20014, ⟨28, 4, in20014, false⟩), (20015, ⟨28, 7, in20015, false⟩), (20008, ⟨41, 2, in20008, false⟩), (20009, ⟨41, 4, in20009, false⟩), (20016, ⟨41, 11, in20016, false⟩), (20017, ⟨42, 6, in20017, false⟩), (20020, ⟨95, 3, in20020, false⟩), (20022, ⟨71, 2, in20022, false⟩), (20023, ⟨71, 5, in20023, false⟩), (20024, ⟨16, 4, in20024, false⟩), (20021, ⟨45, 2, in20021, false⟩), (20018, ⟨26, 4, in20018, false⟩), (20019, ⟨26, 7, in20019, false⟩), (20025, ⟨14, 9, in20025, false⟩), (20026, ⟨5, 6, in20026, false⟩), (20027, ⟨5, 10, in20027, false⟩), (20030, ⟨52, 5, in20030, false⟩), (20031, ⟨53, 3, in20031, false⟩), (20032, ⟨54, 3, in20032, false⟩), (20033, ⟨76, 3, in20033, false⟩), (20034, ⟨77, 3, in20034, false⟩), (20035, ⟨55, 3, in20035, false⟩), (20029, ⟨31, 5, in20029, false⟩), (20038, ⟨84, 3, in20038, false⟩), (20040, ⟨112, 3, in20040, false⟩), (20041, ⟨112, 6, in20041, false⟩), (20042, ⟨92, 4, in20042, false⟩), (20043, ⟨92, 7, in20043, false⟩), (20039, ⟨63, 5, in20039, false⟩), (20044, ⟨63, 11, in20044, false⟩), (20045, ⟨63, 14, in20045, false⟩), (20037, ⟨10000, 3, in20037, false⟩), (20047, ⟨81, 7, in20047, false⟩), (20046, ⟨10001, 3, in20046, false⟩), (20036, ⟨56, 1, in20036, false⟩), (20050, ⟨98, 2, in20050, false⟩), (20048, ⟨57, 3, in20048, false⟩), (20049, ⟨57, 6, in20049, false⟩), (20053, ⟨113, 4, in20053, false⟩), (20054, ⟨100, 4, in20054, false⟩), (20056, ⟨65, 4, in20056, false⟩), (20055, ⟨10003, 2, in20055, false⟩), (20058, ⟨111, 2, in20058, false⟩), (20057, ⟨10004, 2, in20057, false⟩), (20051, ⟨32, 4, in20051, false⟩), (20052, ⟨32, 7, in20052, false⟩), (20060, ⟨10007, 2, in20060, false⟩), (20059, ⟨21, 4, in20059, false⟩), (20063, ⟨39, 2, in20063, false⟩), (20062, ⟨22, 4, in20062, false⟩), (20061, ⟨8, 4, in20061, false⟩), (20064, ⟨23, 2, in20064, false⟩), (20065, ⟨23, 5, in20065, false⟩), (20066, ⟨11, 2, in20066, false⟩), (20068, ⟨24, 2, in20068, false⟩), (20069, ⟨24, 5, in20069, false⟩), (20067, ⟨12, 2, in20067, false⟩), (20028, ⟨3, 6, in20028, true⟩)]
def extTab : List (Nat × ExtK) := [(10005, .sort 61 (.pair (.int .i64) (.pair (.int .i64) (.slice (.arr .u8 8))))), (10008, .del 20 (.pair (.int .i64) (.pair (.int .i64) (.slice (.arr .u8 8)))))]
def pickTab : List ((FuncId × List FuncId) × Nat) := [((79, [35, 80]), 10000), ((79, [81, 82]), 10001), ((37, [59]), 10002), ((34, [59]), 10003), ((90, [91]), 10004), ((60, [61]), 10005), ((37, [38]), 10006), ((34, [38]), 10007), ((19, [20]), 10008)]
def pick (f : FuncId) : List FuncId → Nat
  | [] => f
  | l => (pickTab.lookup (f, l)).getD 0
def E : Env := ⟨[9, 10, 11], fun T => tyTab.lookup T, pick, fun f => fdTab.lookup f, fun f => ldTab.lookup f, fun f => extTab.lookup f⟩
def R : Oracle := ev E
theorem go_ {f : Nat} {l : List TV} {b : Oracle → Option (List TV)} (e : ∀ c, run1 E c f l = b c) {o : List TV} (h : b R = some o) : R f l = some o := zUc ((e R).trans h)
theorem R_ev (f : Nat) (l : List TV) : R f l = ev E f l := rfl
def zEP : Nat := 13
def zFg : Nat := 4
def zFf : Nat := 30
def zBp : Nat := 20001
def zEO : Nat := 17
def zA0 : Nat := 20000
def zAo : Nat := 6
def zEu : Nat := 46
def zLB : Nat := 66
def zDU : Nat := 20003
def jY : Nat := 43
def zCl : Nat := 20004
def zAp : Nat := 48
def zCm : Nat := 20005
def zCB : Nat := 75
def zCn : Nat := 20006
def zC8 : Nat := 67
def jB : Nat := 20007
def zLA : Nat := 40
def zB9 : Nat := 20002
def zB8 : Nat := 25
def ki : Nat := 74
def zCk : Nat := 20010
def zCA : Nat := 49
def zFi : Nat := 29
def zBe : Nat := 73
def zC9 : Nat := 97
def zHH : Nat := 72
def zAP : Nat := 20013
def zFj : Nat := 47
def kZ : Nat := 20011
def ku : Nat := 20012
def jX : Nat := 28
def zBX : Nat := 20014
def zBW : Nat := 20015
def zAJ : Nat := 15
def zDk : Nat := 68
def zER : Nat := 41
def jj : Nat := 20008
def zA5 : Nat := 20009
def kh : Nat := 20016
def zAa : Nat := 42
def zAZ : Nat := 20017
def zEt : Nat := 96
def zHG : Nat := 70
def zHt : Nat := 95
def zA9 : Nat := 20020
def zFk : Nat := 69
def zCQ : Nat := 44
def zES : Nat := 71
def zA8 : Nat := 20022
def zA7 : Nat := 20023
def zDT : Nat := 16
def zCj : Nat := 20024
def zCi : Nat := 45
def zA6 : Nat := 20021
def zDS : Nat := 26
def kt : Nat := 20018
def zv : Nat := 20019
def zIr : Nat := 27
def jk : Nat := 14
def jD : Nat := 20025
def zDA : Nat := 5
def jC : Nat := 20026
def jZ : Nat := 20027
def zET : Nat := 51
def zEx : Nat := 50
def zFp : Nat := 52
def zAd : Nat := 20030
def ja : Nat := 53
def zCo : Nat := 20031
def jP : Nat := 54
def zBr : Nat := 20032
def zCT : Nat := 76
def zDq : Nat := 20033
def zGi : Nat := 78
def zEW : Nat := 77
def jl : Nat := 20034
def zHJ : Nat := 55
def zCp : Nat := 20035
def zFq : Nat := 31
def jb : Nat := 20029
def kJ : Nat := 62
def zDl : Nat := 84
def zGg : Nat := 20038
def zLC : Nat := 94
def zGf : Nat := 64
def zDo : Nat := 93
def zDn : Nat := 112
def zBs : Nat := 20040
def zAc : Nat := 20041
def zN2 : Nat := 92
def zGh : Nat := 20042
def zDV : Nat := 20043
def i__i_Normal__put : Nat := 63
def i__i_Normal__put_5 : Nat := 20039
def i__i_Normal__put_11 : Nat := 20044
def i__i_Normal__put_14 : Nat := 20045
def zCS : Nat := 35
def zFm : Nat := 80
def zIt : Nat := 10000
def zDp : Nat := 20037
def zFo : Nat := 81
def zBt : Nat := 20047
def zDm : Nat := 83
def zFl : Nat := 82
def zEV : Nat := 10001
def zBC : Nat := 20046
def zIs : Nat := 56
def zCR : Nat := 20036
def zFn : Nat := 85
def zp : Nat := 98
def zN : Nat := 20050
def zz : Nat := 86
def zEX : Nat := 57
def zBD : Nat := 20048
def jm : Nat := 20049
def i__i_Normal__turnBy : Nat := 113
def i__i_Normal__turnBy_4 : Nat := 20053
def zAq : Nat := 114
def i__i_Normal__putInverse : Nat := 99
def zEw : Nat := 100
def zAQ : Nat := 20054
def zBA : Nat := 87
def zCq : Nat := 58
def kI : Nat := 65
def zj : Nat := 20056
def zAb : Nat := 36
def zBf : Nat := 59
def zd : Nat := 10003
def zM : Nat := 20055
def zn : Nat := 10002
def icmp_isNaN_byte_ : Nat := 122
def icmp_Compare_byte_ : Nat := 120
def kv : Nat := 111
def kC : Nat := 20058
def zBg : Nat := 91
def zP : Nat := 10004
def zJ : Nat := 20057
def zAr : Nat := 61
def zy : Nat := 10005
def jH : Nat := 32
def kT : Nat := 20051
def zx : Nat := 20052
def zHI : Nat := 33
def jn : Nat := 18
def zDC : Nat := 38
def zX : Nat := 10007
def zI : Nat := 20060
def zh : Nat := 10006
def zEU : Nat := 21
def zBB : Nat := 20059
def jE : Nat := 20
def zu : Nat := 10008
def zBE : Nat := 7
def zFh : Nat := 39
def zBq : Nat := 20063
def zEQ : Nat := 22
def zA3 : Nat := 20062
def zDj : Nat := 9
def zBV : Nat := 8
def zA4 : Nat := 20061
def zA1 : Nat := 23
def jx : Nat := 20064
def jw : Nat := 20065
def zDi : Nat := 10
def zC6 : Nat := 11
def jy : Nat := 20066
def zC7 : Nat := 24
def zAA : Nat := 20068
def jz : Nat := 20069
def zA2 : Nat := 12
def zAB : Nat := 20067
def iw_FnExactUltraSummit : Nat := 3
def kg : Nat := 20028
end
end Go.Ev.YtmdkgikjnaijeaaGreat
