/- What the evaluator knows of this program. -/
import Derived.Test.YtolpnaiincngjaaGreatProg
import Derived.Test.YtolpnaiincngjaaGreatV1
namespace Go.Ev.YtolpnaiincngjaaGreat
open Go.Ev
@[reducible] noncomputable def tA8 (x : List Int) : TV := ⟨.arr .u8 8, x⟩
@[reducible] noncomputable def gA8 (l : List TV) (i : Nat) : List Int := getTV (.arr .u8 8) l i
@[reducible] noncomputable def tAB8 (x : List Bool) : TV := ⟨.barr 8, x⟩
@[reducible] noncomputable def gAB8 (l : List TV) (i : Nat) : List Bool := getTV (.barr 8) l i
@[reducible] noncomputable def tB (x : Bool) : TV := ⟨.bool, x⟩
@[reducible] noncomputable def gB (l : List TV) (i : Nat) : Bool := getTV (.bool) l i
@[reducible] noncomputable def tI (x : Int) : TV := ⟨.int .i64, x⟩
@[reducible] noncomputable def gI (l : List TV) (i : Nat) : Int := getTV (.int .i64) l i
@[reducible] noncomputable def tLA8 (x : List (List Int)) : TV := ⟨.slice (.arr .u8 8), x⟩
@[reducible] noncomputable def gLA8 (l : List TV) (i : Nat) : List (List Int) := getTV (.slice (.arr .u8 8)) l i
@[reducible] noncomputable def tLI (x : List Int) : TV := ⟨.slice (.int .i64), x⟩
@[reducible] noncomputable def gLI (l : List TV) (i : Nat) : List Int := getTV (.slice (.int .i64)) l i
@[reducible] noncomputable def tLPIPILA8 (x : List (Int × Int × List (List Int))) : TV := ⟨.slice (.pair (.int .i64) (.pair (.int .i64) (.slice (.arr .u8 8)))), x⟩
@[reducible] noncomputable def gLPIPILA8 (l : List TV) (i : Nat) : List (Int × Int × List (List Int)) := getTV (.slice (.pair (.int .i64) (.pair (.int .i64) (.slice (.arr .u8 8))))) l i
@[reducible] noncomputable def tLU8 (x : List Int) : TV := ⟨.slice (.int .u8), x⟩
@[reducible] noncomputable def gLU8 (l : List TV) (i : Nat) : List Int := getTV (.slice (.int .u8)) l i
@[reducible] noncomputable def tPIPILA8 (x : Int × Int × List (List Int)) : TV := ⟨.pair (.int .i64) (.pair (.int .i64) (.slice (.arr .u8 8))), x⟩
@[reducible] noncomputable def gPIPILA8 (l : List TV) (i : Nat) : Int × Int × List (List Int) := getTV (.pair (.int .i64) (.pair (.int .i64) (.slice (.arr .u8 8)))) l i
@[reducible] noncomputable def tU64 (x : Int) : TV := ⟨.int .u64, x⟩
@[reducible] noncomputable def gU64 (l : List TV) (i : Nat) : Int := getTV (.int .u64) l i
@[reducible] noncomputable def tU8 (x : Int) : TV := ⟨.int .u8, x⟩
@[reducible] noncomputable def gU8 (l : List TV) (i : Nat) : Int := getTV (.int .u8) l i
noncomputable def tyTab : List (Nat × Ty) := [(2, .int .i64), (3, .int .i64), (4, .bool), (5, .int .u8), (6, .int .u8), (7, .pair (.int .i64) (.pair (.int .i64) (.pair (.bool) (.int .u8)))), (8, .pair (.int .i64) (.pair (.int .i64) (.pair (.bool) (.int .u8)))), (12, .int .u64), (21, .int .i32), (22, .slice (.arr .u8 8)), (23, .pair (.int .i64) (.pair (.int .i64) (.slice (.arr .u8 8)))), (24, .pair (.int .i64) (.pair (.int .i64) (.slice (.arr .u8 8)))), (26, .slice (.pair (.int .i64) (.pair (.int .i64) (.slice (.arr .u8 8))))), (29, .slice (.arr .u8 8)), (30, .pair (.int .i64) (.pair (.int .i64) (.slice (.arr .u8 8)))), (31, .pair (.int .i64) (.pair (.int .i64) (.slice (.arr .u8 8)))), (57, .arr .u8 8), (58, .arr .u8 8), (85, .int .u64), (88, .barr 8), (89, .slice (.int .i64)), (96, .int .i64), (104, .int .u32), (106, .int .u64), (108, .slice (.int .u8)), (111, .int .u64), (129, .int .u8), (130, .int .u8), (133, .int .i32), (134, .int .i32)]
/-- laws.szSimpleS -/
noncomputable def fd19 : FD := { id := 19, fn := Go.Proofs.Tryz.f19, sig := ⟨[.ro (.slice (.arr .u8 8)), .ro (.int .i64)], [(.own, false, .int .i64)]⟩, loops := [], views := [], joins := [] }
/-- laws.szNormal -/
noncomputable def fd6 : FD := { id := 6, fn := Go.Proofs.Tryz.f6, sig := ⟨[.ro (.pair (.int .i64) (.pair (.int .i64) (.slice (.arr .u8 8)))), .ro (.int .i64)], [(.own, false, .int .i64)]⟩, loops := [], views := [], joins := [] }
noncomputable def in20001 : LoopInfo := ⟨20001, ⟨[.box .own (.arr .u8 8), .box .own (.arr .u8 8), .box .own (.arr .u8 8)], [(1, .w (.c (.ptr 0))), (2, .w (.c (.ptr 1))), (3, .w (.c (.ptr 2))), (4, .w (.c (.int .i64)))]⟩, [(.exit 0, ⟨[.box .own (.arr .u8 8), .box .own (.arr .u8 8)], [(2, .w (.c (.ptr 0))), (3, .w (.c (.ptr 1)))]⟩)]⟩
/-- laws.toSimple -/
noncomputable def fd45 : FD := { id := 45, fn := Go.Proofs.Tryz.f45, sig := ⟨[.ro (.arr .u8 8)], [(.own, false, .arr .u8 8)]⟩, loops := [(3, in20001)], views := [], joins := [] }
noncomputable def in20000 : LoopInfo := ⟨20000, ⟨[.row .ro (.arr .u8 8), .row .own (.arr .u8 8)], [(0, .w (.c (.sl 0))), (3, .w (.c (.sl 1))), (4, .w (.c (.int .i64)))]⟩, [(.exit 0, ⟨[.row .own (.arr .u8 8)], [(3, .w (.c (.sl 0)))]⟩)]⟩
/-- laws.toSimpleS -/
noncomputable def fd22 : FD := { id := 22, fn := Go.Proofs.Tryz.f22, sig := ⟨[.ro (.slice (.arr .u8 8))], [(.own, false, .slice (.arr .u8 8))]⟩, loops := [(3, in20000)], views := [], joins := [] }
/-- laws.toNormal -/
noncomputable def fd8 : FD := { id := 8, fn := Go.Proofs.Tryz.f8, sig := ⟨[.ro (.pair (.int .i64) (.pair (.int .i64) (.slice (.arr .u8 8))))], [(.own, false, .pair (.int .i64) (.pair (.int .i64) (.slice (.arr .u8 8))))]⟩, loops := [], views := [], joins := [] }
/-- spec.l01In -/
noncomputable def fd68 : FD := { id := 68, fn := Go.Proofs.Tryz.f68, sig := ⟨[.ro (.int .i64), .ro (.int .i64), .ro (.int .i64)], [(.own, false, .bool)]⟩, loops := [], views := [], joins := [] }
noncomputable def in20003 : LoopInfo := ⟨20003, ⟨[.box .own (.arr .u8 8), .box .own (.barr 8)], [(1, .w (.c (.int .i64))), (2, .w (.c (.ptr 0))), (5, .w (.c (.ptr 1))), (6, .w (.c (.int .i64)))]⟩, [(.exit 0, ⟨[], []⟩), (.ret, ⟨[], [(4, .w (.c (.bool)))]⟩)]⟩
/-- spec.l02Is -/
noncomputable def fd80 : FD := { id := 80, fn := Go.Proofs.Tryz.f80, sig := ⟨[.ro (.arr .u8 8), .ro (.int .i64)], [(.own, false, .bool)]⟩, loops := [(5, in20003)], views := [], joins := [] }
noncomputable def in20004 : LoopInfo := ⟨20004, ⟨[.box .own (.arr .u8 8), .box .own (.arr .u8 8)], [(0, .w (.c (.int .i64))), (2, .w (.c (.ptr 0))), (3, .w (.c (.ptr 1))), (4, .w (.c (.int .i64)))]⟩, [(.exit 0, ⟨[.box .own (.arr .u8 8), .box .own (.arr .u8 8)], [(2, .w (.c (.ptr 0))), (3, .w (.c (.ptr 1)))]⟩)]⟩
/-- spec.l02Same -/
noncomputable def fd53 : FD := { id := 53, fn := Go.Proofs.Tryz.f53, sig := ⟨[.ro (.int .i64)], [(.own, false, .arr .u8 8)]⟩, loops := [(3, in20004)], views := [], joins := [] }
noncomputable def in20005 : LoopInfo := ⟨20005, ⟨[.box .own (.arr .u8 8), .box .own (.arr .u8 8)], [(0, .w (.c (.int .i64))), (2, .w (.c (.ptr 0))), (3, .w (.c (.ptr 1))), (4, .w (.c (.int .i64)))]⟩, [(.exit 0, ⟨[.box .own (.arr .u8 8), .box .own (.arr .u8 8)], [(2, .w (.c (.ptr 0))), (3, .w (.c (.ptr 1)))]⟩)]⟩
/-- spec.l02Half -/
noncomputable def fd76 : FD := { id := 76, fn := Go.Proofs.Tryz.f76, sig := ⟨[.ro (.int .i64)], [(.own, false, .arr .u8 8)]⟩, loops := [(3, in20005)], views := [], joins := [] }
noncomputable def in20006 : LoopInfo := ⟨20006, ⟨[.box .own (.arr .u8 8), .box .own (.arr .u8 8), .box .own (.arr .u8 8)], [(1, .w (.c (.int .i64))), (2, .w (.c (.ptr 0))), (4, .w (.c (.ptr 1))), (5, .w (.c (.ptr 2))), (6, .w (.c (.int .i64)))]⟩, [(.exit 0, ⟨[.box .own (.arr .u8 8), .box .own (.arr .u8 8)], [(4, .w (.c (.ptr 0))), (5, .w (.c (.ptr 1)))]⟩)]⟩
/-- spec.l02Back -/
noncomputable def fd98 : FD := { id := 98, fn := Go.Proofs.Tryz.f98, sig := ⟨[.ro (.arr .u8 8), .ro (.int .i64)], [(.own, false, .arr .u8 8)]⟩, loops := [(3, in20006)], views := [], joins := [] }
noncomputable def in20007 : LoopInfo := ⟨20007, ⟨[.box .own (.arr .u8 8), .box .own (.arr .u8 8)], [(2, .w (.c (.int .i64))), (4, .w (.c (.ptr 0))), (7, .w (.c (.ptr 1))), (8, .w (.c (.int .i64)))]⟩, [(.exit 0, ⟨[], []⟩), (.ret, ⟨[], [(6, .w (.c (.bool)))]⟩)]⟩
/-- spec.l03Weighted -/
noncomputable def fd81 : FD := { id := 81, fn := Go.Proofs.Tryz.f81, sig := ⟨[.ro (.arr .u8 8), .ro (.arr .u8 8), .ro (.int .i64)], [(.own, false, .bool)]⟩, loops := [(3, in20007)], views := [], joins := [] }
noncomputable def in20002 : LoopInfo := ⟨20002, ⟨[.box .own (.st [.int .i64, .int .i64, .sl 1]), .row .ro (.arr .u8 8)], [(1, .w (.c (.ptr 0))), (3, .w (.c (.int .i64))), (4, .w (.c (.int .i64)))]⟩, [(.exit 0, ⟨[], []⟩), (.ret, ⟨[], [(2, .w (.c (.bool)))]⟩)]⟩
/-- spec.l03Is -/
noncomputable def fd50 : FD := { id := 50, fn := Go.Proofs.Tryz.f50, sig := ⟨[.ro (.pair (.int .i64) (.pair (.int .i64) (.slice (.arr .u8 8))))], [(.own, false, .bool)]⟩, loops := [(5, in20002)], views := [], joins := [] }
/-- spec.l04Code -/
noncomputable def fd39 : FD := { id := 39, fn := Go.Proofs.Tryz.f39, sig := ⟨[.ro (.pair (.int .i64) (.pair (.int .i64) (.slice (.arr .u8 8))))], [(.own, false, .int .i64)]⟩, loops := [], views := [], joins := [] }
noncomputable def in20010 : LoopInfo := ⟨20010, ⟨[.box .own (.arr .u8 8), .box .own (.arr .u8 8), .box .own (.arr .u8 8), .box .own (.arr .u8 8)], [(2, .w (.c (.int .i64))), (3, .w (.c (.ptr 0))), (4, .w (.c (.ptr 1))), (6, .w (.c (.ptr 2))), (7, .w (.c (.ptr 3))), (8, .w (.c (.int .i64)))]⟩, [(.exit 0, ⟨[.box .own (.arr .u8 8), .box .own (.arr .u8 8)], [(6, .w (.c (.ptr 0))), (7, .w (.c (.ptr 1)))]⟩)]⟩
/-- spec.l02Then -/
noncomputable def fd97 : FD := { id := 97, fn := Go.Proofs.Tryz.f97, sig := ⟨[.ro (.arr .u8 8), .ro (.arr .u8 8), .ro (.int .i64)], [(.own, false, .arr .u8 8)]⟩, loops := [(3, in20010)], views := [], joins := [] }
/-- spec.l02Turn -/
noncomputable def fd77 : FD := { id := 77, fn := Go.Proofs.Tryz.f77, sig := ⟨[.ro (.arr .u8 8), .ro (.int .i64)], [(.own, false, .arr .u8 8)]⟩, loops := [], views := [], joins := [] }
/-- spec.l04First -/
noncomputable def fd44 : FD := { id := 44, fn := Go.Proofs.Tryz.f44, sig := ⟨[.ro (.pair (.int .i64) (.pair (.int .i64) (.slice (.arr .u8 8))))], [(.own, false, .arr .u8 8)]⟩, loops := [], views := [], joins := [] }
/-- spec.l02Complement -/
noncomputable def fd96 : FD := { id := 96, fn := Go.Proofs.Tryz.f96, sig := ⟨[.ro (.arr .u8 8), .ro (.int .i64)], [(.own, false, .arr .u8 8)]⟩, loops := [], views := [], joins := [] }
/-- spec.l02Exchange -/
noncomputable def fd118 : FD := { id := 118, fn := Go.Proofs.Tryz.f118, sig := ⟨[.ro (.int .i64), .ro (.int .i64)], [(.own, false, .arr .u8 8)]⟩, loops := [], views := [], joins := [] }
noncomputable def in20013 : LoopInfo := ⟨20013, ⟨[.box .own (.arr .u8 8), .box .own (.arr .u8 8), .box .own (.arr .u8 8), .box .own (.arr .u8 8)], [(2, .w (.c (.int .i64))), (3, .w (.c (.ptr 0))), (4, .w (.c (.ptr 1))), (6, .w (.c (.ptr 2))), (7, .w (.c (.ptr 3))), (8, .w (.c (.int .i64)))]⟩, [(.exit 0, ⟨[.box .own (.arr .u8 8), .box .own (.arr .u8 8)], [(6, .w (.c (.ptr 0))), (7, .w (.c (.ptr 1)))]⟩)]⟩
/-- spec.l02Meet -/
noncomputable def fd95 : FD := { id := 95, fn := Go.Proofs.Tryz.f95, sig := ⟨[.ro (.arr .u8 8), .ro (.arr .u8 8), .ro (.int .i64)], [(.own, false, .arr .u8 8)]⟩, loops := [(3, in20013)], views := [], joins := [] }
noncomputable def in20011 : LoopInfo := ⟨20011, ⟨[.row .own (.arr .u8 8)], [(1, .w (.c (.int .i64))), (5, .w (.c (.sl 0))), (6, .w (.c (.bool)))]⟩, [(.exit 0, ⟨[.row .own (.arr .u8 8)], [(5, .w (.c (.sl 0)))]⟩)]⟩
noncomputable def in20012 : LoopInfo := ⟨20012, ⟨[.row .own (.arr .u8 8)], [(1, .w (.c (.int .i64))), (5, .w (.c (.sl 0))), (6, .w (.c (.bool))), (7, .w (.c (.int .i64)))]⟩, [(.exit 2, ⟨[.row .own (.arr .u8 8)], [(1, .w (.c (.int .i64))), (5, .w (.c (.sl 0))), (6, .w (.c (.bool)))]⟩)]⟩
/-- spec.l03Weigh -/
noncomputable def fd75 : FD := { id := 75, fn := Go.Proofs.Tryz.f75, sig := ⟨[.ro (.slice (.arr .u8 8)), .ro (.int .i64)], [(.own, false, .slice (.arr .u8 8))]⟩, loops := [(3, in20011), (6, in20012)], views := [], joins := [] }
noncomputable def in20014 : LoopInfo := ⟨20014, ⟨[.row .own (.arr .u8 8), .box .own (.st [.int .i64, .int .i64, .sl 2]), .row .own (.arr .u8 8)], [(0, .w (.c (.int .i64))), (1, .w (.c (.int .i64))), (2, .w (.c (.sl 0))), (6, .w (.c (.ptr 1))), (7, .w (.c (.int .i64))), (8, .w (.c (.int .i64)))]⟩, [(.exit 0, ⟨[.row .own (.arr .u8 8), .box .own (.st [.int .i64, .int .i64, .sl 2]), .row .own (.arr .u8 8)], [(0, .w (.c (.int .i64))), (1, .w (.c (.int .i64))), (2, .w (.c (.sl 0))), (6, .w (.c (.ptr 1))), (7, .w (.c (.int .i64))), (8, .w (.c (.int .i64)))]⟩)]⟩
noncomputable def in20015 : LoopInfo := ⟨20015, ⟨[.row .own (.arr .u8 8), .box .own (.st [.int .i64, .int .i64, .sl 2]), .row .own (.arr .u8 8)], [(0, .w (.c (.int .i64))), (1, .w (.c (.int .i64))), (2, .w (.c (.sl 0))), (6, .w (.c (.ptr 1))), (7, .w (.c (.int .i64))), (8, .w (.c (.int .i64)))]⟩, [(.exit 2, ⟨[.row .own (.arr .u8 8), .box .own (.st [.int .i64, .int .i64, .sl 2]), .row .own (.arr .u8 8)], [(0, .w (.c (.int .i64))), (1, .w (.c (.int .i64))), (2, .w (.c (.sl 0))), (6, .w (.c (.ptr 1))), (7, .w (.c (.int .i64))), (8, .w (.c (.int .i64)))]⟩)]⟩
/-- spec.l03Make -/
noncomputable def fd43 : FD := { id := 43, fn := Go.Proofs.Tryz.f43, sig := ⟨[.ro (.int .i64), .ro (.int .i64), .ro (.slice (.arr .u8 8))], [(.own, false, .pair (.int .i64) (.pair (.int .i64) (.slice (.arr .u8 8))))]⟩, loops := [(4, in20014), (7, in20015)], views := [], joins := [] }
/-- spec.l04Cycle -/
noncomputable def fd20 : FD := { id := 20, fn := Go.Proofs.Tryz.f20, sig := ⟨[.ro (.pair (.int .i64) (.pair (.int .i64) (.slice (.arr .u8 8))))], [(.ro, false, .pair (.int .i64) (.pair (.int .i64) (.slice (.arr .u8 8))))]⟩, loops := [], views := [], joins := [] }
/-- spec.l04Decycle -/
noncomputable def fd51 : FD := { id := 51, fn := Go.Proofs.Tryz.f51, sig := ⟨[.ro (.pair (.int .i64) (.pair (.int .i64) (.slice (.arr .u8 8))))], [(.ro, false, .pair (.int .i64) (.pair (.int .i64) (.slice (.arr .u8 8))))]⟩, loops := [], views := [], joins := [] }
noncomputable def in20008 : LoopInfo := ⟨20008, ⟨[.box .own (.st [.int .i64, .int .i64, .sl 1]), .row .ro (.arr .u8 8), .box .own (.st [.int .i64, .int .i64, .sl 3]), .row .own (.arr .u8 8)], [(1, .w (.c (.ptr 0))), (2, .w (.c (.ptr 2))), (3, .w (.c (.int .i64)))]⟩, [(.ret, ⟨[.box .own (.st [.int .i64, .int .i64, .sl 1]), .row .ro (.arr .u8 8)], [(2, .w (.c (.ptr 0)))]⟩)]⟩
noncomputable def in20009 : LoopInfo := ⟨20009, ⟨[.box .own (.st [.int .i64, .int .i64, .sl 1]), .row .ro (.arr .u8 8), .box .own (.st [.int .i64, .int .i64, .sl 3]), .row .own (.arr .u8 8), .box .own (.st [.int .i64, .int .i64, .sl 5]), .row .ro (.arr .u8 8)], [(1, .w (.c (.ptr 0))), (2, .w (.c (.ptr 2))), (3, .w (.c (.int .i64))), (4, .w (.c (.ptr 4))), (5, .w (.c (.bool))), (6, .w (.c (.int .i64)))]⟩, [(.exit 2, ⟨[.box .own (.st [.int .i64, .int .i64, .sl 1]), .row .ro (.arr .u8 8), .box .own (.st [.int .i64, .int .i64, .sl 3]), .row .own (.arr .u8 8), .box .own (.st [.int .i64, .int .i64, .sl 5]), .row .ro (.arr .u8 8)], [(1, .w (.c (.ptr 0))), (2, .w (.c (.ptr 2))), (3, .w (.c (.int .i64))), (4, .w (.c (.ptr 4))), (5, .w (.c (.bool)))]⟩)]⟩
noncomputable def in20016 : LoopInfo := ⟨20016, ⟨[.box .own (.st [.int .i64, .int .i64, .sl 1]), .row .ro (.arr .u8 8), .box .own (.st [.int .i64, .int .i64, .sl 3]), .row .own (.arr .u8 8), .box .own (.st [.int .i64, .int .i64, .sl 5]), .row .ro (.arr .u8 8)], [(1, .w (.c (.ptr 0))), (2, .w (.c (.ptr 2))), (3, .w (.c (.int .i64))), (4, .w (.c (.ptr 4))), (5, .w (.c (.bool))), (7, .w (.c (.int .i64)))]⟩, [(.exit 4, ⟨[.box .own (.st [.int .i64, .int .i64, .sl 1]), .row .ro (.arr .u8 8), .box .own (.st [.int .i64, .int .i64, .sl 3]), .row .own (.arr .u8 8), .box .own (.st [.int .i64, .int .i64, .sl 5]), .row .ro (.arr .u8 8)], [(1, .w (.c (.ptr 0))), (2, .w (.c (.ptr 2))), (3, .w (.c (.int .i64))), (4, .w (.c (.ptr 4))), (5, .w (.c (.bool)))]⟩)]⟩
/-- spec.l04Summit -/
noncomputable def fd30 : FD := { id := 30, fn := Go.Proofs.Tryz.f30, sig := ⟨[.ro (.pair (.int .i64) (.pair (.int .i64) (.slice (.arr .u8 8))))], [(.ro, false, .pair (.int .i64) (.pair (.int .i64) (.slice (.arr .u8 8))))]⟩, loops := [(2, in20008), (4, in20009), (11, in20016)], views := [], joins := [] }
noncomputable def in20017 : LoopInfo := ⟨20017, ⟨[.row .own (.arr .u8 8), .box .own (.arr .u8 8)], [(0, .w (.c (.sl 0))), (2, .w (.c (.int .i64))), (3, .w (.c (.int .i64))), (5, .w (.c (.ptr 1))), (9, .w (.c (.int .i64)))]⟩, [(.exit 0, ⟨[.row .own (.arr .u8 8)], [(0, .w (.c (.sl 0)))]⟩)]⟩
/-- spec.l04Simples -/
noncomputable def fd52 : FD := { id := 52, fn := Go.Proofs.Tryz.f52, sig := ⟨[.own (.slice (.arr .u8 8)), .ro (.arr .u8 8), .ro (.int .i64), .ro (.int .i64)], [(.own, false, .slice (.arr .u8 8))]⟩, loops := [(6, in20017)], views := [], joins := [] }
/-- spec.l02Left -/
noncomputable def fd103 : FD := { id := 103, fn := Go.Proofs.Tryz.f103, sig := ⟨[.ro (.arr .u8 8), .ro (.int .i64)], [(.own, false, .arr .u8 8)]⟩, loops := [], views := [], joins := [] }
/-- spec.l03Less -/
noncomputable def fd83 : FD := { id := 83, fn := Go.Proofs.Tryz.f83, sig := ⟨[.ro (.pair (.int .i64) (.pair (.int .i64) (.slice (.arr .u8 8)))), .ro (.arr .u8 8)], [(.own, false, .pair (.int .i64) (.pair (.int .i64) (.slice (.arr .u8 8))))]⟩, loops := [], views := [], joins := [] }
noncomputable def in20020 : LoopInfo := ⟨20020, ⟨[.row .ro (.arr .u8 8), .row .own (.arr .u8 8)], [(0, .w (.c (.sl 0))), (1, .w (.c (.int .i64))), (2, .w (.c (.int .i64))), (7, .w (.c (.sl 1))), (8, .w (.c (.int .i64)))]⟩, [(.exit 0, ⟨[.row .own (.arr .u8 8)], [(7, .w (.c (.sl 0)))]⟩)]⟩
/-- spec.l03Turned -/
noncomputable def fd102 : FD := { id := 102, fn := Go.Proofs.Tryz.f102, sig := ⟨[.ro (.slice (.arr .u8 8)), .ro (.int .i64), .ro (.int .i64)], [(.own, false, .slice (.arr .u8 8))]⟩, loops := [(3, in20020)], views := [], joins := [] }
/-- spec.l03Times -/
noncomputable def fd82 : FD := { id := 82, fn := Go.Proofs.Tryz.f82, sig := ⟨[.ro (.pair (.int .i64) (.pair (.int .i64) (.slice (.arr .u8 8)))), .ro (.arr .u8 8), .ro (.bool)], [(.own, false, .pair (.int .i64) (.pair (.int .i64) (.slice (.arr .u8 8))))]⟩, loops := [], views := [], joins := [] }
/-- spec.l04Conjugate -/
noncomputable def fd54 : FD := { id := 54, fn := Go.Proofs.Tryz.f54, sig := ⟨[.ro (.pair (.int .i64) (.pair (.int .i64) (.slice (.arr .u8 8)))), .ro (.arr .u8 8)], [(.own, false, .pair (.int .i64) (.pair (.int .i64) (.slice (.arr .u8 8))))]⟩, loops := [], views := [], joins := [] }
noncomputable def in20022 : LoopInfo := ⟨20022, ⟨[.box .own (.st [.int .i64, .int .i64, .sl 1]), .row .ro (.arr .u8 8), .box .own (.st [.int .i64, .int .i64, .sl 3]), .row .ro (.arr .u8 8)], [(2, .w (.c (.ptr 0))), (3, .w (.c (.ptr 2))), (5, .w (.c (.int .i64)))]⟩, [(.exit 0, ⟨[], []⟩), (.ret, ⟨[], [(4, .w (.c (.bool)))]⟩)]⟩
noncomputable def in20023 : LoopInfo := ⟨20023, ⟨[.box .own (.st [.int .i64, .int .i64, .sl 1]), .row .ro (.arr .u8 8), .box .own (.st [.int .i64, .int .i64, .sl 3]), .row .ro (.arr .u8 8)], [(2, .w (.c (.ptr 0))), (3, .w (.c (.ptr 2))), (5, .w (.c (.int .i64))), (6, .w (.c (.int .i64)))]⟩, [(.exit 2, ⟨[.box .own (.st [.int .i64, .int .i64, .sl 1]), .row .ro (.arr .u8 8), .box .own (.st [.int .i64, .int .i64, .sl 3]), .row .ro (.arr .u8 8)], [(2, .w (.c (.ptr 0))), (3, .w (.c (.ptr 2))), (5, .w (.c (.int .i64)))]⟩), (.ret, ⟨[], [(4, .w (.c (.bool)))]⟩)]⟩
/-- spec.l04Before -/
noncomputable def fd55 : FD := { id := 55, fn := Go.Proofs.Tryz.f55, sig := ⟨[.ro (.pair (.int .i64) (.pair (.int .i64) (.slice (.arr .u8 8)))), .ro (.pair (.int .i64) (.pair (.int .i64) (.slice (.arr .u8 8))))], [(.own, false, .bool)]⟩, loops := [(2, in20022), (5, in20023)], views := [], joins := [] }
noncomputable def in20024 : LoopInfo := ⟨20024, ⟨[.box .own (.st [.int .i64, .int .i64, .sl 1]), .row .ro (.arr .u8 8), .box .own (.st [.int .i64, .int .i64, .sl 3]), .row .ro (.arr .u8 8)], [(2, .w (.c (.ptr 0))), (3, .w (.c (.ptr 2))), (5, .w (.c (.int .i64)))]⟩, [(.exit 0, ⟨[], []⟩), (.ret, ⟨[], [(4, .w (.c (.bool)))]⟩)]⟩
/-- spec.l03Like -/
noncomputable def fd21 : FD := { id := 21, fn := Go.Proofs.Tryz.f21, sig := ⟨[.ro (.pair (.int .i64) (.pair (.int .i64) (.slice (.arr .u8 8)))), .ro (.pair (.int .i64) (.pair (.int .i64) (.slice (.arr .u8 8))))], [(.own, false, .bool)]⟩, loops := [(4, in20024)], views := [], joins := [] }
noncomputable def in20021 : LoopInfo := ⟨20021, ⟨[.row .ro (.pair (.int .i64) (.pair (.int .i64) (.slice (.arr .u8 8)))), .box .own (.st [.int .i64, .int .i64, .sl 2]), .row .ro (.arr .u8 8)], [(0, .w (.c (.sl 0))), (3, .w (.c (.ptr 1))), (6, .w (.c (.int .i64)))]⟩, [(.exit 0, ⟨[.row .ro (.pair (.int .i64) (.pair (.int .i64) (.slice (.arr .u8 8)))), .box .own (.st [.int .i64, .int .i64, .sl 2]), .row .ro (.arr .u8 8)], [(0, .w (.c (.sl 0))), (3, .w (.c (.ptr 1))), (6, .w (.c (.int .i64)))]⟩)]⟩
/-- spec.l04Insert -/
noncomputable def fd32 : FD := { id := 32, fn := Go.Proofs.Tryz.f32, sig := ⟨[.ro (.slice (.pair (.int .i64) (.pair (.int .i64) (.slice (.arr .u8 8))))), .ro (.pair (.int .i64) (.pair (.int .i64) (.slice (.arr .u8 8))))], [(.ro, false, .slice (.pair (.int .i64) (.pair (.int .i64) (.slice (.arr .u8 8))))), (.own, false, .bool)]⟩, loops := [(2, in20021)], views := [], joins := [] }
noncomputable def in20018 : LoopInfo := ⟨20018, ⟨[.box .own (.st [.int .i64, .int .i64, .sl 1]), .row .ro (.arr .u8 8), .row .ro (.pair (.int .i64) (.pair (.int .i64) (.slice (.arr .u8 8)))), .row .sh (.pair (.int .i64) (.pair (.int .i64) (.slice (.arr .u8 8)))), .row .own (.arr .u8 8)], [(4, .w (.c (.ptr 0))), (5, .w (.c (.sl 2))), (6, .w (.c (.sl 3))), (7, .w (.c (.sl 4))), (8, .w (.c (.int .i64)))]⟩, [(.exit 0, ⟨[.row .ro (.pair (.int .i64) (.pair (.int .i64) (.slice (.arr .u8 8))))], [(5, .w (.c (.sl 0)))]⟩), (.ret, ⟨[.row .own (.pair (.int .i64) (.pair (.int .i64) (.slice (.arr .u8 8))))], [(2, .w (.c (.sl 0))), (3, .w (.c (.bool)))]⟩)]⟩
noncomputable def in20019 : LoopInfo := ⟨20019, ⟨[.box .own (.st [.int .i64, .int .i64, .sl 1]), .row .ro (.arr .u8 8), .row .ro (.pair (.int .i64) (.pair (.int .i64) (.slice (.arr .u8 8)))), .row .sh (.pair (.int .i64) (.pair (.int .i64) (.slice (.arr .u8 8)))), .row .own (.arr .u8 8)], [(4, .w (.c (.ptr 0))), (5, .w (.c (.sl 2))), (6, .w (.c (.sl 3))), (7, .w (.c (.sl 4))), (8, .w (.c (.int .i64))), (9, .w (.c (.int .i64)))]⟩, [(.exit 2, ⟨[.box .own (.st [.int .i64, .int .i64, .sl 1]), .row .ro (.arr .u8 8), .row .ro (.pair (.int .i64) (.pair (.int .i64) (.slice (.arr .u8 8)))), .row .sh (.pair (.int .i64) (.pair (.int .i64) (.slice (.arr .u8 8)))), .row .own (.arr .u8 8)], [(4, .w (.c (.ptr 0))), (5, .w (.c (.sl 2))), (6, .w (.c (.sl 3))), (7, .w (.c (.sl 4))), (8, .w (.c (.int .i64)))]⟩), (.ret, ⟨[.row .own (.pair (.int .i64) (.pair (.int .i64) (.slice (.arr .u8 8))))], [(2, .w (.c (.sl 0))), (3, .w (.c (.bool)))]⟩)]⟩
/-- spec.l04Set -/
noncomputable def fd31 : FD := { id := 31, fn := Go.Proofs.Tryz.f31, sig := ⟨[.ro (.pair (.int .i64) (.pair (.int .i64) (.slice (.arr .u8 8))))], [(.ro, false, .slice (.pair (.int .i64) (.pair (.int .i64) (.slice (.arr .u8 8))))), (.own, false, .bool)]⟩, loops := [(4, in20018), (7, in20019)], views := [], joins := [] }
/-- spec.l03Fit -/
noncomputable def fd40 : FD := { id := 40, fn := Go.Proofs.Tryz.f40, sig := ⟨[.own (.pair (.int .i64) (.pair (.int .i64) (.slice (.arr .u8 8))))], [(.own, false, .pair (.int .i64) (.pair (.int .i64) (.slice (.arr .u8 8)))), (.own, false, .int .i64)]⟩, loops := [], views := [], joins := [] }
noncomputable def in20025 : LoopInfo := ⟨20025, ⟨[.row .ro (.pair (.int .i64) (.pair (.int .i64) (.slice (.arr .u8 8)))), .row .own (.pair (.int .i64) (.pair (.int .i64) (.slice (.arr .u8 8))))], [(5, .w (.c (.sl 0))), (7, .w (.c (.sl 1))), (8, .w (.c (.int .i64)))]⟩, [(.exit 0, ⟨[.row .own (.pair (.int .i64) (.pair (.int .i64) (.slice (.arr .u8 8))))], [(7, .w (.c (.sl 0)))]⟩), (.ret, ⟨[.row .own (.pair (.int .i64) (.pair (.int .i64) (.slice (.arr .u8 8))))], [(2, .w (.c (.sl 0))), (3, .w (.c (.int .i64)))]⟩)]⟩
/-- spec.SuperSummit -/
noncomputable def fd17 : FD := { id := 17, fn := Go.Proofs.Tryz.f17, sig := ⟨[.ro (.pair (.int .i64) (.pair (.int .i64) (.slice (.arr .u8 8))))], [(.own, false, .slice (.pair (.int .i64) (.pair (.int .i64) (.slice (.arr .u8 8))))), (.own, false, .int .i64)]⟩, loops := [(9, in20025)], views := [], joins := [], moves := [23, 57, 58] }
/-- impl.within -/
noncomputable def fd70 : FD := { id := 70, fn := Go.Proofs.Tryz.f70, sig := ⟨[.ro (.int .i64), .ro (.int .i64), .ro (.int .i64)], [(.own, false, .bool)]⟩, loops := [], views := [], joins := [] }
/-- impl.isCount -/
noncomputable def fd69 : FD := { id := 69, fn := Go.Proofs.Tryz.f69, sig := ⟨[.ro (.int .i64)], [(.own, false, .bool)]⟩, loops := [], views := [], joins := [] }
noncomputable def in20027 : LoopInfo := ⟨20027, ⟨[.box .own (.barr 8)], [(1, .w (.c (.int .i64))), (5, .w (.c (.ptr 0))), (12, .w (.arr .u8 8)), (13, .w (.c (.int .i64)))]⟩, [(.exit 0, ⟨[], []⟩), (.ret, ⟨[], [(4, .w (.c (.bool)))]⟩)]⟩
/-- impl.IsSimple -/
noncomputable def fd71 : FD := { id := 71, fn := Go.Proofs.Tryz.f71, sig := ⟨[.ro (.arr .u8 8), .ro (.int .i64)], [(.own, false, .bool)]⟩, loops := [(5, in20027)], views := [], joins := [] }
noncomputable def in20028 : LoopInfo := ⟨20028, ⟨[.box .own (.arr .u8 8), .box .own (.arr .u8 8)], [(2, .w (.c (.ptr 0))), (3, .w (.c (.ptr 1))), (6, .w (.c (.int .i64))), (7, .w (.c (.int .i64)))]⟩, [(.exit 0, ⟨[.box .own (.arr .u8 8), .box .own (.arr .u8 8)], [(2, .w (.c (.ptr 0))), (3, .w (.c (.ptr 1)))]⟩)]⟩
/-- impl.nothing -/
noncomputable def fd72 : FD := { id := 72, fn := Go.Proofs.Tryz.f72, sig := ⟨[.ro (.int .i64)], [(.own, false, .arr .u8 8)]⟩, loops := [(3, in20028)], views := [], joins := [] }
noncomputable def in20029 : LoopInfo := ⟨20029, ⟨[.box .own (.arr .u8 8), .box .own (.arr .u8 8)], [(0, .w (.c (.int .i64))), (2, .w (.c (.ptr 0))), (3, .w (.c (.ptr 1))), (6, .w (.c (.int .i64))), (7, .w (.c (.int .i64)))]⟩, [(.exit 0, ⟨[.box .own (.arr .u8 8), .box .own (.arr .u8 8)], [(2, .w (.c (.ptr 0))), (3, .w (.c (.ptr 1)))]⟩)]⟩
/-- impl.halfTurn -/
noncomputable def fd73 : FD := { id := 73, fn := Go.Proofs.Tryz.f73, sig := ⟨[.ro (.int .i64)], [(.own, false, .arr .u8 8)]⟩, loops := [(3, in20029)], views := [], joins := [] }
noncomputable def in20030 : LoopInfo := ⟨20030, ⟨[.box .own (.arr .u8 8), .box .own (.arr .u8 8), .box .own (.arr .u8 8)], [(2, .w (.c (.ptr 0))), (4, .w (.c (.ptr 1))), (5, .w (.c (.ptr 2))), (8, .w (.c (.int .i64))), (9, .w (.c (.int .i64)))]⟩, [(.exit 0, ⟨[.box .own (.arr .u8 8), .box .own (.arr .u8 8)], [(4, .w (.c (.ptr 0))), (5, .w (.c (.ptr 1)))]⟩)]⟩
/-- impl.backOf -/
noncomputable def fd92 : FD := { id := 92, fn := Go.Proofs.Tryz.f92, sig := ⟨[.ro (.arr .u8 8), .ro (.int .i64)], [(.own, false, .arr .u8 8)]⟩, loops := [(3, in20030)], views := [], joins := [] }
/-- impl.begins -/
noncomputable def fd94 : FD := { id := 94, fn := Go.Proofs.Tryz.f94, sig := ⟨[.ro (.arr .u8 8), .ro (.int .i64)], [(.own, false, .bool)]⟩, loops := [], views := [], joins := [] }
noncomputable def in20031 : LoopInfo := ⟨20031, ⟨[.box .own (.arr .u8 8), .row .own (.int .i64)], [(1, .w (.c (.int .i64))), (2, .w (.c (.ptr 0))), (5, .w (.c (.sl 1))), (6, .w (.c (.int .i64)))]⟩, [(.exit 0, ⟨[.row .own (.int .i64)], [(5, .w (.c (.sl 0)))]⟩)]⟩
/-- impl.beginning -/
noncomputable def fd93 : FD := { id := 93, fn := Go.Proofs.Tryz.f93, sig := ⟨[.ro (.arr .u8 8), .ro (.int .i64)], [(.own, false, .slice (.int .i64))]⟩, loops := [(3, in20031)], views := [], joins := [] }
noncomputable def in20032 : LoopInfo := ⟨20032, ⟨[.box .own (.arr .u8 8), .row .own (.int .i64)], [(7, .w (.c (.ptr 0))), (15, .w (.c (.sl 1))), (16, .w (.c (.int .i64))), (17, .w (.c (.int .i64)))]⟩, [(.exit 0, ⟨[], []⟩), (.ret, ⟨[], [(6, .w (.c (.bool)))]⟩)]⟩
/-- impl.endsAll -/
noncomputable def fd74 : FD := { id := 74, fn := Go.Proofs.Tryz.f74, sig := ⟨[.ro (.arr .u8 8), .ro (.arr .u8 8), .ro (.int .i64)], [(.own, false, .bool)]⟩, loops := [(3, in20032)], views := [], joins := [] }
noncomputable def in20026 : LoopInfo := ⟨20026, ⟨[.box .own (.st [.int .i64, .int .i64, .sl 1]), .row .ro (.arr .u8 8)], [(1, .w (.c (.ptr 0))), (3, .w (.c (.int .i64))), (33, .w (.c (.sl 1))), (34, .w (.c (.int .i64))), (35, .w (.c (.int .i64)))]⟩, [(.exit 0, ⟨[], []⟩), (.ret, ⟨[], [(2, .w (.c (.bool)))]⟩)]⟩
/-- impl.IsNormal -/
noncomputable def fd41 : FD := { id := 41, fn := Go.Proofs.Tryz.f41, sig := ⟨[.ro (.pair (.int .i64) (.pair (.int .i64) (.slice (.arr .u8 8))))], [(.own, false, .bool)]⟩, loops := [(5, in20026)], views := [], joins := [] }
/-- impl.copyNormal -/
noncomputable def fd61 : FD := { id := 61, fn := Go.Proofs.Tryz.f61, sig := ⟨[.ro (.pair (.int .i64) (.pair (.int .i64) (.slice (.arr .u8 8))))], [(.own, false, .pair (.int .i64) (.pair (.int .i64) (.slice (.arr .u8 8))))]⟩, loops := [], views := [], joins := [] }
noncomputable def in20035 : LoopInfo := ⟨20035, ⟨[.box .own (.arr .u8 8), .box .own (.arr .u8 8), .box .own (.arr .u8 8), .box .own (.arr .u8 8)], [(3, .w (.c (.ptr 0))), (4, .w (.c (.ptr 1))), (6, .w (.c (.ptr 2))), (7, .w (.c (.ptr 3))), (10, .w (.c (.int .i64))), (11, .w (.c (.int .i64)))]⟩, [(.exit 0, ⟨[.box .own (.arr .u8 8), .box .own (.arr .u8 8)], [(6, .w (.c (.ptr 0))), (7, .w (.c (.ptr 1)))]⟩)]⟩
/-- impl.then -/
noncomputable def fd84 : FD := { id := 84, fn := Go.Proofs.Tryz.f84, sig := ⟨[.ro (.arr .u8 8), .ro (.arr .u8 8), .ro (.int .i64)], [(.own, false, .arr .u8 8)]⟩, loops := [(3, in20035)], views := [], joins := [] }
/-- impl.turn -/
noncomputable def fd101 : FD := { id := 101, fn := Go.Proofs.Tryz.f101, sig := ⟨[.ro (.arr .u8 8), .ro (.int .i64)], [(.own, false, .arr .u8 8)]⟩, loops := [], views := [], joins := [] }
/-- impl.turned -/
noncomputable def fd79 : FD := { id := 79, fn := Go.Proofs.Tryz.f79, sig := ⟨[.ro (.arr .u8 8), .ro (.pair (.int .i64) (.pair (.int .i64) (.slice (.arr .u8 8))))], [(.own, false, .arr .u8 8)]⟩, loops := [], views := [], joins := [] }
/-- impl.complement -/
noncomputable def fd100 : FD := { id := 100, fn := Go.Proofs.Tryz.f100, sig := ⟨[.ro (.arr .u8 8), .ro (.int .i64)], [(.own, false, .arr .u8 8)]⟩, loops := [], views := [], joins := [] }
noncomputable def in20037 : LoopInfo := ⟨20037, ⟨[.box .own (.arr .u8 8)], [(2, .w (.c (.ptr 0))), (5, .w (.c (.int .u64))), (8, .w (.c (.int .i64))), (9, .w (.c (.int .i64)))]⟩, [(.exit 0, ⟨[], [(5, .w (.c (.int .u64)))]⟩)]⟩
noncomputable def in20038 : LoopInfo := ⟨20038, ⟨[.box .own (.arr .u8 8)], [(2, .w (.c (.ptr 0))), (5, .w (.c (.int .u64))), (6, .w (.c (.int .i64))), (8, .w (.c (.int .i64))), (9, .w (.c (.int .i64))), (12, .w (.c (.int .i64))), (13, .w (.c (.int .i64)))]⟩, [(.exit 2, ⟨[.box .own (.arr .u8 8)], [(2, .w (.c (.ptr 0))), (5, .w (.c (.int .u64))), (8, .w (.c (.int .i64))), (9, .w (.c (.int .i64)))]⟩)]⟩
/-- impl.descents -/
noncomputable def fd119 : FD := { id := 119, fn := Go.Proofs.Tryz.f119, sig := ⟨[.ro (.arr .u8 8), .ro (.int .i64)], [(.own, false, .int .u64)]⟩, loops := [(3, in20037), (6, in20038)], views := [], joins := [] }
noncomputable def in20039 : LoopInfo := ⟨20039, ⟨[.box .own (.arr .u8 8), .box .own (.arr .u8 8)], [(2, .w (.c (.int .i64))), (6, .w (.c (.ptr 0))), (7, .w (.c (.int .u64))), (8, .w (.c (.ptr 1))), (9, .w (.c (.bool)))]⟩, [(.exit 0, ⟨[.box .own (.arr .u8 8), .box .own (.arr .u8 8)], [(2, .w (.c (.int .i64))), (6, .w (.c (.ptr 0))), (8, .w (.c (.ptr 1)))]⟩)]⟩
noncomputable def in20040 : LoopInfo := ⟨20040, ⟨[.box .own (.arr .u8 8), .box .own (.arr .u8 8)], [(2, .w (.c (.int .i64))), (6, .w (.c (.ptr 0))), (7, .w (.c (.int .u64))), (8, .w (.c (.ptr 1))), (9, .w (.c (.bool))), (10, .w (.c (.int .i64)))]⟩, [(.exit 2, ⟨[.box .own (.arr .u8 8), .box .own (.arr .u8 8)], [(2, .w (.c (.int .i64))), (6, .w (.c (.ptr 0))), (7, .w (.c (.int .u64))), (8, .w (.c (.ptr 1))), (9, .w (.c (.bool)))]⟩)]⟩
/-- impl.meet -/
noncomputable def fd99 : FD := { id := 99, fn := Go.Proofs.Tryz.f99, sig := ⟨[.ro (.arr .u8 8), .ro (.arr .u8 8), .ro (.int .i64)], [(.own, false, .arr .u8 8)]⟩, loops := [(4, in20039), (7, in20040)], views := [], joins := [] }
noncomputable def in20036 : LoopInfo := ⟨20036, ⟨[.box .own (.st [.int .i64, .int .i64, .sl 1]), .row .own (.arr .u8 8)], [(0, .w (.c (.ptr 0))), (4, .w (.c (.int .i64))), (5, .w (.c (.int .i64)))]⟩, [(.exit 0, ⟨[.box .own (.st [.int .i64, .int .i64, .sl 1]), .row .own (.arr .u8 8)], [(0, .w (.c (.ptr 0))), (4, .w (.c (.int .i64)))]⟩)]⟩
noncomputable def in20041 : LoopInfo := ⟨20041, ⟨[.box .own (.st [.int .i64, .int .i64, .sl 1]), .row .own (.arr .u8 8)], [(0, .w (.c (.ptr 0))), (4, .w (.c (.int .i64)))]⟩, [(.exit 2, ⟨[.box .own (.st [.int .i64, .int .i64, .sl 1]), .row .own (.arr .u8 8)], [(0, .w (.c (.ptr 0))), (4, .w (.c (.int .i64)))]⟩)]⟩
noncomputable def in20042 : LoopInfo := ⟨20042, ⟨[.box .own (.st [.int .i64, .int .i64, .sl 1]), .row .own (.arr .u8 8)], [(0, .w (.c (.ptr 0))), (4, .w (.c (.int .i64)))]⟩, [(.exit 4, ⟨[.box .own (.st [.int .i64, .int .i64, .sl 1]), .row .own (.arr .u8 8)], [(0, .w (.c (.ptr 0)))]⟩)]⟩
/-- (*impl.Normal).put -/
noncomputable def fd78 : FD := { id := 78, fn := Go.Proofs.Tryz.f78, sig := ⟨[.box (.pair (.int .i64) (.pair (.int .i64) (.slice (.arr .u8 8)))), .ro (.arr .u8 8)], []⟩, loops := [(5, in20036), (11, in20041), (14, in20042)], views := [], joins := [] }
/-- impl.cycled -/
noncomputable def fd47 : FD := { id := 47, fn := Go.Proofs.Tryz.f47, sig := ⟨[.ro (.pair (.int .i64) (.pair (.int .i64) (.slice (.arr .u8 8))))], [(.own, false, .pair (.int .i64) (.pair (.int .i64) (.slice (.arr .u8 8))))]⟩, loops := [], views := [], joins := [] }
/-- impl.summit$1 -/
noncomputable def fd57 : FD := { id := 57, fn := Go.Proofs.Tryz.f57, sig := ⟨[.ro (.pair (.int .i64) (.pair (.int .i64) (.slice (.arr .u8 8)))), .ro (.pair (.int .i64) (.pair (.int .i64) (.slice (.arr .u8 8))))], [(.own, false, .bool)]⟩, loops := [], views := [], joins := [] }
noncomputable def in20034 : LoopInfo := ⟨20034, ⟨[.box .own (.st [.int .i64, .int .i64, .sl 1]), .row .ro (.arr .u8 8), .box .own (.st [.int .i64, .int .i64, .sl 3]), .row .own (.arr .u8 8), .box .own (.st [.int .i64, .int .i64, .sl 5]), .row .ro (.arr .u8 8)], [(1, .fn 47 []), (2, .fn 57 []), (3, .w (.c (.ptr 0))), (6, .w (.c (.ptr 2))), (8, .w (.c (.ptr 4))), (16, .w (.c (.int .i64))), (17, .w (.c (.int .i64)))]⟩, [(.exit 0, ⟨[.box .own (.st [.int .i64, .int .i64, .sl 1]), .row .ro (.arr .u8 8), .box .own (.st [.int .i64, .int .i64, .sl 3]), .row .own (.arr .u8 8)], [(3, .w (.c (.ptr 0))), (6, .w (.c (.ptr 2)))]⟩), (.ret, ⟨[.box .own (.st [.int .i64, .int .i64, .sl 1]), .row .own (.arr .u8 8)], [(6, .w (.c (.ptr 0))), (7, .w (.c (.bool)))]⟩)]⟩
/-- impl.better -/
noncomputable def fd10000 : FD := { id := 56, fn := Go.Proofs.Tryz.f56, sig := ⟨[.ro (.pair (.int .i64) (.pair (.int .i64) (.slice (.arr .u8 8)))), .fn 47 [], .fn 57 []], [(.ro, false, .pair (.int .i64) (.pair (.int .i64) (.slice (.arr .u8 8)))), (.own, false, .bool)]⟩, loops := [(3, in20034)], views := [], joins := [] }
noncomputable def in20044 : LoopInfo := ⟨20044, ⟨[.box .own (.st [.int .i64, .int .i64, .sl 1]), .row .own (.arr .u8 8), .box .own (.st [.int .i64, .int .i64, .sl 3]), .row .own (.arr .u8 8), .row .ro (.arr .u8 8)], [(2, .w (.c (.ptr 0))), (4, .w (.c (.ptr 2))), (31, .w (.c (.sl 4))), (32, .w (.c (.int .i64))), (33, .w (.c (.int .i64)))]⟩, [(.exit 0, ⟨[.box .own (.st [.int .i64, .int .i64, .sl 1]), .row .own (.arr .u8 8), .box .own (.st [.int .i64, .int .i64, .sl 3]), .row .own (.arr .u8 8)], [(2, .w (.c (.ptr 0))), (4, .w (.c (.ptr 2)))]⟩)]⟩
/-- impl.decycled -/
noncomputable def fd58 : FD := { id := 58, fn := Go.Proofs.Tryz.f58, sig := ⟨[.ro (.pair (.int .i64) (.pair (.int .i64) (.slice (.arr .u8 8))))], [(.own, false, .pair (.int .i64) (.pair (.int .i64) (.slice (.arr .u8 8))))]⟩, loops := [(7, in20044)], views := [], joins := [] }
/-- impl.greatest -/
noncomputable def fd60 : FD := { id := 60, fn := Go.Proofs.Tryz.f60, sig := ⟨[.ro (.pair (.int .i64) (.pair (.int .i64) (.slice (.arr .u8 8))))], [(.own, false, .int .i64)]⟩, loops := [], views := [], joins := [] }
/-- impl.summit$2 -/
noncomputable def fd59 : FD := { id := 59, fn := Go.Proofs.Tryz.f59, sig := ⟨[.ro (.pair (.int .i64) (.pair (.int .i64) (.slice (.arr .u8 8)))), .ro (.pair (.int .i64) (.pair (.int .i64) (.slice (.arr .u8 8))))], [(.own, false, .bool)]⟩, loops := [], views := [], joins := [] }
noncomputable def in20043 : LoopInfo := ⟨20043, ⟨[.box .own (.st [.int .i64, .int .i64, .sl 1]), .row .ro (.arr .u8 8), .box .own (.st [.int .i64, .int .i64, .sl 3]), .row .own (.arr .u8 8), .box .own (.st [.int .i64, .int .i64, .sl 5]), .row .ro (.arr .u8 8)], [(1, .fn 58 []), (2, .fn 59 []), (3, .w (.c (.ptr 0))), (6, .w (.c (.ptr 2))), (8, .w (.c (.ptr 4))), (16, .w (.c (.int .i64))), (17, .w (.c (.int .i64)))]⟩, [(.exit 0, ⟨[.box .own (.st [.int .i64, .int .i64, .sl 1]), .row .ro (.arr .u8 8), .box .own (.st [.int .i64, .int .i64, .sl 3]), .row .own (.arr .u8 8)], [(3, .w (.c (.ptr 0))), (6, .w (.c (.ptr 2)))]⟩), (.ret, ⟨[.box .own (.st [.int .i64, .int .i64, .sl 1]), .row .own (.arr .u8 8)], [(6, .w (.c (.ptr 0))), (7, .w (.c (.bool)))]⟩)]⟩
/-- impl.better -/
noncomputable def fd10001 : FD := { id := 56, fn := Go.Proofs.Tryz.f56, sig := ⟨[.ro (.pair (.int .i64) (.pair (.int .i64) (.slice (.arr .u8 8)))), .fn 58 [], .fn 59 []], [(.ro, false, .pair (.int .i64) (.pair (.int .i64) (.slice (.arr .u8 8)))), (.own, false, .bool)]⟩, loops := [(3, in20043)], views := [], joins := [] }
noncomputable def in20033 : LoopInfo := ⟨20033, ⟨[.box .own (.st [.int .i64, .int .i64, .sl 1]), .row .ro (.arr .u8 8), .box .own (.st [.int .i64, .int .i64, .sl 3]), .row .own (.arr .u8 8)], [(1, .w (.c (.ptr 0))), (2, .w (.c (.ptr 2)))]⟩, [(.ret, ⟨[.box .own (.st [.int .i64, .int .i64, .sl 1]), .row .own (.arr .u8 8)], [(2, .w (.c (.ptr 0)))]⟩)]⟩
/-- impl.summit -/
noncomputable def fd34 : FD := { id := 34, fn := Go.Proofs.Tryz.f34, sig := ⟨[.ro (.pair (.int .i64) (.pair (.int .i64) (.slice (.arr .u8 8))))], [(.own, false, .pair (.int .i64) (.pair (.int .i64) (.slice (.arr .u8 8))))]⟩, loops := [(1, in20033)], views := [], joins := [] }
/-- impl.exchange -/
noncomputable def fd85 : FD := { id := 85, fn := Go.Proofs.Tryz.f85, sig := ⟨[.ro (.int .i64), .ro (.int .i64)], [(.own, false, .arr .u8 8)]⟩, loops := [], views := [], joins := [] }
noncomputable def in20047 : LoopInfo := ⟨20047, ⟨[.row .ro (.arr .u8 8), .box .own (.arr .u8 8)], [(0, .w (.c (.sl 0))), (3, .w (.c (.ptr 1))), (7, .w (.c (.int .i64))), (8, .w (.c (.int .i64)))]⟩, [(.exit 0, ⟨[], []⟩), (.ret, ⟨[], [(4, .w (.c (.int .i64)))]⟩)]⟩
/-- slices.Index[[]impl.Simple,impl.Simple] -/
noncomputable def fd104 : FD := { id := 104, fn := Go.Proofs.Tryz.f104, sig := ⟨[.ro (.slice (.arr .u8 8)), .ro (.arr .u8 8)], [(.own, false, .int .i64)]⟩, loops := [(2, in20047)], views := [], joins := [] }
/-- slices.Contains[[]impl.Simple,impl.Simple] -/
noncomputable def fd86 : FD := { id := 86, fn := Go.Proofs.Tryz.f86, sig := ⟨[.ro (.slice (.arr .u8 8)), .ro (.arr .u8 8)], [(.own, false, .bool)]⟩, loops := [], views := [], joins := [] }
noncomputable def in20045 : LoopInfo := ⟨20045, ⟨[.row .own (.arr .u8 8)], [(0, .w (.c (.int .i64))), (3, .w (.c (.sl 0))), (4, .w (.c (.int .i64)))]⟩, [(.exit 0, ⟨[.row .own (.arr .u8 8)], [(3, .w (.c (.sl 0)))]⟩)]⟩
noncomputable def in20046 : LoopInfo := ⟨20046, ⟨[.row .own (.arr .u8 8)], [(0, .w (.c (.int .i64))), (3, .w (.c (.sl 0))), (4, .w (.c (.int .i64))), (5, .w (.c (.int .i64)))]⟩, [(.exit 2, ⟨[.row .own (.arr .u8 8)], [(0, .w (.c (.int .i64))), (3, .w (.c (.sl 0))), (4, .w (.c (.int .i64)))]⟩)]⟩
/-- impl.allSimple -/
noncomputable def fd62 : FD := { id := 62, fn := Go.Proofs.Tryz.f62, sig := ⟨[.ro (.int .i64)], [(.own, false, .slice (.arr .u8 8))]⟩, loops := [(3, in20045), (6, in20046)], views := [], joins := [] }
noncomputable def in20050 : LoopInfo := ⟨20050, ⟨[.box .own (.st [.int .i64, .int .i64, .sl 1]), .row .own (.arr .u8 8)], [(0, .w (.c (.ptr 0))), (25, .w (.c (.sl 1))), (26, .w (.c (.int .i64))), (27, .w (.c (.int .i64)))]⟩, [(.exit 0, ⟨[.box .own (.st [.int .i64, .int .i64, .sl 1]), .row .own (.arr .u8 8)], [(0, .w (.c (.ptr 0)))]⟩)]⟩
/-- (*impl.Normal).turnBy -/
noncomputable def fd120 : FD := { id := 120, fn := Go.Proofs.Tryz.f120, sig := ⟨[.box (.pair (.int .i64) (.pair (.int .i64) (.slice (.arr .u8 8)))), .ro (.int .i64)], []⟩, loops := [(4, in20050)], views := [], joins := [] }
/-- impl.leftComplement -/
noncomputable def fd121 : FD := { id := 121, fn := Go.Proofs.Tryz.f121, sig := ⟨[.ro (.arr .u8 8), .ro (.int .i64)], [(.own, false, .arr .u8 8)]⟩, loops := [], views := [], joins := [] }
/-- (*impl.Normal).putInverse -/
noncomputable def fd105 : FD := { id := 105, fn := Go.Proofs.Tryz.f105, sig := ⟨[.box (.pair (.int .i64) (.pair (.int .i64) (.slice (.arr .u8 8)))), .ro (.arr .u8 8)], []⟩, loops := [], views := [], joins := [] }
noncomputable def in20051 : LoopInfo := ⟨20051, ⟨[.box .own (.st [.int .i64, .int .i64, .sl 1]), .row .own (.arr .u8 8), .box .own (.st [.int .i64, .int .i64, .sl 3]), .row .own (.arr .u8 8), .row .ro (.arr .u8 8)], [(4, .w (.c (.ptr 0))), (5, .w (.c (.ptr 2))), (14, .w (.c (.sl 4))), (15, .w (.c (.int .i64))), (16, .w (.c (.int .i64)))]⟩, [(.exit 0, ⟨[.box .own (.st [.int .i64, .int .i64, .sl 1]), .row .own (.arr .u8 8), .box .own (.st [.int .i64, .int .i64, .sl 3]), .row .own (.arr .u8 8)], [(4, .w (.c (.ptr 0))), (5, .w (.c (.ptr 2)))]⟩)]⟩
/-- impl.product -/
noncomputable def fd106 : FD := { id := 106, fn := Go.Proofs.Tryz.f106, sig := ⟨[.ro (.pair (.int .i64) (.pair (.int .i64) (.slice (.arr .u8 8)))), .ro (.pair (.int .i64) (.pair (.int .i64) (.slice (.arr .u8 8))))], [(.own, false, .pair (.int .i64) (.pair (.int .i64) (.slice (.arr .u8 8))))]⟩, loops := [(4, in20051)], views := [], joins := [] }
/-- impl.withoutHead -/
noncomputable def fd87 : FD := { id := 87, fn := Go.Proofs.Tryz.f87, sig := ⟨[.ro (.pair (.int .i64) (.pair (.int .i64) (.slice (.arr .u8 8)))), .ro (.arr .u8 8)], [(.own, false, .pair (.int .i64) (.pair (.int .i64) (.slice (.arr .u8 8))))]⟩, loops := [], views := [], joins := [] }
/-- impl.conjugate -/
noncomputable def fd63 : FD := { id := 63, fn := Go.Proofs.Tryz.f63, sig := ⟨[.ro (.pair (.int .i64) (.pair (.int .i64) (.slice (.arr .u8 8)))), .ro (.arr .u8 8)], [(.own, false, .pair (.int .i64) (.pair (.int .i64) (.slice (.arr .u8 8))))]⟩, loops := [], views := [], joins := [] }
noncomputable def in20053 : LoopInfo := ⟨20053, ⟨[.row .ro (.arr .u8 8), .row .ro (.arr .u8 8)], [(0, .w (.c (.sl 0))), (1, .w (.c (.sl 1))), (12, .w (.c (.int .i64))), (13, .w (.c (.int .i64)))]⟩, [(.exit 0, ⟨[], []⟩), (.ret, ⟨[], [(4, .w (.c (.bool)))]⟩)]⟩
/-- slices.Equal[[]impl.Simple,impl.Simple] -/
noncomputable def fd67 : FD := { id := 67, fn := Go.Proofs.Tryz.f67, sig := ⟨[.ro (.slice (.arr .u8 8)), .ro (.slice (.arr .u8 8))], [(.own, false, .bool)]⟩, loops := [(4, in20053)], views := [], joins := [] }
/-- impl.sameNormal -/
noncomputable def fd38 : FD := { id := 38, fn := Go.Proofs.Tryz.f38, sig := ⟨[.ro (.pair (.int .i64) (.pair (.int .i64) (.slice (.arr .u8 8)))), .ro (.pair (.int .i64) (.pair (.int .i64) (.slice (.arr .u8 8))))], [(.own, false, .bool)]⟩, loops := [], views := [], joins := [] }
/-- impl.superSummit$1 -/
noncomputable def fd64 : FD := { id := 64, fn := Go.Proofs.Tryz.f64, sig := ⟨[.ro (.pair (.int .i64) (.pair (.int .i64) (.slice (.arr .u8 8)))), .rob (.pair (.int .i64) (.pair (.int .i64) (.slice (.arr .u8 8))))], [(.own, false, .bool)]⟩, loops := [], views := [], joins := [] }
noncomputable def in20052 : LoopInfo := ⟨20052, ⟨[.row .ro (.pair (.int .i64) (.pair (.int .i64) (.slice (.arr .u8 8)))), .box .ro (.st [.int .i64, .int .i64, .sl 2]), .row .ro (.arr .u8 8)], [(0, .w (.c (.sl 0))), (1, .fn 64 [.c (.ptr 1)]), (7, .w (.c (.int .i64))), (8, .w (.c (.int .i64)))]⟩, [(.exit 0, ⟨[], []⟩), (.ret, ⟨[], [(4, .w (.c (.int .i64)))]⟩)]⟩
/-- slices.IndexFunc[[]impl.Normal,impl.Normal] -/
noncomputable def fd10003 : FD := { id := 46, fn := Go.Proofs.Tryz.f46, sig := ⟨[.ro (.slice (.pair (.int .i64) (.pair (.int .i64) (.slice (.arr .u8 8))))), .fn 64 [(.rob, .pair (.int .i64) (.pair (.int .i64) (.slice (.arr .u8 8))))]], [(.own, false, .int .i64)]⟩, loops := [(2, in20052)], views := [], joins := [] }
/-- slices.ContainsFunc[[]impl.Normal,impl.Normal] -/
noncomputable def fd10002 : FD := { id := 36, fn := Go.Proofs.Tryz.f36, sig := ⟨[.ro (.slice (.pair (.int .i64) (.pair (.int .i64) (.slice (.arr .u8 8))))), .fn 64 [(.rob, .pair (.int .i64) (.pair (.int .i64) (.slice (.arr .u8 8))))]], [(.own, false, .bool)]⟩, loops := [], views := [], joins := [] }
/-- cmp.isNaN[byte] -/
noncomputable def fd129 : FD := { id := 129, fn := Go.Proofs.Tryz.f129, sig := ⟨[.ro (.int .u8)], [(.own, false, .bool)]⟩, loops := [], views := [], joins := [] }
/-- cmp.Compare[byte] -/
noncomputable def fd127 : FD := { id := 127, fn := Go.Proofs.Tryz.f127, sig := ⟨[.ro (.int .u8), .ro (.int .u8)], [(.own, false, .int .i64)]⟩, loops := [], views := [], joins := [] }
noncomputable def in20055 : LoopInfo := ⟨20055, ⟨[.row .ro (.int .u8), .row .ro (.int .u8)], [(0, .w (.c (.sl 0))), (1, .w (.c (.sl 1))), (9, .w (.c (.sl 0))), (10, .w (.c (.int .i64))), (11, .w (.c (.int .i64)))]⟩, [(.exit 0, ⟨[.row .ro (.int .u8), .row .ro (.int .u8)], [(0, .w (.c (.sl 0))), (1, .w (.c (.sl 1)))]⟩), (.ret, ⟨[], [(4, .w (.c (.int .i64)))]⟩)]⟩
/-- slices.Compare[[]byte,byte] -/
noncomputable def fd117 : FD := { id := 117, fn := Go.Proofs.Tryz.f117, sig := ⟨[.ro (.slice (.int .u8)), .ro (.slice (.int .u8))], [(.own, false, .int .i64)]⟩, loops := [(2, in20055)], views := [], joins := [] }
/-- impl.compareSimple -/
noncomputable def fd91 : FD := { id := 91, fn := Go.Proofs.Tryz.f91, sig := ⟨[.ro (.arr .u8 8), .ro (.arr .u8 8)], [(.own, false, .int .i64)]⟩, loops := [], views := [], joins := [] }
noncomputable def in20054 : LoopInfo := ⟨20054, ⟨[.row .ro (.arr .u8 8), .row .ro (.arr .u8 8)], [(0, .w (.c (.sl 0))), (1, .w (.c (.sl 1))), (2, .fn 91 []), (11, .w (.c (.sl 0))), (12, .w (.c (.int .i64))), (13, .w (.c (.int .i64)))]⟩, [(.exit 0, ⟨[.row .ro (.arr .u8 8), .row .ro (.arr .u8 8)], [(0, .w (.c (.sl 0))), (1, .w (.c (.sl 1)))]⟩), (.ret, ⟨[], [(6, .w (.c (.int .i64)))]⟩)]⟩
/-- slices.CompareFunc[[]impl.Simple,[]impl.Simple,impl.Simple,impl.Simple] -/
noncomputable def fd10004 : FD := { id := 90, fn := Go.Proofs.Tryz.f90, sig := ⟨[.ro (.slice (.arr .u8 8)), .ro (.slice (.arr .u8 8)), .fn 91 []], [(.own, false, .int .i64)]⟩, loops := [(2, in20054)], views := [], joins := [] }
/-- impl.compareFactors -/
noncomputable def fd66 : FD := { id := 66, fn := Go.Proofs.Tryz.f66, sig := ⟨[.ro (.pair (.int .i64) (.pair (.int .i64) (.slice (.arr .u8 8)))), .ro (.pair (.int .i64) (.pair (.int .i64) (.slice (.arr .u8 8))))], [(.own, false, .int .i64)]⟩, loops := [], views := [], joins := [] }
/-- slices.SortFunc[[]impl.Normal,impl.Normal] -/
noncomputable def fd10005 : FD := { id := 65, fn := Go.Proofs.Tryz.f65, sig := ⟨[.mut (.slice (.pair (.int .i64) (.pair (.int .i64) (.slice (.arr .u8 8))))), .fn 66 []], []⟩, loops := [], views := [], joins := [] }
noncomputable def in20048 : LoopInfo := ⟨20048, ⟨[.row .own (.pair (.int .i64) (.pair (.int .i64) (.slice (.arr .u8 8)))), .row .own (.arr .u8 8)], [(4, .w (.c (.sl 0))), (5, .w (.c (.sl 1))), (6, .w (.c (.int .i64)))]⟩, [(.exit 0, ⟨[.row .own (.pair (.int .i64) (.pair (.int .i64) (.slice (.arr .u8 8))))], [(4, .w (.c (.sl 0)))]⟩), (.ret, ⟨[.row .own (.pair (.int .i64) (.pair (.int .i64) (.slice (.arr .u8 8))))], [(2, .w (.c (.sl 0))), (3, .w (.c (.bool)))]⟩)]⟩
noncomputable def in20049 : LoopInfo := ⟨20049, ⟨[.row .own (.pair (.int .i64) (.pair (.int .i64) (.slice (.arr .u8 8)))), .row .own (.arr .u8 8)], [(4, .w (.c (.sl 0))), (5, .w (.c (.sl 1))), (6, .w (.c (.int .i64))), (22, .w (.c (.sl 1))), (23, .w (.c (.int .i64))), (24, .w (.c (.int .i64)))]⟩, [(.exit 2, ⟨[.row .own (.pair (.int .i64) (.pair (.int .i64) (.slice (.arr .u8 8)))), .row .own (.arr .u8 8)], [(4, .w (.c (.sl 0))), (5, .w (.c (.sl 1))), (6, .w (.c (.int .i64)))]⟩), (.ret, ⟨[.row .own (.pair (.int .i64) (.pair (.int .i64) (.slice (.arr .u8 8))))], [(2, .w (.c (.sl 0))), (3, .w (.c (.bool)))]⟩)]⟩
/-- impl.superSummit -/
noncomputable def fd35 : FD := { id := 35, fn := Go.Proofs.Tryz.f35, sig := ⟨[.ro (.pair (.int .i64) (.pair (.int .i64) (.slice (.arr .u8 8))))], [(.own, false, .slice (.pair (.int .i64) (.pair (.int .i64) (.slice (.arr .u8 8))))), (.own, false, .bool)]⟩, loops := [(4, in20048), (7, in20049)], views := [], joins := [], moves := [12, 60, 61], hooks := [(16, ⟨false, 1, true⟩)] }
/-- impl.limited -/
noncomputable def fd42 : FD := { id := 42, fn := Go.Proofs.Tryz.f42, sig := ⟨[.ro (.pair (.int .i64) (.pair (.int .i64) (.slice (.arr .u8 8))))], [(.ro, false, .pair (.int .i64) (.pair (.int .i64) (.slice (.arr .u8 8)))), (.own, false, .int .i64)]⟩, loops := [], views := [], joins := [] }
/-- impl.SuperSummit -/
noncomputable def fd18 : FD := { id := 18, fn := Go.Proofs.Tryz.f18, sig := ⟨[.ro (.pair (.int .i64) (.pair (.int .i64) (.slice (.arr .u8 8))))], [(.own, false, .slice (.pair (.int .i64) (.pair (.int .i64) (.slice (.arr .u8 8))))), (.own, false, .int .i64)]⟩, loops := [], views := [], joins := [] }
noncomputable def in20058 : LoopInfo := ⟨20058, ⟨[.box .own (.arr .u8 8), .box .own (.arr .u8 8)], [(2, .w (.c (.ptr 0))), (3, .w (.c (.ptr 1))), (5, .w (.c (.int .i64)))]⟩, [(.exit 0, ⟨[], []⟩), (.ret, ⟨[], [(4, .w (.c (.bool)))]⟩)]⟩
/-- laws.eqSimple -/
noncomputable def fd49 : FD := { id := 49, fn := Go.Proofs.Tryz.f49, sig := ⟨[.ro (.arr .u8 8), .ro (.arr .u8 8)], [(.own, false, .bool)]⟩, loops := [(2, in20058)], views := [], joins := [] }
noncomputable def in20057 : LoopInfo := ⟨20057, ⟨[.row .ro (.arr .u8 8), .row .ro (.arr .u8 8)], [(0, .w (.c (.sl 0))), (1, .w (.c (.sl 1))), (5, .w (.c (.int .i64)))]⟩, [(.exit 0, ⟨[], []⟩), (.ret, ⟨[], [(4, .w (.c (.bool)))]⟩)]⟩
/-- laws.eqSimpleS -/
noncomputable def fd26 : FD := { id := 26, fn := Go.Proofs.Tryz.f26, sig := ⟨[.ro (.slice (.arr .u8 8)), .ro (.slice (.arr .u8 8))], [(.own, false, .bool)]⟩, loops := [(4, in20057)], views := [], joins := [] }
/-- laws.eqNormal -/
noncomputable def fd11 : FD := { id := 11, fn := Go.Proofs.Tryz.f11, sig := ⟨[.ro (.pair (.int .i64) (.pair (.int .i64) (.slice (.arr .u8 8)))), .ro (.pair (.int .i64) (.pair (.int .i64) (.slice (.arr .u8 8))))], [(.own, false, .bool)]⟩, loops := [], views := [], joins := [] }
noncomputable def in20056 : LoopInfo := ⟨20056, ⟨[.row .ro (.pair (.int .i64) (.pair (.int .i64) (.slice (.arr .u8 8)))), .row .ro (.pair (.int .i64) (.pair (.int .i64) (.slice (.arr .u8 8))))], [(0, .w (.c (.sl 0))), (1, .w (.c (.sl 1))), (5, .w (.c (.int .i64)))]⟩, [(.exit 0, ⟨[], []⟩), (.ret, ⟨[], [(4, .w (.c (.bool)))]⟩)]⟩
/-- laws.eqNormalS -/
noncomputable def fd10 : FD := { id := 10, fn := Go.Proofs.Tryz.f10, sig := ⟨[.ro (.slice (.pair (.int .i64) (.pair (.int .i64) (.slice (.arr .u8 8))))), .ro (.slice (.pair (.int .i64) (.pair (.int .i64) (.slice (.arr .u8 8)))))], [(.own, false, .bool)]⟩, loops := [(4, in20056)], views := [], joins := [] }
noncomputable def in20059 : LoopInfo := ⟨20059, ⟨[.row .own (.arr .u8 8)], [(0, .w (.c (.sl 0))), (1, .w (.c (.int .i64))), (5, .w (.c (.int .i64)))]⟩, [(.exit 0, ⟨[.row .own (.arr .u8 8)], [(0, .w (.c (.sl 0))), (1, .w (.c (.int .i64)))]⟩)]⟩
noncomputable def in20060 : LoopInfo := ⟨20060, ⟨[.row .own (.arr .u8 8)], [(0, .w (.c (.sl 0))), (1, .w (.c (.int .i64))), (5, .w (.c (.int .i64))), (6, .w (.c (.int .i64)))]⟩, [(.exit 2, ⟨[.row .own (.arr .u8 8)], [(0, .w (.c (.sl 0))), (1, .w (.c (.int .i64))), (5, .w (.c (.int .i64)))]⟩)]⟩
/-- laws.markSimpleS -/
noncomputable def fd27 : FD := { id := 27, fn := Go.Proofs.Tryz.f27, sig := ⟨[.mut (.slice (.arr .u8 8)), .ro (.int .i64)], [(.own, false, .int .i64)]⟩, loops := [(2, in20059), (5, in20060)], views := [], joins := [] }
/-- laws.markNormal -/
noncomputable def fd12 : FD := { id := 12, fn := Go.Proofs.Tryz.f12, sig := ⟨[.mut (.pair (.int .i64) (.pair (.int .i64) (.slice (.arr .u8 8)))), .ro (.int .i64)], [(.own, false, .int .i64)]⟩, loops := [], views := [], joins := [] }
noncomputable def in20061 : LoopInfo := ⟨20061, ⟨[.row .own (.pair (.int .i64) (.pair (.int .i64) (.slice (.arr .u8 8))))], [(0, .w (.c (.sl 0))), (1, .w (.c (.int .i64))), (5, .w (.c (.int .i64)))]⟩, [(.exit 0, ⟨[.row .own (.pair (.int .i64) (.pair (.int .i64) (.slice (.arr .u8 8))))], [(0, .w (.c (.sl 0))), (1, .w (.c (.int .i64)))]⟩)]⟩
/-- laws.markNormalS -/
noncomputable def fd13 : FD := { id := 13, fn := Go.Proofs.Tryz.f13, sig := ⟨[.mut (.slice (.pair (.int .i64) (.pair (.int .i64) (.slice (.arr .u8 8))))), .ro (.int .i64)], [(.own, false, .int .i64)]⟩, loops := [(2, in20061)], views := [], joins := [], hooks := [(8, ⟨true, 4, false⟩)] }
noncomputable def in20063 : LoopInfo := ⟨20063, ⟨[.row .ro (.arr .u8 8)], [(0, .w (.c (.sl 0))), (1, .w (.c (.int .i64))), (5, .w (.c (.int .i64)))]⟩, [(.exit 0, ⟨[], [(1, .w (.c (.int .i64)))]⟩), (.ret, ⟨[], [(4, .w (.c (.int .i64)))]⟩)]⟩
noncomputable def in20064 : LoopInfo := ⟨20064, ⟨[.row .ro (.arr .u8 8)], [(0, .w (.c (.sl 0))), (1, .w (.c (.int .i64))), (5, .w (.c (.int .i64))), (6, .w (.c (.int .i64)))]⟩, [(.exit 2, ⟨[.row .ro (.arr .u8 8)], [(0, .w (.c (.sl 0))), (1, .w (.c (.int .i64))), (5, .w (.c (.int .i64)))]⟩), (.ret, ⟨[], [(4, .w (.c (.int .i64)))]⟩)]⟩
/-- laws.heldSimpleS -/
noncomputable def fd28 : FD := { id := 28, fn := Go.Proofs.Tryz.f28, sig := ⟨[.ro (.slice (.arr .u8 8)), .ro (.int .i64)], [(.own, false, .int .i64)]⟩, loops := [(2, in20063), (5, in20064)], views := [], joins := [] }
noncomputable def in20062 : LoopInfo := ⟨20062, ⟨[.row .ro (.pair (.int .i64) (.pair (.int .i64) (.slice (.arr .u8 8))))], [(0, .w (.c (.sl 0))), (1, .w (.c (.int .i64))), (5, .w (.c (.int .i64)))]⟩, [(.exit 0, ⟨[], [(1, .w (.c (.int .i64)))]⟩), (.ret, ⟨[], [(4, .w (.c (.int .i64)))]⟩)]⟩
/-- laws.heldNormalS -/
noncomputable def fd14 : FD := { id := 14, fn := Go.Proofs.Tryz.f14, sig := ⟨[.ro (.slice (.pair (.int .i64) (.pair (.int .i64) (.slice (.arr .u8 8))))), .ro (.int .i64)], [(.own, false, .int .i64)]⟩, loops := [(2, in20062)], views := [], joins := [] }
/-- laws.FnExactSuperSummit -/
noncomputable def fd5 : FD := { id := 5, fn := Go.Proofs.Tryz.f5, sig := ⟨[.ro (.pair (.int .i64) (.pair (.int .i64) (.slice (.arr .u8 8))))], [(.own, false, .bool)]⟩, loops := [], views := [], joins := [], hooks := [(17, ⟨false, 2, false⟩)], keeps := [0] }
noncomputable def fdTab : List (Nat × FD) := [(19, fd19), (6, fd6), (45, fd45), (22, fd22), (8, fd8), (68, fd68), (80, fd80), (53, fd53), (76, fd76), (98, fd98), (81, fd81), (50, fd50), (39, fd39), (97, fd97), (77, fd77), (44, fd44), (96, fd96), (118, fd118), (95, fd95), (75, fd75), (43, fd43), (20, fd20), (51, fd51), (30, fd30), (52, fd52), (103, fd103), (83, fd83), (102, fd102), (82, fd82), (54, fd54), (55, fd55), (21, fd21), (32, fd32), (31, fd31), (40, fd40), (17, fd17), (70, fd70), (69, fd69), (71, fd71), (72, fd72), (73, fd73), (92, fd92), (94, fd94), (93, fd93), (74, fd74), (41, fd41), (61, fd61), (84, fd84), (101, fd101), (79, fd79), (100, fd100), (119, fd119), (99, fd99), (78, fd78), (47, fd47), (57, fd57), (10000, fd10000), (58, fd58), (60, fd60), (59, fd59), (10001, fd10001), (34, fd34), (85, fd85), (104, fd104), (86, fd86), (62, fd62), (120, fd120), (121, fd121), (105, fd105), (106, fd106), (87, fd87), (63, fd63), (67, fd67), (38, fd38), (64, fd64), (10003, fd10003), (10002, fd10002), (129, fd129), (127, fd127), (117, fd117), (91, fd91), (10004, fd10004), (66, fd66), (10005, fd10005), (35, fd35), (42, fd42), (18, fd18), (49, fd49), (26, fd26), (11, fd11), (10, fd10), (27, fd27), (12, fd12), (13, fd13), (28, fd28), (14, fd14), (5, fd5)]
noncomputable def ldTab : List (Nat × LD) := [(20001, ⟨45, 3, in20001, false⟩), (20000, ⟨22, 3, in20000, false⟩), (20003, ⟨80, 5, in20003, false⟩), (20004, ⟨53, 3, in20004, false⟩), (20005, ⟨76, 3, in20005, false⟩), (20006, ⟨98, 3, in20006, false⟩), (20007, ⟨81, 3, in20007, false⟩), (20002, ⟨50, 5, in20002, false⟩), (20010, ⟨97, 3, in20010, false⟩), (20013, ⟨95, 3, in20013, false⟩), (20011, ⟨75, 3, in20011, false⟩), (20012, ⟨75, 6, in20012, false⟩), (20014, ⟨43, 4, in20014, false⟩), (20015, ⟨43, 7, in20015, false⟩), (20008, ⟨30, 2, in20008, false⟩), (20009, ⟨30, 4, in20009, false⟩), (20016, ⟨30, 11, in20016, false⟩), (20017, ⟨52, 6, in20017, false⟩), (20020, ⟨102, 3, in20020, false⟩), (20022, ⟨55, 2, in20022, false⟩), (20023, ⟨55, 5, in20023, false⟩), (20024, ⟨21, 4, in20024, false⟩), (20021, ⟨32, 2, in20021, false⟩), (20018, ⟨31, 4, in20018, false⟩), (20019, ⟨31, 7, in20019, false⟩), (20025, ⟨17, 9, in20025, false⟩), (20027, ⟨71, 5, in20027, false⟩), (20028, ⟨72, 3, in20028, false⟩), (20029, ⟨73, 3, in20029, false⟩), (20030, ⟨92, 3, in20030, false⟩), (20031, ⟨93, 3, in20031, false⟩), (20032, ⟨74, 3, in20032, false⟩), (20026, ⟨41, 5, in20026, false⟩), (20035, ⟨84, 3, in20035, false⟩), (20037, ⟨119, 3, in20037, false⟩), (20038, ⟨119, 6, in20038, false⟩), (20039, ⟨99, 4, in20039, false⟩), (20040, ⟨99, 7, in20040, false⟩), (20036, ⟨78, 5, in20036, false⟩), (20041, ⟨78, 11, in20041, false⟩), (20042, ⟨78, 14, in20042, false⟩), (20034, ⟨10000, 3, in20034, false⟩), (20044, ⟨58, 7, in20044, false⟩), (20043, ⟨10001, 3, in20043, false⟩), (20033, ⟨34, 1, in20033, false⟩), (20047, ⟨104, 2, in20047, false⟩), (20045, ⟨62, 3, in20045, false⟩), (20046, ⟨62, 6, in20046, false⟩), (20050, ⟨120, 4, in20050, false⟩), (20051, ⟨106, 4, in20051, false⟩), (20053, ⟨67, 4, in20053, false⟩), (20052, ⟨10003, 2, in20052, false⟩), (20055, ⟨117, 2, in20055, false⟩), (20054, ⟨10004, 2, in20054, false⟩), (20048, ⟨35, 4, in20048, false⟩), (20049, ⟨35, 7, in20049, false⟩), (20058, ⟨49, 2, in20058, false⟩), (20057, ⟨26, 4, in20057, false⟩), (20056, ⟨10, 4, in20056, false⟩), (20059, ⟨27, 2, in20059, false⟩), (20060, ⟨27, 5, in20060, false⟩), (20061, ⟨13, 2, in20061, false⟩), (20063, ⟨28, 2, in20063, false⟩), (20064, ⟨28, 5, in20064, false⟩), (20062, ⟨14, 2, in20062, false⟩)]
noncomputable def extTab : List (Nat × ExtK) := [(10005, .sort 66 (.pair (.int .i64) (.pair (.int .i64) (.slice (.arr .u8 8)))))]
noncomputable def pickTab : List ((FuncId × List FuncId) × Nat) := [((56, [47, 57]), 10000), ((56, [58, 59]), 10001), ((36, [64]), 10002), ((46, [64]), 10003), ((90, [91]), 10004), ((65, [66]), 10005)]
noncomputable def pick (f : FuncId) : List FuncId → Nat
  | [] => f
  | l => (pickTab.lookup (f, l)).getD 0
noncomputable def E : Env := ⟨[9, 10, 11], fun T => tyTab.lookup T, pick, fun f => fdTab.lookup f, fun f => ldTab.lookup f, fun f => extTab.lookup f⟩
/-- What a call answers. -/
noncomputable def R : Oracle := ev E
theorem R_ev (f : Nat) (l : List TV) : R f l = ev E f l := rfl
def iw_szSimpleS : Nat := 19
def iw_szNormal : Nat := 6
def iw_toSimple : Nat := 45
def iw_toSimple_3 : Nat := 20001
def iw_toSimpleS : Nat := 22
def iw_toSimpleS_3 : Nat := 20000
def iw_toNormal : Nat := 8
def is_l01In : Nat := 68
def is_l02Is : Nat := 80
def is_l02Is_5 : Nat := 20003
def is_l02Same : Nat := 53
def is_l02Same_3 : Nat := 20004
def is_l02Half : Nat := 76
def is_l02Half_3 : Nat := 20005
def is_l02Back : Nat := 98
def is_l02Back_3 : Nat := 20006
def is_l03Weighted : Nat := 81
def is_l03Weighted_3 : Nat := 20007
def is_l03Is : Nat := 50
def is_l03Is_5 : Nat := 20002
def is_l04Code : Nat := 39
def is_l02Then : Nat := 97
def is_l02Then_3 : Nat := 20010
def is_l02Turn : Nat := 77
def is_l04First : Nat := 44
def is_l02Complement : Nat := 96
def is_l02Exchange : Nat := 118
def is_l02Meet : Nat := 95
def is_l02Meet_3 : Nat := 20013
def is_l03Weigh : Nat := 75
def is_l03Weigh_3 : Nat := 20011
def is_l03Weigh_6 : Nat := 20012
def is_l03Make : Nat := 43
def is_l03Make_4 : Nat := 20014
def is_l03Make_7 : Nat := 20015
def is_l04Cycle : Nat := 20
def is_l04Decycle : Nat := 51
def is_l04Summit : Nat := 30
def is_l04Summit_2 : Nat := 20008
def is_l04Summit_4 : Nat := 20009
def is_l04Summit_11 : Nat := 20016
def is_l04Simples : Nat := 52
def is_l04Simples_6 : Nat := 20017
def is_l02Left : Nat := 103
def is_l03Less : Nat := 83
def is_l03Turned : Nat := 102
def is_l03Turned_3 : Nat := 20020
def is_l03Times : Nat := 82
def is_l04Conjugate : Nat := 54
def is_l04Before : Nat := 55
def is_l04Before_2 : Nat := 20022
def is_l04Before_5 : Nat := 20023
def is_l03Like : Nat := 21
def is_l03Like_4 : Nat := 20024
def is_l04Insert : Nat := 32
def is_l04Insert_2 : Nat := 20021
def is_l04Set : Nat := 31
def is_l04Set_4 : Nat := 20018
def is_l04Set_7 : Nat := 20019
def is_l03Fit : Nat := 40
def is_SuperSummit : Nat := 17
def is_SuperSummit_9 : Nat := 20025
def ii_within : Nat := 70
def ii_isCount : Nat := 69
def ii_IsSimple : Nat := 71
def ii_IsSimple_5 : Nat := 20027
def ii_nothing : Nat := 72
def ii_nothing_3 : Nat := 20028
def ii_halfTurn : Nat := 73
def ii_halfTurn_3 : Nat := 20029
def ii_backOf : Nat := 92
def ii_backOf_3 : Nat := 20030
def ii_begins : Nat := 94
def ii_beginning : Nat := 93
def ii_beginning_3 : Nat := 20031
def ii_endsAll : Nat := 74
def ii_endsAll_3 : Nat := 20032
def ii_IsNormal : Nat := 41
def ii_IsNormal_5 : Nat := 20026
def ii_copyNormal : Nat := 61
def ii_then : Nat := 84
def ii_then_3 : Nat := 20035
def ii_turn : Nat := 101
def ii_turned : Nat := 79
def ii_complement : Nat := 100
def ii_descents : Nat := 119
def ii_descents_3 : Nat := 20037
def ii_descents_6 : Nat := 20038
def ii_meet : Nat := 99
def ii_meet_4 : Nat := 20039
def ii_meet_7 : Nat := 20040
def i__i_Normal__put : Nat := 78
def i__i_Normal__put_5 : Nat := 20036
def i__i_Normal__put_11 : Nat := 20041
def i__i_Normal__put_14 : Nat := 20042
def ii_cycled : Nat := 47
def ii_summitK1 : Nat := 57
def ii_better : Nat := 10000
def ii_better_3 : Nat := 20034
def ii_decycled : Nat := 58
def ii_decycled_7 : Nat := 20044
def ii_greatest : Nat := 60
def ii_summitK2 : Nat := 59
def ii_better_v2 : Nat := 10001
def ii_better_v2_3 : Nat := 20043
def ii_summit : Nat := 34
def ii_summit_1 : Nat := 20033
def ii_exchange : Nat := 85
def ig_Index___i_Simple_i_Simple_ : Nat := 104
def ig_Index___i_Simple_i_Simple__2 : Nat := 20047
def ig_Contains___i_Simple_i_Simple_ : Nat := 86
def ii_allSimple : Nat := 62
def ii_allSimple_3 : Nat := 20045
def ii_allSimple_6 : Nat := 20046
def i__i_Normal__turnBy : Nat := 120
def i__i_Normal__turnBy_4 : Nat := 20050
def ii_leftComplement : Nat := 121
def i__i_Normal__putInverse : Nat := 105
def ii_product : Nat := 106
def ii_product_4 : Nat := 20051
def ii_withoutHead : Nat := 87
def ii_conjugate : Nat := 63
def ig_Equal___i_Simple_i_Simple_ : Nat := 67
def ig_Equal___i_Simple_i_Simple__4 : Nat := 20053
def ii_sameNormal : Nat := 38
def ii_superSummitK1 : Nat := 64
def ig_IndexFunc___i_Normal_i_Normal_ : Nat := 10003
def ig_IndexFunc___i_Normal_i_Normal__2 : Nat := 20052
def ig_ContainsFunc___i_Normal_i_Normal_ : Nat := 10002
def icmp_isNaN_byte_ : Nat := 129
def icmp_Compare_byte_ : Nat := 127
def ig_Compare___byte_byte_ : Nat := 117
def ig_Compare___byte_byte__2 : Nat := 20055
def ii_compareSimple : Nat := 91
def ig_CompareFunc___i_Simple___i_Simple_i_Simple_i_Simple_ : Nat := 10004
def ig_CompareFunc___i_Simple___i_Simple_i_Simple_i_Simple__2 : Nat := 20054
def ii_compareFactors : Nat := 66
def ig_SortFunc___i_Normal_i_Normal_ : Nat := 10005
def ii_superSummit : Nat := 35
def ii_superSummit_4 : Nat := 20048
def ii_superSummit_7 : Nat := 20049
def ii_limited : Nat := 42
def ii_SuperSummit : Nat := 18
def iw_eqSimple : Nat := 49
def iw_eqSimple_2 : Nat := 20058
def iw_eqSimpleS : Nat := 26
def iw_eqSimpleS_4 : Nat := 20057
def iw_eqNormal : Nat := 11
def iw_eqNormalS : Nat := 10
def iw_eqNormalS_4 : Nat := 20056
def iw_markSimpleS : Nat := 27
def iw_markSimpleS_2 : Nat := 20059
def iw_markSimpleS_5 : Nat := 20060
def iw_markNormal : Nat := 12
def iw_markNormalS : Nat := 13
def iw_markNormalS_2 : Nat := 20061
def iw_heldSimpleS : Nat := 28
def iw_heldSimpleS_2 : Nat := 20063
def iw_heldSimpleS_5 : Nat := 20064
def iw_heldNormalS : Nat := 14
def iw_heldNormalS_2 : Nat := 20062
def iw_FnExactSuperSummit : Nat := 5
end Go.Ev.YtolpnaiincngjaaGreat
