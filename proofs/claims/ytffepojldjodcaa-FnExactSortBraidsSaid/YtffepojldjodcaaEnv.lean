/- What the evaluator knows of this program. -/
import Derived.Test.YtffepojldjodcaaProg
import Derived.Test.YtffepojldjodcaaV1
namespace Go.Ev.Ytffepojldjodcaa
open Go.Ev
@[reducible] noncomputable def tAi10 (x : List Int) : TV := ⟨.arr .i64 10, x⟩
@[reducible] noncomputable def gAi10 (l : List TV) (i : Nat) : List Int := getTV (.arr .i64 10) l i
@[reducible] noncomputable def tB (x : Bool) : TV := ⟨.bool, x⟩
@[reducible] noncomputable def gB (l : List TV) (i : Nat) : Bool := getTV (.bool) l i
@[reducible] noncomputable def tI (x : Int) : TV := ⟨.int .i64, x⟩
@[reducible] noncomputable def gI (l : List TV) (i : Nat) : Int := getTV (.int .i64) l i
@[reducible] noncomputable def tLI (x : List Int) : TV := ⟨.slice (.int .i64), x⟩
@[reducible] noncomputable def gLI (l : List TV) (i : Nat) : List Int := getTV (.slice (.int .i64)) l i
@[reducible] noncomputable def tLPILI (x : List (Int × List Int)) : TV := ⟨.slice (.pair (.int .i64) (.slice (.int .i64))), x⟩
@[reducible] noncomputable def gLPILI (l : List TV) (i : Nat) : List (Int × List Int) := getTV (.slice (.pair (.int .i64) (.slice (.int .i64)))) l i
@[reducible] noncomputable def tPILI (x : Int × List Int) : TV := ⟨.pair (.int .i64) (.slice (.int .i64)), x⟩
@[reducible] noncomputable def gPILI (l : List TV) (i : Nat) : Int × List Int := getTV (.pair (.int .i64) (.slice (.int .i64))) l i
noncomputable def tyTab : List (Nat × Ty) := [(2, .int .i64), (3, .int .i64), (4, .bool), (5, .int .u8), (6, .int .u8), (7, .pair (.int .i64) (.pair (.int .i64) (.pair (.bool) (.int .u8)))), (8, .pair (.int .i64) (.pair (.int .i64) (.pair (.bool) (.int .u8)))), (12, .int .u64), (21, .int .i32), (22, .slice (.int .i64)), (26, .pair (.int .i64) (.slice (.int .i64))), (27, .pair (.int .i64) (.slice (.int .i64))), (31, .pair (.int .i64) (.slice (.int .i64))), (45, .slice (.pair (.int .i64) (.slice (.int .i64)))), (48, .slice (.pair (.int .i64) (.slice (.int .i64)))), (68, .arr .i64 10), (70, .slice (.int .i64)), (88, .int .u32), (89, .int .u8), (90, .int .u8), (93, .int .i32), (94, .int .i32)]
/-- laws.szInt64S -/
noncomputable def fd49 : FD := { id := 49, fn := Go.Proofs.Try.f49, sig := ⟨[.ro (.slice (.int .i64)), .ro (.int .i64)], [(.own, false, .int .i64)]⟩, loops := [], views := [], joins := [] }
/-- laws.szBraid -/
noncomputable def fd17 : FD := { id := 17, fn := Go.Proofs.Try.f17, sig := ⟨[.ro (.pair (.int .i64) (.slice (.int .i64))), .ro (.int .i64)], [(.own, false, .int .i64)]⟩, loops := [], views := [], joins := [] }
noncomputable def in20000 : LoopInfo := ⟨20000, ⟨[.row .ro (.pair (.int .i64) (.slice (.int .i64)))], [(0, .w (.c (.sl 0))), (1, .w (.c (.int .i64))), (5, .w (.c (.int .i64)))]⟩, [(.exit 0, ⟨[], [(1, .w (.c (.int .i64)))]⟩), (.ret, ⟨[], [(4, .w (.c (.int .i64)))]⟩)]⟩
/-- laws.szBraidS -/
noncomputable def fd38 : FD := { id := 38, fn := Go.Proofs.Try.f38, sig := ⟨[.ro (.slice (.pair (.int .i64) (.slice (.int .i64)))), .ro (.int .i64)], [(.own, false, .int .i64)]⟩, loops := [(5, in20000)], views := [], joins := [] }
noncomputable def in20002 : LoopInfo := ⟨20002, ⟨[.row .ro (.int .i64), .row .own (.int .i64)], [(0, .w (.c (.sl 0))), (3, .w (.c (.sl 1))), (4, .w (.c (.int .i64)))]⟩, [(.exit 0, ⟨[.row .own (.int .i64)], [(3, .w (.c (.sl 0)))]⟩)]⟩
/-- laws.toInt64S -/
noncomputable def fd14 : FD := { id := 14, fn := Go.Proofs.Try.f14, sig := ⟨[.ro (.slice (.int .i64))], [(.own, false, .slice (.int .i64))]⟩, loops := [(3, in20002)], views := [], joins := [] }
/-- laws.toBraid -/
noncomputable def fd19 : FD := { id := 19, fn := Go.Proofs.Try.f19, sig := ⟨[.ro (.pair (.int .i64) (.slice (.int .i64)))], [(.own, false, .pair (.int .i64) (.slice (.int .i64)))]⟩, loops := [], views := [], joins := [] }
noncomputable def in20001 : LoopInfo := ⟨20001, ⟨[.row .ro (.pair (.int .i64) (.slice (.int .i64))), .row .own (.pair (.int .i64) (.slice (.int .i64)))], [(0, .w (.c (.sl 0))), (3, .w (.c (.sl 1))), (4, .w (.c (.int .i64)))]⟩, [(.exit 0, ⟨[.row .own (.pair (.int .i64) (.slice (.int .i64)))], [(3, .w (.c (.sl 0)))]⟩)]⟩
/-- laws.toBraidS -/
noncomputable def fd40 : FD := { id := 40, fn := Go.Proofs.Try.f40, sig := ⟨[.ro (.slice (.pair (.int .i64) (.slice (.int .i64))))], [(.own, false, .slice (.pair (.int .i64) (.slice (.int .i64))))]⟩, loops := [(3, in20001)], views := [], joins := [], moves := [0] }
/-- spec.l01In -/
noncomputable def fd76 : FD := { id := 76, fn := Go.Proofs.Try.f76, sig := ⟨[.ro (.int .i64), .ro (.int .i64), .ro (.int .i64)], [(.own, false, .bool)]⟩, loops := [], views := [], joins := [] }
noncomputable def in20004 : LoopInfo := ⟨20004, ⟨[.box .own (.st [.int .i64, .sl 1]), .row .ro (.int .i64)], [(1, .w (.c (.ptr 0))), (3, .w (.c (.int .i64)))]⟩, [(.exit 0, ⟨[], []⟩), (.ret, ⟨[], [(2, .w (.c (.bool)))]⟩)]⟩
/-- spec.l01Is -/
noncomputable def fd50 : FD := { id := 50, fn := Go.Proofs.Try.f50, sig := ⟨[.ro (.pair (.int .i64) (.slice (.int .i64)))], [(.own, false, .bool)]⟩, loops := [(4, in20004)], views := [], joins := [] }
noncomputable def in20008 : LoopInfo := ⟨20008, ⟨[.row .ro (.int .i64), .row .own (.int .i64)], [(0, .w (.c (.sl 0))), (3, .w (.c (.sl 1))), (4, .w (.c (.int .i64)))]⟩, [(.exit 0, ⟨[.row .own (.int .i64)], [(3, .w (.c (.sl 0)))]⟩)]⟩
/-- spec.l01Inverse -/
noncomputable def fd81 : FD := { id := 81, fn := Go.Proofs.Try.f81, sig := ⟨[.ro (.slice (.int .i64))], [(.own, false, .slice (.int .i64))]⟩, loops := [(3, in20008)], views := [], joins := [] }
/-- spec.l06Index -/
noncomputable def fd78 : FD := { id := 78, fn := Go.Proofs.Try.f78, sig := ⟨[.ro (.int .i64)], [(.own, false, .int .i64)]⟩, loops := [], views := [], joins := [] }
noncomputable def in20010 : LoopInfo := ⟨20010, ⟨[.row .ro (.int .i64)], [(0, .w (.c (.sl 0))), (5, .w (.c (.int .i64)))]⟩, [(.exit 0, ⟨[], []⟩), (.ret, ⟨[], [(2, .w (.c (.int .i64))), (3, .w (.c (.int .i64))), (4, .w (.c (.bool)))]⟩)]⟩
noncomputable def in20011 : LoopInfo := ⟨20011, ⟨[.row .ro (.int .i64)], [(0, .w (.c (.sl 0))), (5, .w (.c (.int .i64))), (6, .w (.c (.int .i64))), (7, .w (.c (.int .i64)))]⟩, [(.exit 2, ⟨[.row .ro (.int .i64)], [(0, .w (.c (.sl 0))), (5, .w (.c (.int .i64)))]⟩), (.ret, ⟨[], [(2, .w (.c (.int .i64))), (3, .w (.c (.int .i64))), (4, .w (.c (.bool)))]⟩)]⟩
/-- spec.l06Handle -/
noncomputable def fd55 : FD := { id := 55, fn := Go.Proofs.Try.f55, sig := ⟨[.ro (.slice (.int .i64))], [(.own, false, .int .i64), (.own, false, .int .i64), (.own, false, .bool)]⟩, loops := [(2, in20010), (6, in20011)], views := [], joins := [] }
/-- spec.l01Own -/
noncomputable def fd60 : FD := { id := 60, fn := Go.Proofs.Try.f60, sig := ⟨[.ro (.slice (.int .i64))], [(.own, false, .slice (.int .i64))]⟩, loops := [], views := [], joins := [] }
noncomputable def in20012 : LoopInfo := ⟨20012, ⟨[.row .ro (.int .i64), .row .own (.int .i64)], [(0, .w (.c (.sl 0))), (2, .w (.c (.int .i64))), (7, .w (.c (.sl 1))), (8, .w (.c (.int .i64))), (9, .w (.c (.int .i64))), (10, .w (.c (.int .i64)))]⟩, [(.exit 0, ⟨[.row .ro (.int .i64), .row .own (.int .i64)], [(0, .w (.c (.sl 0))), (2, .w (.c (.int .i64))), (7, .w (.c (.sl 1)))]⟩)]⟩
/-- spec.l06Step -/
noncomputable def fd57 : FD := { id := 57, fn := Go.Proofs.Try.f57, sig := ⟨[.ro (.slice (.int .i64)), .ro (.int .i64), .ro (.int .i64)], [(.own, false, .slice (.int .i64))]⟩, loops := [(5, in20012)], views := [], joins := [] }
noncomputable def in20009 : LoopInfo := ⟨20009, ⟨[.row .ro (.int .i64)], [(0, .w (.c (.sl 0))), (4, .w (.c (.int .i64)))]⟩, [(.ret, ⟨[.row .ro (.int .i64)], [(2, .w (.c (.sl 0))), (3, .w (.c (.bool)))]⟩)]⟩
/-- spec.l06Reduce -/
noncomputable def fd59 : FD := { id := 59, fn := Go.Proofs.Try.f59, sig := ⟨[.ro (.slice (.int .i64))], [(.ro, false, .slice (.int .i64)), (.own, false, .bool)]⟩, loops := [(3, in20009)], views := [], joins := [] }
noncomputable def in20013 : LoopInfo := ⟨20013, ⟨[.row .ro (.int .i64)], [(0, .w (.c (.sl 0))), (4, .w (.c (.int .i64))), (5, .w (.c (.int .i64)))]⟩, [(.exit 0, ⟨[.row .ro (.int .i64)], [(0, .w (.c (.sl 0))), (4, .w (.c (.int .i64)))]⟩)]⟩
noncomputable def in20014 : LoopInfo := ⟨20014, ⟨[.row .ro (.int .i64)], [(0, .w (.c (.sl 0))), (4, .w (.c (.int .i64))), (6, .w (.c (.bool))), (7, .w (.c (.bool))), (8, .w (.c (.int .i64)))]⟩, [(.exit 2, ⟨[], [(4, .w (.c (.int .i64))), (6, .w (.c (.bool))), (7, .w (.c (.bool)))]⟩)]⟩
/-- spec.l06Main -/
noncomputable def fd51 : FD := { id := 51, fn := Go.Proofs.Try.f51, sig := ⟨[.ro (.slice (.int .i64))], [(.own, false, .int .i64), (.own, false, .int .i64)]⟩, loops := [(3, in20013), (8, in20014)], views := [], joins := [] }
/-- spec.l06Letter -/
noncomputable def fd62 : FD := { id := 62, fn := Go.Proofs.Try.f62, sig := ⟨[.ro (.slice (.int .i64))], [(.own, false, .int .i64), (.own, false, .bool)]⟩, loops := [], views := [], joins := [] }
/-- spec.l06Compare -/
noncomputable def fd64 : FD := { id := 64, fn := Go.Proofs.Try.f64, sig := ⟨[.ro (.slice (.int .i64)), .ro (.slice (.int .i64))], [(.own, false, .int .i64), (.own, false, .bool)]⟩, loops := [], views := [], joins := [] }
noncomputable def in20003 : LoopInfo := ⟨20003, ⟨[.row .ro (.pair (.int .i64) (.slice (.int .i64)))], [(0, .w (.c (.sl 0))), (4, .w (.c (.int .i64)))]⟩, [(.exit 0, ⟨[.row .ro (.pair (.int .i64) (.slice (.int .i64)))], [(0, .w (.c (.sl 0)))]⟩), (.ret, ⟨[.row .own (.int .i64)], [(2, .w (.c (.sl 0))), (3, .w (.c (.int .i64)))]⟩)]⟩
noncomputable def in20005 : LoopInfo := ⟨20005, ⟨[.row .ro (.pair (.int .i64) (.slice (.int .i64)))], [(0, .w (.c (.sl 0))), (5, .w (.c (.int .i64)))]⟩, [(.exit 2, ⟨[.row .ro (.pair (.int .i64) (.slice (.int .i64)))], [(0, .w (.c (.sl 0)))]⟩), (.ret, ⟨[.row .own (.int .i64)], [(2, .w (.c (.sl 0))), (3, .w (.c (.int .i64)))]⟩)]⟩
noncomputable def in20006 : LoopInfo := ⟨20006, ⟨[.row .ro (.pair (.int .i64) (.slice (.int .i64))), .box .own (.arr .i64 10)], [(0, .w (.c (.sl 0))), (6, .w (.c (.ptr 1))), (7, .w (.c (.int .i64)))]⟩, [(.exit 4, ⟨[.row .ro (.pair (.int .i64) (.slice (.int .i64))), .box .own (.arr .i64 10)], [(0, .w (.c (.sl 0))), (6, .w (.c (.ptr 1)))]⟩), (.ret, ⟨[.row .own (.int .i64)], [(2, .w (.c (.sl 0))), (3, .w (.c (.int .i64)))]⟩)]⟩
noncomputable def in20007 : LoopInfo := ⟨20007, ⟨[.row .ro (.pair (.int .i64) (.slice (.int .i64))), .box .own (.arr .i64 10)], [(0, .w (.c (.sl 0))), (6, .w (.c (.ptr 1))), (7, .w (.c (.int .i64))), (8, .w (.c (.int .i64)))]⟩, [(.exit 6, ⟨[.row .ro (.pair (.int .i64) (.slice (.int .i64))), .box .own (.arr .i64 10)], [(0, .w (.c (.sl 0))), (6, .w (.c (.ptr 1))), (7, .w (.c (.int .i64)))]⟩), (.ret, ⟨[.row .own (.int .i64)], [(2, .w (.c (.sl 0))), (3, .w (.c (.int .i64)))]⟩)]⟩
noncomputable def in20015 : LoopInfo := ⟨20015, ⟨[.row .ro (.pair (.int .i64) (.slice (.int .i64))), .box .own (.arr .i64 10), .row .own (.int .i64)], [(0, .w (.c (.sl 0))), (6, .w (.c (.ptr 1))), (11, .w (.c (.sl 2))), (12, .w (.c (.int .i64)))]⟩, [(.exit 8, ⟨[.row .own (.int .i64)], [(11, .w (.c (.sl 0)))]⟩)]⟩
/-- spec.SortBraids -/
noncomputable def fd39 : FD := { id := 39, fn := Go.Proofs.Try.f39, sig := ⟨[.ro (.slice (.pair (.int .i64) (.slice (.int .i64))))], [(.own, false, .slice (.int .i64)), (.own, false, .int .i64)]⟩, loops := [(2, in20003), (9, in20005), (15, in20006), (18, in20007), (28, in20015)], views := [], joins := [] }
/-- impl.within -/
noncomputable def fd77 : FD := { id := 77, fn := Go.Proofs.Try.f77, sig := ⟨[.ro (.int .i64), .ro (.int .i64), .ro (.int .i64)], [(.own, false, .bool)]⟩, loops := [], views := [], joins := [] }
/-- impl.isCount -/
noncomputable def fd47 : FD := { id := 47, fn := Go.Proofs.Try.f47, sig := ⟨[.ro (.int .i64)], [(.own, false, .bool)]⟩, loops := [], views := [], joins := [] }
/-- impl.isLetter -/
noncomputable def fd79 : FD := { id := 79, fn := Go.Proofs.Try.f79, sig := ⟨[.ro (.int .i64), .ro (.int .i64)], [(.own, false, .bool)]⟩, loops := [], views := [], joins := [] }
noncomputable def in20017 : LoopInfo := ⟨20017, ⟨[.box .own (.st [.int .i64, .sl 1]), .row .ro (.int .i64)], [(1, .w (.c (.ptr 0))), (16, .w (.c (.sl 1))), (17, .w (.c (.int .i64))), (18, .w (.c (.int .i64)))]⟩, [(.exit 0, ⟨[], []⟩), (.ret, ⟨[], [(2, .w (.c (.bool)))]⟩)]⟩
/-- impl.IsBraid -/
noncomputable def fd52 : FD := { id := 52, fn := Go.Proofs.Try.f52, sig := ⟨[.ro (.pair (.int .i64) (.slice (.int .i64)))], [(.own, false, .bool)]⟩, loops := [(4, in20017)], views := [], joins := [] }
/-- impl.SortBraids$1 -/
noncomputable def fd67 : FD := { id := 67, fn := Go.Proofs.Try.f67, sig := ⟨[.ro (.pair (.int .i64) (.slice (.int .i64)))], [(.own, false, .bool)]⟩, loops := [], views := [], joins := [] }
noncomputable def in20016 : LoopInfo := ⟨20016, ⟨[.row .ro (.pair (.int .i64) (.slice (.int .i64)))], [(0, .w (.c (.sl 0))), (1, .fn 67 []), (7, .w (.c (.int .i64))), (8, .w (.c (.int .i64)))]⟩, [(.exit 0, ⟨[], []⟩), (.ret, ⟨[], [(4, .w (.c (.int .i64)))]⟩)]⟩
/-- slices.IndexFunc[[]impl.Braid,impl.Braid] -/
noncomputable def fd10001 : FD := { id := 82, fn := Go.Proofs.Try.f82, sig := ⟨[.ro (.slice (.pair (.int .i64) (.slice (.int .i64)))), .fn 67 []], [(.own, false, .int .i64)]⟩, loops := [(2, in20016)], views := [], joins := [] }
/-- slices.ContainsFunc[[]impl.Braid,impl.Braid] -/
noncomputable def fd10000 : FD := { id := 66, fn := Go.Proofs.Try.f66, sig := ⟨[.ro (.slice (.pair (.int .i64) (.slice (.int .i64)))), .fn 67 []], [(.own, false, .bool)]⟩, loops := [], views := [], joins := [] }
/-- impl.SortBraids$2 -/
noncomputable def fd68 : FD := { id := 68, fn := Go.Proofs.Try.f68, sig := ⟨[.ro (.pair (.int .i64) (.slice (.int .i64))), .rob (.slice (.pair (.int .i64) (.slice (.int .i64))))], [(.own, false, .bool)]⟩, loops := [], views := [], joins := [] }
noncomputable def in20018 : LoopInfo := ⟨20018, ⟨[.row .ro (.pair (.int .i64) (.slice (.int .i64))), .box .ro (.c (.sl 2)), .row .ro (.pair (.int .i64) (.slice (.int .i64)))], [(0, .w (.c (.sl 0))), (1, .fn 68 [.c (.ptr 1)]), (7, .w (.c (.int .i64))), (8, .w (.c (.int .i64)))]⟩, [(.exit 0, ⟨[], []⟩), (.ret, ⟨[], [(4, .w (.c (.int .i64)))]⟩)]⟩
/-- slices.IndexFunc[[]impl.Braid,impl.Braid] -/
noncomputable def fd10003 : FD := { id := 82, fn := Go.Proofs.Try.f82, sig := ⟨[.ro (.slice (.pair (.int .i64) (.slice (.int .i64)))), .fn 68 [(.rob, .slice (.pair (.int .i64) (.slice (.int .i64))))]], [(.own, false, .int .i64)]⟩, loops := [(2, in20018)], views := [], joins := [] }
/-- slices.ContainsFunc[[]impl.Braid,impl.Braid] -/
noncomputable def fd10002 : FD := { id := 66, fn := Go.Proofs.Try.f66, sig := ⟨[.ro (.slice (.pair (.int .i64) (.slice (.int .i64)))), .fn 68 [(.rob, .slice (.pair (.int .i64) (.slice (.int .i64))))]], [(.own, false, .bool)]⟩, loops := [], views := [], joins := [] }
noncomputable def in20021 : LoopInfo := ⟨20021, ⟨[.box .own (.st [.int .i64, .sl 1]), .row .ro (.int .i64), .box .own (.st [.int .i64, .sl 3]), .row .own (.int .i64), .box .own (.st [.int .i64, .sl 5]), .row .own (.int .i64)], [(1, .w (.c (.ptr 0))), (2, .w (.c (.ptr 2))), (3, .w (.c (.ptr 4))), (4, .w (.c (.int .i64)))]⟩, [(.exit 0, ⟨[.box .own (.st [.int .i64, .sl 1]), .row .own (.int .i64), .box .own (.st [.int .i64, .sl 3]), .row .own (.int .i64)], [(2, .w (.c (.ptr 0))), (3, .w (.c (.ptr 2)))]⟩)]⟩
/-- impl.reversed -/
noncomputable def fd72 : FD := { id := 72, fn := Go.Proofs.Try.f72, sig := ⟨[.ro (.pair (.int .i64) (.slice (.int .i64)))], [(.own, false, .pair (.int .i64) (.slice (.int .i64)))]⟩, loops := [(3, in20021)], views := [], joins := [] }
/-- impl.opposite -/
noncomputable def fd73 : FD := { id := 73, fn := Go.Proofs.Try.f73, sig := ⟨[.ro (.int .i64)], [(.own, false, .int .i64)]⟩, loops := [], views := [], joins := [] }
noncomputable def in20022 : LoopInfo := ⟨20022, ⟨[.box .own (.st [.int .i64, .sl 1]), .row .own (.int .i64), .box .own (.st [.int .i64, .sl 3]), .row .own (.int .i64), .row .ro (.int .i64)], [(1, .fn 73 []), (4, .w (.c (.ptr 0))), (5, .w (.c (.ptr 2))), (12, .w (.c (.sl 4))), (13, .w (.c (.int .i64))), (14, .w (.c (.int .i64)))]⟩, [(.exit 0, ⟨[.box .own (.st [.int .i64, .sl 1]), .row .own (.int .i64), .box .own (.st [.int .i64, .sl 3]), .row .own (.int .i64)], [(4, .w (.c (.ptr 0))), (5, .w (.c (.ptr 2)))]⟩)]⟩
/-- impl.letterBy -/
noncomputable def fd10004 : FD := { id := 71, fn := Go.Proofs.Try.f71, sig := ⟨[.ro (.pair (.int .i64) (.slice (.int .i64))), .fn 73 []], [(.own, false, .pair (.int .i64) (.slice (.int .i64)))]⟩, loops := [(3, in20022)], views := [], joins := [] }
/-- impl.joined -/
noncomputable def fd75 : FD := { id := 75, fn := Go.Proofs.Try.f75, sig := ⟨[.ro (.pair (.int .i64) (.slice (.int .i64))), .ro (.pair (.int .i64) (.slice (.int .i64)))], [(.own, false, .pair (.int .i64) (.slice (.int .i64)))]⟩, loops := [], views := [], joins := [] }
/-- impl.size -/
noncomputable def fd74 : FD := { id := 74, fn := Go.Proofs.Try.f74, sig := ⟨[.ro (.int .i64)], [(.own, false, .int .i64)]⟩, loops := [], views := [], joins := [] }
noncomputable def in20025 : LoopInfo := ⟨20025, ⟨[.row .ro (.int .i64)], [(0, .w (.c (.sl 0))), (1, .w (.c (.int .i64))), (6, .w (.c (.int .i64))), (7, .w (.c (.int .i64)))]⟩, [(.exit 0, ⟨[], []⟩), (.ret, ⟨[], [(4, .w (.c (.int .i64))), (5, .w (.c (.bool)))]⟩)]⟩
/-- impl.beginOf -/
noncomputable def fd80 : FD := { id := 80, fn := Go.Proofs.Try.f80, sig := ⟨[.ro (.slice (.int .i64)), .ro (.int .i64)], [(.own, false, .int .i64), (.own, false, .bool)]⟩, loops := [(3, in20025)], views := [], joins := [] }
noncomputable def in20024 : LoopInfo := ⟨20024, ⟨[.row .ro (.int .i64)], [(0, .w (.c (.sl 0))), (9, .w (.c (.int .i64))), (10, .w (.c (.int .i64)))]⟩, [(.exit 0, ⟨[], []⟩), (.ret, ⟨[], [(2, .w (.c (.int .i64))), (3, .w (.c (.int .i64))), (4, .w (.c (.bool)))]⟩)]⟩
/-- impl.firstHandle -/
noncomputable def fd56 : FD := { id := 56, fn := Go.Proofs.Try.f56, sig := ⟨[.ro (.slice (.int .i64))], [(.own, false, .int .i64), (.own, false, .int .i64), (.own, false, .bool)]⟩, loops := [(2, in20024)], views := [], joins := [] }
/-- impl.sign -/
noncomputable def fd54 : FD := { id := 54, fn := Go.Proofs.Try.f54, sig := ⟨[.ro (.int .i64)], [(.own, false, .int .i64)]⟩, loops := [], views := [], joins := [] }
noncomputable def in20026 : LoopInfo := ⟨20026, ⟨[.row .ro (.int .i64), .row .own (.int .i64), .row .ro (.int .i64)], [(0, .w (.c (.sl 0))), (2, .w (.c (.int .i64))), (7, .w (.c (.int .i64))), (8, .w (.c (.int .i64))), (9, .w (.c (.sl 1))), (34, .w (.c (.sl 2))), (35, .w (.c (.int .i64))), (36, .w (.c (.int .i64)))]⟩, [(.exit 0, ⟨[.row .ro (.int .i64), .row .own (.int .i64)], [(0, .w (.c (.sl 0))), (2, .w (.c (.int .i64))), (9, .w (.c (.sl 1)))]⟩)]⟩
/-- impl.reduced -/
noncomputable def fd58 : FD := { id := 58, fn := Go.Proofs.Try.f58, sig := ⟨[.ro (.slice (.int .i64)), .ro (.int .i64), .ro (.int .i64)], [(.own, false, .slice (.int .i64))]⟩, loops := [(5, in20026)], views := [], joins := [] }
noncomputable def in20023 : LoopInfo := ⟨20023, ⟨[.row .ro (.int .i64)], [(0, .w (.c (.sl 0))), (4, .w (.c (.int .i64)))]⟩, [(.ret, ⟨[.row .ro (.int .i64)], [(2, .w (.c (.sl 0))), (3, .w (.c (.int .i64)))]⟩)]⟩
/-- impl.reduction -/
noncomputable def fd61 : FD := { id := 61, fn := Go.Proofs.Try.f61, sig := ⟨[.ro (.slice (.int .i64))], [(.ro, false, .slice (.int .i64)), (.own, false, .int .i64)]⟩, loops := [(3, in20023)], views := [], joins := [] }
noncomputable def in20027 : LoopInfo := ⟨20027, ⟨[.row .ro (.int .i64)], [(3, .w (.c (.int .i64))), (4, .w (.c (.bool))), (7, .w (.c (.sl 0))), (8, .w (.c (.int .i64))), (9, .w (.c (.int .i64)))]⟩, [(.exit 0, ⟨[], [(3, .w (.c (.int .i64))), (4, .w (.c (.bool)))]⟩)]⟩
/-- impl.mainOf -/
noncomputable def fd53 : FD := { id := 53, fn := Go.Proofs.Try.f53, sig := ⟨[.ro (.slice (.int .i64))], [(.own, false, .int .i64)]⟩, loops := [(3, in20027)], views := [], joins := [] }
/-- impl.mainLetter -/
noncomputable def fd63 : FD := { id := 63, fn := Go.Proofs.Try.f63, sig := ⟨[.ro (.slice (.int .i64))], [(.own, false, .int .i64), (.own, false, .int .i64)]⟩, loops := [], views := [], joins := [] }
/-- impl.compare -/
noncomputable def fd65 : FD := { id := 65, fn := Go.Proofs.Try.f65, sig := ⟨[.ro (.pair (.int .i64) (.slice (.int .i64))), .ro (.pair (.int .i64) (.slice (.int .i64)))], [(.own, false, .int .i64), (.own, false, .int .i64)]⟩, loops := [], views := [], joins := [] }
noncomputable def in20019 : LoopInfo := ⟨20019, ⟨[.box .own (.c (.sl 1)), .row .ro (.pair (.int .i64) (.slice (.int .i64))), .row .own (.int .i64), .row .own (.int .i64)], [(1, .w (.c (.ptr 0))), (4, .w (.c (.sl 2))), (5, .w (.c (.sl 3))), (29, .w (.c (.int .i64))), (30, .w (.c (.int .i64)))]⟩, [(.exit 0, ⟨[.row .own (.int .i64), .row .own (.int .i64)], [(4, .w (.c (.sl 0))), (5, .w (.c (.sl 1)))]⟩), (.ret, ⟨[.row .own (.int .i64)], [(2, .w (.c (.sl 0))), (3, .w (.c (.int .i64)))]⟩)]⟩
noncomputable def in20020 : LoopInfo := ⟨20020, ⟨[.box .own (.c (.sl 1)), .row .ro (.pair (.int .i64) (.slice (.int .i64))), .row .own (.int .i64), .row .own (.int .i64)], [(1, .w (.c (.ptr 0))), (4, .w (.c (.sl 2))), (5, .w (.c (.sl 3))), (6, .w (.c (.int .i64))), (29, .w (.c (.int .i64))), (30, .w (.c (.int .i64))), (33, .w (.c (.int .i64))), (34, .w (.c (.int .i64)))]⟩, [(.exit 2, ⟨[.box .own (.c (.sl 1)), .row .ro (.pair (.int .i64) (.slice (.int .i64))), .row .own (.int .i64), .row .own (.int .i64)], [(1, .w (.c (.ptr 0))), (4, .w (.c (.sl 2))), (5, .w (.c (.sl 3))), (29, .w (.c (.int .i64))), (30, .w (.c (.int .i64)))]⟩), (.ret, ⟨[.row .own (.int .i64)], [(2, .w (.c (.sl 0))), (3, .w (.c (.int .i64)))]⟩)]⟩
noncomputable def in20028 : LoopInfo := ⟨20028, ⟨[.row .own (.int .i64), .row .own (.int .i64)], [(4, .w (.c (.sl 0))), (68, .w (.c (.sl 1))), (69, .w (.c (.int .i64))), (70, .w (.c (.int .i64)))]⟩, [(.exit 4, ⟨[.row .own (.int .i64)], [(4, .w (.c (.sl 0)))]⟩)]⟩
/-- impl.SortBraids -/
noncomputable def fd41 : FD := { id := 41, fn := Go.Proofs.Try.f41, sig := ⟨[.ro (.slice (.pair (.int .i64) (.slice (.int .i64))))], [(.own, false, .slice (.int .i64)), (.own, false, .int .i64)]⟩, loops := [(8, in20019), (11, in20020), (22, in20028)], views := [], joins := [] }
noncomputable def in20029 : LoopInfo := ⟨20029, ⟨[.row .ro (.int .i64), .row .ro (.int .i64)], [(0, .w (.c (.sl 0))), (1, .w (.c (.sl 1))), (5, .w (.c (.int .i64)))]⟩, [(.exit 0, ⟨[], []⟩), (.ret, ⟨[], [(4, .w (.c (.bool)))]⟩)]⟩
/-- laws.eqInt64S -/
noncomputable def fd16 : FD := { id := 16, fn := Go.Proofs.Try.f16, sig := ⟨[.ro (.slice (.int .i64)), .ro (.slice (.int .i64))], [(.own, false, .bool)]⟩, loops := [(4, in20029)], views := [], joins := [] }
/-- laws.eqBraid -/
noncomputable def fd21 : FD := { id := 21, fn := Go.Proofs.Try.f21, sig := ⟨[.ro (.pair (.int .i64) (.slice (.int .i64))), .ro (.pair (.int .i64) (.slice (.int .i64)))], [(.own, false, .bool)]⟩, loops := [], views := [], joins := [] }
noncomputable def in20030 : LoopInfo := ⟨20030, ⟨[.row .ro (.pair (.int .i64) (.slice (.int .i64))), .row .ro (.pair (.int .i64) (.slice (.int .i64)))], [(0, .w (.c (.sl 0))), (1, .w (.c (.sl 1))), (5, .w (.c (.int .i64)))]⟩, [(.exit 0, ⟨[], []⟩), (.ret, ⟨[], [(4, .w (.c (.bool)))]⟩)]⟩
/-- laws.eqBraidS -/
noncomputable def fd42 : FD := { id := 42, fn := Go.Proofs.Try.f42, sig := ⟨[.ro (.slice (.pair (.int .i64) (.slice (.int .i64)))), .ro (.slice (.pair (.int .i64) (.slice (.int .i64))))], [(.own, false, .bool)]⟩, loops := [(4, in20030)], views := [], joins := [] }
noncomputable def in20032 : LoopInfo := ⟨20032, ⟨[.row .own (.int .i64)], [(0, .w (.c (.sl 0))), (1, .w (.c (.int .i64))), (5, .w (.c (.int .i64)))]⟩, [(.exit 0, ⟨[.row .own (.int .i64)], [(0, .w (.c (.sl 0))), (1, .w (.c (.int .i64)))]⟩)]⟩
/-- laws.markInt64S -/
noncomputable def fd25 : FD := { id := 25, fn := Go.Proofs.Try.f25, sig := ⟨[.mut (.slice (.int .i64)), .ro (.int .i64)], [(.own, false, .int .i64)]⟩, loops := [(2, in20032)], views := [], joins := [] }
noncomputable def in20031 : LoopInfo := ⟨20031, ⟨[.row .own (.pair (.int .i64) (.slice (.int .i64)))], [(0, .w (.c (.sl 0))), (1, .w (.c (.int .i64))), (5, .w (.c (.int .i64)))]⟩, [(.exit 0, ⟨[.row .own (.pair (.int .i64) (.slice (.int .i64)))], [(0, .w (.c (.sl 0))), (1, .w (.c (.int .i64)))]⟩)]⟩
/-- laws.markBraidS -/
noncomputable def fd43 : FD := { id := 43, fn := Go.Proofs.Try.f43, sig := ⟨[.mut (.slice (.pair (.int .i64) (.slice (.int .i64)))), .ro (.int .i64)], [(.own, false, .int .i64)]⟩, loops := [(2, in20031)], views := [], joins := [], hooks := [(6, ⟨true, 4⟩)] }
noncomputable def in20033 : LoopInfo := ⟨20033, ⟨[.row .ro (.int .i64)], [(0, .w (.c (.sl 0))), (1, .w (.c (.int .i64))), (5, .w (.c (.int .i64)))]⟩, [(.exit 0, ⟨[], [(1, .w (.c (.int .i64)))]⟩), (.ret, ⟨[], [(4, .w (.c (.int .i64)))]⟩)]⟩
/-- laws.heldInt64S -/
noncomputable def fd26 : FD := { id := 26, fn := Go.Proofs.Try.f26, sig := ⟨[.ro (.slice (.int .i64)), .ro (.int .i64)], [(.own, false, .int .i64)]⟩, loops := [(2, in20033)], views := [], joins := [] }
/-- laws.FnExactSortBraids -/
noncomputable def fd11 : FD := { id := 11, fn := Go.Proofs.Try.f11, sig := ⟨[.ro (.slice (.pair (.int .i64) (.slice (.int .i64))))], [(.own, false, .bool)]⟩, loops := [], views := [], joins := [], hooks := [(13, ⟨false, 2⟩)], keeps := [0] }
noncomputable def fdTab : List (Nat × FD) := [(49, fd49), (17, fd17), (38, fd38), (14, fd14), (19, fd19), (40, fd40), (76, fd76), (50, fd50), (81, fd81), (78, fd78), (55, fd55), (60, fd60), (57, fd57), (59, fd59), (51, fd51), (62, fd62), (64, fd64), (39, fd39), (77, fd77), (47, fd47), (79, fd79), (52, fd52), (67, fd67), (10001, fd10001), (10000, fd10000), (68, fd68), (10003, fd10003), (10002, fd10002), (72, fd72), (73, fd73), (10004, fd10004), (75, fd75), (74, fd74), (80, fd80), (56, fd56), (54, fd54), (58, fd58), (61, fd61), (53, fd53), (63, fd63), (65, fd65), (41, fd41), (16, fd16), (21, fd21), (42, fd42), (25, fd25), (43, fd43), (26, fd26), (11, fd11)]
noncomputable def ldTab : List (Nat × LD) := [(20000, ⟨38, 5, in20000, false⟩), (20002, ⟨14, 3, in20002, false⟩), (20001, ⟨40, 3, in20001, false⟩), (20004, ⟨50, 4, in20004, false⟩), (20008, ⟨81, 3, in20008, false⟩), (20010, ⟨55, 2, in20010, false⟩), (20011, ⟨55, 6, in20011, false⟩), (20012, ⟨57, 5, in20012, false⟩), (20009, ⟨59, 3, in20009, false⟩), (20013, ⟨51, 3, in20013, false⟩), (20014, ⟨51, 8, in20014, false⟩), (20003, ⟨39, 2, in20003, false⟩), (20005, ⟨39, 9, in20005, false⟩), (20006, ⟨39, 15, in20006, false⟩), (20007, ⟨39, 18, in20007, false⟩), (20015, ⟨39, 28, in20015, false⟩), (20017, ⟨52, 4, in20017, false⟩), (20016, ⟨10001, 2, in20016, false⟩), (20018, ⟨10003, 2, in20018, false⟩), (20021, ⟨72, 3, in20021, false⟩), (20022, ⟨10004, 3, in20022, false⟩), (20025, ⟨80, 3, in20025, false⟩), (20024, ⟨56, 2, in20024, false⟩), (20026, ⟨58, 5, in20026, false⟩), (20023, ⟨61, 3, in20023, false⟩), (20027, ⟨53, 3, in20027, false⟩), (20019, ⟨41, 8, in20019, false⟩), (20020, ⟨41, 11, in20020, false⟩), (20028, ⟨41, 22, in20028, false⟩), (20029, ⟨16, 4, in20029, false⟩), (20030, ⟨42, 4, in20030, false⟩), (20032, ⟨25, 2, in20032, false⟩), (20031, ⟨43, 2, in20031, false⟩), (20033, ⟨26, 2, in20033, false⟩)]
noncomputable def extTab : List (Nat × ExtK) := []
noncomputable def pickTab : List ((FuncId × List FuncId) × Nat) := [((66, [67]), 10000), ((82, [67]), 10001), ((66, [68]), 10002), ((82, [68]), 10003), ((71, [73]), 10004)]
noncomputable def pick (f : FuncId) : List FuncId → Nat
  | [] => f
  | l => (pickTab.lookup (f, l)).getD 0
noncomputable def E : Env := ⟨[9, 10, 11], fun T => tyTab.lookup T, pick, fun f => fdTab.lookup f, fun f => ldTab.lookup f, fun f => extTab.lookup f⟩
/-- What a call answers. -/
noncomputable def R : Oracle := ev E
theorem R_ev (f : Nat) (l : List TV) : R f l = ev E f l := rfl
def iw_szInt64S : Nat := 49
def iw_szBraid : Nat := 17
def iw_szBraidS : Nat := 38
def iw_szBraidS_5 : Nat := 20000
def iw_toInt64S : Nat := 14
def iw_toInt64S_3 : Nat := 20002
def iw_toBraid : Nat := 19
def iw_toBraidS : Nat := 40
def iw_toBraidS_3 : Nat := 20001
def is_l01In : Nat := 76
def is_l01Is : Nat := 50
def is_l01Is_4 : Nat := 20004
def is_l01Inverse : Nat := 81
def is_l01Inverse_3 : Nat := 20008
def is_l06Index : Nat := 78
def is_l06Handle : Nat := 55
def is_l06Handle_2 : Nat := 20010
def is_l06Handle_6 : Nat := 20011
def is_l01Own : Nat := 60
def is_l06Step : Nat := 57
def is_l06Step_5 : Nat := 20012
def is_l06Reduce : Nat := 59
def is_l06Reduce_3 : Nat := 20009
def is_l06Main : Nat := 51
def is_l06Main_3 : Nat := 20013
def is_l06Main_8 : Nat := 20014
def is_l06Letter : Nat := 62
def is_l06Compare : Nat := 64
def is_SortBraids : Nat := 39
def is_SortBraids_2 : Nat := 20003
def is_SortBraids_9 : Nat := 20005
def is_SortBraids_15 : Nat := 20006
def is_SortBraids_18 : Nat := 20007
def is_SortBraids_28 : Nat := 20015
def ii_within : Nat := 77
def ii_isCount : Nat := 47
def ii_isLetter : Nat := 79
def ii_IsBraid : Nat := 52
def ii_IsBraid_4 : Nat := 20017
def ii_SortBraidsK1 : Nat := 67
def ig_IndexFunc___i_Braid_i_Braid_ : Nat := 10001
def ig_IndexFunc___i_Braid_i_Braid__2 : Nat := 20016
def ig_ContainsFunc___i_Braid_i_Braid_ : Nat := 10000
def ii_SortBraidsK2 : Nat := 68
def ig_IndexFunc___i_Braid_i_Braid__v2 : Nat := 10003
def ig_IndexFunc___i_Braid_i_Braid__v2_2 : Nat := 20018
def ig_ContainsFunc___i_Braid_i_Braid__v2 : Nat := 10002
def ii_reversed : Nat := 72
def ii_reversed_3 : Nat := 20021
def ii_opposite : Nat := 73
def ii_letterBy : Nat := 10004
def ii_letterBy_3 : Nat := 20022
def ii_joined : Nat := 75
def ii_size : Nat := 74
def ii_beginOf : Nat := 80
def ii_beginOf_3 : Nat := 20025
def ii_firstHandle : Nat := 56
def ii_firstHandle_2 : Nat := 20024
def ii_sign : Nat := 54
def ii_reduced : Nat := 58
def ii_reduced_5 : Nat := 20026
def ii_reduction : Nat := 61
def ii_reduction_3 : Nat := 20023
def ii_mainOf : Nat := 53
def ii_mainOf_3 : Nat := 20027
def ii_mainLetter : Nat := 63
def ii_compare : Nat := 65
def ii_SortBraids : Nat := 41
def ii_SortBraids_8 : Nat := 20019
def ii_SortBraids_11 : Nat := 20020
def ii_SortBraids_22 : Nat := 20028
def iw_eqInt64S : Nat := 16
def iw_eqInt64S_4 : Nat := 20029
def iw_eqBraid : Nat := 21
def iw_eqBraidS : Nat := 42
def iw_eqBraidS_4 : Nat := 20030
def iw_markInt64S : Nat := 25
def iw_markInt64S_2 : Nat := 20032
def iw_markBraidS : Nat := 43
def iw_markBraidS_2 : Nat := 20031
def iw_heldInt64S : Nat := 26
def iw_heldInt64S_2 : Nat := 20033
def iw_FnExactSortBraids : Nat := 11
end Go.Ev.Ytffepojldjodcaa
