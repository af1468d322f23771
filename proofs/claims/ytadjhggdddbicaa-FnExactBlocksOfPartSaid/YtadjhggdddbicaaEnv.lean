/- What the evaluator knows of this program. -/
import Derived.Test.YtadjhggdddbicaaProg
import Derived.Test.YtadjhggdddbicaaV1
namespace Go.Ev.Ytadjhggdddbicaa
open Go.Ev
@[reducible] noncomputable def tA8 (x : List Int) : TV := ⟨.arr .u8 8, x⟩
@[reducible] noncomputable def gA8 (l : List TV) (i : Nat) : List Int := getTV (.arr .u8 8) l i
@[reducible] noncomputable def tAB8 (x : List Bool) : TV := ⟨.barr 8, x⟩
@[reducible] noncomputable def gAB8 (l : List TV) (i : Nat) : List Bool := getTV (.barr 8) l i
@[reducible] noncomputable def tAi8 (x : List Int) : TV := ⟨.arr .i64 8, x⟩
@[reducible] noncomputable def gAi8 (l : List TV) (i : Nat) : List Int := getTV (.arr .i64 8) l i
@[reducible] noncomputable def tB (x : Bool) : TV := ⟨.bool, x⟩
@[reducible] noncomputable def gB (l : List TV) (i : Nat) : Bool := getTV (.bool) l i
@[reducible] noncomputable def tI (x : Int) : TV := ⟨.int .i64, x⟩
@[reducible] noncomputable def gI (l : List TV) (i : Nat) : Int := getTV (.int .i64) l i
@[reducible] noncomputable def tLI (x : List Int) : TV := ⟨.slice (.int .i64), x⟩
@[reducible] noncomputable def gLI (l : List TV) (i : Nat) : List Int := getTV (.slice (.int .i64)) l i
@[reducible] noncomputable def tLLI (x : List (List Int)) : TV := ⟨.slice (.slice (.int .i64)), x⟩
@[reducible] noncomputable def gLLI (l : List TV) (i : Nat) : List (List Int) := getTV (.slice (.slice (.int .i64))) l i
noncomputable def tyTab : List (Nat × Ty) := [(2, .int .i64), (3, .int .i64), (4, .bool), (5, .int .u8), (6, .int .u8), (7, .pair (.int .i64) (.pair (.int .i64) (.pair (.bool) (.int .u8)))), (8, .pair (.int .i64) (.pair (.int .i64) (.pair (.bool) (.int .u8)))), (12, .int .u64), (21, .int .i32), (22, .slice (.int .i64)), (23, .pair (.int .i64) (.slice (.int .i64))), (24, .pair (.int .i64) (.slice (.int .i64))), (30, .arr .u8 8), (32, .arr .u8 8), (42, .slice (.slice (.int .i64))), (51, .slice (.arr .u8 8)), (52, .pair (.int .i64) (.pair (.int .i64) (.slice (.arr .u8 8)))), (53, .pair (.int .i64) (.pair (.int .i64) (.slice (.arr .u8 8)))), (56, .slice (.arr .u8 8)), (57, .pair (.int .i64) (.pair (.int .i64) (.slice (.arr .u8 8)))), (58, .pair (.int .i64) (.pair (.int .i64) (.slice (.arr .u8 8)))), (67, .pair (.int .i64) (.slice (.int .i64))), (81, .slice (.int .i64)), (90, .arr .i64 8), (91, .barr 8), (96, .slice (.bool)), (109, .slice (.int .u8)), (121, .arr .u8 8), (125, .int .u64), (135, .int .i64), (143, .int .u32), (145, .int .u64), (148, .int .u64), (164, .int .u8), (165, .int .u8), (168, .int .i32), (169, .int .i32)]
noncomputable def in20000 : LoopInfo := ⟨20000, ⟨[.box .own (.arr .u8 8), .box .own (.arr .u8 8), .box .own (.arr .u8 8)], [(1, .w (.c (.ptr 0))), (2, .w (.c (.ptr 1))), (3, .w (.c (.ptr 2))), (4, .w (.c (.int .i64)))]⟩, [(.exit 0, ⟨[.box .own (.arr .u8 8), .box .own (.arr .u8 8)], [(2, .w (.c (.ptr 0))), (3, .w (.c (.ptr 1)))]⟩)]⟩
/-- laws.toPart -/
noncomputable def fd24 : FD := { id := 24, fn := Go.Proofs.Try.f24, sig := ⟨[.ro (.arr .u8 8)], [(.own, false, .arr .u8 8)]⟩, loops := [(3, in20000)], views := [], joins := [] }
/-- spec.l01In -/
noncomputable def fd68 : FD := { id := 68, fn := Go.Proofs.Try.f68, sig := ⟨[.ro (.int .i64), .ro (.int .i64), .ro (.int .i64)], [(.own, false, .bool)]⟩, loops := [], views := [], joins := [] }
noncomputable def in20001 : LoopInfo := ⟨20001, ⟨[.box .own (.arr .u8 8), .box .own (.arr .i64 8), .box .own (.arr .i64 8), .box .own (.barr 8)], [(1, .w (.c (.int .i64))), (2, .w (.c (.ptr 0))), (4, .w (.c (.ptr 1))), (6, .w (.c (.ptr 2))), (7, .w (.c (.ptr 3))), (8, .w (.c (.int .i64)))]⟩, [(.exit 0, ⟨[.box .own (.arr .u8 8), .box .own (.arr .i64 8), .box .own (.arr .i64 8)], [(1, .w (.c (.int .i64))), (2, .w (.c (.ptr 0))), (4, .w (.c (.ptr 1))), (6, .w (.c (.ptr 2)))]⟩), (.ret, ⟨[.box .own (.arr .i64 8)], [(4, .w (.c (.ptr 0))), (5, .w (.c (.bool)))]⟩)]⟩
noncomputable def in20002 : LoopInfo := ⟨20002, ⟨[.box .own (.arr .u8 8), .box .own (.arr .i64 8), .box .own (.arr .i64 8), .box .own (.barr 8)], [(1, .w (.c (.int .i64))), (2, .w (.c (.ptr 0))), (4, .w (.c (.ptr 1))), (6, .w (.c (.ptr 2))), (9, .w (.c (.ptr 3))), (10, .w (.c (.int .i64)))]⟩, [(.exit 2, ⟨[.box .own (.arr .i64 8), .box .own (.arr .i64 8)], [(4, .w (.c (.ptr 0))), (6, .w (.c (.ptr 1)))]⟩)]⟩
noncomputable def in20003 : LoopInfo := ⟨20003, ⟨[.box .own (.arr .u8 8), .box .own (.arr .i64 8), .box .own (.arr .i64 8), .box .own (.barr 8)], [(1, .w (.c (.int .i64))), (2, .w (.c (.ptr 0))), (4, .w (.c (.ptr 1))), (6, .w (.c (.ptr 2))), (9, .w (.c (.ptr 3))), (10, .w (.c (.int .i64))), (11, .w (.c (.int .i64)))]⟩, [(.exit 4, ⟨[.box .own (.arr .u8 8), .box .own (.arr .i64 8), .box .own (.arr .i64 8), .box .own (.barr 8)], [(1, .w (.c (.int .i64))), (2, .w (.c (.ptr 0))), (4, .w (.c (.ptr 1))), (6, .w (.c (.ptr 2))), (9, .w (.c (.ptr 3))), (10, .w (.c (.int .i64)))]⟩)]⟩
/-- spec.l07Least -/
noncomputable def fd123 : FD := { id := 123, fn := Go.Proofs.Try.f123, sig := ⟨[.ro (.arr .u8 8), .ro (.int .i64)], [(.own, false, .arr .i64 8), (.own, false, .bool)]⟩, loops := [(3, in20001), (11, in20002), (14, in20003)], views := [], joins := [] }
noncomputable def in20004 : LoopInfo := ⟨20004, ⟨[.box .own (.arr .i64 8), .box .own (.arr .u8 8), .box .own (.arr .u8 8)], [(1, .w (.c (.int .i64))), (2, .w (.c (.ptr 0))), (4, .w (.c (.ptr 1))), (5, .w (.c (.ptr 2))), (6, .w (.c (.int .i64)))]⟩, [(.exit 0, ⟨[.box .own (.arr .u8 8), .box .own (.arr .u8 8)], [(4, .w (.c (.ptr 0))), (5, .w (.c (.ptr 1)))]⟩)]⟩
noncomputable def in20005 : LoopInfo := ⟨20005, ⟨[.box .own (.arr .i64 8), .box .own (.arr .u8 8), .box .own (.arr .u8 8)], [(1, .w (.c (.int .i64))), (2, .w (.c (.ptr 0))), (4, .w (.c (.ptr 1))), (5, .w (.c (.ptr 2))), (6, .w (.c (.int .i64))), (7, .w (.c (.int .i64)))]⟩, [(.exit 2, ⟨[.box .own (.arr .i64 8), .box .own (.arr .u8 8), .box .own (.arr .u8 8)], [(1, .w (.c (.int .i64))), (2, .w (.c (.ptr 0))), (4, .w (.c (.ptr 1))), (5, .w (.c (.ptr 2))), (6, .w (.c (.int .i64)))]⟩)]⟩
/-- spec.l07Made -/
noncomputable def fd88 : FD := { id := 88, fn := Go.Proofs.Try.f88, sig := ⟨[.ro (.arr .i64 8), .ro (.int .i64)], [(.own, false, .arr .u8 8)]⟩, loops := [(3, in20004), (7, in20005)], views := [], joins := [] }
noncomputable def in20006 : LoopInfo := ⟨20006, ⟨[.box .own (.arr .i64 8)], [(1, .w (.c (.int .i64))), (2, .w (.c (.ptr 0))), (5, .w (.c (.int .i64)))]⟩, [(.exit 0, ⟨[], []⟩), (.ret, ⟨[], [(4, .w (.c (.bool)))]⟩)]⟩
noncomputable def in20007 : LoopInfo := ⟨20007, ⟨[.box .own (.arr .i64 8)], [(1, .w (.c (.int .i64))), (2, .w (.c (.ptr 0))), (5, .w (.c (.int .i64))), (6, .w (.c (.int .i64)))]⟩, [(.exit 2, ⟨[.box .own (.arr .i64 8)], [(1, .w (.c (.int .i64))), (2, .w (.c (.ptr 0))), (5, .w (.c (.int .i64)))]⟩), (.ret, ⟨[], [(4, .w (.c (.bool)))]⟩)]⟩
noncomputable def in20008 : LoopInfo := ⟨20008, ⟨[.box .own (.arr .i64 8)], [(1, .w (.c (.int .i64))), (2, .w (.c (.ptr 0))), (5, .w (.c (.int .i64))), (6, .w (.c (.int .i64))), (7, .w (.c (.int .i64)))]⟩, [(.exit 4, ⟨[.box .own (.arr .i64 8)], [(1, .w (.c (.int .i64))), (2, .w (.c (.ptr 0))), (5, .w (.c (.int .i64))), (6, .w (.c (.int .i64)))]⟩), (.ret, ⟨[], [(4, .w (.c (.bool)))]⟩)]⟩
noncomputable def in20009 : LoopInfo := ⟨20009, ⟨[.box .own (.arr .i64 8)], [(1, .w (.c (.int .i64))), (2, .w (.c (.ptr 0))), (5, .w (.c (.int .i64))), (6, .w (.c (.int .i64))), (7, .w (.c (.int .i64))), (8, .w (.c (.int .i64)))]⟩, [(.exit 6, ⟨[.box .own (.arr .i64 8)], [(1, .w (.c (.int .i64))), (2, .w (.c (.ptr 0))), (5, .w (.c (.int .i64))), (6, .w (.c (.int .i64))), (7, .w (.c (.int .i64)))]⟩), (.ret, ⟨[], [(4, .w (.c (.bool)))]⟩)]⟩
/-- spec.l07Crossing -/
noncomputable def fd87 : FD := { id := 87, fn := Go.Proofs.Try.f87, sig := ⟨[.ro (.arr .i64 8), .ro (.int .i64)], [(.own, false, .bool)]⟩, loops := [(2, in20006), (5, in20007), (8, in20008), (11, in20009)], views := [], joins := [] }
/-- spec.l07Is -/
noncomputable def fd75 : FD := { id := 75, fn := Go.Proofs.Try.f75, sig := ⟨[.ro (.arr .u8 8), .ro (.int .i64)], [(.own, false, .bool)]⟩, loops := [], views := [], joins := [] }
noncomputable def in20010 : LoopInfo := ⟨20010, ⟨[.box .own (.arr .i64 8), .row .own (.slice (.int .i64))], [(1, .w (.c (.int .i64))), (5, .w (.c (.ptr 0))), (7, .w (.c (.sl 1))), (8, .w (.c (.int .i64)))]⟩, [(.exit 0, ⟨[.row .own (.slice (.int .i64))], [(7, .w (.c (.sl 0)))]⟩)]⟩
noncomputable def in20011 : LoopInfo := ⟨20011, ⟨[.box .own (.arr .i64 8), .row .own (.slice (.int .i64)), .row .own (.int .i64)], [(1, .w (.c (.int .i64))), (5, .w (.c (.ptr 0))), (7, .w (.c (.sl 1))), (8, .w (.c (.int .i64))), (9, .w (.c (.sl 2))), (10, .w (.c (.int .i64)))]⟩, [(.exit 2, ⟨[.box .own (.arr .i64 8), .row .own (.slice (.int .i64)), .row .own (.int .i64)], [(1, .w (.c (.int .i64))), (5, .w (.c (.ptr 0))), (7, .w (.c (.sl 1))), (8, .w (.c (.int .i64))), (9, .w (.c (.sl 2)))]⟩)]⟩
/-- spec.l07Blocks -/
noncomputable def fd81 : FD := { id := 81, fn := Go.Proofs.Try.f81, sig := ⟨[.ro (.arr .u8 8), .ro (.int .i64)], [(.own, false, .slice (.slice (.int .i64)))]⟩, loops := [(4, in20010), (9, in20011)], views := [], joins := [], moves := [17, 46, 47] }
/-- spec.BlocksOfPart -/
noncomputable def fd42 : FD := { id := 42, fn := Go.Proofs.Try.f42, sig := ⟨[.ro (.arr .u8 8), .ro (.int .i64)], [(.own, false, .slice (.slice (.int .i64))), (.own, false, .int .i64)]⟩, loops := [], views := [], joins := [] }
/-- impl.within -/
noncomputable def fd70 : FD := { id := 70, fn := Go.Proofs.Try.f70, sig := ⟨[.ro (.int .i64), .ro (.int .i64), .ro (.int .i64)], [(.own, false, .bool)]⟩, loops := [], views := [], joins := [] }
/-- impl.isCount -/
noncomputable def fd76 : FD := { id := 76, fn := Go.Proofs.Try.f76, sig := ⟨[.ro (.int .i64)], [(.own, false, .bool)]⟩, loops := [], views := [], joins := [] }
noncomputable def in20012 : LoopInfo := ⟨20012, ⟨[.row .own (.int .i64)], [(3, .w (.c (.sl 0))), (6, .w (.c (.int .i64))), (7, .w (.c (.int .i64)))]⟩, [(.exit 0, ⟨[.row .own (.int .i64)], [(3, .w (.c (.sl 0)))]⟩)]⟩
/-- impl.strandsOf -/
noncomputable def fd124 : FD := { id := 124, fn := Go.Proofs.Try.f124, sig := ⟨[.ro (.int .i64)], [(.own, false, .slice (.int .i64))]⟩, loops := [(3, in20012)], views := [], joins := [] }
/-- impl.fineGroups -/
noncomputable def fd90 : FD := { id := 90, fn := Go.Proofs.Try.f90, sig := ⟨[.ro (.int .i64)], [(.own, false, .slice (.int .i64))]⟩, loops := [], views := [], joins := [] }
noncomputable def in20014 : LoopInfo := ⟨20014, ⟨[.row .own (.int .i64)], [(0, .w (.c (.sl 0))), (6, .w (.c (.int .i64))), (7, .w (.c (.int .i64))), (28, .w (.c (.sl 0))), (29, .w (.c (.int .i64))), (30, .w (.c (.int .i64)))]⟩, [(.exit 0, ⟨[.row .own (.int .i64)], [(0, .w (.c (.sl 0)))]⟩)]⟩
/-- (impl.groups).merge -/
noncomputable def fd91 : FD := { id := 91, fn := Go.Proofs.Try.f91, sig := ⟨[.mut (.slice (.int .i64)), .ro (.int .i64), .ro (.int .i64)], []⟩, loops := [(2, in20014)], views := [], joins := [] }
noncomputable def in20015 : LoopInfo := ⟨20015, ⟨[.row .ro (.int .i64), .box .own (.arr .u8 8), .box .own (.arr .u8 8)], [(0, .w (.c (.sl 0))), (2, .w (.c (.ptr 1))), (3, .w (.c (.ptr 2))), (8, .w (.c (.sl 0))), (9, .w (.c (.int .i64))), (10, .w (.c (.int .i64)))]⟩, [(.exit 0, ⟨[.box .own (.arr .u8 8), .box .own (.arr .u8 8)], [(2, .w (.c (.ptr 0))), (3, .w (.c (.ptr 1)))]⟩)]⟩
noncomputable def in20016 : LoopInfo := ⟨20016, ⟨[.row .ro (.int .i64), .box .own (.arr .u8 8), .box .own (.arr .u8 8)], [(0, .w (.c (.sl 0))), (2, .w (.c (.ptr 1))), (3, .w (.c (.ptr 2))), (4, .w (.c (.int .i64))), (5, .w (.c (.int .i64))), (6, .w (.c (.int .i64))), (8, .w (.c (.sl 0))), (9, .w (.c (.int .i64))), (10, .w (.c (.int .i64)))]⟩, [(.exit 2, ⟨[.row .ro (.int .i64), .box .own (.arr .u8 8), .box .own (.arr .u8 8)], [(0, .w (.c (.sl 0))), (2, .w (.c (.ptr 1))), (3, .w (.c (.ptr 2))), (8, .w (.c (.sl 0))), (9, .w (.c (.int .i64))), (10, .w (.c (.int .i64)))]⟩)]⟩
/-- (impl.groups).part -/
noncomputable def fd92 : FD := { id := 92, fn := Go.Proofs.Try.f92, sig := ⟨[.ro (.slice (.int .i64))], [(.own, false, .arr .u8 8)]⟩, loops := [(3, in20015), (7, in20016)], views := [], joins := [] }
noncomputable def in20013 : LoopInfo := ⟨20013, ⟨[.box .own (.arr .u8 8), .row .own (.int .i64)], [(1, .w (.c (.int .i64))), (2, .w (.c (.ptr 0))), (6, .w (.c (.sl 1))), (11, .w (.c (.int .i64))), (12, .w (.c (.int .i64)))]⟩, [(.exit 0, ⟨[.box .own (.arr .u8 8), .row .own (.int .i64)], [(2, .w (.c (.ptr 0))), (6, .w (.c (.sl 1)))]⟩), (.ret, ⟨[.row .own (.int .i64)], [(4, .w (.c (.sl 0))), (5, .w (.c (.bool)))]⟩)]⟩
/-- impl.groupsOf -/
noncomputable def fd77 : FD := { id := 77, fn := Go.Proofs.Try.f77, sig := ⟨[.ro (.arr .u8 8), .ro (.int .i64)], [(.own, false, .slice (.int .i64)), (.own, false, .bool)]⟩, loops := [(3, in20013)], views := [], joins := [] }
noncomputable def in20017 : LoopInfo := ⟨20017, ⟨[.row .ro (.int .i64)], [(0, .w (.c (.sl 0))), (5, .w (.c (.int .i64))), (12, .w (.c (.int .i64))), (13, .w (.c (.int .i64)))]⟩, [(.exit 0, ⟨[], []⟩), (.ret, ⟨[], [(2, .w (.c (.int .i64))), (3, .w (.c (.int .i64))), (4, .w (.c (.bool)))]⟩)]⟩
noncomputable def in20018 : LoopInfo := ⟨20018, ⟨[.row .ro (.int .i64)], [(0, .w (.c (.sl 0))), (5, .w (.c (.int .i64))), (6, .w (.c (.int .i64))), (7, .w (.c (.int .i64))), (12, .w (.c (.int .i64))), (13, .w (.c (.int .i64)))]⟩, [(.exit 2, ⟨[.row .ro (.int .i64)], [(0, .w (.c (.sl 0))), (5, .w (.c (.int .i64))), (12, .w (.c (.int .i64))), (13, .w (.c (.int .i64)))]⟩), (.ret, ⟨[], [(2, .w (.c (.int .i64))), (3, .w (.c (.int .i64))), (4, .w (.c (.bool)))]⟩)]⟩
noncomputable def in20019 : LoopInfo := ⟨20019, ⟨[.row .ro (.int .i64)], [(0, .w (.c (.sl 0))), (5, .w (.c (.int .i64))), (6, .w (.c (.int .i64))), (7, .w (.c (.int .i64))), (8, .w (.c (.int .i64))), (12, .w (.c (.int .i64))), (13, .w (.c (.int .i64)))]⟩, [(.exit 4, ⟨[.row .ro (.int .i64)], [(0, .w (.c (.sl 0))), (5, .w (.c (.int .i64))), (6, .w (.c (.int .i64))), (7, .w (.c (.int .i64))), (12, .w (.c (.int .i64))), (13, .w (.c (.int .i64)))]⟩), (.ret, ⟨[], [(2, .w (.c (.int .i64))), (3, .w (.c (.int .i64))), (4, .w (.c (.bool)))]⟩)]⟩
noncomputable def in20020 : LoopInfo := ⟨20020, ⟨[.row .ro (.int .i64)], [(0, .w (.c (.sl 0))), (5, .w (.c (.int .i64))), (6, .w (.c (.int .i64))), (7, .w (.c (.int .i64))), (8, .w (.c (.int .i64))), (9, .w (.c (.int .i64))), (12, .w (.c (.int .i64))), (13, .w (.c (.int .i64)))]⟩, [(.exit 6, ⟨[.row .ro (.int .i64)], [(0, .w (.c (.sl 0))), (5, .w (.c (.int .i64))), (6, .w (.c (.int .i64))), (7, .w (.c (.int .i64))), (8, .w (.c (.int .i64))), (12, .w (.c (.int .i64))), (13, .w (.c (.int .i64)))]⟩), (.ret, ⟨[], [(2, .w (.c (.int .i64))), (3, .w (.c (.int .i64))), (4, .w (.c (.bool)))]⟩)]⟩
/-- (impl.groups).crossing -/
noncomputable def fd78 : FD := { id := 78, fn := Go.Proofs.Try.f78, sig := ⟨[.ro (.slice (.int .i64))], [(.own, false, .int .i64), (.own, false, .int .i64), (.own, false, .bool)]⟩, loops := [(3, in20017), (6, in20018), (9, in20019), (12, in20020)], views := [], joins := [] }
/-- impl.IsPart -/
noncomputable def fd25 : FD := { id := 25, fn := Go.Proofs.Try.f25, sig := ⟨[.ro (.arr .u8 8), .ro (.int .i64)], [(.own, false, .bool)]⟩, loops := [], views := [], joins := [] }
noncomputable def in20021 : LoopInfo := ⟨20021, ⟨[.row .own (.int .i64), .row .own (.slice (.int .i64))], [(1, .w (.c (.int .i64))), (5, .w (.c (.sl 0))), (7, .w (.c (.sl 1))), (18, .w (.c (.int .i64))), (19, .w (.c (.int .i64)))]⟩, [(.exit 0, ⟨[.row .own (.slice (.int .i64))], [(7, .w (.c (.sl 0)))]⟩)]⟩
noncomputable def in20022 : LoopInfo := ⟨20022, ⟨[.row .own (.int .i64), .row .own (.slice (.int .i64)), .row .own (.int .i64)], [(1, .w (.c (.int .i64))), (5, .w (.c (.sl 0))), (7, .w (.c (.sl 1))), (8, .w (.c (.int .i64))), (9, .w (.c (.sl 2))), (10, .w (.c (.int .i64))), (18, .w (.c (.int .i64))), (19, .w (.c (.int .i64)))]⟩, [(.exit 2, ⟨[.row .own (.int .i64), .row .own (.slice (.int .i64)), .row .own (.int .i64)], [(1, .w (.c (.int .i64))), (5, .w (.c (.sl 0))), (7, .w (.c (.sl 1))), (9, .w (.c (.sl 2))), (18, .w (.c (.int .i64))), (19, .w (.c (.int .i64)))]⟩)]⟩
/-- impl.blocksOf -/
noncomputable def fd82 : FD := { id := 82, fn := Go.Proofs.Try.f82, sig := ⟨[.ro (.arr .u8 8), .ro (.int .i64)], [(.own, false, .slice (.slice (.int .i64)))]⟩, loops := [(4, in20021), (9, in20022)], views := [], joins := [], moves := [17, 47, 48] }
/-- impl.BlocksOfPart -/
noncomputable def fd43 : FD := { id := 43, fn := Go.Proofs.Try.f43, sig := ⟨[.ro (.arr .u8 8), .ro (.int .i64)], [(.own, false, .slice (.slice (.int .i64))), (.own, false, .int .i64)]⟩, loops := [], views := [], joins := [] }
noncomputable def in20024 : LoopInfo := ⟨20024, ⟨[.row .ro (.int .i64), .row .ro (.int .i64)], [(0, .w (.c (.sl 0))), (1, .w (.c (.sl 1))), (5, .w (.c (.int .i64)))]⟩, [(.exit 0, ⟨[], []⟩), (.ret, ⟨[], [(4, .w (.c (.bool)))]⟩)]⟩
/-- laws.eqInt64S -/
noncomputable def fd72 : FD := { id := 72, fn := Go.Proofs.Try.f72, sig := ⟨[.ro (.slice (.int .i64)), .ro (.slice (.int .i64))], [(.own, false, .bool)]⟩, loops := [(4, in20024)], views := [], joins := [] }
noncomputable def in20023 : LoopInfo := ⟨20023, ⟨[.row .ro (.slice (.int .i64)), .row .ro (.slice (.int .i64))], [(0, .w (.c (.sl 0))), (1, .w (.c (.sl 1))), (5, .w (.c (.int .i64)))]⟩, [(.exit 0, ⟨[], []⟩), (.ret, ⟨[], [(4, .w (.c (.bool)))]⟩)]⟩
/-- laws.eqInt64SS -/
noncomputable def fd37 : FD := { id := 37, fn := Go.Proofs.Try.f37, sig := ⟨[.ro (.slice (.slice (.int .i64))), .ro (.slice (.slice (.int .i64)))], [(.own, false, .bool)]⟩, loops := [(4, in20023)], views := [], joins := [] }
noncomputable def in20026 : LoopInfo := ⟨20026, ⟨[.row .own (.int .i64)], [(0, .w (.c (.sl 0))), (1, .w (.c (.int .i64))), (5, .w (.c (.int .i64)))]⟩, [(.exit 0, ⟨[.row .own (.int .i64)], [(0, .w (.c (.sl 0))), (1, .w (.c (.int .i64)))]⟩)]⟩
/-- laws.markInt64S -/
noncomputable def fd73 : FD := { id := 73, fn := Go.Proofs.Try.f73, sig := ⟨[.mut (.slice (.int .i64)), .ro (.int .i64)], [(.own, false, .int .i64)]⟩, loops := [(2, in20026)], views := [], joins := [] }
noncomputable def in20025 : LoopInfo := ⟨20025, ⟨[.row .own (.slice (.int .i64))], [(0, .w (.c (.sl 0))), (1, .w (.c (.int .i64))), (5, .w (.c (.int .i64)))]⟩, [(.exit 0, ⟨[.row .own (.slice (.int .i64))], [(0, .w (.c (.sl 0))), (1, .w (.c (.int .i64)))]⟩)]⟩
/-- laws.markInt64SS -/
noncomputable def fd44 : FD := { id := 44, fn := Go.Proofs.Try.f44, sig := ⟨[.mut (.slice (.slice (.int .i64))), .ro (.int .i64)], [(.own, false, .int .i64)]⟩, loops := [(2, in20025)], views := [], joins := [], hooks := [(4, ⟨true, 3⟩)] }
noncomputable def in20028 : LoopInfo := ⟨20028, ⟨[.row .ro (.int .i64)], [(0, .w (.c (.sl 0))), (1, .w (.c (.int .i64))), (5, .w (.c (.int .i64)))]⟩, [(.exit 0, ⟨[], [(1, .w (.c (.int .i64)))]⟩), (.ret, ⟨[], [(4, .w (.c (.int .i64)))]⟩)]⟩
/-- laws.heldInt64S -/
noncomputable def fd74 : FD := { id := 74, fn := Go.Proofs.Try.f74, sig := ⟨[.ro (.slice (.int .i64)), .ro (.int .i64)], [(.own, false, .int .i64)]⟩, loops := [(2, in20028)], views := [], joins := [] }
noncomputable def in20027 : LoopInfo := ⟨20027, ⟨[.row .ro (.slice (.int .i64))], [(0, .w (.c (.sl 0))), (1, .w (.c (.int .i64))), (5, .w (.c (.int .i64)))]⟩, [(.exit 0, ⟨[], [(1, .w (.c (.int .i64)))]⟩), (.ret, ⟨[], [(4, .w (.c (.int .i64)))]⟩)]⟩
/-- laws.heldInt64SS -/
noncomputable def fd45 : FD := { id := 45, fn := Go.Proofs.Try.f45, sig := ⟨[.ro (.slice (.slice (.int .i64))), .ro (.int .i64)], [(.own, false, .int .i64)]⟩, loops := [(2, in20027)], views := [], joins := [] }
/-- laws.FnExactBlocksOfPart -/
noncomputable def fd11 : FD := { id := 11, fn := Go.Proofs.Try.f11, sig := ⟨[.ro (.arr .u8 8), .ro (.int .i64)], [(.own, false, .bool)]⟩, loops := [], views := [], joins := [], hooks := [(6, ⟨false, 2⟩)] }
noncomputable def fdTab : List (Nat × FD) := [(24, fd24), (68, fd68), (123, fd123), (88, fd88), (87, fd87), (75, fd75), (81, fd81), (42, fd42), (70, fd70), (76, fd76), (124, fd124), (90, fd90), (91, fd91), (92, fd92), (77, fd77), (78, fd78), (25, fd25), (82, fd82), (43, fd43), (72, fd72), (37, fd37), (73, fd73), (44, fd44), (74, fd74), (45, fd45), (11, fd11)]
noncomputable def ldTab : List (Nat × LD) := [(20000, ⟨24, 3, in20000, false⟩), (20001, ⟨123, 3, in20001, false⟩), (20002, ⟨123, 11, in20002, false⟩), (20003, ⟨123, 14, in20003, false⟩), (20004, ⟨88, 3, in20004, false⟩), (20005, ⟨88, 7, in20005, false⟩), (20006, ⟨87, 2, in20006, false⟩), (20007, ⟨87, 5, in20007, false⟩), (20008, ⟨87, 8, in20008, false⟩), (20009, ⟨87, 11, in20009, false⟩), (20010, ⟨81, 4, in20010, false⟩), (20011, ⟨81, 9, in20011, false⟩), (20012, ⟨124, 3, in20012, false⟩), (20014, ⟨91, 2, in20014, false⟩), (20015, ⟨92, 3, in20015, false⟩), (20016, ⟨92, 7, in20016, false⟩), (20013, ⟨77, 3, in20013, false⟩), (20017, ⟨78, 3, in20017, false⟩), (20018, ⟨78, 6, in20018, false⟩), (20019, ⟨78, 9, in20019, false⟩), (20020, ⟨78, 12, in20020, false⟩), (20021, ⟨82, 4, in20021, false⟩), (20022, ⟨82, 9, in20022, false⟩), (20024, ⟨72, 4, in20024, false⟩), (20023, ⟨37, 4, in20023, false⟩), (20026, ⟨73, 2, in20026, false⟩), (20025, ⟨44, 2, in20025, false⟩), (20028, ⟨74, 2, in20028, false⟩), (20027, ⟨45, 2, in20027, false⟩)]
noncomputable def extTab : List (Nat × ExtK) := []
noncomputable def pickTab : List ((FuncId × List FuncId) × Nat) := []
noncomputable def pick (f : FuncId) : List FuncId → Nat
  | [] => f
  | l => (pickTab.lookup (f, l)).getD 0
noncomputable def E : Env := ⟨[9, 10, 11], fun T => tyTab.lookup T, pick, fun f => fdTab.lookup f, fun f => ldTab.lookup f, fun f => extTab.lookup f⟩
/-- What a call answers. -/
noncomputable def R : Oracle := ev E
theorem R_ev (f : Nat) (l : List TV) : R f l = ev E f l := rfl
def iw_toPart : Nat := 24
def iw_toPart_3 : Nat := 20000
def is_l01In : Nat := 68
def is_l07Least : Nat := 123
def is_l07Least_3 : Nat := 20001
def is_l07Least_11 : Nat := 20002
def is_l07Least_14 : Nat := 20003
def is_l07Made : Nat := 88
def is_l07Made_3 : Nat := 20004
def is_l07Made_7 : Nat := 20005
def is_l07Crossing : Nat := 87
def is_l07Crossing_2 : Nat := 20006
def is_l07Crossing_5 : Nat := 20007
def is_l07Crossing_8 : Nat := 20008
def is_l07Crossing_11 : Nat := 20009
def is_l07Is : Nat := 75
def is_l07Blocks : Nat := 81
def is_l07Blocks_4 : Nat := 20010
def is_l07Blocks_9 : Nat := 20011
def is_BlocksOfPart : Nat := 42
def ii_within : Nat := 70
def ii_isCount : Nat := 76
def ii_strandsOf : Nat := 124
def ii_strandsOf_3 : Nat := 20012
def ii_fineGroups : Nat := 90
def i_i_groups__merge : Nat := 91
def i_i_groups__merge_2 : Nat := 20014
def i_i_groups__part : Nat := 92
def i_i_groups__part_3 : Nat := 20015
def i_i_groups__part_7 : Nat := 20016
def ii_groupsOf : Nat := 77
def ii_groupsOf_3 : Nat := 20013
def i_i_groups__crossing : Nat := 78
def i_i_groups__crossing_3 : Nat := 20017
def i_i_groups__crossing_6 : Nat := 20018
def i_i_groups__crossing_9 : Nat := 20019
def i_i_groups__crossing_12 : Nat := 20020
def ii_IsPart : Nat := 25
def ii_blocksOf : Nat := 82
def ii_blocksOf_4 : Nat := 20021
def ii_blocksOf_9 : Nat := 20022
def ii_BlocksOfPart : Nat := 43
def iw_eqInt64S : Nat := 72
def iw_eqInt64S_4 : Nat := 20024
def iw_eqInt64SS : Nat := 37
def iw_eqInt64SS_4 : Nat := 20023
def iw_markInt64S : Nat := 73
def iw_markInt64S_2 : Nat := 20026
def iw_markInt64SS : Nat := 44
def iw_markInt64SS_2 : Nat := 20025
def iw_heldInt64S : Nat := 74
def iw_heldInt64S_2 : Nat := 20028
def iw_heldInt64SS : Nat := 45
def iw_heldInt64SS_2 : Nat := 20027
def iw_FnExactBlocksOfPart : Nat := 11
end Go.Ev.Ytadjhggdddbicaa
