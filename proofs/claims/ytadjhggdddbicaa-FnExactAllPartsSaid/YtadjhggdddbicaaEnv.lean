/- What the evaluator knows of this program. -/
import Derived.Test.YtadjhggdddbicaaProg
import Derived.Test.YtadjhggdddbicaaV1
namespace Go.Ev.Ytadjhggdddbicaa
open Go.Ev
@[reducible] noncomputable def tA8 (x : List Int) : TV := ⟨.arr .u8 8, x⟩
@[reducible] noncomputable def gA8 (l : List TV) (i : Nat) : List Int := getTV (.arr .u8 8) l i
@[reducible] noncomputable def tAi8 (x : List Int) : TV := ⟨.arr .i64 8, x⟩
@[reducible] noncomputable def gAi8 (l : List TV) (i : Nat) : List Int := getTV (.arr .i64 8) l i
@[reducible] noncomputable def tB (x : Bool) : TV := ⟨.bool, x⟩
@[reducible] noncomputable def gB (l : List TV) (i : Nat) : Bool := getTV (.bool) l i
@[reducible] noncomputable def tI (x : Int) : TV := ⟨.int .i64, x⟩
@[reducible] noncomputable def gI (l : List TV) (i : Nat) : Int := getTV (.int .i64) l i
@[reducible] noncomputable def tLA8 (x : List (List Int)) : TV := ⟨.slice (.arr .u8 8), x⟩
@[reducible] noncomputable def gLA8 (l : List TV) (i : Nat) : List (List Int) := getTV (.slice (.arr .u8 8)) l i
@[reducible] noncomputable def tLI (x : List Int) : TV := ⟨.slice (.int .i64), x⟩
@[reducible] noncomputable def gLI (l : List TV) (i : Nat) : List Int := getTV (.slice (.int .i64)) l i
@[reducible] noncomputable def tLU8 (x : List Int) : TV := ⟨.slice (.int .u8), x⟩
@[reducible] noncomputable def gLU8 (l : List TV) (i : Nat) : List Int := getTV (.slice (.int .u8)) l i
@[reducible] noncomputable def tU8 (x : Int) : TV := ⟨.int .u8, x⟩
@[reducible] noncomputable def gU8 (l : List TV) (i : Nat) : Int := getTV (.int .u8) l i
noncomputable def tyTab : List (Nat × Ty) := [(2, .int .i64), (3, .int .i64), (4, .bool), (5, .int .u8), (6, .int .u8), (7, .pair (.int .i64) (.pair (.int .i64) (.pair (.bool) (.int .u8)))), (8, .pair (.int .i64) (.pair (.int .i64) (.pair (.bool) (.int .u8)))), (12, .int .u64), (21, .int .i32), (22, .slice (.int .i64)), (23, .pair (.int .i64) (.slice (.int .i64))), (24, .pair (.int .i64) (.slice (.int .i64))), (30, .arr .u8 8), (32, .arr .u8 8), (42, .slice (.slice (.int .i64))), (51, .slice (.arr .u8 8)), (52, .pair (.int .i64) (.pair (.int .i64) (.slice (.arr .u8 8)))), (53, .pair (.int .i64) (.pair (.int .i64) (.slice (.arr .u8 8)))), (56, .slice (.arr .u8 8)), (57, .pair (.int .i64) (.pair (.int .i64) (.slice (.arr .u8 8)))), (58, .pair (.int .i64) (.pair (.int .i64) (.slice (.arr .u8 8)))), (67, .pair (.int .i64) (.slice (.int .i64))), (81, .slice (.int .i64)), (90, .arr .i64 8), (91, .barr 8), (96, .slice (.bool)), (109, .slice (.int .u8)), (121, .arr .u8 8), (125, .int .u64), (135, .int .i64), (143, .int .u32), (145, .int .u64), (148, .int .u64), (164, .int .u8), (165, .int .u8), (168, .int .i32), (169, .int .i32)]
/-- spec.l01In -/
noncomputable def fd68 : FD := { id := 68, fn := Go.Proofs.Try.f68, sig := ⟨[.ro (.int .i64), .ro (.int .i64), .ro (.int .i64)], [(.own, false, .bool)]⟩, loops := [], views := [], joins := [] }
noncomputable def in20000 : LoopInfo := ⟨20000, ⟨[.box .own (.arr .i64 8)], [(1, .w (.c (.int .i64))), (2, .w (.c (.ptr 0))), (5, .w (.c (.int .i64)))]⟩, [(.exit 0, ⟨[], []⟩), (.ret, ⟨[], [(4, .w (.c (.bool)))]⟩)]⟩
noncomputable def in20001 : LoopInfo := ⟨20001, ⟨[.box .own (.arr .i64 8)], [(1, .w (.c (.int .i64))), (2, .w (.c (.ptr 0))), (5, .w (.c (.int .i64))), (6, .w (.c (.int .i64)))]⟩, [(.exit 2, ⟨[.box .own (.arr .i64 8)], [(1, .w (.c (.int .i64))), (2, .w (.c (.ptr 0))), (5, .w (.c (.int .i64)))]⟩), (.ret, ⟨[], [(4, .w (.c (.bool)))]⟩)]⟩
noncomputable def in20002 : LoopInfo := ⟨20002, ⟨[.box .own (.arr .i64 8)], [(1, .w (.c (.int .i64))), (2, .w (.c (.ptr 0))), (5, .w (.c (.int .i64))), (6, .w (.c (.int .i64))), (7, .w (.c (.int .i64)))]⟩, [(.exit 4, ⟨[.box .own (.arr .i64 8)], [(1, .w (.c (.int .i64))), (2, .w (.c (.ptr 0))), (5, .w (.c (.int .i64))), (6, .w (.c (.int .i64)))]⟩), (.ret, ⟨[], [(4, .w (.c (.bool)))]⟩)]⟩
noncomputable def in20003 : LoopInfo := ⟨20003, ⟨[.box .own (.arr .i64 8)], [(1, .w (.c (.int .i64))), (2, .w (.c (.ptr 0))), (5, .w (.c (.int .i64))), (6, .w (.c (.int .i64))), (7, .w (.c (.int .i64))), (8, .w (.c (.int .i64)))]⟩, [(.exit 6, ⟨[.box .own (.arr .i64 8)], [(1, .w (.c (.int .i64))), (2, .w (.c (.ptr 0))), (5, .w (.c (.int .i64))), (6, .w (.c (.int .i64))), (7, .w (.c (.int .i64)))]⟩), (.ret, ⟨[], [(4, .w (.c (.bool)))]⟩)]⟩
/-- spec.l07Crossing -/
noncomputable def fd87 : FD := { id := 87, fn := Go.Proofs.Try.f87, sig := ⟨[.ro (.arr .i64 8), .ro (.int .i64)], [(.own, false, .bool)]⟩, loops := [(2, in20000), (5, in20001), (8, in20002), (11, in20003)], views := [], joins := [] }
noncomputable def in20004 : LoopInfo := ⟨20004, ⟨[.box .own (.arr .i64 8), .box .own (.arr .u8 8), .box .own (.arr .u8 8)], [(1, .w (.c (.int .i64))), (2, .w (.c (.ptr 0))), (4, .w (.c (.ptr 1))), (5, .w (.c (.ptr 2))), (6, .w (.c (.int .i64)))]⟩, [(.exit 0, ⟨[.box .own (.arr .u8 8), .box .own (.arr .u8 8)], [(4, .w (.c (.ptr 0))), (5, .w (.c (.ptr 1)))]⟩)]⟩
noncomputable def in20005 : LoopInfo := ⟨20005, ⟨[.box .own (.arr .i64 8), .box .own (.arr .u8 8), .box .own (.arr .u8 8)], [(1, .w (.c (.int .i64))), (2, .w (.c (.ptr 0))), (4, .w (.c (.ptr 1))), (5, .w (.c (.ptr 2))), (6, .w (.c (.int .i64))), (7, .w (.c (.int .i64)))]⟩, [(.exit 2, ⟨[.box .own (.arr .i64 8), .box .own (.arr .u8 8), .box .own (.arr .u8 8)], [(1, .w (.c (.int .i64))), (2, .w (.c (.ptr 0))), (4, .w (.c (.ptr 1))), (5, .w (.c (.ptr 2))), (6, .w (.c (.int .i64)))]⟩)]⟩
/-- spec.l07Made -/
noncomputable def fd88 : FD := { id := 88, fn := Go.Proofs.Try.f88, sig := ⟨[.ro (.arr .i64 8), .ro (.int .i64)], [(.own, false, .arr .u8 8)]⟩, loops := [(3, in20004), (7, in20005)], views := [], joins := [] }
noncomputable def in20007 : LoopInfo := ⟨20007, ⟨[.box .own (.arr .u8 8), .box .own (.arr .u8 8)], [(2, .w (.c (.ptr 0))), (3, .w (.c (.ptr 1))), (5, .w (.c (.int .i64)))]⟩, [(.exit 0, ⟨[], []⟩), (.ret, ⟨[], [(4, .w (.c (.bool)))]⟩)]⟩
/-- spec.l07Before -/
noncomputable def fd129 : FD := { id := 129, fn := Go.Proofs.Try.f129, sig := ⟨[.ro (.arr .u8 8), .ro (.arr .u8 8)], [(.own, false, .bool)]⟩, loops := [(2, in20007)], views := [], joins := [] }
noncomputable def in20006 : LoopInfo := ⟨20006, ⟨[.row .ro (.arr .u8 8), .box .own (.arr .u8 8)], [(3, .w (.c (.sl 0))), (9, .w (.c (.ptr 1))), (10, .w (.c (.int .i64)))]⟩, [(.exit 0, ⟨[.row .ro (.arr .u8 8), .box .own (.arr .u8 8)], [(3, .w (.c (.sl 0))), (9, .w (.c (.ptr 1))), (10, .w (.c (.int .i64)))]⟩)]⟩
noncomputable def in20008 : LoopInfo := ⟨20008, ⟨[.row .ro (.arr .u8 8), .box .own (.arr .i64 8)], [(1, .w (.c (.int .i64))), (2, .w (.c (.int .i64))), (3, .w (.c (.sl 0))), (4, .w (.c (.ptr 1))), (12, .w (.c (.int .i64)))]⟩, [(.exit 2, ⟨[.row .ro (.arr .u8 8)], [(3, .w (.c (.sl 0)))]⟩)]⟩
/-- spec.l07All -/
noncomputable def fd105 : FD := { id := 105, fn := Go.Proofs.Try.f105, sig := ⟨[.ro (.arr .i64 8), .ro (.int .i64), .ro (.int .i64), .ro (.slice (.arr .u8 8))], [(.ro, false, .slice (.arr .u8 8))]⟩, loops := [(5, in20006), (10, in20008)], views := [], joins := [] }
/-- spec.AllParts -/
noncomputable def fd53 : FD := { id := 53, fn := Go.Proofs.Try.f53, sig := ⟨[.ro (.int .i64)], [(.ro, false, .slice (.arr .u8 8)), (.own, false, .int .i64)]⟩, loops := [], views := [], joins := [] }
/-- impl.within -/
noncomputable def fd70 : FD := { id := 70, fn := Go.Proofs.Try.f70, sig := ⟨[.ro (.int .i64), .ro (.int .i64), .ro (.int .i64)], [(.own, false, .bool)]⟩, loops := [], views := [], joins := [] }
noncomputable def in20009 : LoopInfo := ⟨20009, ⟨[.row .own (.int .i64)], [(3, .w (.c (.sl 0))), (6, .w (.c (.int .i64))), (7, .w (.c (.int .i64)))]⟩, [(.exit 0, ⟨[.row .own (.int .i64)], [(3, .w (.c (.sl 0)))]⟩)]⟩
/-- impl.strandsOf -/
noncomputable def fd124 : FD := { id := 124, fn := Go.Proofs.Try.f124, sig := ⟨[.ro (.int .i64)], [(.own, false, .slice (.int .i64))]⟩, loops := [(3, in20009)], views := [], joins := [] }
/-- impl.fineGroups -/
noncomputable def fd90 : FD := { id := 90, fn := Go.Proofs.Try.f90, sig := ⟨[.ro (.int .i64)], [(.own, false, .slice (.int .i64))]⟩, loops := [], views := [], joins := [] }
noncomputable def in20010 : LoopInfo := ⟨20010, ⟨[.row .ro (.int .i64)], [(0, .w (.c (.sl 0))), (5, .w (.c (.int .i64))), (12, .w (.c (.int .i64))), (13, .w (.c (.int .i64)))]⟩, [(.exit 0, ⟨[], []⟩), (.ret, ⟨[], [(2, .w (.c (.int .i64))), (3, .w (.c (.int .i64))), (4, .w (.c (.bool)))]⟩)]⟩
noncomputable def in20011 : LoopInfo := ⟨20011, ⟨[.row .ro (.int .i64)], [(0, .w (.c (.sl 0))), (5, .w (.c (.int .i64))), (6, .w (.c (.int .i64))), (7, .w (.c (.int .i64))), (12, .w (.c (.int .i64))), (13, .w (.c (.int .i64)))]⟩, [(.exit 2, ⟨[.row .ro (.int .i64)], [(0, .w (.c (.sl 0))), (5, .w (.c (.int .i64))), (12, .w (.c (.int .i64))), (13, .w (.c (.int .i64)))]⟩), (.ret, ⟨[], [(2, .w (.c (.int .i64))), (3, .w (.c (.int .i64))), (4, .w (.c (.bool)))]⟩)]⟩
noncomputable def in20012 : LoopInfo := ⟨20012, ⟨[.row .ro (.int .i64)], [(0, .w (.c (.sl 0))), (5, .w (.c (.int .i64))), (6, .w (.c (.int .i64))), (7, .w (.c (.int .i64))), (8, .w (.c (.int .i64))), (12, .w (.c (.int .i64))), (13, .w (.c (.int .i64)))]⟩, [(.exit 4, ⟨[.row .ro (.int .i64)], [(0, .w (.c (.sl 0))), (5, .w (.c (.int .i64))), (6, .w (.c (.int .i64))), (7, .w (.c (.int .i64))), (12, .w (.c (.int .i64))), (13, .w (.c (.int .i64)))]⟩), (.ret, ⟨[], [(2, .w (.c (.int .i64))), (3, .w (.c (.int .i64))), (4, .w (.c (.bool)))]⟩)]⟩
noncomputable def in20013 : LoopInfo := ⟨20013, ⟨[.row .ro (.int .i64)], [(0, .w (.c (.sl 0))), (5, .w (.c (.int .i64))), (6, .w (.c (.int .i64))), (7, .w (.c (.int .i64))), (8, .w (.c (.int .i64))), (9, .w (.c (.int .i64))), (12, .w (.c (.int .i64))), (13, .w (.c (.int .i64)))]⟩, [(.exit 6, ⟨[.row .ro (.int .i64)], [(0, .w (.c (.sl 0))), (5, .w (.c (.int .i64))), (6, .w (.c (.int .i64))), (7, .w (.c (.int .i64))), (8, .w (.c (.int .i64))), (12, .w (.c (.int .i64))), (13, .w (.c (.int .i64)))]⟩), (.ret, ⟨[], [(2, .w (.c (.int .i64))), (3, .w (.c (.int .i64))), (4, .w (.c (.bool)))]⟩)]⟩
/-- (impl.groups).crossing -/
noncomputable def fd78 : FD := { id := 78, fn := Go.Proofs.Try.f78, sig := ⟨[.ro (.slice (.int .i64))], [(.own, false, .int .i64), (.own, false, .int .i64), (.own, false, .bool)]⟩, loops := [(3, in20010), (6, in20011), (9, in20012), (12, in20013)], views := [], joins := [] }
noncomputable def in20014 : LoopInfo := ⟨20014, ⟨[.row .ro (.int .i64), .box .own (.arr .u8 8), .box .own (.arr .u8 8)], [(0, .w (.c (.sl 0))), (2, .w (.c (.ptr 1))), (3, .w (.c (.ptr 2))), (8, .w (.c (.sl 0))), (9, .w (.c (.int .i64))), (10, .w (.c (.int .i64)))]⟩, [(.exit 0, ⟨[.box .own (.arr .u8 8), .box .own (.arr .u8 8)], [(2, .w (.c (.ptr 0))), (3, .w (.c (.ptr 1)))]⟩)]⟩
noncomputable def in20015 : LoopInfo := ⟨20015, ⟨[.row .ro (.int .i64), .box .own (.arr .u8 8), .box .own (.arr .u8 8)], [(0, .w (.c (.sl 0))), (2, .w (.c (.ptr 1))), (3, .w (.c (.ptr 2))), (4, .w (.c (.int .i64))), (5, .w (.c (.int .i64))), (6, .w (.c (.int .i64))), (8, .w (.c (.sl 0))), (9, .w (.c (.int .i64))), (10, .w (.c (.int .i64)))]⟩, [(.exit 2, ⟨[.row .ro (.int .i64), .box .own (.arr .u8 8), .box .own (.arr .u8 8)], [(0, .w (.c (.sl 0))), (2, .w (.c (.ptr 1))), (3, .w (.c (.ptr 2))), (8, .w (.c (.sl 0))), (9, .w (.c (.int .i64))), (10, .w (.c (.int .i64)))]⟩)]⟩
/-- (impl.groups).part -/
noncomputable def fd92 : FD := { id := 92, fn := Go.Proofs.Try.f92, sig := ⟨[.ro (.slice (.int .i64))], [(.own, false, .arr .u8 8)]⟩, loops := [(3, in20014), (7, in20015)], views := [], joins := [] }
/-- impl.AllParts$1 -/
noncomputable def fd107 : FD := { id := 107, fn := Go.Proofs.Try.f107, sig := ⟨[.ro (.slice (.int .i64)), .box (.slice (.arr .u8 8))], []⟩, loops := [], views := [], joins := [] }
noncomputable def in20016 : LoopInfo := ⟨20016, ⟨[.row .own (.int .i64), .box .own (.c (.sl 2)), .row .own (.arr .u8 8)], [(0, .w (.c (.sl 0))), (1, .w (.c (.int .i64))), (2, .fn 107 [.c (.ptr 1)]), (15, .w (.c (.int .i64))), (16, .w (.c (.int .i64)))]⟩, [(.exit 0, ⟨[.row .own (.int .i64), .box .own (.c (.sl 2)), .row .own (.arr .u8 8)], [(0, .w (.c (.sl 0))), (2, .fn 107 [.c (.ptr 1)])]⟩)]⟩
/-- impl.eachGroups -/
noncomputable def fd10000 : FD := { id := 106, fn := Go.Proofs.Try.f106, sig := ⟨[.mut (.slice (.int .i64)), .ro (.int .i64), .fn 107 [(.box, .slice (.arr .u8 8))]], []⟩, loops := [(3, in20016)], views := [], joins := [] }
/-- cmp.isNaN[byte] -/
noncomputable def fd151 : FD := { id := 151, fn := Go.Proofs.Try.f151, sig := ⟨[.ro (.int .u8)], [(.own, false, .bool)]⟩, loops := [], views := [], joins := [] }
/-- cmp.Compare[byte] -/
noncomputable def fd132 : FD := { id := 132, fn := Go.Proofs.Try.f132, sig := ⟨[.ro (.int .u8), .ro (.int .u8)], [(.own, false, .int .i64)]⟩, loops := [], views := [], joins := [] }
noncomputable def in20017 : LoopInfo := ⟨20017, ⟨[.row .ro (.int .u8), .row .ro (.int .u8)], [(0, .w (.c (.sl 0))), (1, .w (.c (.sl 1))), (9, .w (.c (.sl 0))), (10, .w (.c (.int .i64))), (11, .w (.c (.int .i64)))]⟩, [(.exit 0, ⟨[.row .ro (.int .u8), .row .ro (.int .u8)], [(0, .w (.c (.sl 0))), (1, .w (.c (.sl 1)))]⟩), (.ret, ⟨[], [(4, .w (.c (.int .i64)))]⟩)]⟩
/-- slices.Compare[[]byte,byte] -/
noncomputable def fd110 : FD := { id := 110, fn := Go.Proofs.Try.f110, sig := ⟨[.ro (.slice (.int .u8)), .ro (.slice (.int .u8))], [(.own, false, .int .i64)]⟩, loops := [(2, in20017)], views := [], joins := [] }
/-- impl.AllParts$2 -/
noncomputable def fd109 : FD := { id := 109, fn := Go.Proofs.Try.f109, sig := ⟨[.ro (.arr .u8 8), .ro (.arr .u8 8)], [(.own, false, .int .i64)]⟩, loops := [], views := [], joins := [] }
/-- slices.SortFunc[[]impl.Part,impl.Part] -/
noncomputable def fd10001 : FD := { id := 108, fn := Go.Proofs.Try.f108, sig := ⟨[.mut (.slice (.arr .u8 8)), .fn 109 []], []⟩, loops := [], views := [], joins := [] }
/-- impl.AllParts -/
noncomputable def fd54 : FD := { id := 54, fn := Go.Proofs.Try.f54, sig := ⟨[.ro (.int .i64)], [(.own, false, .slice (.arr .u8 8)), (.own, false, .int .i64)]⟩, loops := [], views := [], joins := [] }
noncomputable def in20019 : LoopInfo := ⟨20019, ⟨[.box .own (.arr .u8 8), .box .own (.arr .u8 8)], [(2, .w (.c (.ptr 0))), (3, .w (.c (.ptr 1))), (5, .w (.c (.int .i64)))]⟩, [(.exit 0, ⟨[], []⟩), (.ret, ⟨[], [(4, .w (.c (.bool)))]⟩)]⟩
/-- laws.eqPart -/
noncomputable def fd28 : FD := { id := 28, fn := Go.Proofs.Try.f28, sig := ⟨[.ro (.arr .u8 8), .ro (.arr .u8 8)], [(.own, false, .bool)]⟩, loops := [(2, in20019)], views := [], joins := [] }
noncomputable def in20018 : LoopInfo := ⟨20018, ⟨[.row .ro (.arr .u8 8), .row .ro (.arr .u8 8)], [(0, .w (.c (.sl 0))), (1, .w (.c (.sl 1))), (5, .w (.c (.int .i64)))]⟩, [(.exit 0, ⟨[], []⟩), (.ret, ⟨[], [(4, .w (.c (.bool)))]⟩)]⟩
/-- laws.eqPartS -/
noncomputable def fd55 : FD := { id := 55, fn := Go.Proofs.Try.f55, sig := ⟨[.ro (.slice (.arr .u8 8)), .ro (.slice (.arr .u8 8))], [(.own, false, .bool)]⟩, loops := [(4, in20018)], views := [], joins := [] }
noncomputable def in20020 : LoopInfo := ⟨20020, ⟨[.row .own (.arr .u8 8)], [(0, .w (.c (.sl 0))), (1, .w (.c (.int .i64))), (5, .w (.c (.int .i64)))]⟩, [(.exit 0, ⟨[.row .own (.arr .u8 8)], [(0, .w (.c (.sl 0))), (1, .w (.c (.int .i64)))]⟩)]⟩
noncomputable def in20021 : LoopInfo := ⟨20021, ⟨[.row .own (.arr .u8 8)], [(0, .w (.c (.sl 0))), (1, .w (.c (.int .i64))), (5, .w (.c (.int .i64))), (6, .w (.c (.int .i64)))]⟩, [(.exit 2, ⟨[.row .own (.arr .u8 8)], [(0, .w (.c (.sl 0))), (1, .w (.c (.int .i64))), (5, .w (.c (.int .i64)))]⟩)]⟩
/-- laws.markPartS -/
noncomputable def fd56 : FD := { id := 56, fn := Go.Proofs.Try.f56, sig := ⟨[.mut (.slice (.arr .u8 8)), .ro (.int .i64)], [(.own, false, .int .i64)]⟩, loops := [(2, in20020), (5, in20021)], views := [], joins := [] }
noncomputable def in20022 : LoopInfo := ⟨20022, ⟨[.row .ro (.arr .u8 8)], [(0, .w (.c (.sl 0))), (1, .w (.c (.int .i64))), (5, .w (.c (.int .i64)))]⟩, [(.exit 0, ⟨[], [(1, .w (.c (.int .i64)))]⟩), (.ret, ⟨[], [(4, .w (.c (.int .i64)))]⟩)]⟩
noncomputable def in20023 : LoopInfo := ⟨20023, ⟨[.row .ro (.arr .u8 8)], [(0, .w (.c (.sl 0))), (1, .w (.c (.int .i64))), (5, .w (.c (.int .i64))), (6, .w (.c (.int .i64)))]⟩, [(.exit 2, ⟨[.row .ro (.arr .u8 8)], [(0, .w (.c (.sl 0))), (1, .w (.c (.int .i64))), (5, .w (.c (.int .i64)))]⟩), (.ret, ⟨[], [(4, .w (.c (.int .i64)))]⟩)]⟩
/-- laws.heldPartS -/
noncomputable def fd57 : FD := { id := 57, fn := Go.Proofs.Try.f57, sig := ⟨[.ro (.slice (.arr .u8 8)), .ro (.int .i64)], [(.own, false, .int .i64)]⟩, loops := [(2, in20022), (5, in20023)], views := [], joins := [] }
/-- laws.FnExactAllParts -/
noncomputable def fd14 : FD := { id := 14, fn := Go.Proofs.Try.f14, sig := ⟨[.ro (.int .i64)], [(.own, false, .bool)]⟩, loops := [], views := [], joins := [] }
noncomputable def fdTab : List (Nat × FD) := [(68, fd68), (87, fd87), (88, fd88), (129, fd129), (105, fd105), (53, fd53), (70, fd70), (124, fd124), (90, fd90), (78, fd78), (92, fd92), (107, fd107), (10000, fd10000), (151, fd151), (132, fd132), (110, fd110), (109, fd109), (10001, fd10001), (54, fd54), (28, fd28), (55, fd55), (56, fd56), (57, fd57), (14, fd14)]
noncomputable def ldTab : List (Nat × LD) := [(20000, ⟨87, 2, in20000, false⟩), (20001, ⟨87, 5, in20001, false⟩), (20002, ⟨87, 8, in20002, false⟩), (20003, ⟨87, 11, in20003, false⟩), (20004, ⟨88, 3, in20004, false⟩), (20005, ⟨88, 7, in20005, false⟩), (20007, ⟨129, 2, in20007, false⟩), (20006, ⟨105, 5, in20006, false⟩), (20008, ⟨105, 10, in20008, false⟩), (20009, ⟨124, 3, in20009, false⟩), (20010, ⟨78, 3, in20010, false⟩), (20011, ⟨78, 6, in20011, false⟩), (20012, ⟨78, 9, in20012, false⟩), (20013, ⟨78, 12, in20013, false⟩), (20014, ⟨92, 3, in20014, false⟩), (20015, ⟨92, 7, in20015, false⟩), (20016, ⟨10000, 3, in20016, false⟩), (20017, ⟨110, 2, in20017, false⟩), (20019, ⟨28, 2, in20019, false⟩), (20018, ⟨55, 4, in20018, false⟩), (20020, ⟨56, 2, in20020, false⟩), (20021, ⟨56, 5, in20021, false⟩), (20022, ⟨57, 2, in20022, false⟩), (20023, ⟨57, 5, in20023, false⟩)]
noncomputable def extTab : List (Nat × ExtK) := [(10001, .sort 109 (.arr .u8 8))]
noncomputable def pickTab : List ((FuncId × List FuncId) × Nat) := [((106, [107]), 10000), ((108, [109]), 10001)]
noncomputable def pick (f : FuncId) : List FuncId → Nat
  | [] => f
  | l => (pickTab.lookup (f, l)).getD 0
noncomputable def E : Env := ⟨[9, 10, 11], fun T => tyTab.lookup T, pick, fun f => fdTab.lookup f, fun f => ldTab.lookup f, fun f => extTab.lookup f⟩
/-- What a call answers. -/
noncomputable def R : Oracle := ev E
theorem R_ev (f : Nat) (l : List TV) : R f l = ev E f l := rfl
def is_l01In : Nat := 68
def is_l07Crossing : Nat := 87
def is_l07Crossing_2 : Nat := 20000
def is_l07Crossing_5 : Nat := 20001
def is_l07Crossing_8 : Nat := 20002
def is_l07Crossing_11 : Nat := 20003
def is_l07Made : Nat := 88
def is_l07Made_3 : Nat := 20004
def is_l07Made_7 : Nat := 20005
def is_l07Before : Nat := 129
def is_l07Before_2 : Nat := 20007
def is_l07All : Nat := 105
def is_l07All_5 : Nat := 20006
def is_l07All_10 : Nat := 20008
def is_AllParts : Nat := 53
def ii_within : Nat := 70
def ii_strandsOf : Nat := 124
def ii_strandsOf_3 : Nat := 20009
def ii_fineGroups : Nat := 90
def i_i_groups__crossing : Nat := 78
def i_i_groups__crossing_3 : Nat := 20010
def i_i_groups__crossing_6 : Nat := 20011
def i_i_groups__crossing_9 : Nat := 20012
def i_i_groups__crossing_12 : Nat := 20013
def i_i_groups__part : Nat := 92
def i_i_groups__part_3 : Nat := 20014
def i_i_groups__part_7 : Nat := 20015
def ii_AllPartsK1 : Nat := 107
def ii_eachGroups : Nat := 10000
def ii_eachGroups_3 : Nat := 20016
def icmp_isNaN_byte_ : Nat := 151
def icmp_Compare_byte_ : Nat := 132
def ig_Compare___byte_byte_ : Nat := 110
def ig_Compare___byte_byte__2 : Nat := 20017
def ii_AllPartsK2 : Nat := 109
def ig_SortFunc___i_Part_i_Part_ : Nat := 10001
def ii_AllParts : Nat := 54
def iw_eqPart : Nat := 28
def iw_eqPart_2 : Nat := 20019
def iw_eqPartS : Nat := 55
def iw_eqPartS_4 : Nat := 20018
def iw_markPartS : Nat := 56
def iw_markPartS_2 : Nat := 20020
def iw_markPartS_5 : Nat := 20021
def iw_heldPartS : Nat := 57
def iw_heldPartS_2 : Nat := 20022
def iw_heldPartS_5 : Nat := 20023
def iw_FnExactAllParts : Nat := 14
end Go.Ev.Ytadjhggdddbicaa
