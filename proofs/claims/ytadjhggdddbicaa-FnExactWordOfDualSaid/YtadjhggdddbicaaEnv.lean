/- What the evaluator knows of this program. -/
import Derived.Test.YtadjhggdddbicaaProg
import Derived.Test.YtadjhggdddbicaaV1
namespace Go.Ev.Ytadjhggdddbicaa
open Go.Ev
@[reducible] noncomputable def tA8 (x : List Int) : TV := ⟨.arr .u8 8, x⟩
@[reducible] noncomputable def gA8 (l : List TV) (i : Nat) : List Int := getTV (.arr .u8 8) l i
@[reducible] noncomputable def tAB8 (x : List Bool) : TV := ⟨.barr 8, x⟩
@[reducible] noncomputable def gAB8 (l : List TV) (i : Nat) : List Bool := getTV (.barr 8) l i
@[reducible] noncomputable def tAi8 (x : List Int) : TV := ⟨.arr .i64 8, x⟩
@[reducible] noncomputable def gAi8 (l : List TV) (i : Nat) : List Int := getTV (.arr .i64 8) l i
@[reducible] noncomputable def tB (x : Bool) : TV := ⟨.bool, x⟩
@[reducible] noncomputable def gB (l : List TV) (i : Nat) : Bool := getTV (.bool) l i
@[reducible] noncomputable def tI (x : Int) : TV := ⟨.int .i64, x⟩
@[reducible] noncomputable def gI (l : List TV) (i : Nat) : Int := getTV (.int .i64) l i
@[reducible] noncomputable def tLA8 (x : List (List Int)) : TV := ⟨.slice (.arr .u8 8), x⟩
@[reducible] noncomputable def gLA8 (l : List TV) (i : Nat) : List (List Int) := getTV (.slice (.arr .u8 8)) l i
@[reducible] noncomputable def tLB (x : List Bool) : TV := ⟨.slice (.bool), x⟩
@[reducible] noncomputable def gLB (l : List TV) (i : Nat) : List Bool := getTV (.slice (.bool)) l i
@[reducible] noncomputable def tLI (x : List Int) : TV := ⟨.slice (.int .i64), x⟩
@[reducible] noncomputable def gLI (l : List TV) (i : Nat) : List Int := getTV (.slice (.int .i64)) l i
@[reducible] noncomputable def tLLI (x : List (List Int)) : TV := ⟨.slice (.slice (.int .i64)), x⟩
@[reducible] noncomputable def gLLI (l : List TV) (i : Nat) : List (List Int) := getTV (.slice (.slice (.int .i64))) l i
@[reducible] noncomputable def tPILI (x : Int × List Int) : TV := ⟨.pair (.int .i64) (.slice (.int .i64)), x⟩
@[reducible] noncomputable def gPILI (l : List TV) (i : Nat) : Int × List Int := getTV (.pair (.int .i64) (.slice (.int .i64))) l i
@[reducible] noncomputable def tPIPILA8 (x : Int × Int × List (List Int)) : TV := ⟨.pair (.int .i64) (.pair (.int .i64) (.slice (.arr .u8 8))), x⟩
@[reducible] noncomputable def gPIPILA8 (l : List TV) (i : Nat) : Int × Int × List (List Int) := getTV (.pair (.int .i64) (.pair (.int .i64) (.slice (.arr .u8 8)))) l i
noncomputable def tyTab : List (Nat × Ty) := [(2, .int .i64), (3, .int .i64), (4, .bool), (5, .int .u8), (6, .int .u8), (7, .pair (.int .i64) (.pair (.int .i64) (.pair (.bool) (.int .u8)))), (8, .pair (.int .i64) (.pair (.int .i64) (.pair (.bool) (.int .u8)))), (12, .int .u64), (21, .int .i32), (22, .slice (.int .i64)), (23, .pair (.int .i64) (.slice (.int .i64))), (24, .pair (.int .i64) (.slice (.int .i64))), (30, .arr .u8 8), (32, .arr .u8 8), (42, .slice (.slice (.int .i64))), (51, .slice (.arr .u8 8)), (52, .pair (.int .i64) (.pair (.int .i64) (.slice (.arr .u8 8)))), (53, .pair (.int .i64) (.pair (.int .i64) (.slice (.arr .u8 8)))), (56, .slice (.arr .u8 8)), (57, .pair (.int .i64) (.pair (.int .i64) (.slice (.arr .u8 8)))), (58, .pair (.int .i64) (.pair (.int .i64) (.slice (.arr .u8 8)))), (67, .pair (.int .i64) (.slice (.int .i64))), (81, .slice (.int .i64)), (90, .arr .i64 8), (91, .barr 8), (96, .slice (.bool)), (109, .slice (.int .u8)), (121, .arr .u8 8), (125, .int .u64), (135, .int .i64), (143, .int .u32), (145, .int .u64), (148, .int .u64), (164, .int .u8), (165, .int .u8), (168, .int .i32), (169, .int .i32)]
/-- spec.l01In -/
noncomputable def fd68 : FD := { id := 68, fn := Go.Proofs.Try.f68, sig := ⟨[.ro (.int .i64), .ro (.int .i64), .ro (.int .i64)], [(.own, false, .bool)]⟩, loops := [], views := [] }
noncomputable def in20000 : LoopInfo := ⟨20000, ⟨[.row .own (.int .i64)], [(0, .w (.c (.int .i64))), (1, .w (.c (.int .i64))), (5, .w (.c (.sl 0))), (6, .w (.c (.int .i64)))]⟩, [(.exit 0, ⟨[.row .own (.int .i64)], [(0, .w (.c (.int .i64))), (1, .w (.c (.int .i64))), (5, .w (.c (.sl 0)))]⟩)]⟩
noncomputable def in20001 : LoopInfo := ⟨20001, ⟨[.row .own (.int .i64)], [(0, .w (.c (.int .i64))), (5, .w (.c (.sl 0))), (7, .w (.c (.int .i64)))]⟩, [(.exit 2, ⟨[.row .own (.int .i64)], [(5, .w (.c (.sl 0)))]⟩)]⟩
/-- spec.l07Band -/
noncomputable def fd69 : FD := { id := 69, fn := Go.Proofs.Try.f69, sig := ⟨[.ro (.int .i64), .ro (.int .i64)], [(.own, false, .slice (.int .i64))]⟩, loops := [(3, in20000), (8, in20001)], views := [] }
/-- spec.BandOf -/
noncomputable def fd18 : FD := { id := 18, fn := Go.Proofs.Try.f18, sig := ⟨[.ro (.int .i64), .ro (.int .i64), .ro (.int .i64)], [(.own, false, .pair (.int .i64) (.slice (.int .i64))), (.own, false, .int .i64)]⟩, loops := [], views := [] }
/-- impl.within -/
noncomputable def fd70 : FD := { id := 70, fn := Go.Proofs.Try.f70, sig := ⟨[.ro (.int .i64), .ro (.int .i64), .ro (.int .i64)], [(.own, false, .bool)]⟩, loops := [], views := [] }
noncomputable def in20002 : LoopInfo := ⟨20002, ⟨[.row .own (.int .i64)], [(0, .w (.c (.int .i64))), (1, .w (.c (.int .i64))), (5, .w (.c (.sl 0))), (6, .w (.c (.int .i64)))]⟩, [(.exit 0, ⟨[.row .own (.int .i64)], [(0, .w (.c (.int .i64))), (1, .w (.c (.int .i64))), (5, .w (.c (.sl 0)))]⟩)]⟩
noncomputable def in20003 : LoopInfo := ⟨20003, ⟨[.row .own (.int .i64)], [(0, .w (.c (.int .i64))), (5, .w (.c (.sl 0))), (7, .w (.c (.int .i64)))]⟩, [(.exit 2, ⟨[.row .own (.int .i64)], [(5, .w (.c (.sl 0)))]⟩)]⟩
/-- impl.band -/
noncomputable def fd71 : FD := { id := 71, fn := Go.Proofs.Try.f71, sig := ⟨[.ro (.int .i64), .ro (.int .i64)], [(.own, false, .slice (.int .i64))]⟩, loops := [(3, in20002), (7, in20003)], views := [] }
/-- impl.BandOf -/
noncomputable def fd19 : FD := { id := 19, fn := Go.Proofs.Try.f19, sig := ⟨[.ro (.int .i64), .ro (.int .i64), .ro (.int .i64)], [(.own, false, .pair (.int .i64) (.slice (.int .i64))), (.own, false, .int .i64)]⟩, loops := [], views := [] }
noncomputable def in20004 : LoopInfo := ⟨20004, ⟨[.row .ro (.int .i64), .row .ro (.int .i64)], [(0, .w (.c (.sl 0))), (1, .w (.c (.sl 1))), (5, .w (.c (.int .i64)))]⟩, [(.exit 0, ⟨[], []⟩), (.ret, ⟨[], [(4, .w (.c (.bool)))]⟩)]⟩
/-- laws.eqInt64S -/
noncomputable def fd72 : FD := { id := 72, fn := Go.Proofs.Try.f72, sig := ⟨[.ro (.slice (.int .i64)), .ro (.slice (.int .i64))], [(.own, false, .bool)]⟩, loops := [(4, in20004)], views := [] }
/-- laws.eqBraid -/
noncomputable def fd20 : FD := { id := 20, fn := Go.Proofs.Try.f20, sig := ⟨[.ro (.pair (.int .i64) (.slice (.int .i64))), .ro (.pair (.int .i64) (.slice (.int .i64)))], [(.own, false, .bool)]⟩, loops := [], views := [] }
noncomputable def in20005 : LoopInfo := ⟨20005, ⟨[.row .own (.int .i64)], [(0, .w (.c (.sl 0))), (1, .w (.c (.int .i64))), (5, .w (.c (.int .i64)))]⟩, [(.exit 0, ⟨[.row .own (.int .i64)], [(0, .w (.c (.sl 0))), (1, .w (.c (.int .i64)))]⟩)]⟩
/-- laws.markInt64S -/
noncomputable def fd73 : FD := { id := 73, fn := Go.Proofs.Try.f73, sig := ⟨[.mut (.slice (.int .i64)), .ro (.int .i64)], [(.own, false, .int .i64)]⟩, loops := [(2, in20005)], views := [] }
/-- laws.markBraid -/
noncomputable def fd21 : FD := { id := 21, fn := Go.Proofs.Try.f21, sig := ⟨[.mut (.pair (.int .i64) (.slice (.int .i64))), .ro (.int .i64)], [(.own, false, .int .i64)]⟩, loops := [], views := [] }
noncomputable def in20006 : LoopInfo := ⟨20006, ⟨[.row .ro (.int .i64)], [(0, .w (.c (.sl 0))), (1, .w (.c (.int .i64))), (5, .w (.c (.int .i64)))]⟩, [(.exit 0, ⟨[], [(1, .w (.c (.int .i64)))]⟩), (.ret, ⟨[], [(4, .w (.c (.int .i64)))]⟩)]⟩
/-- laws.heldInt64S -/
noncomputable def fd74 : FD := { id := 74, fn := Go.Proofs.Try.f74, sig := ⟨[.ro (.slice (.int .i64)), .ro (.int .i64)], [(.own, false, .int .i64)]⟩, loops := [(2, in20006)], views := [] }
/-- laws.heldBraid -/
noncomputable def fd22 : FD := { id := 22, fn := Go.Proofs.Try.f22, sig := ⟨[.ro (.pair (.int .i64) (.slice (.int .i64))), .ro (.int .i64)], [(.own, false, .int .i64)]⟩, loops := [], views := [] }
/-- laws.FnExactBandOf -/
noncomputable def fd3 : FD := { id := 3, fn := Go.Proofs.Try.f3, sig := ⟨[.ro (.int .i64), .ro (.int .i64), .ro (.int .i64)], [(.own, false, .bool)]⟩, loops := [], views := [] }
noncomputable def in20007 : LoopInfo := ⟨20007, ⟨[.box .own (.arr .u8 8), .box .own (.arr .u8 8), .box .own (.arr .u8 8)], [(1, .w (.c (.ptr 0))), (2, .w (.c (.ptr 1))), (3, .w (.c (.ptr 2))), (4, .w (.c (.int .i64)))]⟩, [(.exit 0, ⟨[.box .own (.arr .u8 8), .box .own (.arr .u8 8)], [(2, .w (.c (.ptr 0))), (3, .w (.c (.ptr 1)))]⟩)]⟩
/-- laws.toPart -/
noncomputable def fd24 : FD := { id := 24, fn := Go.Proofs.Try.f24, sig := ⟨[.ro (.arr .u8 8)], [(.own, false, .arr .u8 8)]⟩, loops := [(3, in20007)], views := [] }
noncomputable def in20008 : LoopInfo := ⟨20008, ⟨[.box .own (.arr .u8 8), .box .own (.arr .i64 8), .box .own (.arr .i64 8), .box .own (.barr 8)], [(1, .w (.c (.int .i64))), (2, .w (.c (.ptr 0))), (4, .w (.c (.ptr 1))), (6, .w (.c (.ptr 2))), (7, .w (.c (.ptr 3))), (8, .w (.c (.int .i64)))]⟩, [(.exit 0, ⟨[.box .own (.arr .u8 8), .box .own (.arr .i64 8), .box .own (.arr .i64 8)], [(1, .w (.c (.int .i64))), (2, .w (.c (.ptr 0))), (4, .w (.c (.ptr 1))), (6, .w (.c (.ptr 2)))]⟩), (.ret, ⟨[.box .own (.arr .i64 8)], [(4, .w (.c (.ptr 0))), (5, .w (.c (.bool)))]⟩)]⟩
noncomputable def in20009 : LoopInfo := ⟨20009, ⟨[.box .own (.arr .u8 8), .box .own (.arr .i64 8), .box .own (.arr .i64 8), .box .own (.barr 8)], [(1, .w (.c (.int .i64))), (2, .w (.c (.ptr 0))), (4, .w (.c (.ptr 1))), (6, .w (.c (.ptr 2))), (9, .w (.c (.ptr 3))), (10, .w (.c (.int .i64)))]⟩, [(.exit 2, ⟨[.box .own (.arr .i64 8), .box .own (.arr .i64 8)], [(4, .w (.c (.ptr 0))), (6, .w (.c (.ptr 1)))]⟩)]⟩
noncomputable def in20010 : LoopInfo := ⟨20010, ⟨[.box .own (.arr .u8 8), .box .own (.arr .i64 8), .box .own (.arr .i64 8), .box .own (.barr 8)], [(1, .w (.c (.int .i64))), (2, .w (.c (.ptr 0))), (4, .w (.c (.ptr 1))), (6, .w (.c (.ptr 2))), (9, .w (.c (.ptr 3))), (10, .w (.c (.int .i64))), (11, .w (.c (.int .i64)))]⟩, [(.exit 4, ⟨[.box .own (.arr .u8 8), .box .own (.arr .i64 8), .box .own (.arr .i64 8), .box .own (.barr 8)], [(1, .w (.c (.int .i64))), (2, .w (.c (.ptr 0))), (4, .w (.c (.ptr 1))), (6, .w (.c (.ptr 2))), (9, .w (.c (.ptr 3))), (10, .w (.c (.int .i64)))]⟩)]⟩
/-- spec.l07Least -/
noncomputable def fd123 : FD := { id := 123, fn := Go.Proofs.Try.f123, sig := ⟨[.ro (.arr .u8 8), .ro (.int .i64)], [(.own, false, .arr .i64 8), (.own, false, .bool)]⟩, loops := [(3, in20008), (11, in20009), (14, in20010)], views := [] }
noncomputable def in20011 : LoopInfo := ⟨20011, ⟨[.box .own (.arr .i64 8), .box .own (.arr .u8 8), .box .own (.arr .u8 8)], [(1, .w (.c (.int .i64))), (2, .w (.c (.ptr 0))), (4, .w (.c (.ptr 1))), (5, .w (.c (.ptr 2))), (6, .w (.c (.int .i64)))]⟩, [(.exit 0, ⟨[.box .own (.arr .u8 8), .box .own (.arr .u8 8)], [(4, .w (.c (.ptr 0))), (5, .w (.c (.ptr 1)))]⟩)]⟩
noncomputable def in20012 : LoopInfo := ⟨20012, ⟨[.box .own (.arr .i64 8), .box .own (.arr .u8 8), .box .own (.arr .u8 8)], [(1, .w (.c (.int .i64))), (2, .w (.c (.ptr 0))), (4, .w (.c (.ptr 1))), (5, .w (.c (.ptr 2))), (6, .w (.c (.int .i64))), (7, .w (.c (.int .i64)))]⟩, [(.exit 2, ⟨[.box .own (.arr .i64 8), .box .own (.arr .u8 8), .box .own (.arr .u8 8)], [(1, .w (.c (.int .i64))), (2, .w (.c (.ptr 0))), (4, .w (.c (.ptr 1))), (5, .w (.c (.ptr 2))), (6, .w (.c (.int .i64)))]⟩)]⟩
/-- spec.l07Made -/
noncomputable def fd88 : FD := { id := 88, fn := Go.Proofs.Try.f88, sig := ⟨[.ro (.arr .i64 8), .ro (.int .i64)], [(.own, false, .arr .u8 8)]⟩, loops := [(3, in20011), (7, in20012)], views := [] }
noncomputable def in20013 : LoopInfo := ⟨20013, ⟨[.box .own (.arr .i64 8)], [(1, .w (.c (.int .i64))), (2, .w (.c (.ptr 0))), (5, .w (.c (.int .i64)))]⟩, [(.exit 0, ⟨[], []⟩), (.ret, ⟨[], [(4, .w (.c (.bool)))]⟩)]⟩
noncomputable def in20014 : LoopInfo := ⟨20014, ⟨[.box .own (.arr .i64 8)], [(1, .w (.c (.int .i64))), (2, .w (.c (.ptr 0))), (5, .w (.c (.int .i64))), (6, .w (.c (.int .i64)))]⟩, [(.exit 2, ⟨[.box .own (.arr .i64 8)], [(1, .w (.c (.int .i64))), (2, .w (.c (.ptr 0))), (5, .w (.c (.int .i64)))]⟩), (.ret, ⟨[], [(4, .w (.c (.bool)))]⟩)]⟩
noncomputable def in20015 : LoopInfo := ⟨20015, ⟨[.box .own (.arr .i64 8)], [(1, .w (.c (.int .i64))), (2, .w (.c (.ptr 0))), (5, .w (.c (.int .i64))), (6, .w (.c (.int .i64))), (7, .w (.c (.int .i64)))]⟩, [(.exit 4, ⟨[.box .own (.arr .i64 8)], [(1, .w (.c (.int .i64))), (2, .w (.c (.ptr 0))), (5, .w (.c (.int .i64))), (6, .w (.c (.int .i64)))]⟩), (.ret, ⟨[], [(4, .w (.c (.bool)))]⟩)]⟩
noncomputable def in20016 : LoopInfo := ⟨20016, ⟨[.box .own (.arr .i64 8)], [(1, .w (.c (.int .i64))), (2, .w (.c (.ptr 0))), (5, .w (.c (.int .i64))), (6, .w (.c (.int .i64))), (7, .w (.c (.int .i64))), (8, .w (.c (.int .i64)))]⟩, [(.exit 6, ⟨[.box .own (.arr .i64 8)], [(1, .w (.c (.int .i64))), (2, .w (.c (.ptr 0))), (5, .w (.c (.int .i64))), (6, .w (.c (.int .i64))), (7, .w (.c (.int .i64)))]⟩), (.ret, ⟨[], [(4, .w (.c (.bool)))]⟩)]⟩
/-- spec.l07Crossing -/
noncomputable def fd87 : FD := { id := 87, fn := Go.Proofs.Try.f87, sig := ⟨[.ro (.arr .i64 8), .ro (.int .i64)], [(.own, false, .bool)]⟩, loops := [(2, in20013), (5, in20014), (8, in20015), (11, in20016)], views := [] }
/-- spec.l07Is -/
noncomputable def fd75 : FD := { id := 75, fn := Go.Proofs.Try.f75, sig := ⟨[.ro (.arr .u8 8), .ro (.int .i64)], [(.own, false, .bool)]⟩, loops := [], views := [] }
/-- spec.IsPart -/
noncomputable def fd23 : FD := { id := 23, fn := Go.Proofs.Try.f23, sig := ⟨[.ro (.arr .u8 8), .ro (.int .i64)], [(.own, false, .bool)]⟩, loops := [], views := [] }
/-- impl.isCount -/
noncomputable def fd76 : FD := { id := 76, fn := Go.Proofs.Try.f76, sig := ⟨[.ro (.int .i64)], [(.own, false, .bool)]⟩, loops := [], views := [] }
noncomputable def in20017 : LoopInfo := ⟨20017, ⟨[.row .own (.int .i64)], [(3, .w (.c (.sl 0))), (6, .w (.c (.int .i64))), (7, .w (.c (.int .i64)))]⟩, [(.exit 0, ⟨[.row .own (.int .i64)], [(3, .w (.c (.sl 0)))]⟩)]⟩
/-- impl.strandsOf -/
noncomputable def fd124 : FD := { id := 124, fn := Go.Proofs.Try.f124, sig := ⟨[.ro (.int .i64)], [(.own, false, .slice (.int .i64))]⟩, loops := [(3, in20017)], views := [] }
/-- impl.fineGroups -/
noncomputable def fd90 : FD := { id := 90, fn := Go.Proofs.Try.f90, sig := ⟨[.ro (.int .i64)], [(.own, false, .slice (.int .i64))]⟩, loops := [], views := [] }
noncomputable def in20019 : LoopInfo := ⟨20019, ⟨[.row .own (.int .i64)], [(0, .w (.c (.sl 0))), (6, .w (.c (.int .i64))), (7, .w (.c (.int .i64))), (28, .w (.c (.sl 0))), (29, .w (.c (.int .i64))), (30, .w (.c (.int .i64)))]⟩, [(.exit 0, ⟨[.row .own (.int .i64)], [(0, .w (.c (.sl 0)))]⟩)]⟩
/-- (impl.groups).merge -/
noncomputable def fd91 : FD := { id := 91, fn := Go.Proofs.Try.f91, sig := ⟨[.mut (.slice (.int .i64)), .ro (.int .i64), .ro (.int .i64)], []⟩, loops := [(2, in20019)], views := [] }
noncomputable def in20020 : LoopInfo := ⟨20020, ⟨[.row .ro (.int .i64), .box .own (.arr .u8 8), .box .own (.arr .u8 8)], [(0, .w (.c (.sl 0))), (2, .w (.c (.ptr 1))), (3, .w (.c (.ptr 2))), (8, .w (.c (.sl 0))), (9, .w (.c (.int .i64))), (10, .w (.c (.int .i64)))]⟩, [(.exit 0, ⟨[.box .own (.arr .u8 8), .box .own (.arr .u8 8)], [(2, .w (.c (.ptr 0))), (3, .w (.c (.ptr 1)))]⟩)]⟩
noncomputable def in20021 : LoopInfo := ⟨20021, ⟨[.row .ro (.int .i64), .box .own (.arr .u8 8), .box .own (.arr .u8 8)], [(0, .w (.c (.sl 0))), (2, .w (.c (.ptr 1))), (3, .w (.c (.ptr 2))), (4, .w (.c (.int .i64))), (5, .w (.c (.int .i64))), (6, .w (.c (.int .i64))), (8, .w (.c (.sl 0))), (9, .w (.c (.int .i64))), (10, .w (.c (.int .i64)))]⟩, [(.exit 2, ⟨[.row .ro (.int .i64), .box .own (.arr .u8 8), .box .own (.arr .u8 8)], [(0, .w (.c (.sl 0))), (2, .w (.c (.ptr 1))), (3, .w (.c (.ptr 2))), (8, .w (.c (.sl 0))), (9, .w (.c (.int .i64))), (10, .w (.c (.int .i64)))]⟩)]⟩
/-- (impl.groups).part -/
noncomputable def fd92 : FD := { id := 92, fn := Go.Proofs.Try.f92, sig := ⟨[.ro (.slice (.int .i64))], [(.own, false, .arr .u8 8)]⟩, loops := [(3, in20020), (7, in20021)], views := [] }
noncomputable def in20018 : LoopInfo := ⟨20018, ⟨[.box .own (.arr .u8 8), .row .own (.int .i64)], [(1, .w (.c (.int .i64))), (2, .w (.c (.ptr 0))), (6, .w (.c (.sl 1))), (11, .w (.c (.int .i64))), (12, .w (.c (.int .i64)))]⟩, [(.exit 0, ⟨[.box .own (.arr .u8 8), .row .own (.int .i64)], [(2, .w (.c (.ptr 0))), (6, .w (.c (.sl 1)))]⟩), (.ret, ⟨[.row .own (.int .i64)], [(4, .w (.c (.sl 0))), (5, .w (.c (.bool)))]⟩)]⟩
/-- impl.groupsOf -/
noncomputable def fd77 : FD := { id := 77, fn := Go.Proofs.Try.f77, sig := ⟨[.ro (.arr .u8 8), .ro (.int .i64)], [(.own, false, .slice (.int .i64)), (.own, false, .bool)]⟩, loops := [(3, in20018)], views := [] }
noncomputable def in20022 : LoopInfo := ⟨20022, ⟨[.row .ro (.int .i64)], [(0, .w (.c (.sl 0))), (5, .w (.c (.int .i64))), (12, .w (.c (.int .i64))), (13, .w (.c (.int .i64)))]⟩, [(.exit 0, ⟨[], []⟩), (.ret, ⟨[], [(2, .w (.c (.int .i64))), (3, .w (.c (.int .i64))), (4, .w (.c (.bool)))]⟩)]⟩
noncomputable def in20023 : LoopInfo := ⟨20023, ⟨[.row .ro (.int .i64)], [(0, .w (.c (.sl 0))), (5, .w (.c (.int .i64))), (6, .w (.c (.int .i64))), (7, .w (.c (.int .i64))), (12, .w (.c (.int .i64))), (13, .w (.c (.int .i64)))]⟩, [(.exit 2, ⟨[.row .ro (.int .i64)], [(0, .w (.c (.sl 0))), (5, .w (.c (.int .i64))), (12, .w (.c (.int .i64))), (13, .w (.c (.int .i64)))]⟩), (.ret, ⟨[], [(2, .w (.c (.int .i64))), (3, .w (.c (.int .i64))), (4, .w (.c (.bool)))]⟩)]⟩
noncomputable def in20024 : LoopInfo := ⟨20024, ⟨[.row .ro (.int .i64)], [(0, .w (.c (.sl 0))), (5, .w (.c (.int .i64))), (6, .w (.c (.int .i64))), (7, .w (.c (.int .i64))), (8, .w (.c (.int .i64))), (12, .w (.c (.int .i64))), (13, .w (.c (.int .i64)))]⟩, [(.exit 4, ⟨[.row .ro (.int .i64)], [(0, .w (.c (.sl 0))), (5, .w (.c (.int .i64))), (6, .w (.c (.int .i64))), (7, .w (.c (.int .i64))), (12, .w (.c (.int .i64))), (13, .w (.c (.int .i64)))]⟩), (.ret, ⟨[], [(2, .w (.c (.int .i64))), (3, .w (.c (.int .i64))), (4, .w (.c (.bool)))]⟩)]⟩
noncomputable def in20025 : LoopInfo := ⟨20025, ⟨[.row .ro (.int .i64)], [(0, .w (.c (.sl 0))), (5, .w (.c (.int .i64))), (6, .w (.c (.int .i64))), (7, .w (.c (.int .i64))), (8, .w (.c (.int .i64))), (9, .w (.c (.int .i64))), (12, .w (.c (.int .i64))), (13, .w (.c (.int .i64)))]⟩, [(.exit 6, ⟨[.row .ro (.int .i64)], [(0, .w (.c (.sl 0))), (5, .w (.c (.int .i64))), (6, .w (.c (.int .i64))), (7, .w (.c (.int .i64))), (8, .w (.c (.int .i64))), (12, .w (.c (.int .i64))), (13, .w (.c (.int .i64)))]⟩), (.ret, ⟨[], [(2, .w (.c (.int .i64))), (3, .w (.c (.int .i64))), (4, .w (.c (.bool)))]⟩)]⟩
/-- (impl.groups).crossing -/
noncomputable def fd78 : FD := { id := 78, fn := Go.Proofs.Try.f78, sig := ⟨[.ro (.slice (.int .i64))], [(.own, false, .int .i64), (.own, false, .int .i64), (.own, false, .bool)]⟩, loops := [(3, in20022), (6, in20023), (9, in20024), (12, in20025)], views := [] }
/-- impl.IsPart -/
noncomputable def fd25 : FD := { id := 25, fn := Go.Proofs.Try.f25, sig := ⟨[.ro (.arr .u8 8), .ro (.int .i64)], [(.own, false, .bool)]⟩, loops := [], views := [] }
/-- laws.FnExactIsPart -/
noncomputable def fd4 : FD := { id := 4, fn := Go.Proofs.Try.f4, sig := ⟨[.ro (.arr .u8 8), .ro (.int .i64)], [(.own, false, .bool)]⟩, loops := [], views := [] }
noncomputable def in20026 : LoopInfo := ⟨20026, ⟨[.box .own (.arr .u8 8), .box .own (.arr .u8 8), .box .own (.arr .u8 8)], [(1, .w (.c (.int .i64))), (2, .w (.c (.int .i64))), (3, .w (.c (.ptr 0))), (6, .w (.c (.ptr 1))), (7, .w (.c (.ptr 2))), (8, .w (.c (.int .i64)))]⟩, [(.exit 0, ⟨[.box .own (.arr .u8 8), .box .own (.arr .u8 8)], [(6, .w (.c (.ptr 0))), (7, .w (.c (.ptr 1)))]⟩)]⟩
/-- spec.l07Turn -/
noncomputable def fd79 : FD := { id := 79, fn := Go.Proofs.Try.f79, sig := ⟨[.ro (.arr .u8 8), .ro (.int .i64), .ro (.int .i64)], [(.own, false, .arr .u8 8)]⟩, loops := [(3, in20026)], views := [] }
/-- spec.TurnOfPart -/
noncomputable def fd26 : FD := { id := 26, fn := Go.Proofs.Try.f26, sig := ⟨[.ro (.arr .u8 8), .ro (.int .i64)], [(.own, false, .arr .u8 8), (.own, false, .int .i64)]⟩, loops := [], views := [] }
noncomputable def in20027 : LoopInfo := ⟨20027, ⟨[.box .own (.arr .u8 8), .box .own (.arr .u8 8), .box .own (.arr .u8 8)], [(1, .w (.c (.int .i64))), (3, .w (.c (.ptr 0))), (6, .w (.c (.ptr 1))), (7, .w (.c (.ptr 2))), (8, .w (.c (.int .i64))), (18, .w (.c (.int .i64))), (19, .w (.c (.int .i64)))]⟩, [(.exit 0, ⟨[.box .own (.arr .u8 8), .box .own (.arr .u8 8)], [(6, .w (.c (.ptr 0))), (7, .w (.c (.ptr 1)))]⟩)]⟩
/-- impl.turnPart -/
noncomputable def fd80 : FD := { id := 80, fn := Go.Proofs.Try.f80, sig := ⟨[.ro (.arr .u8 8), .ro (.int .i64), .ro (.int .i64)], [(.own, false, .arr .u8 8)]⟩, loops := [(4, in20027)], views := [] }
/-- impl.TurnOfPart -/
noncomputable def fd27 : FD := { id := 27, fn := Go.Proofs.Try.f27, sig := ⟨[.ro (.arr .u8 8), .ro (.int .i64)], [(.own, false, .arr .u8 8), (.own, false, .int .i64)]⟩, loops := [], views := [] }
noncomputable def in20028 : LoopInfo := ⟨20028, ⟨[.box .own (.arr .u8 8), .box .own (.arr .u8 8)], [(2, .w (.c (.ptr 0))), (3, .w (.c (.ptr 1))), (5, .w (.c (.int .i64)))]⟩, [(.exit 0, ⟨[], []⟩), (.ret, ⟨[], [(4, .w (.c (.bool)))]⟩)]⟩
/-- laws.eqPart -/
noncomputable def fd28 : FD := { id := 28, fn := Go.Proofs.Try.f28, sig := ⟨[.ro (.arr .u8 8), .ro (.arr .u8 8)], [(.own, false, .bool)]⟩, loops := [(2, in20028)], views := [] }
/-- laws.FnExactTurnOfPart -/
noncomputable def fd5 : FD := { id := 5, fn := Go.Proofs.Try.f5, sig := ⟨[.ro (.arr .u8 8), .ro (.int .i64)], [(.own, false, .bool)]⟩, loops := [], views := [] }
noncomputable def in20029 : LoopInfo := ⟨20029, ⟨[.box .own (.arr .i64 8), .row .sh (.slice (.int .i64))], [(1, .w (.c (.int .i64))), (5, .w (.c (.ptr 0))), (7, .w (.c (.sl 1))), (8, .w (.c (.int .i64)))]⟩, [(.exit 0, ⟨[.row .sh (.slice (.int .i64))], [(7, .w (.c (.sl 0)))]⟩)]⟩
noncomputable def in20030 : LoopInfo := ⟨20030, ⟨[.box .own (.arr .i64 8), .row .sh (.slice (.int .i64)), .row .own (.int .i64)], [(1, .w (.c (.int .i64))), (5, .w (.c (.ptr 0))), (7, .w (.c (.sl 1))), (8, .w (.c (.int .i64))), (9, .w (.c (.sl 2))), (10, .w (.c (.int .i64)))]⟩, [(.exit 2, ⟨[.box .own (.arr .i64 8), .row .sh (.slice (.int .i64)), .row .own (.int .i64)], [(1, .w (.c (.int .i64))), (5, .w (.c (.ptr 0))), (7, .w (.c (.sl 1))), (8, .w (.c (.int .i64))), (9, .w (.c (.sl 2)))]⟩)]⟩
/-- spec.l07Blocks -/
noncomputable def fd81 : FD := { id := 81, fn := Go.Proofs.Try.f81, sig := ⟨[.ro (.arr .u8 8), .ro (.int .i64)], [(.ro, false, .slice (.slice (.int .i64)))]⟩, loops := [(4, in20029), (9, in20030)], views := [] }
/-- spec.RankOf -/
noncomputable def fd29 : FD := { id := 29, fn := Go.Proofs.Try.f29, sig := ⟨[.ro (.arr .u8 8), .ro (.int .i64)], [(.own, false, .int .i64), (.own, false, .int .i64)]⟩, loops := [], views := [] }
noncomputable def in20031 : LoopInfo := ⟨20031, ⟨[.row .own (.int .i64), .row .sh (.slice (.int .i64))], [(1, .w (.c (.int .i64))), (5, .w (.c (.sl 0))), (7, .w (.c (.sl 1))), (18, .w (.c (.int .i64))), (19, .w (.c (.int .i64)))]⟩, [(.exit 0, ⟨[.row .sh (.slice (.int .i64))], [(7, .w (.c (.sl 0)))]⟩)]⟩
noncomputable def in20032 : LoopInfo := ⟨20032, ⟨[.row .own (.int .i64), .row .sh (.slice (.int .i64)), .row .own (.int .i64)], [(1, .w (.c (.int .i64))), (5, .w (.c (.sl 0))), (7, .w (.c (.sl 1))), (8, .w (.c (.int .i64))), (9, .w (.c (.sl 2))), (10, .w (.c (.int .i64))), (18, .w (.c (.int .i64))), (19, .w (.c (.int .i64)))]⟩, [(.exit 2, ⟨[.row .own (.int .i64), .row .sh (.slice (.int .i64)), .row .own (.int .i64)], [(1, .w (.c (.int .i64))), (5, .w (.c (.sl 0))), (7, .w (.c (.sl 1))), (9, .w (.c (.sl 2))), (18, .w (.c (.int .i64))), (19, .w (.c (.int .i64)))]⟩)]⟩
/-- impl.blocksOf -/
noncomputable def fd82 : FD := { id := 82, fn := Go.Proofs.Try.f82, sig := ⟨[.ro (.arr .u8 8), .ro (.int .i64)], [(.ro, false, .slice (.slice (.int .i64)))]⟩, loops := [(4, in20031), (9, in20032)], views := [] }
/-- impl.RankOf -/
noncomputable def fd30 : FD := { id := 30, fn := Go.Proofs.Try.f30, sig := ⟨[.ro (.arr .u8 8), .ro (.int .i64)], [(.own, false, .int .i64), (.own, false, .int .i64)]⟩, loops := [], views := [] }
/-- laws.FnExactRankOf -/
noncomputable def fd6 : FD := { id := 6, fn := Go.Proofs.Try.f6, sig := ⟨[.ro (.arr .u8 8), .ro (.int .i64)], [(.own, false, .bool)]⟩, loops := [], views := [] }
/-- spec.l07Two -/
noncomputable def fd83 : FD := { id := 83, fn := Go.Proofs.Try.f83, sig := ⟨[.ro (.arr .u8 8), .ro (.arr .u8 8), .ro (.int .i64)], [(.own, false, .int .i64)]⟩, loops := [], views := [] }
noncomputable def in20033 : LoopInfo := ⟨20033, ⟨[.box .own (.arr .u8 8), .box .own (.arr .i64 8), .box .own (.arr .i64 8), .box .own (.arr .i64 8)], [(2, .w (.c (.int .i64))), (6, .w (.c (.ptr 0))), (7, .w (.c (.ptr 1))), (9, .w (.c (.ptr 2))), (11, .w (.c (.ptr 3))), (12, .w (.c (.int .i64)))]⟩, [(.exit 0, ⟨[.box .own (.arr .u8 8), .box .own (.arr .i64 8)], [(2, .w (.c (.int .i64))), (6, .w (.c (.ptr 0))), (11, .w (.c (.ptr 1)))]⟩)]⟩
noncomputable def in20034 : LoopInfo := ⟨20034, ⟨[.box .own (.arr .u8 8), .box .own (.arr .i64 8), .box .own (.arr .i64 8), .box .own (.arr .i64 8)], [(2, .w (.c (.int .i64))), (6, .w (.c (.ptr 0))), (7, .w (.c (.ptr 1))), (9, .w (.c (.ptr 2))), (11, .w (.c (.ptr 3))), (12, .w (.c (.int .i64))), (13, .w (.c (.int .i64)))]⟩, [(.exit 2, ⟨[.box .own (.arr .u8 8), .box .own (.arr .i64 8), .box .own (.arr .i64 8), .box .own (.arr .i64 8)], [(2, .w (.c (.int .i64))), (6, .w (.c (.ptr 0))), (7, .w (.c (.ptr 1))), (9, .w (.c (.ptr 2))), (11, .w (.c (.ptr 3))), (12, .w (.c (.int .i64)))]⟩)]⟩
/-- spec.l07Meet -/
noncomputable def fd84 : FD := { id := 84, fn := Go.Proofs.Try.f84, sig := ⟨[.ro (.arr .u8 8), .ro (.arr .u8 8), .ro (.int .i64)], [(.own, false, .arr .u8 8)]⟩, loops := [(5, in20033), (8, in20034)], views := [] }
/-- spec.MeetOfParts -/
noncomputable def fd31 : FD := { id := 31, fn := Go.Proofs.Try.f31, sig := ⟨[.ro (.arr .u8 8), .ro (.arr .u8 8), .ro (.int .i64)], [(.own, false, .arr .u8 8), (.own, false, .int .i64)]⟩, loops := [], views := [] }
noncomputable def in20035 : LoopInfo := ⟨20035, ⟨[.box .own (.arr .u8 8), .row .own (.int .i64), .row .own (.int .i64), .row .own (.int .i64)], [(6, .w (.c (.ptr 0))), (7, .w (.c (.sl 1))), (9, .w (.c (.sl 2))), (11, .w (.c (.sl 3))), (28, .w (.c (.int .i64))), (29, .w (.c (.int .i64)))]⟩, [(.exit 0, ⟨[.box .own (.arr .u8 8), .row .own (.int .i64)], [(6, .w (.c (.ptr 0))), (11, .w (.c (.sl 1)))]⟩)]⟩
noncomputable def in20036 : LoopInfo := ⟨20036, ⟨[.box .own (.arr .u8 8), .row .own (.int .i64), .row .own (.int .i64), .row .own (.int .i64)], [(6, .w (.c (.ptr 0))), (7, .w (.c (.sl 1))), (9, .w (.c (.sl 2))), (11, .w (.c (.sl 3))), (12, .w (.c (.int .i64))), (28, .w (.c (.int .i64))), (29, .w (.c (.int .i64))), (32, .w (.c (.int .i64))), (33, .w (.c (.int .i64)))]⟩, [(.exit 2, ⟨[.box .own (.arr .u8 8), .row .own (.int .i64), .row .own (.int .i64), .row .own (.int .i64)], [(6, .w (.c (.ptr 0))), (7, .w (.c (.sl 1))), (9, .w (.c (.sl 2))), (11, .w (.c (.sl 3))), (28, .w (.c (.int .i64))), (29, .w (.c (.int .i64)))]⟩)]⟩
/-- impl.meetParts -/
noncomputable def fd85 : FD := { id := 85, fn := Go.Proofs.Try.f85, sig := ⟨[.ro (.arr .u8 8), .ro (.arr .u8 8), .ro (.int .i64)], [(.own, false, .arr .u8 8)]⟩, loops := [(5, in20035), (8, in20036)], views := [] }
/-- impl.MeetOfParts -/
noncomputable def fd32 : FD := { id := 32, fn := Go.Proofs.Try.f32, sig := ⟨[.ro (.arr .u8 8), .ro (.arr .u8 8), .ro (.int .i64)], [(.own, false, .arr .u8 8), (.own, false, .int .i64)]⟩, loops := [], views := [] }
/-- laws.FnExactMeetOfParts -/
noncomputable def fd7 : FD := { id := 7, fn := Go.Proofs.Try.f7, sig := ⟨[.ro (.arr .u8 8), .ro (.arr .u8 8), .ro (.int .i64)], [(.own, false, .bool)]⟩, loops := [], views := [] }
/-- laws.szInt64S -/
noncomputable def fd86 : FD := { id := 86, fn := Go.Proofs.Try.f86, sig := ⟨[.ro (.slice (.int .i64)), .ro (.int .i64)], [(.own, false, .int .i64)]⟩, loops := [], views := [] }
noncomputable def in20037 : LoopInfo := ⟨20037, ⟨[.row .ro (.slice (.int .i64))], [(0, .w (.c (.sl 0))), (1, .w (.c (.int .i64))), (5, .w (.c (.int .i64)))]⟩, [(.exit 0, ⟨[], [(1, .w (.c (.int .i64)))]⟩), (.ret, ⟨[], [(4, .w (.c (.int .i64)))]⟩)]⟩
/-- laws.szInt64SS -/
noncomputable def fd33 : FD := { id := 33, fn := Go.Proofs.Try.f33, sig := ⟨[.ro (.slice (.slice (.int .i64))), .ro (.int .i64)], [(.own, false, .int .i64)]⟩, loops := [(5, in20037)], views := [] }
noncomputable def in20039 : LoopInfo := ⟨20039, ⟨[.row .ro (.int .i64), .row .own (.int .i64)], [(0, .w (.c (.sl 0))), (3, .w (.c (.sl 1))), (4, .w (.c (.int .i64)))]⟩, [(.exit 0, ⟨[.row .own (.int .i64)], [(3, .w (.c (.sl 0)))]⟩)]⟩
/-- laws.toInt64S -/
noncomputable def fd89 : FD := { id := 89, fn := Go.Proofs.Try.f89, sig := ⟨[.ro (.slice (.int .i64))], [(.own, false, .slice (.int .i64))]⟩, loops := [(3, in20039)], views := [] }
noncomputable def in20038 : LoopInfo := ⟨20038, ⟨[.row .ro (.slice (.int .i64)), .row .sh (.slice (.int .i64))], [(0, .w (.c (.sl 0))), (3, .w (.c (.sl 1))), (4, .w (.c (.int .i64)))]⟩, [(.exit 0, ⟨[.row .sh (.slice (.int .i64))], [(3, .w (.c (.sl 0)))]⟩)]⟩
/-- laws.toInt64SS -/
noncomputable def fd35 : FD := { id := 35, fn := Go.Proofs.Try.f35, sig := ⟨[.ro (.slice (.slice (.int .i64)))], [(.ro, false, .slice (.slice (.int .i64)))]⟩, loops := [(3, in20038)], views := [] }
noncomputable def in20040 : LoopInfo := ⟨20040, ⟨[.row .ro (.slice (.int .i64)), .box .own (.arr .u8 8), .box .own (.arr .i64 8), .box .own (.barr 8)], [(0, .w (.c (.sl 0))), (1, .w (.c (.int .i64))), (4, .w (.c (.ptr 1))), (6, .w (.c (.ptr 2))), (7, .w (.c (.ptr 3))), (8, .w (.c (.int .i64)))]⟩, [(.exit 0, ⟨[.box .own (.arr .u8 8), .box .own (.arr .i64 8)], [(1, .w (.c (.int .i64))), (4, .w (.c (.ptr 0))), (6, .w (.c (.ptr 1)))]⟩), (.ret, ⟨[.box .own (.arr .u8 8)], [(4, .w (.c (.ptr 0))), (5, .w (.c (.int .i64)))]⟩)]⟩
noncomputable def in20041 : LoopInfo := ⟨20041, ⟨[.row .ro (.slice (.int .i64)), .box .own (.arr .u8 8), .box .own (.arr .i64 8), .box .own (.barr 8)], [(0, .w (.c (.sl 0))), (1, .w (.c (.int .i64))), (4, .w (.c (.ptr 1))), (6, .w (.c (.ptr 2))), (7, .w (.c (.ptr 3))), (8, .w (.c (.int .i64))), (9, .w (.c (.int .i64)))]⟩, [(.exit 2, ⟨[.row .ro (.slice (.int .i64)), .box .own (.arr .u8 8), .box .own (.arr .i64 8), .box .own (.barr 8)], [(0, .w (.c (.sl 0))), (1, .w (.c (.int .i64))), (4, .w (.c (.ptr 1))), (6, .w (.c (.ptr 2))), (7, .w (.c (.ptr 3))), (8, .w (.c (.int .i64)))]⟩), (.ret, ⟨[.box .own (.arr .u8 8)], [(4, .w (.c (.ptr 0))), (5, .w (.c (.int .i64)))]⟩)]⟩
/-- spec.PartOfBlocks -/
noncomputable def fd34 : FD := { id := 34, fn := Go.Proofs.Try.f34, sig := ⟨[.ro (.slice (.slice (.int .i64))), .ro (.int .i64)], [(.own, false, .arr .u8 8), (.own, false, .int .i64)]⟩, loops := [(5, in20040), (8, in20041)], views := [] }
noncomputable def in20042 : LoopInfo := ⟨20042, ⟨[.box .own (.arr .u8 8), .row .own (.int .i64), .row .own (.bool), .row .ro (.slice (.int .i64))], [(1, .w (.c (.int .i64))), (4, .w (.c (.ptr 0))), (6, .w (.c (.sl 1))), (7, .w (.c (.sl 2))), (23, .w (.c (.sl 3))), (24, .w (.c (.int .i64))), (25, .w (.c (.int .i64)))]⟩, [(.exit 0, ⟨[.box .own (.arr .u8 8), .row .own (.int .i64)], [(4, .w (.c (.ptr 0))), (6, .w (.c (.sl 1)))]⟩), (.ret, ⟨[.box .own (.arr .u8 8)], [(4, .w (.c (.ptr 0))), (5, .w (.c (.int .i64)))]⟩)]⟩
noncomputable def in20043 : LoopInfo := ⟨20043, ⟨[.box .own (.arr .u8 8), .row .own (.int .i64), .row .own (.bool), .row .ro (.int .i64), .row .ro (.slice (.int .i64))], [(1, .w (.c (.int .i64))), (4, .w (.c (.ptr 0))), (6, .w (.c (.sl 1))), (7, .w (.c (.sl 2))), (9, .w (.c (.sl 3))), (23, .w (.c (.sl 4))), (24, .w (.c (.int .i64))), (25, .w (.c (.int .i64))), (33, .w (.c (.sl 3))), (34, .w (.c (.int .i64))), (35, .w (.c (.int .i64)))]⟩, [(.exit 2, ⟨[.box .own (.arr .u8 8), .row .own (.int .i64), .row .own (.bool), .row .ro (.slice (.int .i64))], [(1, .w (.c (.int .i64))), (4, .w (.c (.ptr 0))), (6, .w (.c (.sl 1))), (7, .w (.c (.sl 2))), (23, .w (.c (.sl 3))), (24, .w (.c (.int .i64))), (25, .w (.c (.int .i64)))]⟩), (.ret, ⟨[.box .own (.arr .u8 8)], [(4, .w (.c (.ptr 0))), (5, .w (.c (.int .i64)))]⟩)]⟩
/-- impl.PartOfBlocks -/
noncomputable def fd36 : FD := { id := 36, fn := Go.Proofs.Try.f36, sig := ⟨[.ro (.slice (.slice (.int .i64))), .ro (.int .i64)], [(.own, false, .arr .u8 8), (.own, false, .int .i64)]⟩, loops := [(5, in20042), (10, in20043)], views := [] }
noncomputable def in20044 : LoopInfo := ⟨20044, ⟨[.row .ro (.slice (.int .i64)), .row .ro (.slice (.int .i64))], [(0, .w (.c (.sl 0))), (1, .w (.c (.sl 1))), (5, .w (.c (.int .i64)))]⟩, [(.exit 0, ⟨[], []⟩), (.ret, ⟨[], [(4, .w (.c (.bool)))]⟩)]⟩
/-- laws.eqInt64SS -/
noncomputable def fd37 : FD := { id := 37, fn := Go.Proofs.Try.f37, sig := ⟨[.ro (.slice (.slice (.int .i64))), .ro (.slice (.slice (.int .i64)))], [(.own, false, .bool)]⟩, loops := [(4, in20044)], views := [] }
/-- laws.FnExactPartOfBlocks -/
noncomputable def fd8 : FD := { id := 8, fn := Go.Proofs.Try.f8, sig := ⟨[.ro (.slice (.slice (.int .i64))), .ro (.int .i64)], [(.own, false, .bool)]⟩, loops := [], views := [] }
noncomputable def in20045 : LoopInfo := ⟨20045, ⟨[.box .own (.arr .u8 8), .box .own (.arr .u8 8), .box .own (.arr .u8 8)], [(1, .w (.c (.int .i64))), (2, .w (.c (.ptr 0))), (4, .w (.c (.ptr 1))), (5, .w (.c (.ptr 2))), (6, .w (.c (.int .i64)))]⟩, [(.exit 0, ⟨[.box .own (.arr .u8 8), .box .own (.arr .u8 8)], [(4, .w (.c (.ptr 0))), (5, .w (.c (.ptr 1)))]⟩)]⟩
/-- spec.l07Back -/
noncomputable def fd97 : FD := { id := 97, fn := Go.Proofs.Try.f97, sig := ⟨[.ro (.arr .u8 8), .ro (.int .i64)], [(.own, false, .arr .u8 8)]⟩, loops := [(3, in20045)], views := [] }
noncomputable def in20046 : LoopInfo := ⟨20046, ⟨[.box .own (.arr .u8 8), .box .own (.arr .u8 8)], [(0, .w (.c (.int .i64))), (2, .w (.c (.ptr 0))), (3, .w (.c (.ptr 1))), (4, .w (.c (.int .i64)))]⟩, [(.exit 0, ⟨[.box .own (.arr .u8 8), .box .own (.arr .u8 8)], [(2, .w (.c (.ptr 0))), (3, .w (.c (.ptr 1)))]⟩)]⟩
/-- spec.l07Whole -/
noncomputable def fd96 : FD := { id := 96, fn := Go.Proofs.Try.f96, sig := ⟨[.ro (.int .i64)], [(.own, false, .arr .u8 8)]⟩, loops := [(3, in20046)], views := [] }
noncomputable def in20047 : LoopInfo := ⟨20047, ⟨[.box .own (.arr .u8 8), .box .own (.arr .u8 8), .box .own (.arr .u8 8), .box .own (.arr .u8 8)], [(2, .w (.c (.int .i64))), (3, .w (.c (.ptr 0))), (4, .w (.c (.ptr 1))), (6, .w (.c (.ptr 2))), (7, .w (.c (.ptr 3))), (8, .w (.c (.int .i64)))]⟩, [(.exit 0, ⟨[.box .own (.arr .u8 8), .box .own (.arr .u8 8)], [(6, .w (.c (.ptr 0))), (7, .w (.c (.ptr 1)))]⟩)]⟩
/-- spec.l07Then -/
noncomputable def fd95 : FD := { id := 95, fn := Go.Proofs.Try.f95, sig := ⟨[.ro (.arr .u8 8), .ro (.arr .u8 8), .ro (.int .i64)], [(.own, false, .arr .u8 8)]⟩, loops := [(3, in20047)], views := [] }
/-- spec.l07Complement -/
noncomputable def fd93 : FD := { id := 93, fn := Go.Proofs.Try.f93, sig := ⟨[.ro (.arr .u8 8), .ro (.int .i64)], [(.own, false, .arr .u8 8)]⟩, loops := [], views := [] }
/-- spec.ComplementOfPart -/
noncomputable def fd38 : FD := { id := 38, fn := Go.Proofs.Try.f38, sig := ⟨[.ro (.arr .u8 8), .ro (.int .i64)], [(.own, false, .arr .u8 8), (.own, false, .int .i64)]⟩, loops := [], views := [] }
noncomputable def in20048 : LoopInfo := ⟨20048, ⟨[.box .own (.arr .u8 8), .box .own (.arr .u8 8), .box .own (.arr .u8 8)], [(2, .w (.c (.ptr 0))), (4, .w (.c (.ptr 1))), (5, .w (.c (.ptr 2))), (8, .w (.c (.int .i64))), (9, .w (.c (.int .i64)))]⟩, [(.exit 0, ⟨[.box .own (.arr .u8 8), .box .own (.arr .u8 8)], [(4, .w (.c (.ptr 0))), (5, .w (.c (.ptr 1)))]⟩)]⟩
/-- impl.backOf -/
noncomputable def fd139 : FD := { id := 139, fn := Go.Proofs.Try.f139, sig := ⟨[.ro (.arr .u8 8), .ro (.int .i64)], [(.own, false, .arr .u8 8)]⟩, loops := [(3, in20048)], views := [] }
/-- impl.backPart -/
noncomputable def fd126 : FD := { id := 126, fn := Go.Proofs.Try.f126, sig := ⟨[.ro (.arr .u8 8), .ro (.int .i64)], [(.own, false, .arr .u8 8)]⟩, loops := [], views := [] }
noncomputable def in20049 : LoopInfo := ⟨20049, ⟨[.box .own (.arr .u8 8), .box .own (.arr .u8 8)], [(0, .w (.c (.int .i64))), (2, .w (.c (.ptr 0))), (3, .w (.c (.ptr 1))), (6, .w (.c (.int .i64))), (7, .w (.c (.int .i64)))]⟩, [(.exit 0, ⟨[.box .own (.arr .u8 8), .box .own (.arr .u8 8)], [(2, .w (.c (.ptr 0))), (3, .w (.c (.ptr 1)))]⟩)]⟩
/-- impl.wholePart -/
noncomputable def fd104 : FD := { id := 104, fn := Go.Proofs.Try.f104, sig := ⟨[.ro (.int .i64)], [(.own, false, .arr .u8 8)]⟩, loops := [(3, in20049)], views := [] }
noncomputable def in20050 : LoopInfo := ⟨20050, ⟨[.box .own (.arr .u8 8), .box .own (.arr .u8 8), .box .own (.arr .u8 8), .box .own (.arr .u8 8)], [(3, .w (.c (.ptr 0))), (4, .w (.c (.ptr 1))), (6, .w (.c (.ptr 2))), (7, .w (.c (.ptr 3))), (10, .w (.c (.int .i64))), (11, .w (.c (.int .i64)))]⟩, [(.exit 0, ⟨[.box .own (.arr .u8 8), .box .own (.arr .u8 8)], [(6, .w (.c (.ptr 0))), (7, .w (.c (.ptr 1)))]⟩)]⟩
/-- impl.then -/
noncomputable def fd138 : FD := { id := 138, fn := Go.Proofs.Try.f138, sig := ⟨[.ro (.arr .u8 8), .ro (.arr .u8 8), .ro (.int .i64)], [(.own, false, .arr .u8 8)]⟩, loops := [(3, in20050)], views := [] }
/-- impl.thenPart -/
noncomputable def fd125 : FD := { id := 125, fn := Go.Proofs.Try.f125, sig := ⟨[.ro (.arr .u8 8), .ro (.arr .u8 8), .ro (.int .i64)], [(.own, false, .arr .u8 8)]⟩, loops := [], views := [] }
/-- impl.complementPart -/
noncomputable def fd94 : FD := { id := 94, fn := Go.Proofs.Try.f94, sig := ⟨[.ro (.arr .u8 8), .ro (.int .i64)], [(.own, false, .arr .u8 8)]⟩, loops := [], views := [] }
/-- impl.ComplementOfPart -/
noncomputable def fd39 : FD := { id := 39, fn := Go.Proofs.Try.f39, sig := ⟨[.ro (.arr .u8 8), .ro (.int .i64)], [(.own, false, .arr .u8 8), (.own, false, .int .i64)]⟩, loops := [], views := [] }
/-- laws.FnExactComplementOfPart -/
noncomputable def fd9 : FD := { id := 9, fn := Go.Proofs.Try.f9, sig := ⟨[.ro (.arr .u8 8), .ro (.int .i64)], [(.own, false, .bool)]⟩, loops := [], views := [] }
/-- spec.JoinOfParts -/
noncomputable def fd40 : FD := { id := 40, fn := Go.Proofs.Try.f40, sig := ⟨[.ro (.arr .u8 8), .ro (.arr .u8 8), .ro (.int .i64)], [(.own, false, .arr .u8 8), (.own, false, .int .i64)]⟩, loops := [], views := [] }
noncomputable def in20051 : LoopInfo := ⟨20051, ⟨[.box .own (.arr .u8 8), .box .own (.arr .u8 8), .row .own (.int .i64)], [(4, .w (.c (.ptr 0))), (6, .w (.c (.ptr 1))), (8, .w (.c (.sl 2))), (31, .w (.c (.int .i64))), (32, .w (.c (.int .i64)))]⟩, [(.exit 0, ⟨[.box .own (.arr .u8 8), .row .own (.int .i64)], [(6, .w (.c (.ptr 0))), (8, .w (.c (.sl 1)))]⟩)]⟩
noncomputable def in20052 : LoopInfo := ⟨20052, ⟨[.box .own (.arr .u8 8), .row .own (.int .i64)], [(6, .w (.c (.ptr 0))), (8, .w (.c (.sl 1)))]⟩, [(.ret, ⟨[.box .own (.arr .u8 8)], [(6, .w (.c (.ptr 0))), (7, .w (.c (.int .i64)))]⟩)]⟩
/-- impl.JoinOfParts -/
noncomputable def fd41 : FD := { id := 41, fn := Go.Proofs.Try.f41, sig := ⟨[.ro (.arr .u8 8), .ro (.arr .u8 8), .ro (.int .i64)], [(.own, false, .arr .u8 8), (.own, false, .int .i64)]⟩, loops := [(5, in20051), (9, in20052)], views := [] }
/-- laws.FnExactJoinOfParts -/
noncomputable def fd10 : FD := { id := 10, fn := Go.Proofs.Try.f10, sig := ⟨[.ro (.arr .u8 8), .ro (.arr .u8 8), .ro (.int .i64)], [(.own, false, .bool)]⟩, loops := [], views := [] }
noncomputable def in20053 : LoopInfo := ⟨20053, ⟨[.row .own (.int .i64), .row .ro (.slice (.int .i64))], [(5, .w (.c (.sl 0))), (6, .w (.c (.sl 1))), (7, .w (.c (.int .i64)))]⟩, [(.exit 0, ⟨[.row .own (.int .i64)], [(5, .w (.c (.sl 0)))]⟩)]⟩
noncomputable def in20054 : LoopInfo := ⟨20054, ⟨[.row .own (.int .i64), .row .ro (.slice (.int .i64))], [(5, .w (.c (.sl 0))), (6, .w (.c (.sl 1))), (7, .w (.c (.int .i64))), (8, .w (.c (.int .i64)))]⟩, [(.exit 2, ⟨[.row .own (.int .i64), .row .ro (.slice (.int .i64))], [(5, .w (.c (.sl 0))), (6, .w (.c (.sl 1))), (7, .w (.c (.int .i64)))]⟩)]⟩
/-- spec.l07Word -/
noncomputable def fd98 : FD := { id := 98, fn := Go.Proofs.Try.f98, sig := ⟨[.ro (.arr .u8 8), .ro (.int .i64)], [(.own, false, .slice (.int .i64))]⟩, loops := [(3, in20053), (6, in20054)], views := [] }
/-- spec.WordOfPart -/
noncomputable def fd46 : FD := { id := 46, fn := Go.Proofs.Try.f46, sig := ⟨[.ro (.arr .u8 8), .ro (.int .i64)], [(.own, false, .pair (.int .i64) (.slice (.int .i64))), (.own, false, .int .i64)]⟩, loops := [], views := [] }
noncomputable def in20055 : LoopInfo := ⟨20055, ⟨[.row .own (.int .i64), .row .ro (.slice (.int .i64))], [(5, .w (.c (.sl 0))), (12, .w (.c (.sl 1))), (13, .w (.c (.int .i64))), (14, .w (.c (.int .i64)))]⟩, [(.exit 0, ⟨[.row .own (.int .i64)], [(5, .w (.c (.sl 0)))]⟩)]⟩
noncomputable def in20056 : LoopInfo := ⟨20056, ⟨[.row .own (.int .i64), .row .ro (.int .i64), .row .ro (.slice (.int .i64))], [(5, .w (.c (.sl 0))), (7, .w (.c (.sl 1))), (8, .w (.c (.int .i64))), (12, .w (.c (.sl 2))), (13, .w (.c (.int .i64))), (14, .w (.c (.int .i64)))]⟩, [(.exit 2, ⟨[.row .own (.int .i64), .row .ro (.slice (.int .i64))], [(5, .w (.c (.sl 0))), (12, .w (.c (.sl 1))), (13, .w (.c (.int .i64))), (14, .w (.c (.int .i64)))]⟩)]⟩
/-- impl.wordOfPart -/
noncomputable def fd99 : FD := { id := 99, fn := Go.Proofs.Try.f99, sig := ⟨[.ro (.arr .u8 8), .ro (.int .i64)], [(.own, false, .slice (.int .i64))]⟩, loops := [(3, in20055), (6, in20056)], views := [] }
/-- impl.WordOfPart -/
noncomputable def fd47 : FD := { id := 47, fn := Go.Proofs.Try.f47, sig := ⟨[.ro (.arr .u8 8), .ro (.int .i64)], [(.own, false, .pair (.int .i64) (.slice (.int .i64))), (.own, false, .int .i64)]⟩, loops := [], views := [] }
/-- laws.FnExactWordOfPart -/
noncomputable def fd12 : FD := { id := 12, fn := Go.Proofs.Try.f12, sig := ⟨[.ro (.arr .u8 8), .ro (.int .i64)], [(.own, false, .bool)]⟩, loops := [], views := [] }
/-- laws.szPartS -/
noncomputable def fd100 : FD := { id := 100, fn := Go.Proofs.Try.f100, sig := ⟨[.ro (.slice (.arr .u8 8)), .ro (.int .i64)], [(.own, false, .int .i64)]⟩, loops := [], views := [] }
/-- laws.szDual -/
noncomputable def fd48 : FD := { id := 48, fn := Go.Proofs.Try.f48, sig := ⟨[.ro (.pair (.int .i64) (.pair (.int .i64) (.slice (.arr .u8 8)))), .ro (.int .i64)], [(.own, false, .int .i64)]⟩, loops := [], views := [] }
noncomputable def in20057 : LoopInfo := ⟨20057, ⟨[.row .ro (.arr .u8 8), .row .own (.arr .u8 8)], [(0, .w (.c (.sl 0))), (3, .w (.c (.sl 1))), (4, .w (.c (.int .i64)))]⟩, [(.exit 0, ⟨[.row .own (.arr .u8 8)], [(3, .w (.c (.sl 0)))]⟩)]⟩
/-- laws.toPartS -/
noncomputable def fd102 : FD := { id := 102, fn := Go.Proofs.Try.f102, sig := ⟨[.ro (.slice (.arr .u8 8))], [(.own, false, .slice (.arr .u8 8))]⟩, loops := [(3, in20057)], views := [] }
/-- laws.toDual -/
noncomputable def fd50 : FD := { id := 50, fn := Go.Proofs.Try.f50, sig := ⟨[.ro (.pair (.int .i64) (.pair (.int .i64) (.slice (.arr .u8 8))))], [(.own, false, .pair (.int .i64) (.pair (.int .i64) (.slice (.arr .u8 8))))]⟩, loops := [], views := [] }
noncomputable def in20059 : LoopInfo := ⟨20059, ⟨[.row .ro (.int .i64), .box .own (.arr .u8 8), .box .own (.arr .u8 8)], [(0, .w (.c (.int .i64))), (1, .w (.c (.sl 0))), (4, .w (.c (.ptr 1))), (5, .w (.c (.ptr 2))), (6, .w (.c (.int .i64)))]⟩, [(.exit 0, ⟨[.row .ro (.int .i64), .box .own (.arr .u8 8), .box .own (.arr .u8 8)], [(1, .w (.c (.sl 0))), (4, .w (.c (.ptr 1))), (5, .w (.c (.ptr 2)))]⟩)]⟩
noncomputable def in20060 : LoopInfo := ⟨20060, ⟨[.row .ro (.int .i64), .box .own (.arr .u8 8), .box .own (.arr .u8 8)], [(1, .w (.c (.sl 0))), (4, .w (.c (.ptr 1))), (5, .w (.c (.ptr 2))), (7, .w (.c (.int .i64)))]⟩, [(.exit 2, ⟨[.box .own (.arr .u8 8), .box .own (.arr .u8 8)], [(4, .w (.c (.ptr 0))), (5, .w (.c (.ptr 1)))]⟩)]⟩
/-- spec.l01Strands -/
noncomputable def fd152 : FD := { id := 152, fn := Go.Proofs.Try.f152, sig := ⟨[.ro (.int .i64), .ro (.slice (.int .i64))], [(.own, false, .arr .u8 8)]⟩, loops := [(3, in20059), (7, in20060)], views := [] }
noncomputable def in20061 : LoopInfo := ⟨20061, ⟨[.box .own (.arr .u8 8), .box .own (.arr .u8 8), .box .own (.arr .u8 8)], [(0, .w (.c (.int .i64))), (4, .w (.c (.ptr 0))), (5, .w (.c (.ptr 1))), (6, .w (.c (.ptr 2))), (7, .w (.c (.int .i64)))]⟩, [(.exit 0, ⟨[.box .own (.arr .u8 8), .box .own (.arr .u8 8)], [(4, .w (.c (.ptr 0))), (6, .w (.c (.ptr 1)))]⟩)]⟩
/-- spec.l01Perm -/
noncomputable def fd140 : FD := { id := 140, fn := Go.Proofs.Try.f140, sig := ⟨[.ro (.int .i64), .ro (.slice (.int .i64))], [(.own, false, .arr .u8 8)]⟩, loops := [(3, in20061)], views := [] }
/-- spec.l07Fine -/
noncomputable def fd127 : FD := { id := 127, fn := Go.Proofs.Try.f127, sig := ⟨[.ro (.int .i64)], [(.own, false, .arr .u8 8)]⟩, loops := [], views := [] }
noncomputable def in20058 : LoopInfo := ⟨20058, ⟨[.box .own (.st [.int .i64, .int .i64, .sl 1]), .row .ro (.arr .u8 8)], [(1, .w (.c (.ptr 0))), (3, .w (.c (.int .i64))), (4, .w (.c (.int .i64)))]⟩, [(.exit 0, ⟨[], []⟩), (.ret, ⟨[], [(2, .w (.c (.bool)))]⟩)]⟩
/-- spec.l07Dual -/
noncomputable def fd101 : FD := { id := 101, fn := Go.Proofs.Try.f101, sig := ⟨[.ro (.pair (.int .i64) (.pair (.int .i64) (.slice (.arr .u8 8))))], [(.own, false, .bool)]⟩, loops := [(5, in20058)], views := [] }
/-- spec.IsDual -/
noncomputable def fd49 : FD := { id := 49, fn := Go.Proofs.Try.f49, sig := ⟨[.ro (.pair (.int .i64) (.pair (.int .i64) (.slice (.arr .u8 8))))], [(.own, false, .bool)]⟩, loops := [], views := [] }
noncomputable def in20063 : LoopInfo := ⟨20063, ⟨[.box .own (.arr .u8 8), .box .own (.arr .u8 8)], [(2, .w (.c (.ptr 0))), (3, .w (.c (.ptr 1))), (6, .w (.c (.int .i64))), (7, .w (.c (.int .i64)))]⟩, [(.exit 0, ⟨[.box .own (.arr .u8 8), .box .own (.arr .u8 8)], [(2, .w (.c (.ptr 0))), (3, .w (.c (.ptr 1)))]⟩)]⟩
/-- impl.nothing -/
noncomputable def fd128 : FD := { id := 128, fn := Go.Proofs.Try.f128, sig := ⟨[.ro (.int .i64)], [(.own, false, .arr .u8 8)]⟩, loops := [(3, in20063)], views := [] }
/-- impl.finePart -/
noncomputable def fd103 : FD := { id := 103, fn := Go.Proofs.Try.f103, sig := ⟨[.ro (.int .i64)], [(.own, false, .arr .u8 8)]⟩, loops := [], views := [] }
noncomputable def in20062 : LoopInfo := ⟨20062, ⟨[.box .own (.st [.int .i64, .int .i64, .sl 1]), .row .ro (.arr .u8 8)], [(1, .w (.c (.ptr 0))), (3, .w (.c (.int .i64))), (33, .w (.c (.sl 1))), (34, .w (.c (.int .i64))), (35, .w (.c (.int .i64)))]⟩, [(.exit 0, ⟨[], []⟩), (.ret, ⟨[], [(2, .w (.c (.bool)))]⟩)]⟩
/-- impl.IsDual -/
noncomputable def fd51 : FD := { id := 51, fn := Go.Proofs.Try.f51, sig := ⟨[.ro (.pair (.int .i64) (.pair (.int .i64) (.slice (.arr .u8 8))))], [(.own, false, .bool)]⟩, loops := [(5, in20062)], views := [] }
noncomputable def in20064 : LoopInfo := ⟨20064, ⟨[.row .ro (.arr .u8 8), .row .ro (.arr .u8 8)], [(0, .w (.c (.sl 0))), (1, .w (.c (.sl 1))), (5, .w (.c (.int .i64)))]⟩, [(.exit 0, ⟨[], []⟩), (.ret, ⟨[], [(4, .w (.c (.bool)))]⟩)]⟩
/-- laws.eqPartS -/
noncomputable def fd55 : FD := { id := 55, fn := Go.Proofs.Try.f55, sig := ⟨[.ro (.slice (.arr .u8 8)), .ro (.slice (.arr .u8 8))], [(.own, false, .bool)]⟩, loops := [(4, in20064)], views := [] }
/-- laws.eqDual -/
noncomputable def fd52 : FD := { id := 52, fn := Go.Proofs.Try.f52, sig := ⟨[.ro (.pair (.int .i64) (.pair (.int .i64) (.slice (.arr .u8 8)))), .ro (.pair (.int .i64) (.pair (.int .i64) (.slice (.arr .u8 8))))], [(.own, false, .bool)]⟩, loops := [], views := [] }
/-- laws.FnExactIsDual -/
noncomputable def fd13 : FD := { id := 13, fn := Go.Proofs.Try.f13, sig := ⟨[.ro (.pair (.int .i64) (.pair (.int .i64) (.slice (.arr .u8 8))))], [(.own, false, .bool)]⟩, loops := [], views := [] }
/-- laws.szBraid -/
noncomputable def fd58 : FD := { id := 58, fn := Go.Proofs.Try.f58, sig := ⟨[.ro (.pair (.int .i64) (.slice (.int .i64))), .ro (.int .i64)], [(.own, false, .int .i64)]⟩, loops := [], views := [] }
/-- laws.toBraid -/
noncomputable def fd60 : FD := { id := 60, fn := Go.Proofs.Try.f60, sig := ⟨[.ro (.pair (.int .i64) (.slice (.int .i64)))], [(.own, false, .pair (.int .i64) (.slice (.int .i64)))]⟩, loops := [], views := [] }
noncomputable def in20065 : LoopInfo := ⟨20065, ⟨[.box .own (.st [.int .i64, .sl 1]), .row .ro (.int .i64)], [(1, .w (.c (.ptr 0))), (3, .w (.c (.int .i64)))]⟩, [(.exit 0, ⟨[], []⟩), (.ret, ⟨[], [(2, .w (.c (.bool)))]⟩)]⟩
/-- spec.l01Is -/
noncomputable def fd111 : FD := { id := 111, fn := Go.Proofs.Try.f111, sig := ⟨[.ro (.pair (.int .i64) (.slice (.int .i64)))], [(.own, false, .bool)]⟩, loops := [(4, in20065)], views := [] }
noncomputable def in20068 : LoopInfo := ⟨20068, ⟨[.box .own (.st [.int .i64, .int .i64, .sl 1]), .row .ro (.arr .u8 8), .box .own (.st [.int .i64, .int .i64, .sl 3]), .row .own (.arr .u8 8), .row .own (.arr .u8 8)], [(2, .w (.c (.ptr 0))), (4, .w (.c (.ptr 2))), (5, .w (.c (.int .i64))), (6, .w (.c (.sl 4))), (7, .w (.c (.int .i64)))]⟩, [(.exit 0, ⟨[.box .own (.st [.int .i64, .int .i64, .sl 1]), .row .ro (.arr .u8 8), .box .own (.st [.int .i64, .int .i64, .sl 3]), .row .own (.arr .u8 8), .row .own (.arr .u8 8)], [(2, .w (.c (.ptr 0))), (4, .w (.c (.ptr 2))), (5, .w (.c (.int .i64))), (6, .w (.c (.sl 4)))]⟩)]⟩
noncomputable def in20069 : LoopInfo := ⟨20069, ⟨[.box .own (.st [.int .i64, .int .i64, .sl 1]), .row .own (.arr .u8 8), .row .own (.arr .u8 8), .box .own (.st [.int .i64, .int .i64, .sl 4]), .row .own (.arr .u8 8)], [(4, .w (.c (.ptr 0))), (5, .w (.c (.int .i64))), (6, .w (.c (.sl 2))), (9, .w (.c (.ptr 3))), (10, .w (.c (.int .i64)))]⟩, [(.exit 2, ⟨[.box .own (.st [.int .i64, .int .i64, .sl 1]), .row .own (.arr .u8 8), .box .own (.st [.int .i64, .int .i64, .sl 3]), .row .own (.arr .u8 8)], [(4, .w (.c (.ptr 0))), (9, .w (.c (.ptr 2)))]⟩)]⟩
/-- spec.l07Put -/
noncomputable def fd133 : FD := { id := 133, fn := Go.Proofs.Try.f133, sig := ⟨[.ro (.pair (.int .i64) (.pair (.int .i64) (.slice (.arr .u8 8)))), .ro (.arr .u8 8)], [(.own, false, .pair (.int .i64) (.pair (.int .i64) (.slice (.arr .u8 8))))]⟩, loops := [(4, in20068), (11, in20069)], views := [] }
noncomputable def in20066 : LoopInfo := ⟨20066, ⟨[.row .ro (.int .i64), .box .own (.st [.int .i64, .int .i64, .sl 2]), .row .own (.arr .u8 8), .box .own (.st [.int .i64, .int .i64, .sl 4]), .row .own (.arr .u8 8)], [(0, .w (.c (.int .i64))), (1, .w (.c (.sl 0))), (4, .w (.c (.ptr 1))), (5, .w (.c (.ptr 3))), (6, .w (.c (.int .i64)))]⟩, [(.exit 0, ⟨[.box .own (.st [.int .i64, .int .i64, .sl 1]), .row .own (.arr .u8 8), .box .own (.st [.int .i64, .int .i64, .sl 3]), .row .own (.arr .u8 8)], [(4, .w (.c (.ptr 0))), (5, .w (.c (.ptr 2)))]⟩)]⟩
noncomputable def in20067 : LoopInfo := ⟨20067, ⟨[.row .ro (.int .i64), .box .own (.st [.int .i64, .int .i64, .sl 2]), .row .own (.arr .u8 8), .box .own (.st [.int .i64, .int .i64, .sl 4]), .row .own (.arr .u8 8), .box .own (.arr .u8 8)], [(0, .w (.c (.int .i64))), (1, .w (.c (.sl 0))), (4, .w (.c (.ptr 1))), (5, .w (.c (.ptr 3))), (6, .w (.c (.int .i64))), (8, .w (.c (.ptr 5))), (9, .w (.c (.int .i64)))]⟩, [(.exit 2, ⟨[.row .ro (.int .i64), .box .own (.st [.int .i64, .int .i64, .sl 2]), .row .own (.arr .u8 8), .box .own (.st [.int .i64, .int .i64, .sl 4]), .row .own (.arr .u8 8), .box .own (.arr .u8 8)], [(0, .w (.c (.int .i64))), (1, .w (.c (.sl 0))), (4, .w (.c (.ptr 1))), (5, .w (.c (.ptr 3))), (6, .w (.c (.int .i64))), (8, .w (.c (.ptr 5)))]⟩)]⟩
/-- spec.l07Form -/
noncomputable def fd112 : FD := { id := 112, fn := Go.Proofs.Try.f112, sig := ⟨[.ro (.int .i64), .ro (.slice (.int .i64))], [(.own, false, .pair (.int .i64) (.pair (.int .i64) (.slice (.arr .u8 8))))]⟩, loops := [(3, in20066), (11, in20067)], views := [] }
/-- spec.DualForm -/
noncomputable def fd59 : FD := { id := 59, fn := Go.Proofs.Try.f59, sig := ⟨[.ro (.pair (.int .i64) (.slice (.int .i64)))], [(.own, false, .pair (.int .i64) (.pair (.int .i64) (.slice (.arr .u8 8)))), (.own, false, .int .i64)]⟩, loops := [], views := [] }
/-- impl.isLetter -/
noncomputable def fd134 : FD := { id := 134, fn := Go.Proofs.Try.f134, sig := ⟨[.ro (.int .i64), .ro (.int .i64)], [(.own, false, .bool)]⟩, loops := [], views := [] }
noncomputable def in20070 : LoopInfo := ⟨20070, ⟨[.box .own (.st [.int .i64, .sl 1]), .row .ro (.int .i64)], [(1, .w (.c (.ptr 0))), (16, .w (.c (.sl 1))), (17, .w (.c (.int .i64))), (18, .w (.c (.int .i64)))]⟩, [(.exit 0, ⟨[], []⟩), (.ret, ⟨[], [(2, .w (.c (.bool)))]⟩)]⟩
/-- impl.IsBraid -/
noncomputable def fd113 : FD := { id := 113, fn := Go.Proofs.Try.f113, sig := ⟨[.ro (.pair (.int .i64) (.slice (.int .i64)))], [(.own, false, .bool)]⟩, loops := [(4, in20070)], views := [] }
/-- impl.size -/
noncomputable def fd119 : FD := { id := 119, fn := Go.Proofs.Try.f119, sig := ⟨[.ro (.int .i64)], [(.own, false, .int .i64)]⟩, loops := [], views := [] }
/-- impl.exchange -/
noncomputable def fd135 : FD := { id := 135, fn := Go.Proofs.Try.f135, sig := ⟨[.ro (.int .i64), .ro (.int .i64)], [(.own, false, .arr .u8 8)]⟩, loops := [], views := [] }
noncomputable def in20072 : LoopInfo := ⟨20072, ⟨[.box .own (.st [.int .i64, .int .i64, .sl 1]), .row .own (.arr .u8 8)], [(0, .w (.c (.ptr 0))), (4, .w (.c (.int .i64))), (5, .w (.c (.int .i64)))]⟩, [(.exit 0, ⟨[.box .own (.st [.int .i64, .int .i64, .sl 1]), .row .own (.arr .u8 8)], [(0, .w (.c (.ptr 0))), (4, .w (.c (.int .i64)))]⟩)]⟩
noncomputable def in20073 : LoopInfo := ⟨20073, ⟨[.box .own (.st [.int .i64, .int .i64, .sl 1]), .row .own (.arr .u8 8)], [(0, .w (.c (.ptr 0))), (4, .w (.c (.int .i64)))]⟩, [(.exit 2, ⟨[.box .own (.st [.int .i64, .int .i64, .sl 1]), .row .own (.arr .u8 8)], [(0, .w (.c (.ptr 0))), (4, .w (.c (.int .i64)))]⟩)]⟩
noncomputable def in20074 : LoopInfo := ⟨20074, ⟨[.box .own (.st [.int .i64, .int .i64, .sl 1]), .row .own (.arr .u8 8)], [(0, .w (.c (.ptr 0))), (4, .w (.c (.int .i64)))]⟩, [(.exit 4, ⟨[.box .own (.st [.int .i64, .int .i64, .sl 1]), .row .own (.arr .u8 8)], [(0, .w (.c (.ptr 0)))]⟩)]⟩
/-- (*impl.Dual).put -/
noncomputable def fd136 : FD := { id := 136, fn := Go.Proofs.Try.f136, sig := ⟨[.box (.pair (.int .i64) (.pair (.int .i64) (.slice (.arr .u8 8)))), .ro (.arr .u8 8)], []⟩, loops := [(5, in20072), (11, in20073), (14, in20074)], views := [] }
noncomputable def in20075 : LoopInfo := ⟨20075, ⟨[.box .own (.st [.int .i64, .int .i64, .sl 1]), .row .own (.arr .u8 8), .box .own (.arr .u8 8)], [(0, .w (.c (.ptr 0))), (3, .w (.c (.ptr 2))), (4, .w (.c (.int .i64))), (21, .w (.c (.sl 1))), (22, .w (.c (.int .i64))), (23, .w (.c (.int .i64)))]⟩, [(.exit 0, ⟨[.box .own (.st [.int .i64, .int .i64, .sl 1]), .row .own (.arr .u8 8), .box .own (.arr .u8 8)], [(0, .w (.c (.ptr 0))), (3, .w (.c (.ptr 2))), (4, .w (.c (.int .i64)))]⟩)]⟩
/-- (*impl.Dual).putInverse -/
noncomputable def fd137 : FD := { id := 137, fn := Go.Proofs.Try.f137, sig := ⟨[.box (.pair (.int .i64) (.pair (.int .i64) (.slice (.arr .u8 8)))), .ro (.arr .u8 8)], []⟩, loops := [(4, in20075)], views := [] }
noncomputable def in20071 : LoopInfo := ⟨20071, ⟨[.box .own (.st [.int .i64, .sl 1]), .row .ro (.int .i64), .box .own (.st [.int .i64, .int .i64, .sl 3]), .row .own (.arr .u8 8), .box .own (.st [.int .i64, .int .i64, .sl 5]), .row .own (.arr .u8 8)], [(1, .w (.c (.ptr 0))), (2, .w (.c (.ptr 2))), (3, .w (.c (.ptr 4))), (11, .w (.c (.sl 1))), (12, .w (.c (.int .i64))), (13, .w (.c (.int .i64)))]⟩, [(.exit 0, ⟨[.box .own (.st [.int .i64, .int .i64, .sl 1]), .row .own (.arr .u8 8), .box .own (.st [.int .i64, .int .i64, .sl 3]), .row .own (.arr .u8 8)], [(2, .w (.c (.ptr 0))), (3, .w (.c (.ptr 2)))]⟩)]⟩
/-- impl.dualOf -/
noncomputable def fd114 : FD := { id := 114, fn := Go.Proofs.Try.f114, sig := ⟨[.ro (.pair (.int .i64) (.slice (.int .i64)))], [(.own, false, .pair (.int .i64) (.pair (.int .i64) (.slice (.arr .u8 8))))]⟩, loops := [(3, in20071)], views := [] }
/-- impl.DualForm -/
noncomputable def fd61 : FD := { id := 61, fn := Go.Proofs.Try.f61, sig := ⟨[.ro (.pair (.int .i64) (.slice (.int .i64)))], [(.own, false, .pair (.int .i64) (.pair (.int .i64) (.slice (.arr .u8 8)))), (.own, false, .int .i64)]⟩, loops := [], views := [] }
noncomputable def in20076 : LoopInfo := ⟨20076, ⟨[.row .own (.arr .u8 8)], [(0, .w (.c (.sl 0))), (1, .w (.c (.int .i64))), (5, .w (.c (.int .i64)))]⟩, [(.exit 0, ⟨[.row .own (.arr .u8 8)], [(0, .w (.c (.sl 0))), (1, .w (.c (.int .i64)))]⟩)]⟩
noncomputable def in20077 : LoopInfo := ⟨20077, ⟨[.row .own (.arr .u8 8)], [(0, .w (.c (.sl 0))), (1, .w (.c (.int .i64))), (5, .w (.c (.int .i64))), (6, .w (.c (.int .i64)))]⟩, [(.exit 2, ⟨[.row .own (.arr .u8 8)], [(0, .w (.c (.sl 0))), (1, .w (.c (.int .i64))), (5, .w (.c (.int .i64)))]⟩)]⟩
/-- laws.markPartS -/
noncomputable def fd56 : FD := { id := 56, fn := Go.Proofs.Try.f56, sig := ⟨[.mut (.slice (.arr .u8 8)), .ro (.int .i64)], [(.own, false, .int .i64)]⟩, loops := [(2, in20076), (5, in20077)], views := [] }
/-- laws.markDual -/
noncomputable def fd62 : FD := { id := 62, fn := Go.Proofs.Try.f62, sig := ⟨[.mut (.pair (.int .i64) (.pair (.int .i64) (.slice (.arr .u8 8)))), .ro (.int .i64)], [(.own, false, .int .i64)]⟩, loops := [], views := [] }
noncomputable def in20078 : LoopInfo := ⟨20078, ⟨[.row .ro (.arr .u8 8)], [(0, .w (.c (.sl 0))), (1, .w (.c (.int .i64))), (5, .w (.c (.int .i64)))]⟩, [(.exit 0, ⟨[], [(1, .w (.c (.int .i64)))]⟩), (.ret, ⟨[], [(4, .w (.c (.int .i64)))]⟩)]⟩
noncomputable def in20079 : LoopInfo := ⟨20079, ⟨[.row .ro (.arr .u8 8)], [(0, .w (.c (.sl 0))), (1, .w (.c (.int .i64))), (5, .w (.c (.int .i64))), (6, .w (.c (.int .i64)))]⟩, [(.exit 2, ⟨[.row .ro (.arr .u8 8)], [(0, .w (.c (.sl 0))), (1, .w (.c (.int .i64))), (5, .w (.c (.int .i64)))]⟩), (.ret, ⟨[], [(4, .w (.c (.int .i64)))]⟩)]⟩
/-- laws.heldPartS -/
noncomputable def fd57 : FD := { id := 57, fn := Go.Proofs.Try.f57, sig := ⟨[.ro (.slice (.arr .u8 8)), .ro (.int .i64)], [(.own, false, .int .i64)]⟩, loops := [(2, in20078), (5, in20079)], views := [] }
/-- laws.heldDual -/
noncomputable def fd63 : FD := { id := 63, fn := Go.Proofs.Try.f63, sig := ⟨[.ro (.pair (.int .i64) (.pair (.int .i64) (.slice (.arr .u8 8)))), .ro (.int .i64)], [(.own, false, .int .i64)]⟩, loops := [], views := [] }
/-- laws.FnExactDualForm -/
noncomputable def fd15 : FD := { id := 15, fn := Go.Proofs.Try.f15, sig := ⟨[.ro (.pair (.int .i64) (.slice (.int .i64)))], [(.own, false, .bool)]⟩, loops := [], views := [] }
noncomputable def in20080 : LoopInfo := ⟨20080, ⟨[.row .ro (.int .i64), .row .own (.int .i64)], [(0, .w (.c (.sl 0))), (3, .w (.c (.sl 1))), (4, .w (.c (.int .i64)))]⟩, [(.exit 0, ⟨[.row .own (.int .i64)], [(3, .w (.c (.sl 0)))]⟩)]⟩
/-- spec.l01Inverse -/
noncomputable def fd115 : FD := { id := 115, fn := Go.Proofs.Try.f115, sig := ⟨[.ro (.slice (.int .i64))], [(.own, false, .slice (.int .i64))]⟩, loops := [(3, in20080)], views := [] }
noncomputable def in20081 : LoopInfo := ⟨20081, ⟨[.box .own (.st [.int .i64, .int .i64, .sl 1]), .row .ro (.arr .u8 8), .box .own (.st [.int .i64, .sl 3]), .row .own (.int .i64), .row .own (.int .i64), .row .own (.int .i64)], [(1, .w (.c (.ptr 0))), (2, .w (.c (.ptr 2))), (4, .w (.c (.sl 4))), (5, .w (.c (.int .i64))), (6, .w (.c (.sl 5))), (7, .w (.c (.int .i64)))]⟩, [(.exit 0, ⟨[.box .own (.st [.int .i64, .int .i64, .sl 1]), .row .ro (.arr .u8 8), .box .own (.st [.int .i64, .sl 3]), .row .own (.int .i64), .row .own (.int .i64)], [(1, .w (.c (.ptr 0))), (2, .w (.c (.ptr 2))), (4, .w (.c (.sl 4))), (5, .w (.c (.int .i64)))]⟩)]⟩
noncomputable def in20082 : LoopInfo := ⟨20082, ⟨[.box .own (.st [.int .i64, .int .i64, .sl 1]), .row .ro (.arr .u8 8), .box .own (.st [.int .i64, .sl 3]), .row .own (.int .i64), .row .own (.int .i64)], [(1, .w (.c (.ptr 0))), (2, .w (.c (.ptr 2))), (4, .w (.c (.sl 4))), (5, .w (.c (.int .i64))), (8, .w (.c (.int .i64)))]⟩, [(.exit 2, ⟨[.box .own (.st [.int .i64, .sl 1]), .row .own (.int .i64), .row .own (.int .i64)], [(2, .w (.c (.ptr 0))), (4, .w (.c (.sl 2))), (5, .w (.c (.int .i64)))]⟩)]⟩
/-- spec.WordOfDual -/
noncomputable def fd64 : FD := { id := 64, fn := Go.Proofs.Try.f64, sig := ⟨[.ro (.pair (.int .i64) (.pair (.int .i64) (.slice (.arr .u8 8))))], [(.own, false, .pair (.int .i64) (.slice (.int .i64))), (.own, false, .int .i64)]⟩, loops := [(8, in20081), (12, in20082)], views := [] }
noncomputable def in20083 : LoopInfo := ⟨20083, ⟨[.box .own (.st [.int .i64, .sl 1]), .row .ro (.int .i64), .box .own (.st [.int .i64, .sl 3]), .row .own (.int .i64), .box .own (.st [.int .i64, .sl 5]), .row .own (.int .i64)], [(1, .w (.c (.ptr 0))), (2, .w (.c (.ptr 2))), (3, .w (.c (.ptr 4))), (4, .w (.c (.int .i64)))]⟩, [(.exit 0, ⟨[.box .own (.st [.int .i64, .sl 1]), .row .own (.int .i64), .box .own (.st [.int .i64, .sl 3]), .row .own (.int .i64)], [(2, .w (.c (.ptr 0))), (3, .w (.c (.ptr 2)))]⟩)]⟩
/-- impl.reversed -/
noncomputable def fd117 : FD := { id := 117, fn := Go.Proofs.Try.f117, sig := ⟨[.ro (.pair (.int .i64) (.slice (.int .i64)))], [(.own, false, .pair (.int .i64) (.slice (.int .i64)))]⟩, loops := [(3, in20083)], views := [] }
/-- impl.opposite -/
noncomputable def fd118 : FD := { id := 118, fn := Go.Proofs.Try.f118, sig := ⟨[.ro (.int .i64)], [(.own, false, .int .i64)]⟩, loops := [], views := [] }
noncomputable def in20084 : LoopInfo := ⟨20084, ⟨[.box .own (.st [.int .i64, .sl 1]), .row .own (.int .i64), .box .own (.st [.int .i64, .sl 3]), .row .own (.int .i64), .row .ro (.int .i64)], [(1, .fn 118 []), (4, .w (.c (.ptr 0))), (5, .w (.c (.ptr 2))), (12, .w (.c (.sl 4))), (13, .w (.c (.int .i64))), (14, .w (.c (.int .i64)))]⟩, [(.exit 0, ⟨[.box .own (.st [.int .i64, .sl 1]), .row .own (.int .i64), .box .own (.st [.int .i64, .sl 3]), .row .own (.int .i64)], [(4, .w (.c (.ptr 0))), (5, .w (.c (.ptr 2)))]⟩)]⟩
/-- impl.letterBy -/
noncomputable def fd10000 : FD := { id := 116, fn := Go.Proofs.Try.f116, sig := ⟨[.ro (.pair (.int .i64) (.slice (.int .i64))), .fn 118 []], [(.own, false, .pair (.int .i64) (.slice (.int .i64)))]⟩, loops := [(3, in20084)], views := [] }
/-- impl.joined -/
noncomputable def fd120 : FD := { id := 120, fn := Go.Proofs.Try.f120, sig := ⟨[.ro (.pair (.int .i64) (.slice (.int .i64))), .ro (.pair (.int .i64) (.slice (.int .i64)))], [(.own, false, .pair (.int .i64) (.slice (.int .i64)))]⟩, loops := [], views := [] }
noncomputable def in20085 : LoopInfo := ⟨20085, ⟨[.box .own (.st [.int .i64, .int .i64, .sl 1]), .row .ro (.arr .u8 8), .box .own (.st [.int .i64, .sl 3]), .row .own (.int .i64), .box .own (.st [.int .i64, .sl 5]), .row .own (.int .i64), .box .own (.st [.int .i64, .sl 7]), .row .own (.int .i64)], [(1, .w (.c (.ptr 0))), (2, .w (.c (.ptr 2))), (4, .w (.c (.ptr 4))), (5, .w (.c (.ptr 6))), (32, .w (.c (.int .i64))), (33, .w (.c (.int .i64)))]⟩, [(.exit 0, ⟨[.box .own (.st [.int .i64, .int .i64, .sl 1]), .row .ro (.arr .u8 8), .box .own (.st [.int .i64, .sl 3]), .row .own (.int .i64), .box .own (.st [.int .i64, .sl 5]), .row .own (.int .i64)], [(1, .w (.c (.ptr 0))), (2, .w (.c (.ptr 2))), (4, .w (.c (.ptr 4)))]⟩)]⟩
noncomputable def in20086 : LoopInfo := ⟨20086, ⟨[.box .own (.st [.int .i64, .int .i64, .sl 1]), .row .ro (.arr .u8 8), .box .own (.st [.int .i64, .sl 3]), .row .own (.int .i64), .box .own (.st [.int .i64, .sl 5]), .row .own (.int .i64)], [(1, .w (.c (.ptr 0))), (2, .w (.c (.ptr 2))), (4, .w (.c (.ptr 4))), (40, .w (.c (.sl 1))), (41, .w (.c (.int .i64))), (42, .w (.c (.int .i64)))]⟩, [(.exit 2, ⟨[.box .own (.st [.int .i64, .sl 1]), .row .own (.int .i64), .box .own (.st [.int .i64, .sl 3]), .row .own (.int .i64)], [(2, .w (.c (.ptr 0))), (4, .w (.c (.ptr 2)))]⟩)]⟩
/-- impl.WordOfDual -/
noncomputable def fd65 : FD := { id := 65, fn := Go.Proofs.Try.f65, sig := ⟨[.ro (.pair (.int .i64) (.pair (.int .i64) (.slice (.arr .u8 8))))], [(.own, false, .pair (.int .i64) (.slice (.int .i64))), (.own, false, .int .i64)]⟩, loops := [(8, in20085), (12, in20086)], views := [] }
/-- laws.FnExactWordOfDual -/
noncomputable def fd16 : FD := { id := 16, fn := Go.Proofs.Try.f16, sig := ⟨[.ro (.pair (.int .i64) (.pair (.int .i64) (.slice (.arr .u8 8))))], [(.own, false, .bool)]⟩, loops := [], views := [] }
noncomputable def in20087 : LoopInfo := ⟨20087, ⟨[.box .own (.st [.int .i64, .int .i64, .sl 1]), .row .ro (.arr .u8 8), .box .own (.st [.int .i64, .int .i64, .sl 3]), .row .ro (.arr .u8 8)], [(2, .w (.c (.ptr 0))), (3, .w (.c (.ptr 2))), (5, .w (.c (.int .i64)))]⟩, [(.exit 0, ⟨[], []⟩), (.ret, ⟨[], [(4, .w (.c (.bool)))]⟩)]⟩
/-- spec.l07Same -/
noncomputable def fd121 : FD := { id := 121, fn := Go.Proofs.Try.f121, sig := ⟨[.ro (.pair (.int .i64) (.pair (.int .i64) (.slice (.arr .u8 8)))), .ro (.pair (.int .i64) (.pair (.int .i64) (.slice (.arr .u8 8))))], [(.own, false, .bool)]⟩, loops := [(4, in20087)], views := [] }
/-- spec.EqualByBands -/
noncomputable def fd66 : FD := { id := 66, fn := Go.Proofs.Try.f66, sig := ⟨[.ro (.pair (.int .i64) (.slice (.int .i64))), .ro (.pair (.int .i64) (.slice (.int .i64)))], [(.own, false, .bool), (.own, false, .int .i64)]⟩, loops := [], views := [] }
noncomputable def in20088 : LoopInfo := ⟨20088, ⟨[.row .ro (.arr .u8 8), .row .ro (.arr .u8 8)], [(0, .w (.c (.sl 0))), (1, .w (.c (.sl 1))), (12, .w (.c (.int .i64))), (13, .w (.c (.int .i64)))]⟩, [(.exit 0, ⟨[], []⟩), (.ret, ⟨[], [(4, .w (.c (.bool)))]⟩)]⟩
/-- slices.Equal[[]impl.Part,impl.Part] -/
noncomputable def fd122 : FD := { id := 122, fn := Go.Proofs.Try.f122, sig := ⟨[.ro (.slice (.arr .u8 8)), .ro (.slice (.arr .u8 8))], [(.own, false, .bool)]⟩, loops := [(4, in20088)], views := [] }
/-- impl.EqualByBands -/
noncomputable def fd67 : FD := { id := 67, fn := Go.Proofs.Try.f67, sig := ⟨[.ro (.pair (.int .i64) (.slice (.int .i64))), .ro (.pair (.int .i64) (.slice (.int .i64)))], [(.own, false, .bool), (.own, false, .int .i64)]⟩, loops := [], views := [] }
/-- laws.FnExactEqualByBands -/
noncomputable def fd17 : FD := { id := 17, fn := Go.Proofs.Try.f17, sig := ⟨[.ro (.pair (.int .i64) (.slice (.int .i64))), .ro (.pair (.int .i64) (.slice (.int .i64)))], [(.own, false, .bool)]⟩, loops := [], views := [] }
noncomputable def fdTab : List (Nat × FD) := [(68, fd68), (69, fd69), (18, fd18), (70, fd70), (71, fd71), (19, fd19), (72, fd72), (20, fd20), (73, fd73), (21, fd21), (74, fd74), (22, fd22), (3, fd3), (24, fd24), (123, fd123), (88, fd88), (87, fd87), (75, fd75), (23, fd23), (76, fd76), (124, fd124), (90, fd90), (91, fd91), (92, fd92), (77, fd77), (78, fd78), (25, fd25), (4, fd4), (79, fd79), (26, fd26), (80, fd80), (27, fd27), (28, fd28), (5, fd5), (81, fd81), (29, fd29), (82, fd82), (30, fd30), (6, fd6), (83, fd83), (84, fd84), (31, fd31), (85, fd85), (32, fd32), (7, fd7), (86, fd86), (33, fd33), (89, fd89), (35, fd35), (34, fd34), (36, fd36), (37, fd37), (8, fd8), (97, fd97), (96, fd96), (95, fd95), (93, fd93), (38, fd38), (139, fd139), (126, fd126), (104, fd104), (138, fd138), (125, fd125), (94, fd94), (39, fd39), (9, fd9), (40, fd40), (41, fd41), (10, fd10), (98, fd98), (46, fd46), (99, fd99), (47, fd47), (12, fd12), (100, fd100), (48, fd48), (102, fd102), (50, fd50), (152, fd152), (140, fd140), (127, fd127), (101, fd101), (49, fd49), (128, fd128), (103, fd103), (51, fd51), (55, fd55), (52, fd52), (13, fd13), (58, fd58), (60, fd60), (111, fd111), (133, fd133), (112, fd112), (59, fd59), (134, fd134), (113, fd113), (119, fd119), (135, fd135), (136, fd136), (137, fd137), (114, fd114), (61, fd61), (56, fd56), (62, fd62), (57, fd57), (63, fd63), (15, fd15), (115, fd115), (64, fd64), (117, fd117), (118, fd118), (10000, fd10000), (120, fd120), (65, fd65), (16, fd16), (121, fd121), (66, fd66), (122, fd122), (67, fd67), (17, fd17)]
noncomputable def ldTab : List (Nat × LD) := [(20000, ⟨69, 3, in20000⟩), (20001, ⟨69, 8, in20001⟩), (20002, ⟨71, 3, in20002⟩), (20003, ⟨71, 7, in20003⟩), (20004, ⟨72, 4, in20004⟩), (20005, ⟨73, 2, in20005⟩), (20006, ⟨74, 2, in20006⟩), (20007, ⟨24, 3, in20007⟩), (20008, ⟨123, 3, in20008⟩), (20009, ⟨123, 11, in20009⟩), (20010, ⟨123, 14, in20010⟩), (20011, ⟨88, 3, in20011⟩), (20012, ⟨88, 7, in20012⟩), (20013, ⟨87, 2, in20013⟩), (20014, ⟨87, 5, in20014⟩), (20015, ⟨87, 8, in20015⟩), (20016, ⟨87, 11, in20016⟩), (20017, ⟨124, 3, in20017⟩), (20019, ⟨91, 2, in20019⟩), (20020, ⟨92, 3, in20020⟩), (20021, ⟨92, 7, in20021⟩), (20018, ⟨77, 3, in20018⟩), (20022, ⟨78, 3, in20022⟩), (20023, ⟨78, 6, in20023⟩), (20024, ⟨78, 9, in20024⟩), (20025, ⟨78, 12, in20025⟩), (20026, ⟨79, 3, in20026⟩), (20027, ⟨80, 4, in20027⟩), (20028, ⟨28, 2, in20028⟩), (20029, ⟨81, 4, in20029⟩), (20030, ⟨81, 9, in20030⟩), (20031, ⟨82, 4, in20031⟩), (20032, ⟨82, 9, in20032⟩), (20033, ⟨84, 5, in20033⟩), (20034, ⟨84, 8, in20034⟩), (20035, ⟨85, 5, in20035⟩), (20036, ⟨85, 8, in20036⟩), (20037, ⟨33, 5, in20037⟩), (20039, ⟨89, 3, in20039⟩), (20038, ⟨35, 3, in20038⟩), (20040, ⟨34, 5, in20040⟩), (20041, ⟨34, 8, in20041⟩), (20042, ⟨36, 5, in20042⟩), (20043, ⟨36, 10, in20043⟩), (20044, ⟨37, 4, in20044⟩), (20045, ⟨97, 3, in20045⟩), (20046, ⟨96, 3, in20046⟩), (20047, ⟨95, 3, in20047⟩), (20048, ⟨139, 3, in20048⟩), (20049, ⟨104, 3, in20049⟩), (20050, ⟨138, 3, in20050⟩), (20051, ⟨41, 5, in20051⟩), (20052, ⟨41, 9, in20052⟩), (20053, ⟨98, 3, in20053⟩), (20054, ⟨98, 6, in20054⟩), (20055, ⟨99, 3, in20055⟩), (20056, ⟨99, 6, in20056⟩), (20057, ⟨102, 3, in20057⟩), (20059, ⟨152, 3, in20059⟩), (20060, ⟨152, 7, in20060⟩), (20061, ⟨140, 3, in20061⟩), (20058, ⟨101, 5, in20058⟩), (20063, ⟨128, 3, in20063⟩), (20062, ⟨51, 5, in20062⟩), (20064, ⟨55, 4, in20064⟩), (20065, ⟨111, 4, in20065⟩), (20068, ⟨133, 4, in20068⟩), (20069, ⟨133, 11, in20069⟩), (20066, ⟨112, 3, in20066⟩), (20067, ⟨112, 11, in20067⟩), (20070, ⟨113, 4, in20070⟩), (20072, ⟨136, 5, in20072⟩), (20073, ⟨136, 11, in20073⟩), (20074, ⟨136, 14, in20074⟩), (20075, ⟨137, 4, in20075⟩), (20071, ⟨114, 3, in20071⟩), (20076, ⟨56, 2, in20076⟩), (20077, ⟨56, 5, in20077⟩), (20078, ⟨57, 2, in20078⟩), (20079, ⟨57, 5, in20079⟩), (20080, ⟨115, 3, in20080⟩), (20081, ⟨64, 8, in20081⟩), (20082, ⟨64, 12, in20082⟩), (20083, ⟨117, 3, in20083⟩), (20084, ⟨10000, 3, in20084⟩), (20085, ⟨65, 8, in20085⟩), (20086, ⟨65, 12, in20086⟩), (20087, ⟨121, 4, in20087⟩), (20088, ⟨122, 4, in20088⟩)]
noncomputable def pickTab : List ((FuncId × List FuncId) × Nat) := [((116, [118]), 10000)]
noncomputable def pick (f : FuncId) : List FuncId → Nat
  | [] => f
  | l => (pickTab.lookup (f, l)).getD 0
noncomputable def E : Env := ⟨fun T => tyTab.lookup T, pick, fun f => fdTab.lookup f, fun f => ldTab.lookup f⟩
/-- What a call answers. -/
noncomputable def R : Oracle := ev E
theorem R_ev (f : Nat) (l : List TV) : R f l = ev E f l := rfl
def is_l01In : Nat := 68
def is_l07Band : Nat := 69
def is_l07Band_3 : Nat := 20000
def is_l07Band_8 : Nat := 20001
def is_BandOf : Nat := 18
def ii_within : Nat := 70
def ii_band : Nat := 71
def ii_band_3 : Nat := 20002
def ii_band_7 : Nat := 20003
def ii_BandOf : Nat := 19
def iw_eqInt64S : Nat := 72
def iw_eqInt64S_4 : Nat := 20004
def iw_eqBraid : Nat := 20
def iw_markInt64S : Nat := 73
def iw_markInt64S_2 : Nat := 20005
def iw_markBraid : Nat := 21
def iw_heldInt64S : Nat := 74
def iw_heldInt64S_2 : Nat := 20006
def iw_heldBraid : Nat := 22
def iw_FnExactBandOf : Nat := 3
def iw_toPart : Nat := 24
def iw_toPart_3 : Nat := 20007
def is_l07Least : Nat := 123
def is_l07Least_3 : Nat := 20008
def is_l07Least_11 : Nat := 20009
def is_l07Least_14 : Nat := 20010
def is_l07Made : Nat := 88
def is_l07Made_3 : Nat := 20011
def is_l07Made_7 : Nat := 20012
def is_l07Crossing : Nat := 87
def is_l07Crossing_2 : Nat := 20013
def is_l07Crossing_5 : Nat := 20014
def is_l07Crossing_8 : Nat := 20015
def is_l07Crossing_11 : Nat := 20016
def is_l07Is : Nat := 75
def is_IsPart : Nat := 23
def ii_isCount : Nat := 76
def ii_strandsOf : Nat := 124
def ii_strandsOf_3 : Nat := 20017
def ii_fineGroups : Nat := 90
def i_i_groups__merge : Nat := 91
def i_i_groups__merge_2 : Nat := 20019
def i_i_groups__part : Nat := 92
def i_i_groups__part_3 : Nat := 20020
def i_i_groups__part_7 : Nat := 20021
def ii_groupsOf : Nat := 77
def ii_groupsOf_3 : Nat := 20018
def i_i_groups__crossing : Nat := 78
def i_i_groups__crossing_3 : Nat := 20022
def i_i_groups__crossing_6 : Nat := 20023
def i_i_groups__crossing_9 : Nat := 20024
def i_i_groups__crossing_12 : Nat := 20025
def ii_IsPart : Nat := 25
def iw_FnExactIsPart : Nat := 4
def is_l07Turn : Nat := 79
def is_l07Turn_3 : Nat := 20026
def is_TurnOfPart : Nat := 26
def ii_turnPart : Nat := 80
def ii_turnPart_4 : Nat := 20027
def ii_TurnOfPart : Nat := 27
def iw_eqPart : Nat := 28
def iw_eqPart_2 : Nat := 20028
def iw_FnExactTurnOfPart : Nat := 5
def is_l07Blocks : Nat := 81
def is_l07Blocks_4 : Nat := 20029
def is_l07Blocks_9 : Nat := 20030
def is_RankOf : Nat := 29
def ii_blocksOf : Nat := 82
def ii_blocksOf_4 : Nat := 20031
def ii_blocksOf_9 : Nat := 20032
def ii_RankOf : Nat := 30
def iw_FnExactRankOf : Nat := 6
def is_l07Two : Nat := 83
def is_l07Meet : Nat := 84
def is_l07Meet_5 : Nat := 20033
def is_l07Meet_8 : Nat := 20034
def is_MeetOfParts : Nat := 31
def ii_meetParts : Nat := 85
def ii_meetParts_5 : Nat := 20035
def ii_meetParts_8 : Nat := 20036
def ii_MeetOfParts : Nat := 32
def iw_FnExactMeetOfParts : Nat := 7
def iw_szInt64S : Nat := 86
def iw_szInt64SS : Nat := 33
def iw_szInt64SS_5 : Nat := 20037
def iw_toInt64S : Nat := 89
def iw_toInt64S_3 : Nat := 20039
def iw_toInt64SS : Nat := 35
def iw_toInt64SS_3 : Nat := 20038
def is_PartOfBlocks : Nat := 34
def is_PartOfBlocks_5 : Nat := 20040
def is_PartOfBlocks_8 : Nat := 20041
def ii_PartOfBlocks : Nat := 36
def ii_PartOfBlocks_5 : Nat := 20042
def ii_PartOfBlocks_10 : Nat := 20043
def iw_eqInt64SS : Nat := 37
def iw_eqInt64SS_4 : Nat := 20044
def iw_FnExactPartOfBlocks : Nat := 8
def is_l07Back : Nat := 97
def is_l07Back_3 : Nat := 20045
def is_l07Whole : Nat := 96
def is_l07Whole_3 : Nat := 20046
def is_l07Then : Nat := 95
def is_l07Then_3 : Nat := 20047
def is_l07Complement : Nat := 93
def is_ComplementOfPart : Nat := 38
def ii_backOf : Nat := 139
def ii_backOf_3 : Nat := 20048
def ii_backPart : Nat := 126
def ii_wholePart : Nat := 104
def ii_wholePart_3 : Nat := 20049
def ii_then : Nat := 138
def ii_then_3 : Nat := 20050
def ii_thenPart : Nat := 125
def ii_complementPart : Nat := 94
def ii_ComplementOfPart : Nat := 39
def iw_FnExactComplementOfPart : Nat := 9
def is_JoinOfParts : Nat := 40
def ii_JoinOfParts : Nat := 41
def ii_JoinOfParts_5 : Nat := 20051
def ii_JoinOfParts_9 : Nat := 20052
def iw_FnExactJoinOfParts : Nat := 10
def is_l07Word : Nat := 98
def is_l07Word_3 : Nat := 20053
def is_l07Word_6 : Nat := 20054
def is_WordOfPart : Nat := 46
def ii_wordOfPart : Nat := 99
def ii_wordOfPart_3 : Nat := 20055
def ii_wordOfPart_6 : Nat := 20056
def ii_WordOfPart : Nat := 47
def iw_FnExactWordOfPart : Nat := 12
def iw_szPartS : Nat := 100
def iw_szDual : Nat := 48
def iw_toPartS : Nat := 102
def iw_toPartS_3 : Nat := 20057
def iw_toDual : Nat := 50
def is_l01Strands : Nat := 152
def is_l01Strands_3 : Nat := 20059
def is_l01Strands_7 : Nat := 20060
def is_l01Perm : Nat := 140
def is_l01Perm_3 : Nat := 20061
def is_l07Fine : Nat := 127
def is_l07Dual : Nat := 101
def is_l07Dual_5 : Nat := 20058
def is_IsDual : Nat := 49
def ii_nothing : Nat := 128
def ii_nothing_3 : Nat := 20063
def ii_finePart : Nat := 103
def ii_IsDual : Nat := 51
def ii_IsDual_5 : Nat := 20062
def iw_eqPartS : Nat := 55
def iw_eqPartS_4 : Nat := 20064
def iw_eqDual : Nat := 52
def iw_FnExactIsDual : Nat := 13
def iw_szBraid : Nat := 58
def iw_toBraid : Nat := 60
def is_l01Is : Nat := 111
def is_l01Is_4 : Nat := 20065
def is_l07Put : Nat := 133
def is_l07Put_4 : Nat := 20068
def is_l07Put_11 : Nat := 20069
def is_l07Form : Nat := 112
def is_l07Form_3 : Nat := 20066
def is_l07Form_11 : Nat := 20067
def is_DualForm : Nat := 59
def ii_isLetter : Nat := 134
def ii_IsBraid : Nat := 113
def ii_IsBraid_4 : Nat := 20070
def ii_size : Nat := 119
def ii_exchange : Nat := 135
def i__i_Dual__put : Nat := 136
def i__i_Dual__put_5 : Nat := 20072
def i__i_Dual__put_11 : Nat := 20073
def i__i_Dual__put_14 : Nat := 20074
def i__i_Dual__putInverse : Nat := 137
def i__i_Dual__putInverse_4 : Nat := 20075
def ii_dualOf : Nat := 114
def ii_dualOf_3 : Nat := 20071
def ii_DualForm : Nat := 61
def iw_markPartS : Nat := 56
def iw_markPartS_2 : Nat := 20076
def iw_markPartS_5 : Nat := 20077
def iw_markDual : Nat := 62
def iw_heldPartS : Nat := 57
def iw_heldPartS_2 : Nat := 20078
def iw_heldPartS_5 : Nat := 20079
def iw_heldDual : Nat := 63
def iw_FnExactDualForm : Nat := 15
def is_l01Inverse : Nat := 115
def is_l01Inverse_3 : Nat := 20080
def is_WordOfDual : Nat := 64
def is_WordOfDual_8 : Nat := 20081
def is_WordOfDual_12 : Nat := 20082
def ii_reversed : Nat := 117
def ii_reversed_3 : Nat := 20083
def ii_opposite : Nat := 118
def ii_letterBy : Nat := 10000
def ii_letterBy_3 : Nat := 20084
def ii_joined : Nat := 120
def ii_WordOfDual : Nat := 65
def ii_WordOfDual_8 : Nat := 20085
def ii_WordOfDual_12 : Nat := 20086
def iw_FnExactWordOfDual : Nat := 16
def is_l07Same : Nat := 121
def is_l07Same_4 : Nat := 20087
def is_EqualByBands : Nat := 66
def ig_Equal___i_Part_i_Part_ : Nat := 122
def ig_Equal___i_Part_i_Part__4 : Nat := 20088
def ii_EqualByBands : Nat := 67
def iw_FnExactEqualByBands : Nat := 17
end Go.Ev.Ytadjhggdddbicaa
