/- What the evaluator knows of this program. -/
import Derived.Test.YtolpnaiincngjaaProg
import Derived.Test.YtolpnaiincngjaaV1
namespace Go.Ev.Ytolpnaiincngjaa
open Go.Ev
@[reducible] noncomputable def tA8 (x : List Int) : TV := ⟨.arr .u8 8, x⟩
@[reducible] noncomputable def gA8 (l : List TV) (i : Nat) : List Int := getTV (.arr .u8 8) l i
@[reducible] noncomputable def tAB8 (x : List Bool) : TV := ⟨.barr 8, x⟩
@[reducible] noncomputable def gAB8 (l : List TV) (i : Nat) : List Bool := getTV (.barr 8) l i
@[reducible] noncomputable def tB (x : Bool) : TV := ⟨.bool, x⟩
@[reducible] noncomputable def gB (l : List TV) (i : Nat) : Bool := getTV (.bool) l i
@[reducible] noncomputable def tI (x : Int) : TV := ⟨.int .i64, x⟩
@[reducible] noncomputable def gI (l : List TV) (i : Nat) : Int := getTV (.int .i64) l i
@[reducible] noncomputable def tLA8 (x : List (List Int)) : TV := ⟨.slice (.arr .u8 8), x⟩
@[reducible] noncomputable def gLA8 (l : List TV) (i : Nat) : List (List Int) := getTV (.slice (.arr .u8 8)) l i
@[reducible] noncomputable def tLI (x : List Int) : TV := ⟨.slice (.int .i64), x⟩
@[reducible] noncomputable def gLI (l : List TV) (i : Nat) : List Int := getTV (.slice (.int .i64)) l i
@[reducible] noncomputable def tPILI (x : Int × List Int) : TV := ⟨.pair (.int .i64) (.slice (.int .i64)), x⟩
@[reducible] noncomputable def gPILI (l : List TV) (i : Nat) : Int × List Int := getTV (.pair (.int .i64) (.slice (.int .i64))) l i
@[reducible] noncomputable def tPIPILA8 (x : Int × Int × List (List Int)) : TV := ⟨.pair (.int .i64) (.pair (.int .i64) (.slice (.arr .u8 8))), x⟩
@[reducible] noncomputable def gPIPILA8 (l : List TV) (i : Nat) : Int × Int × List (List Int) := getTV (.pair (.int .i64) (.pair (.int .i64) (.slice (.arr .u8 8)))) l i
@[reducible] noncomputable def tU64 (x : Int) : TV := ⟨.int .u64, x⟩
@[reducible] noncomputable def gU64 (l : List TV) (i : Nat) : Int := getTV (.int .u64) l i
noncomputable def tyTab : List (Nat × Ty) := [(2, .int .i64), (3, .int .i64), (4, .bool), (5, .int .u8), (6, .int .u8), (7, .pair (.int .i64) (.pair (.int .i64) (.pair (.bool) (.int .u8)))), (8, .pair (.int .i64) (.pair (.int .i64) (.pair (.bool) (.int .u8)))), (12, .int .u64), (21, .int .i32), (22, .slice (.int .i64)), (23, .pair (.int .i64) (.slice (.int .i64))), (24, .pair (.int .i64) (.slice (.int .i64))), (28, .pair (.int .i64) (.slice (.int .i64))), (32, .slice (.arr .u8 8)), (33, .pair (.int .i64) (.pair (.int .i64) (.slice (.arr .u8 8)))), (34, .pair (.int .i64) (.pair (.int .i64) (.slice (.arr .u8 8)))), (37, .slice (.arr .u8 8)), (38, .pair (.int .i64) (.pair (.int .i64) (.slice (.arr .u8 8)))), (39, .pair (.int .i64) (.pair (.int .i64) (.slice (.arr .u8 8)))), (74, .arr .u8 8), (75, .arr .u8 8), (104, .int .u64), (106, .barr 8), (115, .int .u32), (116, .int .u8), (117, .int .u8), (120, .int .i32), (121, .int .i32)]
/-- laws.szInt64S -/
noncomputable def fd63 : FD := { id := 63, fn := Go.Proofs.Try.f63, sig := ⟨[.ro (.slice (.int .i64)), .ro (.int .i64)], [(.own, false, .int .i64)]⟩, loops := [], views := [] }
/-- laws.szBraid -/
noncomputable def fd19 : FD := { id := 19, fn := Go.Proofs.Try.f19, sig := ⟨[.ro (.pair (.int .i64) (.slice (.int .i64))), .ro (.int .i64)], [(.own, false, .int .i64)]⟩, loops := [], views := [] }
noncomputable def in20000 : LoopInfo := ⟨20000, ⟨[.row .ro (.int .i64), .row .own (.int .i64)], [(0, .w (.c (.sl 0))), (3, .w (.c (.sl 1))), (4, .w (.c (.int .i64)))]⟩, [(.exit 0, ⟨[.row .own (.int .i64)], [(3, .w (.c (.sl 0)))]⟩)]⟩
/-- laws.toInt64S -/
noncomputable def fd66 : FD := { id := 66, fn := Go.Proofs.Try.f66, sig := ⟨[.ro (.slice (.int .i64))], [(.own, false, .slice (.int .i64))]⟩, loops := [(3, in20000)], views := [] }
/-- laws.toBraid -/
noncomputable def fd21 : FD := { id := 21, fn := Go.Proofs.Try.f21, sig := ⟨[.ro (.pair (.int .i64) (.slice (.int .i64)))], [(.own, false, .pair (.int .i64) (.slice (.int .i64)))]⟩, loops := [], views := [] }
/-- spec.l01In -/
noncomputable def fd101 : FD := { id := 101, fn := Go.Proofs.Try.f101, sig := ⟨[.ro (.int .i64), .ro (.int .i64), .ro (.int .i64)], [(.own, false, .bool)]⟩, loops := [], views := [] }
noncomputable def in20001 : LoopInfo := ⟨20001, ⟨[.box .own (.st [.int .i64, .sl 1]), .row .ro (.int .i64)], [(1, .w (.c (.ptr 0))), (3, .w (.c (.int .i64)))]⟩, [(.exit 0, ⟨[], []⟩), (.ret, ⟨[], [(2, .w (.c (.bool)))]⟩)]⟩
/-- spec.l01Is -/
noncomputable def fd64 : FD := { id := 64, fn := Go.Proofs.Try.f64, sig := ⟨[.ro (.pair (.int .i64) (.slice (.int .i64)))], [(.own, false, .bool)]⟩, loops := [(4, in20001)], views := [] }
noncomputable def in20003 : LoopInfo := ⟨20003, ⟨[.box .own (.arr .u8 8), .box .own (.arr .u8 8)], [(0, .w (.c (.int .i64))), (2, .w (.c (.ptr 0))), (3, .w (.c (.ptr 1))), (4, .w (.c (.int .i64)))]⟩, [(.exit 0, ⟨[.box .own (.arr .u8 8), .box .own (.arr .u8 8)], [(2, .w (.c (.ptr 0))), (3, .w (.c (.ptr 1)))]⟩)]⟩
/-- spec.l02Same -/
noncomputable def fd119 : FD := { id := 119, fn := Go.Proofs.Try.f119, sig := ⟨[.ro (.int .i64)], [(.own, false, .arr .u8 8)]⟩, loops := [(3, in20003)], views := [] }
/-- spec.l02Exchange -/
noncomputable def fd129 : FD := { id := 129, fn := Go.Proofs.Try.f129, sig := ⟨[.ro (.int .i64), .ro (.int .i64)], [(.own, false, .arr .u8 8)]⟩, loops := [], views := [] }
noncomputable def in20005 : LoopInfo := ⟨20005, ⟨[.box .own (.arr .u8 8), .box .own (.arr .u8 8)], [(0, .w (.c (.int .i64))), (2, .w (.c (.ptr 0))), (3, .w (.c (.ptr 1))), (4, .w (.c (.int .i64)))]⟩, [(.exit 0, ⟨[.box .own (.arr .u8 8), .box .own (.arr .u8 8)], [(2, .w (.c (.ptr 0))), (3, .w (.c (.ptr 1)))]⟩)]⟩
/-- spec.l02Half -/
noncomputable def fd120 : FD := { id := 120, fn := Go.Proofs.Try.f120, sig := ⟨[.ro (.int .i64)], [(.own, false, .arr .u8 8)]⟩, loops := [(3, in20005)], views := [] }
noncomputable def in20006 : LoopInfo := ⟨20006, ⟨[.box .own (.arr .u8 8), .box .own (.arr .u8 8), .box .own (.arr .u8 8), .box .own (.arr .u8 8)], [(2, .w (.c (.int .i64))), (3, .w (.c (.ptr 0))), (4, .w (.c (.ptr 1))), (6, .w (.c (.ptr 2))), (7, .w (.c (.ptr 3))), (8, .w (.c (.int .i64)))]⟩, [(.exit 0, ⟨[.box .own (.arr .u8 8), .box .own (.arr .u8 8)], [(6, .w (.c (.ptr 0))), (7, .w (.c (.ptr 1)))]⟩)]⟩
/-- spec.l02Then -/
noncomputable def fd152 : FD := { id := 152, fn := Go.Proofs.Try.f152, sig := ⟨[.ro (.arr .u8 8), .ro (.arr .u8 8), .ro (.int .i64)], [(.own, false, .arr .u8 8)]⟩, loops := [(3, in20006)], views := [] }
/-- spec.l02Turn -/
noncomputable def fd133 : FD := { id := 133, fn := Go.Proofs.Try.f133, sig := ⟨[.ro (.arr .u8 8), .ro (.int .i64)], [(.own, false, .arr .u8 8)]⟩, loops := [], views := [] }
noncomputable def in20004 : LoopInfo := ⟨20004, ⟨[.row .ro (.arr .u8 8), .row .own (.arr .u8 8)], [(0, .w (.c (.sl 0))), (1, .w (.c (.int .i64))), (2, .w (.c (.int .i64))), (7, .w (.c (.sl 1))), (8, .w (.c (.int .i64)))]⟩, [(.exit 0, ⟨[.row .own (.arr .u8 8)], [(7, .w (.c (.sl 0)))]⟩)]⟩
/-- spec.l03Turned -/
noncomputable def fd122 : FD := { id := 122, fn := Go.Proofs.Try.f122, sig := ⟨[.ro (.slice (.arr .u8 8)), .ro (.int .i64), .ro (.int .i64)], [(.own, false, .slice (.arr .u8 8))]⟩, loops := [(3, in20004)], views := [] }
noncomputable def in20007 : LoopInfo := ⟨20007, ⟨[.box .own (.arr .u8 8), .box .own (.arr .u8 8), .box .own (.arr .u8 8)], [(1, .w (.c (.int .i64))), (2, .w (.c (.ptr 0))), (4, .w (.c (.ptr 1))), (5, .w (.c (.ptr 2))), (6, .w (.c (.int .i64)))]⟩, [(.exit 0, ⟨[.box .own (.arr .u8 8), .box .own (.arr .u8 8)], [(4, .w (.c (.ptr 0))), (5, .w (.c (.ptr 1)))]⟩)]⟩
/-- spec.l02Back -/
noncomputable def fd88 : FD := { id := 88, fn := Go.Proofs.Try.f88, sig := ⟨[.ro (.arr .u8 8), .ro (.int .i64)], [(.own, false, .arr .u8 8)]⟩, loops := [(3, in20007)], views := [] }
/-- spec.l02Left -/
noncomputable def fd151 : FD := { id := 151, fn := Go.Proofs.Try.f151, sig := ⟨[.ro (.arr .u8 8), .ro (.int .i64)], [(.own, false, .arr .u8 8)]⟩, loops := [], views := [] }
/-- spec.l02Complement -/
noncomputable def fd142 : FD := { id := 142, fn := Go.Proofs.Try.f142, sig := ⟨[.ro (.arr .u8 8), .ro (.int .i64)], [(.own, false, .arr .u8 8)]⟩, loops := [], views := [] }
noncomputable def in20010 : LoopInfo := ⟨20010, ⟨[.box .own (.arr .u8 8), .box .own (.arr .u8 8), .box .own (.arr .u8 8), .box .own (.arr .u8 8)], [(2, .w (.c (.int .i64))), (3, .w (.c (.ptr 0))), (4, .w (.c (.ptr 1))), (6, .w (.c (.ptr 2))), (7, .w (.c (.ptr 3))), (8, .w (.c (.int .i64)))]⟩, [(.exit 0, ⟨[.box .own (.arr .u8 8), .box .own (.arr .u8 8)], [(6, .w (.c (.ptr 0))), (7, .w (.c (.ptr 1)))]⟩)]⟩
/-- spec.l02Meet -/
noncomputable def fd134 : FD := { id := 134, fn := Go.Proofs.Try.f134, sig := ⟨[.ro (.arr .u8 8), .ro (.arr .u8 8), .ro (.int .i64)], [(.own, false, .arr .u8 8)]⟩, loops := [(3, in20010)], views := [] }
noncomputable def in20008 : LoopInfo := ⟨20008, ⟨[.row .own (.arr .u8 8)], [(1, .w (.c (.int .i64))), (5, .w (.c (.sl 0))), (6, .w (.c (.bool)))]⟩, [(.exit 0, ⟨[.row .own (.arr .u8 8)], [(5, .w (.c (.sl 0)))]⟩)]⟩
noncomputable def in20009 : LoopInfo := ⟨20009, ⟨[.row .own (.arr .u8 8)], [(1, .w (.c (.int .i64))), (5, .w (.c (.sl 0))), (6, .w (.c (.bool))), (7, .w (.c (.int .i64)))]⟩, [(.exit 2, ⟨[.row .own (.arr .u8 8)], [(1, .w (.c (.int .i64))), (5, .w (.c (.sl 0))), (6, .w (.c (.bool)))]⟩)]⟩
/-- spec.l03Weigh -/
noncomputable def fd130 : FD := { id := 130, fn := Go.Proofs.Try.f130, sig := ⟨[.ro (.slice (.arr .u8 8)), .ro (.int .i64)], [(.own, false, .slice (.arr .u8 8))]⟩, loops := [(3, in20008), (6, in20009)], views := [] }
noncomputable def in20011 : LoopInfo := ⟨20011, ⟨[.row .own (.arr .u8 8), .box .own (.st [.int .i64, .int .i64, .sl 2]), .row .own (.arr .u8 8)], [(0, .w (.c (.int .i64))), (1, .w (.c (.int .i64))), (2, .w (.c (.sl 0))), (6, .w (.c (.ptr 1))), (7, .w (.c (.int .i64))), (8, .w (.c (.int .i64)))]⟩, [(.exit 0, ⟨[.row .own (.arr .u8 8), .box .own (.st [.int .i64, .int .i64, .sl 2]), .row .own (.arr .u8 8)], [(0, .w (.c (.int .i64))), (1, .w (.c (.int .i64))), (2, .w (.c (.sl 0))), (6, .w (.c (.ptr 1))), (7, .w (.c (.int .i64))), (8, .w (.c (.int .i64)))]⟩)]⟩
noncomputable def in20012 : LoopInfo := ⟨20012, ⟨[.row .own (.arr .u8 8), .box .own (.st [.int .i64, .int .i64, .sl 2]), .row .own (.arr .u8 8)], [(0, .w (.c (.int .i64))), (1, .w (.c (.int .i64))), (2, .w (.c (.sl 0))), (6, .w (.c (.ptr 1))), (7, .w (.c (.int .i64))), (8, .w (.c (.int .i64)))]⟩, [(.exit 2, ⟨[.row .own (.arr .u8 8), .box .own (.st [.int .i64, .int .i64, .sl 2]), .row .own (.arr .u8 8)], [(0, .w (.c (.int .i64))), (1, .w (.c (.int .i64))), (2, .w (.c (.sl 0))), (6, .w (.c (.ptr 1))), (7, .w (.c (.int .i64))), (8, .w (.c (.int .i64)))]⟩)]⟩
/-- spec.l03Make -/
noncomputable def fd82 : FD := { id := 82, fn := Go.Proofs.Try.f82, sig := ⟨[.ro (.int .i64), .ro (.int .i64), .ro (.slice (.arr .u8 8))], [(.own, false, .pair (.int .i64) (.pair (.int .i64) (.slice (.arr .u8 8))))]⟩, loops := [(4, in20011), (7, in20012)], views := [] }
/-- spec.l03Times -/
noncomputable def fd128 : FD := { id := 128, fn := Go.Proofs.Try.f128, sig := ⟨[.ro (.pair (.int .i64) (.pair (.int .i64) (.slice (.arr .u8 8)))), .ro (.arr .u8 8), .ro (.bool)], [(.own, false, .pair (.int .i64) (.pair (.int .i64) (.slice (.arr .u8 8))))]⟩, loops := [], views := [] }
noncomputable def in20002 : LoopInfo := ⟨20002, ⟨[.row .ro (.int .i64), .box .own (.st [.int .i64, .int .i64, .sl 2]), .row .own (.arr .u8 8), .box .own (.st [.int .i64, .int .i64, .sl 4]), .row .own (.arr .u8 8)], [(0, .w (.c (.int .i64))), (1, .w (.c (.sl 0))), (4, .w (.c (.ptr 1))), (5, .w (.c (.ptr 3))), (6, .w (.c (.int .i64)))]⟩, [(.exit 0, ⟨[.box .own (.st [.int .i64, .int .i64, .sl 1]), .row .own (.arr .u8 8), .box .own (.st [.int .i64, .int .i64, .sl 3]), .row .own (.arr .u8 8)], [(4, .w (.c (.ptr 0))), (5, .w (.c (.ptr 2)))]⟩)]⟩
/-- spec.l03Of -/
noncomputable def fd78 : FD := { id := 78, fn := Go.Proofs.Try.f78, sig := ⟨[.ro (.int .i64), .ro (.slice (.int .i64))], [(.own, false, .pair (.int .i64) (.pair (.int .i64) (.slice (.arr .u8 8))))]⟩, loops := [(3, in20002)], views := [] }
noncomputable def in20013 : LoopInfo := ⟨20013, ⟨[.box .own (.st [.int .i64, .int .i64, .sl 1]), .row .ro (.arr .u8 8), .box .own (.st [.int .i64, .int .i64, .sl 3]), .row .ro (.arr .u8 8)], [(2, .w (.c (.ptr 0))), (3, .w (.c (.ptr 2))), (5, .w (.c (.int .i64)))]⟩, [(.exit 0, ⟨[], []⟩), (.ret, ⟨[], [(4, .w (.c (.bool)))]⟩)]⟩
/-- spec.l03Like -/
noncomputable def fd112 : FD := { id := 112, fn := Go.Proofs.Try.f112, sig := ⟨[.ro (.pair (.int .i64) (.pair (.int .i64) (.slice (.arr .u8 8)))), .ro (.pair (.int .i64) (.pair (.int .i64) (.slice (.arr .u8 8))))], [(.own, false, .bool)]⟩, loops := [(4, in20013)], views := [] }
/-- spec.l03Equal -/
noncomputable def fd65 : FD := { id := 65, fn := Go.Proofs.Try.f65, sig := ⟨[.ro (.int .i64), .ro (.slice (.int .i64)), .ro (.slice (.int .i64))], [(.own, false, .bool)]⟩, loops := [], views := [] }
/-- spec.SameBraid -/
noncomputable def fd20 : FD := { id := 20, fn := Go.Proofs.Try.f20, sig := ⟨[.ro (.pair (.int .i64) (.slice (.int .i64))), .ro (.pair (.int .i64) (.slice (.int .i64)))], [(.own, false, .bool), (.own, false, .int .i64)]⟩, loops := [], views := [] }
/-- impl.within -/
noncomputable def fd102 : FD := { id := 102, fn := Go.Proofs.Try.f102, sig := ⟨[.ro (.int .i64), .ro (.int .i64), .ro (.int .i64)], [(.own, false, .bool)]⟩, loops := [], views := [] }
/-- impl.isCount -/
noncomputable def fd113 : FD := { id := 113, fn := Go.Proofs.Try.f113, sig := ⟨[.ro (.int .i64)], [(.own, false, .bool)]⟩, loops := [], views := [] }
/-- impl.isLetter -/
noncomputable def fd114 : FD := { id := 114, fn := Go.Proofs.Try.f114, sig := ⟨[.ro (.int .i64), .ro (.int .i64)], [(.own, false, .bool)]⟩, loops := [], views := [] }
noncomputable def in20014 : LoopInfo := ⟨20014, ⟨[.box .own (.st [.int .i64, .sl 1]), .row .ro (.int .i64)], [(1, .w (.c (.ptr 0))), (16, .w (.c (.sl 1))), (17, .w (.c (.int .i64))), (18, .w (.c (.int .i64)))]⟩, [(.exit 0, ⟨[], []⟩), (.ret, ⟨[], [(2, .w (.c (.bool)))]⟩)]⟩
/-- impl.IsBraid -/
noncomputable def fd67 : FD := { id := 67, fn := Go.Proofs.Try.f67, sig := ⟨[.ro (.pair (.int .i64) (.slice (.int .i64)))], [(.own, false, .bool)]⟩, loops := [(4, in20014)], views := [] }
noncomputable def in20016 : LoopInfo := ⟨20016, ⟨[.box .own (.arr .u8 8), .box .own (.arr .u8 8)], [(2, .w (.c (.ptr 0))), (3, .w (.c (.ptr 1))), (6, .w (.c (.int .i64))), (7, .w (.c (.int .i64)))]⟩, [(.exit 0, ⟨[.box .own (.arr .u8 8), .box .own (.arr .u8 8)], [(2, .w (.c (.ptr 0))), (3, .w (.c (.ptr 1)))]⟩)]⟩
/-- impl.nothing -/
noncomputable def fd109 : FD := { id := 109, fn := Go.Proofs.Try.f109, sig := ⟨[.ro (.int .i64)], [(.own, false, .arr .u8 8)]⟩, loops := [(3, in20016)], views := [] }
/-- impl.exchange -/
noncomputable def fd116 : FD := { id := 116, fn := Go.Proofs.Try.f116, sig := ⟨[.ro (.int .i64), .ro (.int .i64)], [(.own, false, .arr .u8 8)]⟩, loops := [], views := [] }
noncomputable def in20018 : LoopInfo := ⟨20018, ⟨[.box .own (.arr .u8 8), .box .own (.arr .u8 8), .box .own (.arr .u8 8)], [(2, .w (.c (.ptr 0))), (4, .w (.c (.ptr 1))), (5, .w (.c (.ptr 2))), (8, .w (.c (.int .i64))), (9, .w (.c (.int .i64)))]⟩, [(.exit 0, ⟨[.box .own (.arr .u8 8), .box .own (.arr .u8 8)], [(4, .w (.c (.ptr 0))), (5, .w (.c (.ptr 1)))]⟩)]⟩
/-- impl.backOf -/
noncomputable def fd90 : FD := { id := 90, fn := Go.Proofs.Try.f90, sig := ⟨[.ro (.arr .u8 8), .ro (.int .i64)], [(.own, false, .arr .u8 8)]⟩, loops := [(3, in20018)], views := [] }
noncomputable def in20019 : LoopInfo := ⟨20019, ⟨[.box .own (.arr .u8 8), .box .own (.arr .u8 8)], [(0, .w (.c (.int .i64))), (2, .w (.c (.ptr 0))), (3, .w (.c (.ptr 1))), (6, .w (.c (.int .i64))), (7, .w (.c (.int .i64)))]⟩, [(.exit 0, ⟨[.box .own (.arr .u8 8), .box .own (.arr .u8 8)], [(2, .w (.c (.ptr 0))), (3, .w (.c (.ptr 1)))]⟩)]⟩
/-- impl.halfTurn -/
noncomputable def fd125 : FD := { id := 125, fn := Go.Proofs.Try.f125, sig := ⟨[.ro (.int .i64)], [(.own, false, .arr .u8 8)]⟩, loops := [(3, in20019)], views := [] }
noncomputable def in20020 : LoopInfo := ⟨20020, ⟨[.box .own (.arr .u8 8), .box .own (.arr .u8 8), .box .own (.arr .u8 8), .box .own (.arr .u8 8)], [(3, .w (.c (.ptr 0))), (4, .w (.c (.ptr 1))), (6, .w (.c (.ptr 2))), (7, .w (.c (.ptr 3))), (10, .w (.c (.int .i64))), (11, .w (.c (.int .i64)))]⟩, [(.exit 0, ⟨[.box .own (.arr .u8 8), .box .own (.arr .u8 8)], [(6, .w (.c (.ptr 0))), (7, .w (.c (.ptr 1)))]⟩)]⟩
/-- impl.then -/
noncomputable def fd147 : FD := { id := 147, fn := Go.Proofs.Try.f147, sig := ⟨[.ro (.arr .u8 8), .ro (.arr .u8 8), .ro (.int .i64)], [(.own, false, .arr .u8 8)]⟩, loops := [(3, in20020)], views := [] }
/-- impl.complement -/
noncomputable def fd144 : FD := { id := 144, fn := Go.Proofs.Try.f144, sig := ⟨[.ro (.arr .u8 8), .ro (.int .i64)], [(.own, false, .arr .u8 8)]⟩, loops := [], views := [] }
noncomputable def in20021 : LoopInfo := ⟨20021, ⟨[.box .own (.arr .u8 8)], [(2, .w (.c (.ptr 0))), (5, .w (.c (.int .u64))), (8, .w (.c (.int .i64))), (9, .w (.c (.int .i64)))]⟩, [(.exit 0, ⟨[], [(5, .w (.c (.int .u64)))]⟩)]⟩
noncomputable def in20022 : LoopInfo := ⟨20022, ⟨[.box .own (.arr .u8 8)], [(2, .w (.c (.ptr 0))), (5, .w (.c (.int .u64))), (6, .w (.c (.int .i64))), (8, .w (.c (.int .i64))), (9, .w (.c (.int .i64))), (12, .w (.c (.int .i64))), (13, .w (.c (.int .i64)))]⟩, [(.exit 2, ⟨[.box .own (.arr .u8 8)], [(2, .w (.c (.ptr 0))), (5, .w (.c (.int .u64))), (8, .w (.c (.int .i64))), (9, .w (.c (.int .i64)))]⟩)]⟩
/-- impl.descents -/
noncomputable def fd146 : FD := { id := 146, fn := Go.Proofs.Try.f146, sig := ⟨[.ro (.arr .u8 8), .ro (.int .i64)], [(.own, false, .int .u64)]⟩, loops := [(3, in20021), (6, in20022)], views := [] }
noncomputable def in20023 : LoopInfo := ⟨20023, ⟨[.box .own (.arr .u8 8), .box .own (.arr .u8 8)], [(2, .w (.c (.int .i64))), (6, .w (.c (.ptr 0))), (7, .w (.c (.int .u64))), (8, .w (.c (.ptr 1))), (9, .w (.c (.bool)))]⟩, [(.exit 0, ⟨[.box .own (.arr .u8 8), .box .own (.arr .u8 8)], [(2, .w (.c (.int .i64))), (6, .w (.c (.ptr 0))), (8, .w (.c (.ptr 1)))]⟩)]⟩
noncomputable def in20024 : LoopInfo := ⟨20024, ⟨[.box .own (.arr .u8 8), .box .own (.arr .u8 8)], [(2, .w (.c (.int .i64))), (6, .w (.c (.ptr 0))), (7, .w (.c (.int .u64))), (8, .w (.c (.ptr 1))), (9, .w (.c (.bool))), (10, .w (.c (.int .i64)))]⟩, [(.exit 2, ⟨[.box .own (.arr .u8 8), .box .own (.arr .u8 8)], [(2, .w (.c (.int .i64))), (6, .w (.c (.ptr 0))), (7, .w (.c (.int .u64))), (8, .w (.c (.ptr 1))), (9, .w (.c (.bool)))]⟩)]⟩
/-- impl.meet -/
noncomputable def fd107 : FD := { id := 107, fn := Go.Proofs.Try.f107, sig := ⟨[.ro (.arr .u8 8), .ro (.arr .u8 8), .ro (.int .i64)], [(.own, false, .arr .u8 8)]⟩, loops := [(4, in20023), (7, in20024)], views := [] }
noncomputable def in20017 : LoopInfo := ⟨20017, ⟨[.box .own (.st [.int .i64, .int .i64, .sl 1]), .row .own (.arr .u8 8)], [(0, .w (.c (.ptr 0))), (4, .w (.c (.int .i64))), (5, .w (.c (.int .i64)))]⟩, [(.exit 0, ⟨[.box .own (.st [.int .i64, .int .i64, .sl 1]), .row .own (.arr .u8 8)], [(0, .w (.c (.ptr 0))), (4, .w (.c (.int .i64)))]⟩)]⟩
noncomputable def in20025 : LoopInfo := ⟨20025, ⟨[.box .own (.st [.int .i64, .int .i64, .sl 1]), .row .own (.arr .u8 8)], [(0, .w (.c (.ptr 0))), (4, .w (.c (.int .i64)))]⟩, [(.exit 2, ⟨[.box .own (.st [.int .i64, .int .i64, .sl 1]), .row .own (.arr .u8 8)], [(0, .w (.c (.ptr 0))), (4, .w (.c (.int .i64)))]⟩)]⟩
noncomputable def in20026 : LoopInfo := ⟨20026, ⟨[.box .own (.st [.int .i64, .int .i64, .sl 1]), .row .own (.arr .u8 8)], [(0, .w (.c (.ptr 0))), (4, .w (.c (.int .i64)))]⟩, [(.exit 4, ⟨[.box .own (.st [.int .i64, .int .i64, .sl 1]), .row .own (.arr .u8 8)], [(0, .w (.c (.ptr 0)))]⟩)]⟩
/-- (*impl.Normal).put -/
noncomputable def fd110 : FD := { id := 110, fn := Go.Proofs.Try.f110, sig := ⟨[.box (.pair (.int .i64) (.pair (.int .i64) (.slice (.arr .u8 8)))), .ro (.arr .u8 8)], []⟩, loops := [(5, in20017), (11, in20025), (14, in20026)], views := [] }
/-- impl.turn -/
noncomputable def fd145 : FD := { id := 145, fn := Go.Proofs.Try.f145, sig := ⟨[.ro (.arr .u8 8), .ro (.int .i64)], [(.own, false, .arr .u8 8)]⟩, loops := [], views := [] }
noncomputable def in20027 : LoopInfo := ⟨20027, ⟨[.box .own (.st [.int .i64, .int .i64, .sl 1]), .row .own (.arr .u8 8)], [(0, .w (.c (.ptr 0))), (25, .w (.c (.sl 1))), (26, .w (.c (.int .i64))), (27, .w (.c (.int .i64)))]⟩, [(.exit 0, ⟨[.box .own (.st [.int .i64, .int .i64, .sl 1]), .row .own (.arr .u8 8)], [(0, .w (.c (.ptr 0)))]⟩)]⟩
/-- (*impl.Normal).turnBy -/
noncomputable def fd106 : FD := { id := 106, fn := Go.Proofs.Try.f106, sig := ⟨[.box (.pair (.int .i64) (.pair (.int .i64) (.slice (.arr .u8 8)))), .ro (.int .i64)], []⟩, loops := [(4, in20027)], views := [] }
/-- impl.leftComplement -/
noncomputable def fd148 : FD := { id := 148, fn := Go.Proofs.Try.f148, sig := ⟨[.ro (.arr .u8 8), .ro (.int .i64)], [(.own, false, .arr .u8 8)]⟩, loops := [], views := [] }
/-- (*impl.Normal).putInverse -/
noncomputable def fd117 : FD := { id := 117, fn := Go.Proofs.Try.f117, sig := ⟨[.box (.pair (.int .i64) (.pair (.int .i64) (.slice (.arr .u8 8)))), .ro (.arr .u8 8)], []⟩, loops := [], views := [] }
noncomputable def in20015 : LoopInfo := ⟨20015, ⟨[.box .own (.st [.int .i64, .sl 1]), .row .ro (.int .i64), .box .own (.st [.int .i64, .int .i64, .sl 3]), .row .own (.arr .u8 8), .box .own (.st [.int .i64, .int .i64, .sl 5]), .row .own (.arr .u8 8)], [(1, .w (.c (.ptr 0))), (2, .w (.c (.ptr 2))), (3, .w (.c (.ptr 4))), (10, .w (.c (.sl 1))), (11, .w (.c (.int .i64))), (12, .w (.c (.int .i64)))]⟩, [(.exit 0, ⟨[.box .own (.st [.int .i64, .int .i64, .sl 1]), .row .own (.arr .u8 8), .box .own (.st [.int .i64, .int .i64, .sl 3]), .row .own (.arr .u8 8)], [(2, .w (.c (.ptr 0))), (3, .w (.c (.ptr 2)))]⟩)]⟩
/-- impl.normalOf -/
noncomputable def fd69 : FD := { id := 69, fn := Go.Proofs.Try.f69, sig := ⟨[.ro (.pair (.int .i64) (.slice (.int .i64)))], [(.own, false, .pair (.int .i64) (.pair (.int .i64) (.slice (.arr .u8 8))))]⟩, loops := [(3, in20015)], views := [] }
noncomputable def in20028 : LoopInfo := ⟨20028, ⟨[.row .ro (.arr .u8 8), .row .ro (.arr .u8 8)], [(0, .w (.c (.sl 0))), (1, .w (.c (.sl 1))), (12, .w (.c (.int .i64))), (13, .w (.c (.int .i64)))]⟩, [(.exit 0, ⟨[], []⟩), (.ret, ⟨[], [(4, .w (.c (.bool)))]⟩)]⟩
/-- slices.Equal[[]impl.Simple,impl.Simple] -/
noncomputable def fd115 : FD := { id := 115, fn := Go.Proofs.Try.f115, sig := ⟨[.ro (.slice (.arr .u8 8)), .ro (.slice (.arr .u8 8))], [(.own, false, .bool)]⟩, loops := [(4, in20028)], views := [] }
/-- impl.sameNormal -/
noncomputable def fd68 : FD := { id := 68, fn := Go.Proofs.Try.f68, sig := ⟨[.ro (.pair (.int .i64) (.pair (.int .i64) (.slice (.arr .u8 8)))), .ro (.pair (.int .i64) (.pair (.int .i64) (.slice (.arr .u8 8))))], [(.own, false, .bool)]⟩, loops := [], views := [] }
/-- impl.SameBraid -/
noncomputable def fd22 : FD := { id := 22, fn := Go.Proofs.Try.f22, sig := ⟨[.ro (.pair (.int .i64) (.slice (.int .i64))), .ro (.pair (.int .i64) (.slice (.int .i64)))], [(.own, false, .bool), (.own, false, .int .i64)]⟩, loops := [], views := [] }
noncomputable def in20029 : LoopInfo := ⟨20029, ⟨[.row .ro (.int .i64), .row .ro (.int .i64)], [(0, .w (.c (.sl 0))), (1, .w (.c (.sl 1))), (5, .w (.c (.int .i64)))]⟩, [(.exit 0, ⟨[], []⟩), (.ret, ⟨[], [(4, .w (.c (.bool)))]⟩)]⟩
/-- laws.eqInt64S -/
noncomputable def fd52 : FD := { id := 52, fn := Go.Proofs.Try.f52, sig := ⟨[.ro (.slice (.int .i64)), .ro (.slice (.int .i64))], [(.own, false, .bool)]⟩, loops := [(4, in20029)], views := [] }
/-- laws.eqBraid -/
noncomputable def fd23 : FD := { id := 23, fn := Go.Proofs.Try.f23, sig := ⟨[.ro (.pair (.int .i64) (.slice (.int .i64))), .ro (.pair (.int .i64) (.slice (.int .i64)))], [(.own, false, .bool)]⟩, loops := [], views := [] }
/-- laws.FnExactSameBraid -/
noncomputable def fd3 : FD := { id := 3, fn := Go.Proofs.Try.f3, sig := ⟨[.ro (.pair (.int .i64) (.slice (.int .i64))), .ro (.pair (.int .i64) (.slice (.int .i64)))], [(.own, false, .bool)]⟩, loops := [], views := [] }
/-- laws.szSimpleS -/
noncomputable def fd70 : FD := { id := 70, fn := Go.Proofs.Try.f70, sig := ⟨[.ro (.slice (.arr .u8 8)), .ro (.int .i64)], [(.own, false, .int .i64)]⟩, loops := [], views := [] }
/-- laws.szNormal -/
noncomputable def fd24 : FD := { id := 24, fn := Go.Proofs.Try.f24, sig := ⟨[.ro (.pair (.int .i64) (.pair (.int .i64) (.slice (.arr .u8 8)))), .ro (.int .i64)], [(.own, false, .int .i64)]⟩, loops := [], views := [] }
noncomputable def in20031 : LoopInfo := ⟨20031, ⟨[.box .own (.arr .u8 8), .box .own (.arr .u8 8), .box .own (.arr .u8 8)], [(1, .w (.c (.ptr 0))), (2, .w (.c (.ptr 1))), (3, .w (.c (.ptr 2))), (4, .w (.c (.int .i64)))]⟩, [(.exit 0, ⟨[.box .own (.arr .u8 8), .box .own (.arr .u8 8)], [(2, .w (.c (.ptr 0))), (3, .w (.c (.ptr 1)))]⟩)]⟩
/-- laws.toSimple -/
noncomputable def fd123 : FD := { id := 123, fn := Go.Proofs.Try.f123, sig := ⟨[.ro (.arr .u8 8)], [(.own, false, .arr .u8 8)]⟩, loops := [(3, in20031)], views := [] }
noncomputable def in20030 : LoopInfo := ⟨20030, ⟨[.row .ro (.arr .u8 8), .row .own (.arr .u8 8)], [(0, .w (.c (.sl 0))), (3, .w (.c (.sl 1))), (4, .w (.c (.int .i64)))]⟩, [(.exit 0, ⟨[.row .own (.arr .u8 8)], [(3, .w (.c (.sl 0)))]⟩)]⟩
/-- laws.toSimpleS -/
noncomputable def fd73 : FD := { id := 73, fn := Go.Proofs.Try.f73, sig := ⟨[.ro (.slice (.arr .u8 8))], [(.own, false, .slice (.arr .u8 8))]⟩, loops := [(3, in20030)], views := [] }
/-- laws.toNormal -/
noncomputable def fd26 : FD := { id := 26, fn := Go.Proofs.Try.f26, sig := ⟨[.ro (.pair (.int .i64) (.pair (.int .i64) (.slice (.arr .u8 8))))], [(.own, false, .pair (.int .i64) (.pair (.int .i64) (.slice (.arr .u8 8))))]⟩, loops := [], views := [] }
noncomputable def in20033 : LoopInfo := ⟨20033, ⟨[.box .own (.arr .u8 8), .box .own (.barr 8)], [(1, .w (.c (.int .i64))), (2, .w (.c (.ptr 0))), (5, .w (.c (.ptr 1))), (6, .w (.c (.int .i64)))]⟩, [(.exit 0, ⟨[], []⟩), (.ret, ⟨[], [(4, .w (.c (.bool)))]⟩)]⟩
/-- spec.l02Is -/
noncomputable def fd118 : FD := { id := 118, fn := Go.Proofs.Try.f118, sig := ⟨[.ro (.arr .u8 8), .ro (.int .i64)], [(.own, false, .bool)]⟩, loops := [(5, in20033)], views := [] }
noncomputable def in20034 : LoopInfo := ⟨20034, ⟨[.box .own (.arr .u8 8), .box .own (.arr .u8 8)], [(2, .w (.c (.int .i64))), (4, .w (.c (.ptr 0))), (7, .w (.c (.ptr 1))), (8, .w (.c (.int .i64)))]⟩, [(.exit 0, ⟨[], []⟩), (.ret, ⟨[], [(6, .w (.c (.bool)))]⟩)]⟩
/-- spec.l03Weighted -/
noncomputable def fd121 : FD := { id := 121, fn := Go.Proofs.Try.f121, sig := ⟨[.ro (.arr .u8 8), .ro (.arr .u8 8), .ro (.int .i64)], [(.own, false, .bool)]⟩, loops := [(3, in20034)], views := [] }
noncomputable def in20032 : LoopInfo := ⟨20032, ⟨[.box .own (.st [.int .i64, .int .i64, .sl 1]), .row .ro (.arr .u8 8)], [(1, .w (.c (.ptr 0))), (3, .w (.c (.int .i64))), (4, .w (.c (.int .i64)))]⟩, [(.exit 0, ⟨[], []⟩), (.ret, ⟨[], [(2, .w (.c (.bool)))]⟩)]⟩
/-- spec.l03Is -/
noncomputable def fd71 : FD := { id := 71, fn := Go.Proofs.Try.f71, sig := ⟨[.ro (.pair (.int .i64) (.pair (.int .i64) (.slice (.arr .u8 8))))], [(.own, false, .bool)]⟩, loops := [(5, in20032)], views := [] }
/-- spec.l03Product -/
noncomputable def fd72 : FD := { id := 72, fn := Go.Proofs.Try.f72, sig := ⟨[.ro (.pair (.int .i64) (.pair (.int .i64) (.slice (.arr .u8 8)))), .ro (.pair (.int .i64) (.pair (.int .i64) (.slice (.arr .u8 8))))], [(.own, false, .pair (.int .i64) (.pair (.int .i64) (.slice (.arr .u8 8))))]⟩, loops := [], views := [] }
noncomputable def in20035 : LoopInfo := ⟨20035, ⟨[.box .own (.st [.int .i64, .int .i64, .sl 1]), .row .ro (.arr .u8 8), .box .own (.st [.int .i64, .int .i64, .sl 3]), .row .own (.arr .u8 8)], [(1, .w (.c (.ptr 0))), (4, .w (.c (.ptr 2))), (5, .w (.c (.int .i64)))]⟩, [(.exit 0, ⟨[], []⟩), (.ret, ⟨[], [(2, .w (.c (.bool))), (3, .w (.c (.int .i64)))]⟩)]⟩
/-- spec.IsPeriodic -/
noncomputable def fd25 : FD := { id := 25, fn := Go.Proofs.Try.f25, sig := ⟨[.ro (.pair (.int .i64) (.pair (.int .i64) (.slice (.arr .u8 8))))], [(.own, false, .bool), (.own, false, .int .i64)]⟩, loops := [(5, in20035)], views := [] }
noncomputable def in20037 : LoopInfo := ⟨20037, ⟨[.box .own (.barr 8)], [(1, .w (.c (.int .i64))), (5, .w (.c (.ptr 0))), (12, .w (.arr .u8 8)), (13, .w (.c (.int .i64)))]⟩, [(.exit 0, ⟨[], []⟩), (.ret, ⟨[], [(4, .w (.c (.bool)))]⟩)]⟩
/-- impl.IsSimple -/
noncomputable def fd124 : FD := { id := 124, fn := Go.Proofs.Try.f124, sig := ⟨[.ro (.arr .u8 8), .ro (.int .i64)], [(.own, false, .bool)]⟩, loops := [(5, in20037)], views := [] }
/-- impl.begins -/
noncomputable def fd150 : FD := { id := 150, fn := Go.Proofs.Try.f150, sig := ⟨[.ro (.arr .u8 8), .ro (.int .i64)], [(.own, false, .bool)]⟩, loops := [], views := [] }
noncomputable def in20038 : LoopInfo := ⟨20038, ⟨[.box .own (.arr .u8 8), .row .own (.int .i64)], [(1, .w (.c (.int .i64))), (2, .w (.c (.ptr 0))), (5, .w (.c (.sl 1))), (6, .w (.c (.int .i64)))]⟩, [(.exit 0, ⟨[.row .own (.int .i64)], [(5, .w (.c (.sl 0)))]⟩)]⟩
/-- impl.beginning -/
noncomputable def fd149 : FD := { id := 149, fn := Go.Proofs.Try.f149, sig := ⟨[.ro (.arr .u8 8), .ro (.int .i64)], [(.own, false, .slice (.int .i64))]⟩, loops := [(3, in20038)], views := [] }
noncomputable def in20039 : LoopInfo := ⟨20039, ⟨[.box .own (.arr .u8 8), .row .own (.int .i64)], [(7, .w (.c (.ptr 0))), (15, .w (.c (.sl 1))), (16, .w (.c (.int .i64))), (17, .w (.c (.int .i64)))]⟩, [(.exit 0, ⟨[], []⟩), (.ret, ⟨[], [(6, .w (.c (.bool)))]⟩)]⟩
/-- impl.endsAll -/
noncomputable def fd126 : FD := { id := 126, fn := Go.Proofs.Try.f126, sig := ⟨[.ro (.arr .u8 8), .ro (.arr .u8 8), .ro (.int .i64)], [(.own, false, .bool)]⟩, loops := [(3, in20039)], views := [] }
noncomputable def in20036 : LoopInfo := ⟨20036, ⟨[.box .own (.st [.int .i64, .int .i64, .sl 1]), .row .ro (.arr .u8 8)], [(1, .w (.c (.ptr 0))), (3, .w (.c (.int .i64))), (33, .w (.c (.sl 1))), (34, .w (.c (.int .i64))), (35, .w (.c (.int .i64)))]⟩, [(.exit 0, ⟨[], []⟩), (.ret, ⟨[], [(2, .w (.c (.bool)))]⟩)]⟩
/-- impl.IsNormal -/
noncomputable def fd74 : FD := { id := 74, fn := Go.Proofs.Try.f74, sig := ⟨[.ro (.pair (.int .i64) (.pair (.int .i64) (.slice (.arr .u8 8))))], [(.own, false, .bool)]⟩, loops := [(5, in20036)], views := [] }
/-- impl.copyNormal -/
noncomputable def fd98 : FD := { id := 98, fn := Go.Proofs.Try.f98, sig := ⟨[.ro (.pair (.int .i64) (.pair (.int .i64) (.slice (.arr .u8 8))))], [(.own, false, .pair (.int .i64) (.pair (.int .i64) (.slice (.arr .u8 8))))]⟩, loops := [], views := [] }
noncomputable def in20041 : LoopInfo := ⟨20041, ⟨[.box .own (.st [.int .i64, .int .i64, .sl 1]), .row .own (.arr .u8 8), .box .own (.st [.int .i64, .int .i64, .sl 3]), .row .own (.arr .u8 8), .row .ro (.arr .u8 8)], [(4, .w (.c (.ptr 0))), (5, .w (.c (.ptr 2))), (14, .w (.c (.sl 4))), (15, .w (.c (.int .i64))), (16, .w (.c (.int .i64)))]⟩, [(.exit 0, ⟨[.box .own (.st [.int .i64, .int .i64, .sl 1]), .row .own (.arr .u8 8), .box .own (.st [.int .i64, .int .i64, .sl 3]), .row .own (.arr .u8 8)], [(4, .w (.c (.ptr 0))), (5, .w (.c (.ptr 2)))]⟩)]⟩
/-- impl.product -/
noncomputable def fd75 : FD := { id := 75, fn := Go.Proofs.Try.f75, sig := ⟨[.ro (.pair (.int .i64) (.pair (.int .i64) (.slice (.arr .u8 8)))), .ro (.pair (.int .i64) (.pair (.int .i64) (.slice (.arr .u8 8))))], [(.own, false, .pair (.int .i64) (.pair (.int .i64) (.slice (.arr .u8 8))))]⟩, loops := [(4, in20041)], views := [] }
noncomputable def in20040 : LoopInfo := ⟨20040, ⟨[.box .own (.st [.int .i64, .int .i64, .sl 1]), .row .ro (.arr .u8 8), .box .own (.st [.int .i64, .int .i64, .sl 3]), .row .own (.arr .u8 8)], [(1, .w (.c (.ptr 0))), (4, .w (.c (.ptr 2))), (13, .w (.c (.int .i64))), (14, .w (.c (.int .i64)))]⟩, [(.exit 0, ⟨[.box .own (.st [.int .i64, .int .i64, .sl 1]), .row .ro (.arr .u8 8), .box .own (.st [.int .i64, .int .i64, .sl 3]), .row .own (.arr .u8 8)], [(1, .w (.c (.ptr 0))), (4, .w (.c (.ptr 2)))]⟩)]⟩
/-- impl.IsPeriodic -/
noncomputable def fd27 : FD := { id := 27, fn := Go.Proofs.Try.f27, sig := ⟨[.ro (.pair (.int .i64) (.pair (.int .i64) (.slice (.arr .u8 8))))], [(.own, false, .bool), (.own, false, .int .i64)]⟩, loops := [(5, in20040)], views := [] }
noncomputable def in20043 : LoopInfo := ⟨20043, ⟨[.box .own (.arr .u8 8), .box .own (.arr .u8 8)], [(2, .w (.c (.ptr 0))), (3, .w (.c (.ptr 1))), (5, .w (.c (.int .i64)))]⟩, [(.exit 0, ⟨[], []⟩), (.ret, ⟨[], [(4, .w (.c (.bool)))]⟩)]⟩
/-- laws.eqSimple -/
noncomputable def fd127 : FD := { id := 127, fn := Go.Proofs.Try.f127, sig := ⟨[.ro (.arr .u8 8), .ro (.arr .u8 8)], [(.own, false, .bool)]⟩, loops := [(2, in20043)], views := [] }
noncomputable def in20042 : LoopInfo := ⟨20042, ⟨[.row .ro (.arr .u8 8), .row .ro (.arr .u8 8)], [(0, .w (.c (.sl 0))), (1, .w (.c (.sl 1))), (5, .w (.c (.int .i64)))]⟩, [(.exit 0, ⟨[], []⟩), (.ret, ⟨[], [(4, .w (.c (.bool)))]⟩)]⟩
/-- laws.eqSimpleS -/
noncomputable def fd76 : FD := { id := 76, fn := Go.Proofs.Try.f76, sig := ⟨[.ro (.slice (.arr .u8 8)), .ro (.slice (.arr .u8 8))], [(.own, false, .bool)]⟩, loops := [(4, in20042)], views := [] }
/-- laws.eqNormal -/
noncomputable def fd28 : FD := { id := 28, fn := Go.Proofs.Try.f28, sig := ⟨[.ro (.pair (.int .i64) (.pair (.int .i64) (.slice (.arr .u8 8)))), .ro (.pair (.int .i64) (.pair (.int .i64) (.slice (.arr .u8 8))))], [(.own, false, .bool)]⟩, loops := [], views := [] }
/-- laws.FnExactIsPeriodic -/
noncomputable def fd4 : FD := { id := 4, fn := Go.Proofs.Try.f4, sig := ⟨[.ro (.pair (.int .i64) (.pair (.int .i64) (.slice (.arr .u8 8))))], [(.own, false, .bool)]⟩, loops := [], views := [] }
/-- spec.l03Fit -/
noncomputable def fd77 : FD := { id := 77, fn := Go.Proofs.Try.f77, sig := ⟨[.ro (.pair (.int .i64) (.pair (.int .i64) (.slice (.arr .u8 8))))], [(.ro, false, .pair (.int .i64) (.pair (.int .i64) (.slice (.arr .u8 8)))), (.own, false, .int .i64)]⟩, loops := [], views := [] }
/-- spec.NormalOf -/
noncomputable def fd29 : FD := { id := 29, fn := Go.Proofs.Try.f29, sig := ⟨[.ro (.pair (.int .i64) (.slice (.int .i64)))], [(.ro, false, .pair (.int .i64) (.pair (.int .i64) (.slice (.arr .u8 8)))), (.own, false, .int .i64)]⟩, loops := [], views := [] }
/-- impl.limited -/
noncomputable def fd79 : FD := { id := 79, fn := Go.Proofs.Try.f79, sig := ⟨[.own (.pair (.int .i64) (.pair (.int .i64) (.slice (.arr .u8 8))))], [(.own, false, .pair (.int .i64) (.pair (.int .i64) (.slice (.arr .u8 8)))), (.own, false, .int .i64)]⟩, loops := [], views := [] }
/-- impl.NormalOf -/
noncomputable def fd30 : FD := { id := 30, fn := Go.Proofs.Try.f30, sig := ⟨[.ro (.pair (.int .i64) (.slice (.int .i64)))], [(.own, false, .pair (.int .i64) (.pair (.int .i64) (.slice (.arr .u8 8)))), (.own, false, .int .i64)]⟩, loops := [], views := [] }
noncomputable def in20044 : LoopInfo := ⟨20044, ⟨[.row .own (.int .i64)], [(0, .w (.c (.sl 0))), (1, .w (.c (.int .i64))), (5, .w (.c (.int .i64)))]⟩, [(.exit 0, ⟨[.row .own (.int .i64)], [(0, .w (.c (.sl 0))), (1, .w (.c (.int .i64)))]⟩)]⟩
/-- laws.markInt64S -/
noncomputable def fd53 : FD := { id := 53, fn := Go.Proofs.Try.f53, sig := ⟨[.mut (.slice (.int .i64)), .ro (.int .i64)], [(.own, false, .int .i64)]⟩, loops := [(2, in20044)], views := [] }
/-- laws.markBraid -/
noncomputable def fd31 : FD := { id := 31, fn := Go.Proofs.Try.f31, sig := ⟨[.mut (.pair (.int .i64) (.slice (.int .i64))), .ro (.int .i64)], [(.own, false, .int .i64)]⟩, loops := [], views := [] }
noncomputable def in20045 : LoopInfo := ⟨20045, ⟨[.row .own (.arr .u8 8)], [(0, .w (.c (.sl 0))), (1, .w (.c (.int .i64))), (5, .w (.c (.int .i64)))]⟩, [(.exit 0, ⟨[.row .own (.arr .u8 8)], [(0, .w (.c (.sl 0))), (1, .w (.c (.int .i64)))]⟩)]⟩
noncomputable def in20046 : LoopInfo := ⟨20046, ⟨[.row .own (.arr .u8 8)], [(0, .w (.c (.sl 0))), (1, .w (.c (.int .i64))), (5, .w (.c (.int .i64))), (6, .w (.c (.int .i64)))]⟩, [(.exit 2, ⟨[.row .own (.arr .u8 8)], [(0, .w (.c (.sl 0))), (1, .w (.c (.int .i64))), (5, .w (.c (.int .i64)))]⟩)]⟩
/-- laws.markSimpleS -/
noncomputable def fd80 : FD := { id := 80, fn := Go.Proofs.Try.f80, sig := ⟨[.mut (.slice (.arr .u8 8)), .ro (.int .i64)], [(.own, false, .int .i64)]⟩, loops := [(2, in20045), (5, in20046)], views := [] }
/-- laws.markNormal -/
noncomputable def fd32 : FD := { id := 32, fn := Go.Proofs.Try.f32, sig := ⟨[.mut (.pair (.int .i64) (.pair (.int .i64) (.slice (.arr .u8 8)))), .ro (.int .i64)], [(.own, false, .int .i64)]⟩, loops := [], views := [] }
noncomputable def in20047 : LoopInfo := ⟨20047, ⟨[.row .ro (.arr .u8 8)], [(0, .w (.c (.sl 0))), (1, .w (.c (.int .i64))), (5, .w (.c (.int .i64)))]⟩, [(.exit 0, ⟨[], [(1, .w (.c (.int .i64)))]⟩), (.ret, ⟨[], [(4, .w (.c (.int .i64)))]⟩)]⟩
noncomputable def in20048 : LoopInfo := ⟨20048, ⟨[.row .ro (.arr .u8 8)], [(0, .w (.c (.sl 0))), (1, .w (.c (.int .i64))), (5, .w (.c (.int .i64))), (6, .w (.c (.int .i64)))]⟩, [(.exit 2, ⟨[.row .ro (.arr .u8 8)], [(0, .w (.c (.sl 0))), (1, .w (.c (.int .i64))), (5, .w (.c (.int .i64)))]⟩), (.ret, ⟨[], [(4, .w (.c (.int .i64)))]⟩)]⟩
/-- laws.heldSimpleS -/
noncomputable def fd81 : FD := { id := 81, fn := Go.Proofs.Try.f81, sig := ⟨[.ro (.slice (.arr .u8 8)), .ro (.int .i64)], [(.own, false, .int .i64)]⟩, loops := [(2, in20047), (5, in20048)], views := [] }
/-- laws.heldNormal -/
noncomputable def fd33 : FD := { id := 33, fn := Go.Proofs.Try.f33, sig := ⟨[.ro (.pair (.int .i64) (.pair (.int .i64) (.slice (.arr .u8 8)))), .ro (.int .i64)], [(.own, false, .int .i64)]⟩, loops := [], views := [] }
/-- laws.FnExactNormalOf -/
noncomputable def fd5 : FD := { id := 5, fn := Go.Proofs.Try.f5, sig := ⟨[.ro (.pair (.int .i64) (.slice (.int .i64)))], [(.own, false, .bool)]⟩, loops := [], views := [] }
/-- spec.l04First -/
noncomputable def fd131 : FD := { id := 131, fn := Go.Proofs.Try.f131, sig := ⟨[.ro (.pair (.int .i64) (.pair (.int .i64) (.slice (.arr .u8 8))))], [(.own, false, .arr .u8 8)]⟩, loops := [], views := [] }
/-- spec.l04Cycle -/
noncomputable def fd83 : FD := { id := 83, fn := Go.Proofs.Try.f83, sig := ⟨[.ro (.pair (.int .i64) (.pair (.int .i64) (.slice (.arr .u8 8))))], [(.ro, false, .pair (.int .i64) (.pair (.int .i64) (.slice (.arr .u8 8))))]⟩, loops := [], views := [] }
/-- spec.CyclingOf -/
noncomputable def fd34 : FD := { id := 34, fn := Go.Proofs.Try.f34, sig := ⟨[.ro (.pair (.int .i64) (.pair (.int .i64) (.slice (.arr .u8 8))))], [(.ro, false, .pair (.int .i64) (.pair (.int .i64) (.slice (.arr .u8 8)))), (.own, false, .int .i64)]⟩, loops := [], views := [] }
/-- impl.turned -/
noncomputable def fd132 : FD := { id := 132, fn := Go.Proofs.Try.f132, sig := ⟨[.ro (.arr .u8 8), .ro (.pair (.int .i64) (.pair (.int .i64) (.slice (.arr .u8 8))))], [(.own, false, .arr .u8 8)]⟩, loops := [], views := [] }
/-- impl.cycled -/
noncomputable def fd85 : FD := { id := 85, fn := Go.Proofs.Try.f85, sig := ⟨[.ro (.pair (.int .i64) (.pair (.int .i64) (.slice (.arr .u8 8))))], [(.own, false, .pair (.int .i64) (.pair (.int .i64) (.slice (.arr .u8 8))))]⟩, loops := [], views := [] }
/-- impl.changed -/
noncomputable def fd10000 : FD := { id := 84, fn := Go.Proofs.Try.f84, sig := ⟨[.ro (.pair (.int .i64) (.pair (.int .i64) (.slice (.arr .u8 8)))), .fn 85 []], [(.own, false, .pair (.int .i64) (.pair (.int .i64) (.slice (.arr .u8 8)))), (.own, false, .int .i64)]⟩, loops := [], views := [] }
/-- impl.CyclingOf -/
noncomputable def fd35 : FD := { id := 35, fn := Go.Proofs.Try.f35, sig := ⟨[.ro (.pair (.int .i64) (.pair (.int .i64) (.slice (.arr .u8 8))))], [(.own, false, .pair (.int .i64) (.pair (.int .i64) (.slice (.arr .u8 8)))), (.own, false, .int .i64)]⟩, loops := [], views := [] }
/-- laws.FnExactCyclingOf -/
noncomputable def fd6 : FD := { id := 6, fn := Go.Proofs.Try.f6, sig := ⟨[.ro (.pair (.int .i64) (.pair (.int .i64) (.slice (.arr .u8 8))))], [(.own, false, .bool)]⟩, loops := [], views := [] }
/-- spec.l04Decycle -/
noncomputable def fd86 : FD := { id := 86, fn := Go.Proofs.Try.f86, sig := ⟨[.ro (.pair (.int .i64) (.pair (.int .i64) (.slice (.arr .u8 8))))], [(.ro, false, .pair (.int .i64) (.pair (.int .i64) (.slice (.arr .u8 8))))]⟩, loops := [], views := [] }
/-- spec.DecyclingOf -/
noncomputable def fd36 : FD := { id := 36, fn := Go.Proofs.Try.f36, sig := ⟨[.ro (.pair (.int .i64) (.pair (.int .i64) (.slice (.arr .u8 8))))], [(.ro, false, .pair (.int .i64) (.pair (.int .i64) (.slice (.arr .u8 8)))), (.own, false, .int .i64)]⟩, loops := [], views := [] }
noncomputable def in20049 : LoopInfo := ⟨20049, ⟨[.box .own (.st [.int .i64, .int .i64, .sl 1]), .row .own (.arr .u8 8), .box .own (.st [.int .i64, .int .i64, .sl 3]), .row .own (.arr .u8 8), .row .ro (.arr .u8 8)], [(2, .w (.c (.ptr 0))), (4, .w (.c (.ptr 2))), (31, .w (.c (.sl 4))), (32, .w (.c (.int .i64))), (33, .w (.c (.int .i64)))]⟩, [(.exit 0, ⟨[.box .own (.st [.int .i64, .int .i64, .sl 1]), .row .own (.arr .u8 8), .box .own (.st [.int .i64, .int .i64, .sl 3]), .row .own (.arr .u8 8)], [(2, .w (.c (.ptr 0))), (4, .w (.c (.ptr 2)))]⟩)]⟩
/-- impl.decycled -/
noncomputable def fd87 : FD := { id := 87, fn := Go.Proofs.Try.f87, sig := ⟨[.ro (.pair (.int .i64) (.pair (.int .i64) (.slice (.arr .u8 8))))], [(.own, false, .pair (.int .i64) (.pair (.int .i64) (.slice (.arr .u8 8))))]⟩, loops := [(7, in20049)], views := [] }
/-- impl.changed -/
noncomputable def fd10001 : FD := { id := 84, fn := Go.Proofs.Try.f84, sig := ⟨[.ro (.pair (.int .i64) (.pair (.int .i64) (.slice (.arr .u8 8)))), .fn 87 []], [(.own, false, .pair (.int .i64) (.pair (.int .i64) (.slice (.arr .u8 8)))), (.own, false, .int .i64)]⟩, loops := [], views := [] }
/-- impl.DecyclingOf -/
noncomputable def fd37 : FD := { id := 37, fn := Go.Proofs.Try.f37, sig := ⟨[.ro (.pair (.int .i64) (.pair (.int .i64) (.slice (.arr .u8 8))))], [(.own, false, .pair (.int .i64) (.pair (.int .i64) (.slice (.arr .u8 8)))), (.own, false, .int .i64)]⟩, loops := [], views := [] }
/-- laws.FnExactDecyclingOf -/
noncomputable def fd7 : FD := { id := 7, fn := Go.Proofs.Try.f7, sig := ⟨[.ro (.pair (.int .i64) (.pair (.int .i64) (.slice (.arr .u8 8))))], [(.own, false, .bool)]⟩, loops := [], views := [] }
noncomputable def in20050 : LoopInfo := ⟨20050, ⟨[.box .own (.st [.int .i64, .sl 1]), .row .ro (.int .i64), .box .own (.st [.int .i64, .int .i64, .sl 3]), .row .own (.arr .u8 8), .row .own (.int .i64)], [(1, .w (.c (.ptr 0))), (2, .w (.c (.ptr 2))), (4, .w (.c (.sl 4))), (5, .w (.c (.int .i64)))]⟩, [(.exit 0, ⟨[.box .own (.st [.int .i64, .sl 1]), .row .ro (.int .i64), .box .own (.st [.int .i64, .int .i64, .sl 3]), .row .own (.arr .u8 8), .row .own (.int .i64)], [(1, .w (.c (.ptr 0))), (2, .w (.c (.ptr 2))), (4, .w (.c (.sl 4)))]⟩)]⟩
noncomputable def in20051 : LoopInfo := ⟨20051, ⟨[.box .own (.st [.int .i64, .int .i64, .sl 1]), .row .own (.arr .u8 8), .box .own (.st [.int .i64, .int .i64, .sl 3]), .row .own (.arr .u8 8), .box .own (.st [.int .i64, .int .i64, .sl 5]), .row .own (.arr .u8 8)], [(2, .w (.c (.ptr 0))), (6, .w (.c (.ptr 2))), (7, .w (.c (.ptr 4))), (8, .w (.c (.int .i64)))]⟩, [(.exit 2, ⟨[.box .own (.st [.int .i64, .int .i64, .sl 1]), .row .own (.arr .u8 8), .box .own (.st [.int .i64, .int .i64, .sl 3]), .row .own (.arr .u8 8)], [(2, .w (.c (.ptr 0))), (7, .w (.c (.ptr 2)))]⟩)]⟩
/-- spec.RightNormalOf -/
noncomputable def fd38 : FD := { id := 38, fn := Go.Proofs.Try.f38, sig := ⟨[.ro (.pair (.int .i64) (.slice (.int .i64)))], [(.ro, false, .pair (.int .i64) (.pair (.int .i64) (.slice (.arr .u8 8)))), (.own, false, .int .i64)]⟩, loops := [(5, in20050), (11, in20051)], views := [] }
noncomputable def in20052 : LoopInfo := ⟨20052, ⟨[.box .own (.st [.int .i64, .sl 1]), .row .ro (.int .i64), .box .own (.st [.int .i64, .sl 3]), .row .own (.int .i64), .box .own (.st [.int .i64, .sl 5]), .row .own (.int .i64)], [(1, .w (.c (.ptr 0))), (2, .w (.c (.ptr 2))), (3, .w (.c (.ptr 4))), (4, .w (.c (.int .i64)))]⟩, [(.exit 0, ⟨[.box .own (.st [.int .i64, .sl 1]), .row .own (.int .i64), .box .own (.st [.int .i64, .sl 3]), .row .own (.int .i64)], [(2, .w (.c (.ptr 0))), (3, .w (.c (.ptr 2)))]⟩)]⟩
/-- impl.reversed -/
noncomputable def fd89 : FD := { id := 89, fn := Go.Proofs.Try.f89, sig := ⟨[.ro (.pair (.int .i64) (.slice (.int .i64)))], [(.own, false, .pair (.int .i64) (.slice (.int .i64)))]⟩, loops := [(3, in20052)], views := [] }
noncomputable def in20053 : LoopInfo := ⟨20053, ⟨[.box .own (.st [.int .i64, .int .i64, .sl 1]), .row .own (.arr .u8 8), .box .own (.st [.int .i64, .int .i64, .sl 3]), .row .own (.arr .u8 8), .box .own (.st [.int .i64, .int .i64, .sl 5]), .row .own (.arr .u8 8)], [(2, .w (.c (.ptr 0))), (4, .w (.c (.ptr 2))), (5, .w (.c (.ptr 4))), (6, .w (.c (.int .i64)))]⟩, [(.exit 0, ⟨[.box .own (.st [.int .i64, .int .i64, .sl 1]), .row .own (.arr .u8 8), .box .own (.st [.int .i64, .int .i64, .sl 3]), .row .own (.arr .u8 8)], [(2, .w (.c (.ptr 0))), (5, .w (.c (.ptr 2)))]⟩)]⟩
/-- impl.RightNormalOf -/
noncomputable def fd39 : FD := { id := 39, fn := Go.Proofs.Try.f39, sig := ⟨[.ro (.pair (.int .i64) (.slice (.int .i64)))], [(.own, false, .pair (.int .i64) (.pair (.int .i64) (.slice (.arr .u8 8)))), (.own, false, .int .i64)]⟩, loops := [(6, in20053)], views := [] }
/-- laws.FnExactRightNormalOf -/
noncomputable def fd8 : FD := { id := 8, fn := Go.Proofs.Try.f8, sig := ⟨[.ro (.pair (.int .i64) (.slice (.int .i64)))], [(.own, false, .bool)]⟩, loops := [], views := [] }
noncomputable def in20054 : LoopInfo := ⟨20054, ⟨[.box .own (.st [.int .i64, .int .i64, .sl 1]), .row .ro (.arr .u8 8), .box .own (.st [.int .i64, .int .i64, .sl 3]), .row .own (.arr .u8 8), .box .own (.st [.int .i64, .int .i64, .sl 5]), .row .own (.arr .u8 8)], [(1, .w (.c (.ptr 0))), (2, .w (.c (.ptr 2))), (3, .w (.c (.ptr 4))), (4, .w (.c (.int .i64)))]⟩, [(.exit 0, ⟨[.box .own (.st [.int .i64, .int .i64, .sl 1]), .row .ro (.arr .u8 8), .box .own (.st [.int .i64, .int .i64, .sl 3]), .row .own (.arr .u8 8), .box .own (.st [.int .i64, .int .i64, .sl 5]), .row .own (.arr .u8 8)], [(1, .w (.c (.ptr 0))), (2, .w (.c (.ptr 2))), (3, .w (.c (.ptr 4)))]⟩)]⟩
/-- spec.l03Inverse -/
noncomputable def fd91 : FD := { id := 91, fn := Go.Proofs.Try.f91, sig := ⟨[.ro (.pair (.int .i64) (.pair (.int .i64) (.slice (.arr .u8 8))))], [(.own, false, .pair (.int .i64) (.pair (.int .i64) (.slice (.arr .u8 8))))]⟩, loops := [(3, in20054)], views := [] }
/-- spec.InverseNormal -/
noncomputable def fd40 : FD := { id := 40, fn := Go.Proofs.Try.f40, sig := ⟨[.ro (.pair (.int .i64) (.pair (.int .i64) (.slice (.arr .u8 8))))], [(.ro, false, .pair (.int .i64) (.pair (.int .i64) (.slice (.arr .u8 8)))), (.own, false, .int .i64)]⟩, loops := [], views := [] }
noncomputable def in20055 : LoopInfo := ⟨20055, ⟨[.box .own (.st [.int .i64, .int .i64, .sl 1]), .row .ro (.arr .u8 8), .box .own (.st [.int .i64, .int .i64, .sl 3]), .row .own (.arr .u8 8), .box .own (.st [.int .i64, .int .i64, .sl 5]), .row .own (.arr .u8 8)], [(1, .w (.c (.ptr 0))), (2, .w (.c (.ptr 2))), (3, .w (.c (.ptr 4))), (4, .w (.c (.int .i64)))]⟩, [(.exit 0, ⟨[.box .own (.st [.int .i64, .int .i64, .sl 1]), .row .ro (.arr .u8 8), .box .own (.st [.int .i64, .int .i64, .sl 3]), .row .own (.arr .u8 8), .box .own (.st [.int .i64, .int .i64, .sl 5]), .row .own (.arr .u8 8)], [(1, .w (.c (.ptr 0))), (2, .w (.c (.ptr 2))), (3, .w (.c (.ptr 4)))]⟩)]⟩
/-- impl.inverse -/
noncomputable def fd92 : FD := { id := 92, fn := Go.Proofs.Try.f92, sig := ⟨[.ro (.pair (.int .i64) (.pair (.int .i64) (.slice (.arr .u8 8))))], [(.own, false, .pair (.int .i64) (.pair (.int .i64) (.slice (.arr .u8 8))))]⟩, loops := [(3, in20055)], views := [] }
/-- impl.InverseNormal -/
noncomputable def fd41 : FD := { id := 41, fn := Go.Proofs.Try.f41, sig := ⟨[.ro (.pair (.int .i64) (.pair (.int .i64) (.slice (.arr .u8 8))))], [(.own, false, .pair (.int .i64) (.pair (.int .i64) (.slice (.arr .u8 8)))), (.own, false, .int .i64)]⟩, loops := [], views := [] }
/-- laws.FnExactInverseNormal -/
noncomputable def fd9 : FD := { id := 9, fn := Go.Proofs.Try.f9, sig := ⟨[.ro (.pair (.int .i64) (.pair (.int .i64) (.slice (.arr .u8 8))))], [(.own, false, .bool)]⟩, loops := [], views := [] }
/-- spec.l03Both -/
noncomputable def fd93 : FD := { id := 93, fn := Go.Proofs.Try.f93, sig := ⟨[.ro (.pair (.int .i64) (.pair (.int .i64) (.slice (.arr .u8 8)))), .ro (.pair (.int .i64) (.pair (.int .i64) (.slice (.arr .u8 8))))], [(.own, false, .int .i64)]⟩, loops := [], views := [] }
/-- spec.MultiplyNormals -/
noncomputable def fd42 : FD := { id := 42, fn := Go.Proofs.Try.f42, sig := ⟨[.ro (.pair (.int .i64) (.pair (.int .i64) (.slice (.arr .u8 8)))), .ro (.pair (.int .i64) (.pair (.int .i64) (.slice (.arr .u8 8))))], [(.ro, false, .pair (.int .i64) (.pair (.int .i64) (.slice (.arr .u8 8)))), (.own, false, .int .i64)]⟩, loops := [], views := [] }
/-- impl.areSameCount -/
noncomputable def fd94 : FD := { id := 94, fn := Go.Proofs.Try.f94, sig := ⟨[.ro (.pair (.int .i64) (.pair (.int .i64) (.slice (.arr .u8 8)))), .ro (.pair (.int .i64) (.pair (.int .i64) (.slice (.arr .u8 8))))], [(.own, false, .int .i64)]⟩, loops := [], views := [] }
/-- impl.MultiplyNormals -/
noncomputable def fd43 : FD := { id := 43, fn := Go.Proofs.Try.f43, sig := ⟨[.ro (.pair (.int .i64) (.pair (.int .i64) (.slice (.arr .u8 8)))), .ro (.pair (.int .i64) (.pair (.int .i64) (.slice (.arr .u8 8))))], [(.own, false, .pair (.int .i64) (.pair (.int .i64) (.slice (.arr .u8 8)))), (.own, false, .int .i64)]⟩, loops := [], views := [] }
/-- laws.FnExactMultiplyNormals -/
noncomputable def fd10 : FD := { id := 10, fn := Go.Proofs.Try.f10, sig := ⟨[.ro (.pair (.int .i64) (.pair (.int .i64) (.slice (.arr .u8 8)))), .ro (.pair (.int .i64) (.pair (.int .i64) (.slice (.arr .u8 8))))], [(.own, false, .bool)]⟩, loops := [], views := [] }
/-- spec.l03Positive -/
noncomputable def fd95 : FD := { id := 95, fn := Go.Proofs.Try.f95, sig := ⟨[.ro (.pair (.int .i64) (.pair (.int .i64) (.slice (.arr .u8 8)))), .ro (.pair (.int .i64) (.pair (.int .i64) (.slice (.arr .u8 8))))], [(.own, false, .int .i64)]⟩, loops := [], views := [] }
/-- spec.l03First -/
noncomputable def fd135 : FD := { id := 135, fn := Go.Proofs.Try.f135, sig := ⟨[.ro (.pair (.int .i64) (.pair (.int .i64) (.slice (.arr .u8 8))))], [(.own, false, .arr .u8 8)]⟩, loops := [], views := [] }
/-- spec.l03Less -/
noncomputable def fd136 : FD := { id := 136, fn := Go.Proofs.Try.f136, sig := ⟨[.ro (.pair (.int .i64) (.pair (.int .i64) (.slice (.arr .u8 8)))), .ro (.arr .u8 8)], [(.own, false, .pair (.int .i64) (.pair (.int .i64) (.slice (.arr .u8 8))))]⟩, loops := [], views := [] }
noncomputable def in20056 : LoopInfo := ⟨20056, ⟨[.box .own (.st [.int .i64, .int .i64, .sl 1]), .row .ro (.arr .u8 8), .box .own (.st [.int .i64, .int .i64, .sl 3]), .row .ro (.arr .u8 8), .box .own (.st [.int .i64, .int .i64, .sl 5]), .row .own (.arr .u8 8), .box .own (.st [.int .i64, .int .i64, .sl 7]), .row .own (.arr .u8 8), .box .own (.st [.int .i64, .int .i64, .sl 9]), .row .own (.arr .u8 8), .box .own (.st [.int .i64, .int .i64, .sl 11]), .row .own (.arr .u8 8)], [(2, .w (.c (.ptr 0))), (3, .w (.c (.ptr 2))), (4, .w (.c (.ptr 4))), (5, .w (.c (.ptr 6))), (6, .w (.c (.ptr 8))), (7, .w (.c (.int .i64))), (8, .w (.c (.ptr 10)))]⟩, [(.ret, ⟨[.box .own (.st [.int .i64, .int .i64, .sl 1]), .row .own (.arr .u8 8), .box .own (.st [.int .i64, .int .i64, .sl 3]), .row .ro (.arr .u8 8), .box .own (.st [.int .i64, .int .i64, .sl 5]), .row .ro (.arr .u8 8)], [(4, .w (.c (.ptr 0))), (5, .w (.c (.ptr 2))), (6, .w (.c (.ptr 4)))]⟩)]⟩
/-- spec.l03Common -/
noncomputable def fd96 : FD := { id := 96, fn := Go.Proofs.Try.f96, sig := ⟨[.ro (.pair (.int .i64) (.pair (.int .i64) (.slice (.arr .u8 8)))), .ro (.pair (.int .i64) (.pair (.int .i64) (.slice (.arr .u8 8))))], [(.ro, false, .pair (.int .i64) (.pair (.int .i64) (.slice (.arr .u8 8)))), (.ro, false, .pair (.int .i64) (.pair (.int .i64) (.slice (.arr .u8 8)))), (.ro, false, .pair (.int .i64) (.pair (.int .i64) (.slice (.arr .u8 8))))]⟩, loops := [(3, in20056)], views := [] }
/-- spec.IsBeginningOf -/
noncomputable def fd44 : FD := { id := 44, fn := Go.Proofs.Try.f44, sig := ⟨[.ro (.pair (.int .i64) (.pair (.int .i64) (.slice (.arr .u8 8)))), .ro (.pair (.int .i64) (.pair (.int .i64) (.slice (.arr .u8 8))))], [(.own, false, .bool), (.own, false, .int .i64)]⟩, loops := [], views := [] }
/-- impl.arePositive -/
noncomputable def fd97 : FD := { id := 97, fn := Go.Proofs.Try.f97, sig := ⟨[.ro (.pair (.int .i64) (.pair (.int .i64) (.slice (.arr .u8 8)))), .ro (.pair (.int .i64) (.pair (.int .i64) (.slice (.arr .u8 8))))], [(.own, false, .int .i64)]⟩, loops := [], views := [] }
/-- impl.IsBeginningOf -/
noncomputable def fd45 : FD := { id := 45, fn := Go.Proofs.Try.f45, sig := ⟨[.ro (.pair (.int .i64) (.pair (.int .i64) (.slice (.arr .u8 8)))), .ro (.pair (.int .i64) (.pair (.int .i64) (.slice (.arr .u8 8))))], [(.own, false, .bool), (.own, false, .int .i64)]⟩, loops := [], views := [] }
/-- laws.FnExactIsBeginningOf -/
noncomputable def fd11 : FD := { id := 11, fn := Go.Proofs.Try.f11, sig := ⟨[.ro (.pair (.int .i64) (.pair (.int .i64) (.slice (.arr .u8 8)))), .ro (.pair (.int .i64) (.pair (.int .i64) (.slice (.arr .u8 8))))], [(.own, false, .bool)]⟩, loops := [], views := [] }
/-- spec.FractionOf -/
noncomputable def fd46 : FD := { id := 46, fn := Go.Proofs.Try.f46, sig := ⟨[.ro (.pair (.int .i64) (.pair (.int .i64) (.slice (.arr .u8 8))))], [(.ro, false, .pair (.int .i64) (.pair (.int .i64) (.slice (.arr .u8 8)))), (.ro, false, .pair (.int .i64) (.pair (.int .i64) (.slice (.arr .u8 8)))), (.own, false, .int .i64)]⟩, loops := [], views := [] }
/-- impl.FractionOf -/
noncomputable def fd47 : FD := { id := 47, fn := Go.Proofs.Try.f47, sig := ⟨[.ro (.pair (.int .i64) (.pair (.int .i64) (.slice (.arr .u8 8))))], [(.own, false, .pair (.int .i64) (.pair (.int .i64) (.slice (.arr .u8 8)))), (.own, false, .pair (.int .i64) (.pair (.int .i64) (.slice (.arr .u8 8)))), (.own, false, .int .i64)]⟩, loops := [], views := [] }
/-- laws.FnExactFractionOf -/
noncomputable def fd12 : FD := { id := 12, fn := Go.Proofs.Try.f12, sig := ⟨[.ro (.pair (.int .i64) (.pair (.int .i64) (.slice (.arr .u8 8))))], [(.own, false, .bool)]⟩, loops := [], views := [] }
/-- spec.ConjugateBy -/
noncomputable def fd48 : FD := { id := 48, fn := Go.Proofs.Try.f48, sig := ⟨[.ro (.pair (.int .i64) (.pair (.int .i64) (.slice (.arr .u8 8)))), .ro (.pair (.int .i64) (.pair (.int .i64) (.slice (.arr .u8 8))))], [(.ro, false, .pair (.int .i64) (.pair (.int .i64) (.slice (.arr .u8 8)))), (.own, false, .int .i64)]⟩, loops := [], views := [] }
/-- impl.ConjugateBy -/
noncomputable def fd49 : FD := { id := 49, fn := Go.Proofs.Try.f49, sig := ⟨[.ro (.pair (.int .i64) (.pair (.int .i64) (.slice (.arr .u8 8)))), .ro (.pair (.int .i64) (.pair (.int .i64) (.slice (.arr .u8 8))))], [(.own, false, .pair (.int .i64) (.pair (.int .i64) (.slice (.arr .u8 8)))), (.own, false, .int .i64)]⟩, loops := [], views := [] }
/-- laws.FnExactConjugateBy -/
noncomputable def fd13 : FD := { id := 13, fn := Go.Proofs.Try.f13, sig := ⟨[.ro (.pair (.int .i64) (.pair (.int .i64) (.slice (.arr .u8 8)))), .ro (.pair (.int .i64) (.pair (.int .i64) (.slice (.arr .u8 8))))], [(.own, false, .bool)]⟩, loops := [], views := [] }
noncomputable def in20057 : LoopInfo := ⟨20057, ⟨[.box .own (.st [.int .i64, .int .i64, .sl 1]), .row .ro (.arr .u8 8), .box .own (.st [.int .i64, .int .i64, .sl 3]), .row .own (.arr .u8 8)], [(1, .w (.c (.ptr 0))), (2, .w (.c (.ptr 2))), (3, .w (.c (.int .i64)))]⟩, [(.ret, ⟨[.box .own (.st [.int .i64, .int .i64, .sl 1]), .row .ro (.arr .u8 8)], [(2, .w (.c (.ptr 0)))]⟩)]⟩
noncomputable def in20058 : LoopInfo := ⟨20058, ⟨[.box .own (.st [.int .i64, .int .i64, .sl 1]), .row .ro (.arr .u8 8), .box .own (.st [.int .i64, .int .i64, .sl 3]), .row .own (.arr .u8 8), .box .own (.st [.int .i64, .int .i64, .sl 5]), .row .ro (.arr .u8 8)], [(1, .w (.c (.ptr 0))), (2, .w (.c (.ptr 2))), (3, .w (.c (.int .i64))), (4, .w (.c (.ptr 4))), (5, .w (.c (.bool))), (6, .w (.c (.int .i64)))]⟩, [(.exit 2, ⟨[.box .own (.st [.int .i64, .int .i64, .sl 1]), .row .ro (.arr .u8 8), .box .own (.st [.int .i64, .int .i64, .sl 3]), .row .own (.arr .u8 8), .box .own (.st [.int .i64, .int .i64, .sl 5]), .row .ro (.arr .u8 8)], [(1, .w (.c (.ptr 0))), (2, .w (.c (.ptr 2))), (3, .w (.c (.int .i64))), (4, .w (.c (.ptr 4))), (5, .w (.c (.bool)))]⟩)]⟩
noncomputable def in20059 : LoopInfo := ⟨20059, ⟨[.box .own (.st [.int .i64, .int .i64, .sl 1]), .row .ro (.arr .u8 8), .box .own (.st [.int .i64, .int .i64, .sl 3]), .row .own (.arr .u8 8), .box .own (.st [.int .i64, .int .i64, .sl 5]), .row .ro (.arr .u8 8)], [(1, .w (.c (.ptr 0))), (2, .w (.c (.ptr 2))), (3, .w (.c (.int .i64))), (4, .w (.c (.ptr 4))), (5, .w (.c (.bool))), (7, .w (.c (.int .i64)))]⟩, [(.exit 4, ⟨[.box .own (.st [.int .i64, .int .i64, .sl 1]), .row .ro (.arr .u8 8), .box .own (.st [.int .i64, .int .i64, .sl 3]), .row .own (.arr .u8 8), .box .own (.st [.int .i64, .int .i64, .sl 5]), .row .ro (.arr .u8 8)], [(1, .w (.c (.ptr 0))), (2, .w (.c (.ptr 2))), (3, .w (.c (.int .i64))), (4, .w (.c (.ptr 4))), (5, .w (.c (.bool)))]⟩)]⟩
/-- spec.l04Summit -/
noncomputable def fd99 : FD := { id := 99, fn := Go.Proofs.Try.f99, sig := ⟨[.ro (.pair (.int .i64) (.pair (.int .i64) (.slice (.arr .u8 8))))], [(.ro, false, .pair (.int .i64) (.pair (.int .i64) (.slice (.arr .u8 8))))]⟩, loops := [(2, in20057), (4, in20058), (11, in20059)], views := [] }
/-- spec.SummitLengths -/
noncomputable def fd50 : FD := { id := 50, fn := Go.Proofs.Try.f50, sig := ⟨[.ro (.pair (.int .i64) (.pair (.int .i64) (.slice (.arr .u8 8))))], [(.own, false, .slice (.int .i64)), (.own, false, .int .i64)]⟩, loops := [], views := [] }
/-- impl.summit$1 -/
noncomputable def fd138 : FD := { id := 138, fn := Go.Proofs.Try.f138, sig := ⟨[.ro (.pair (.int .i64) (.pair (.int .i64) (.slice (.arr .u8 8)))), .ro (.pair (.int .i64) (.pair (.int .i64) (.slice (.arr .u8 8))))], [(.own, false, .bool)]⟩, loops := [], views := [] }
noncomputable def in20061 : LoopInfo := ⟨20061, ⟨[.box .own (.st [.int .i64, .int .i64, .sl 1]), .row .ro (.arr .u8 8), .box .own (.st [.int .i64, .int .i64, .sl 3]), .row .own (.arr .u8 8), .box .own (.st [.int .i64, .int .i64, .sl 5]), .row .ro (.arr .u8 8)], [(1, .fn 85 []), (2, .fn 138 []), (3, .w (.c (.ptr 0))), (6, .w (.c (.ptr 2))), (8, .w (.c (.ptr 4))), (16, .w (.c (.int .i64))), (17, .w (.c (.int .i64)))]⟩, [(.exit 0, ⟨[.box .own (.st [.int .i64, .int .i64, .sl 1]), .row .ro (.arr .u8 8), .box .own (.st [.int .i64, .int .i64, .sl 3]), .row .own (.arr .u8 8)], [(3, .w (.c (.ptr 0))), (6, .w (.c (.ptr 2)))]⟩), (.ret, ⟨[.box .own (.st [.int .i64, .int .i64, .sl 1]), .row .own (.arr .u8 8)], [(6, .w (.c (.ptr 0))), (7, .w (.c (.bool)))]⟩)]⟩
/-- impl.better -/
noncomputable def fd10002 : FD := { id := 137, fn := Go.Proofs.Try.f137, sig := ⟨[.ro (.pair (.int .i64) (.pair (.int .i64) (.slice (.arr .u8 8)))), .fn 85 [], .fn 138 []], [(.ro, false, .pair (.int .i64) (.pair (.int .i64) (.slice (.arr .u8 8)))), (.own, false, .bool)]⟩, loops := [(3, in20061)], views := [] }
/-- impl.greatest -/
noncomputable def fd140 : FD := { id := 140, fn := Go.Proofs.Try.f140, sig := ⟨[.ro (.pair (.int .i64) (.pair (.int .i64) (.slice (.arr .u8 8))))], [(.own, false, .int .i64)]⟩, loops := [], views := [] }
/-- impl.summit$2 -/
noncomputable def fd139 : FD := { id := 139, fn := Go.Proofs.Try.f139, sig := ⟨[.ro (.pair (.int .i64) (.pair (.int .i64) (.slice (.arr .u8 8)))), .ro (.pair (.int .i64) (.pair (.int .i64) (.slice (.arr .u8 8))))], [(.own, false, .bool)]⟩, loops := [], views := [] }
noncomputable def in20062 : LoopInfo := ⟨20062, ⟨[.box .own (.st [.int .i64, .int .i64, .sl 1]), .row .ro (.arr .u8 8), .box .own (.st [.int .i64, .int .i64, .sl 3]), .row .own (.arr .u8 8), .box .own (.st [.int .i64, .int .i64, .sl 5]), .row .ro (.arr .u8 8)], [(1, .fn 87 []), (2, .fn 139 []), (3, .w (.c (.ptr 0))), (6, .w (.c (.ptr 2))), (8, .w (.c (.ptr 4))), (16, .w (.c (.int .i64))), (17, .w (.c (.int .i64)))]⟩, [(.exit 0, ⟨[.box .own (.st [.int .i64, .int .i64, .sl 1]), .row .ro (.arr .u8 8), .box .own (.st [.int .i64, .int .i64, .sl 3]), .row .own (.arr .u8 8)], [(3, .w (.c (.ptr 0))), (6, .w (.c (.ptr 2)))]⟩), (.ret, ⟨[.box .own (.st [.int .i64, .int .i64, .sl 1]), .row .own (.arr .u8 8)], [(6, .w (.c (.ptr 0))), (7, .w (.c (.bool)))]⟩)]⟩
/-- impl.better -/
noncomputable def fd10003 : FD := { id := 137, fn := Go.Proofs.Try.f137, sig := ⟨[.ro (.pair (.int .i64) (.pair (.int .i64) (.slice (.arr .u8 8)))), .fn 87 [], .fn 139 []], [(.ro, false, .pair (.int .i64) (.pair (.int .i64) (.slice (.arr .u8 8)))), (.own, false, .bool)]⟩, loops := [(3, in20062)], views := [] }
noncomputable def in20060 : LoopInfo := ⟨20060, ⟨[.box .own (.st [.int .i64, .int .i64, .sl 1]), .row .ro (.arr .u8 8), .box .own (.st [.int .i64, .int .i64, .sl 3]), .row .own (.arr .u8 8)], [(1, .w (.c (.ptr 0))), (2, .w (.c (.ptr 2)))]⟩, [(.ret, ⟨[.box .own (.st [.int .i64, .int .i64, .sl 1]), .row .own (.arr .u8 8)], [(2, .w (.c (.ptr 0)))]⟩)]⟩
/-- impl.summit -/
noncomputable def fd100 : FD := { id := 100, fn := Go.Proofs.Try.f100, sig := ⟨[.ro (.pair (.int .i64) (.pair (.int .i64) (.slice (.arr .u8 8))))], [(.own, false, .pair (.int .i64) (.pair (.int .i64) (.slice (.arr .u8 8))))]⟩, loops := [(1, in20060)], views := [] }
/-- impl.SummitLengths -/
noncomputable def fd51 : FD := { id := 51, fn := Go.Proofs.Try.f51, sig := ⟨[.ro (.pair (.int .i64) (.pair (.int .i64) (.slice (.arr .u8 8))))], [(.own, false, .slice (.int .i64)), (.own, false, .int .i64)]⟩, loops := [], views := [] }
noncomputable def in20063 : LoopInfo := ⟨20063, ⟨[.row .ro (.int .i64)], [(0, .w (.c (.sl 0))), (1, .w (.c (.int .i64))), (5, .w (.c (.int .i64)))]⟩, [(.exit 0, ⟨[], [(1, .w (.c (.int .i64)))]⟩), (.ret, ⟨[], [(4, .w (.c (.int .i64)))]⟩)]⟩
/-- laws.heldInt64S -/
noncomputable def fd54 : FD := { id := 54, fn := Go.Proofs.Try.f54, sig := ⟨[.ro (.slice (.int .i64)), .ro (.int .i64)], [(.own, false, .int .i64)]⟩, loops := [(2, in20063)], views := [] }
/-- laws.FnExactSummitLengths -/
noncomputable def fd14 : FD := { id := 14, fn := Go.Proofs.Try.f14, sig := ⟨[.ro (.pair (.int .i64) (.pair (.int .i64) (.slice (.arr .u8 8))))], [(.own, false, .bool)]⟩, loops := [], views := [] }
noncomputable def in20064 : LoopInfo := ⟨20064, ⟨[.box .own (.st [.int .i64, .int .i64, .sl 1]), .row .own (.arr .u8 8), .box .own (.st [.int .i64, .int .i64, .sl 3]), .row .ro (.arr .u8 8), .box .own (.st [.int .i64, .int .i64, .sl 5]), .row .ro (.arr .u8 8)], [(1, .w (.c (.int .i64))), (4, .w (.c (.ptr 0))), (6, .w (.c (.ptr 2))), (7, .w (.c (.ptr 4)))]⟩, [(.exit 1, ⟨[.box .own (.st [.int .i64, .int .i64, .sl 1]), .row .own (.arr .u8 8), .box .own (.st [.int .i64, .int .i64, .sl 3]), .row .ro (.arr .u8 8)], [(4, .w (.c (.ptr 0))), (7, .w (.c (.ptr 2)))]⟩), (.ret, ⟨[.box .own (.st [.int .i64, .int .i64, .sl 1]), .row .own (.arr .u8 8)], [(4, .w (.c (.ptr 0))), (5, .w (.c (.int .i64)))]⟩)]⟩
/-- spec.PowerNormal -/
noncomputable def fd55 : FD := { id := 55, fn := Go.Proofs.Try.f55, sig := ⟨[.ro (.pair (.int .i64) (.pair (.int .i64) (.slice (.arr .u8 8)))), .ro (.int .i64)], [(.ro, false, .pair (.int .i64) (.pair (.int .i64) (.slice (.arr .u8 8)))), (.own, false, .int .i64)]⟩, loops := [(10, in20064)], views := [] }
/-- impl.size -/
noncomputable def fd103 : FD := { id := 103, fn := Go.Proofs.Try.f103, sig := ⟨[.ro (.int .i64)], [(.own, false, .int .i64)]⟩, loops := [], views := [] }
noncomputable def in20065 : LoopInfo := ⟨20065, ⟨[.box .own (.st [.int .i64, .int .i64, .sl 1]), .row .own (.arr .u8 8), .box .own (.st [.int .i64, .int .i64, .sl 3]), .row .ro (.arr .u8 8), .box .own (.st [.int .i64, .int .i64, .sl 5]), .row .own (.arr .u8 8)], [(4, .w (.c (.ptr 0))), (6, .w (.c (.ptr 2))), (7, .w (.c (.ptr 4))), (29, .w (.c (.int .i64))), (30, .w (.c (.int .i64)))]⟩, [(.exit 1, ⟨[.box .own (.st [.int .i64, .int .i64, .sl 1]), .row .own (.arr .u8 8), .box .own (.st [.int .i64, .int .i64, .sl 3]), .row .own (.arr .u8 8)], [(4, .w (.c (.ptr 0))), (7, .w (.c (.ptr 2)))]⟩), (.ret, ⟨[.box .own (.st [.int .i64, .int .i64, .sl 1]), .row .own (.arr .u8 8)], [(4, .w (.c (.ptr 0))), (5, .w (.c (.int .i64)))]⟩)]⟩
/-- impl.PowerNormal -/
noncomputable def fd56 : FD := { id := 56, fn := Go.Proofs.Try.f56, sig := ⟨[.ro (.pair (.int .i64) (.pair (.int .i64) (.slice (.arr .u8 8)))), .ro (.int .i64)], [(.own, false, .pair (.int .i64) (.pair (.int .i64) (.slice (.arr .u8 8)))), (.own, false, .int .i64)]⟩, loops := [(9, in20065)], views := [] }
/-- laws.FnExactPowerNormal -/
noncomputable def fd15 : FD := { id := 15, fn := Go.Proofs.Try.f15, sig := ⟨[.ro (.pair (.int .i64) (.pair (.int .i64) (.slice (.arr .u8 8)))), .ro (.int .i64)], [(.own, false, .bool)]⟩, loops := [], views := [] }
/-- spec.l04Conjugate -/
noncomputable def fd141 : FD := { id := 141, fn := Go.Proofs.Try.f141, sig := ⟨[.ro (.pair (.int .i64) (.pair (.int .i64) (.slice (.arr .u8 8)))), .ro (.arr .u8 8)], [(.own, false, .pair (.int .i64) (.pair (.int .i64) (.slice (.arr .u8 8))))]⟩, loops := [], views := [] }
/-- spec.l04Slide -/
noncomputable def fd104 : FD := { id := 104, fn := Go.Proofs.Try.f104, sig := ⟨[.ro (.pair (.int .i64) (.pair (.int .i64) (.slice (.arr .u8 8))))], [(.ro, false, .pair (.int .i64) (.pair (.int .i64) (.slice (.arr .u8 8))))]⟩, loops := [], views := [] }
/-- spec.SlidingOf -/
noncomputable def fd57 : FD := { id := 57, fn := Go.Proofs.Try.f57, sig := ⟨[.ro (.pair (.int .i64) (.pair (.int .i64) (.slice (.arr .u8 8))))], [(.ro, false, .pair (.int .i64) (.pair (.int .i64) (.slice (.arr .u8 8)))), (.own, false, .int .i64)]⟩, loops := [], views := [] }
/-- impl.withoutHead -/
noncomputable def fd111 : FD := { id := 111, fn := Go.Proofs.Try.f111, sig := ⟨[.ro (.pair (.int .i64) (.pair (.int .i64) (.slice (.arr .u8 8)))), .ro (.arr .u8 8)], [(.own, false, .pair (.int .i64) (.pair (.int .i64) (.slice (.arr .u8 8))))]⟩, loops := [], views := [] }
/-- impl.conjugate -/
noncomputable def fd143 : FD := { id := 143, fn := Go.Proofs.Try.f143, sig := ⟨[.ro (.pair (.int .i64) (.pair (.int .i64) (.slice (.arr .u8 8)))), .ro (.arr .u8 8)], [(.own, false, .pair (.int .i64) (.pair (.int .i64) (.slice (.arr .u8 8))))]⟩, loops := [], views := [] }
/-- impl.slid -/
noncomputable def fd105 : FD := { id := 105, fn := Go.Proofs.Try.f105, sig := ⟨[.ro (.pair (.int .i64) (.pair (.int .i64) (.slice (.arr .u8 8))))], [(.own, false, .pair (.int .i64) (.pair (.int .i64) (.slice (.arr .u8 8))))]⟩, loops := [], views := [] }
/-- impl.changed -/
noncomputable def fd10004 : FD := { id := 84, fn := Go.Proofs.Try.f84, sig := ⟨[.ro (.pair (.int .i64) (.pair (.int .i64) (.slice (.arr .u8 8)))), .fn 105 []], [(.own, false, .pair (.int .i64) (.pair (.int .i64) (.slice (.arr .u8 8)))), (.own, false, .int .i64)]⟩, loops := [], views := [] }
/-- impl.SlidingOf -/
noncomputable def fd58 : FD := { id := 58, fn := Go.Proofs.Try.f58, sig := ⟨[.ro (.pair (.int .i64) (.pair (.int .i64) (.slice (.arr .u8 8))))], [(.own, false, .pair (.int .i64) (.pair (.int .i64) (.slice (.arr .u8 8)))), (.own, false, .int .i64)]⟩, loops := [], views := [] }
/-- laws.FnExactSlidingOf -/
noncomputable def fd16 : FD := { id := 16, fn := Go.Proofs.Try.f16, sig := ⟨[.ro (.pair (.int .i64) (.pair (.int .i64) (.slice (.arr .u8 8))))], [(.own, false, .bool)]⟩, loops := [], views := [] }
/-- spec.SummitOf -/
noncomputable def fd59 : FD := { id := 59, fn := Go.Proofs.Try.f59, sig := ⟨[.ro (.pair (.int .i64) (.pair (.int .i64) (.slice (.arr .u8 8))))], [(.ro, false, .pair (.int .i64) (.pair (.int .i64) (.slice (.arr .u8 8)))), (.own, false, .int .i64)]⟩, loops := [], views := [] }
/-- impl.changed -/
noncomputable def fd10005 : FD := { id := 84, fn := Go.Proofs.Try.f84, sig := ⟨[.ro (.pair (.int .i64) (.pair (.int .i64) (.slice (.arr .u8 8)))), .fn 100 []], [(.own, false, .pair (.int .i64) (.pair (.int .i64) (.slice (.arr .u8 8)))), (.own, false, .int .i64)]⟩, loops := [], views := [] }
/-- impl.SummitOf -/
noncomputable def fd60 : FD := { id := 60, fn := Go.Proofs.Try.f60, sig := ⟨[.ro (.pair (.int .i64) (.pair (.int .i64) (.slice (.arr .u8 8))))], [(.own, false, .pair (.int .i64) (.pair (.int .i64) (.slice (.arr .u8 8)))), (.own, false, .int .i64)]⟩, loops := [], views := [] }
/-- laws.FnExactSummitOf -/
noncomputable def fd17 : FD := { id := 17, fn := Go.Proofs.Try.f17, sig := ⟨[.ro (.pair (.int .i64) (.pair (.int .i64) (.slice (.arr .u8 8))))], [(.own, false, .bool)]⟩, loops := [], views := [] }
/-- spec.CommonBeginning -/
noncomputable def fd61 : FD := { id := 61, fn := Go.Proofs.Try.f61, sig := ⟨[.ro (.pair (.int .i64) (.pair (.int .i64) (.slice (.arr .u8 8)))), .ro (.pair (.int .i64) (.pair (.int .i64) (.slice (.arr .u8 8))))], [(.ro, false, .pair (.int .i64) (.pair (.int .i64) (.slice (.arr .u8 8)))), (.own, false, .int .i64)]⟩, loops := [], views := [] }
/-- impl.head -/
noncomputable def fd108 : FD := { id := 108, fn := Go.Proofs.Try.f108, sig := ⟨[.ro (.pair (.int .i64) (.pair (.int .i64) (.slice (.arr .u8 8))))], [(.own, false, .arr .u8 8)]⟩, loops := [], views := [] }
noncomputable def in20066 : LoopInfo := ⟨20066, ⟨[.box .own (.st [.int .i64, .int .i64, .sl 1]), .row .ro (.arr .u8 8), .box .own (.st [.int .i64, .int .i64, .sl 3]), .row .ro (.arr .u8 8), .box .own (.st [.int .i64, .int .i64, .sl 5]), .row .own (.arr .u8 8), .box .own (.st [.int .i64, .int .i64, .sl 7]), .row .own (.arr .u8 8)], [(2, .w (.c (.ptr 0))), (3, .w (.c (.ptr 2))), (4, .w (.c (.ptr 4))), (7, .w (.c (.int .i64))), (8, .w (.c (.ptr 6)))]⟩, [(.ret, ⟨[.box .own (.st [.int .i64, .int .i64, .sl 1]), .row .own (.arr .u8 8)], [(4, .w (.c (.ptr 0))), (5, .w (.c (.int .i64)))]⟩)]⟩
/-- impl.CommonBeginning -/
noncomputable def fd62 : FD := { id := 62, fn := Go.Proofs.Try.f62, sig := ⟨[.ro (.pair (.int .i64) (.pair (.int .i64) (.slice (.arr .u8 8)))), .ro (.pair (.int .i64) (.pair (.int .i64) (.slice (.arr .u8 8))))], [(.own, false, .pair (.int .i64) (.pair (.int .i64) (.slice (.arr .u8 8)))), (.own, false, .int .i64)]⟩, loops := [(11, in20066)], views := [] }
/-- laws.FnExactCommonBeginning -/
noncomputable def fd18 : FD := { id := 18, fn := Go.Proofs.Try.f18, sig := ⟨[.ro (.pair (.int .i64) (.pair (.int .i64) (.slice (.arr .u8 8)))), .ro (.pair (.int .i64) (.pair (.int .i64) (.slice (.arr .u8 8))))], [(.own, false, .bool)]⟩, loops := [], views := [] }
noncomputable def fdTab : List (Nat × FD) := [(63, fd63), (19, fd19), (66, fd66), (21, fd21), (101, fd101), (64, fd64), (119, fd119), (129, fd129), (120, fd120), (152, fd152), (133, fd133), (122, fd122), (88, fd88), (151, fd151), (142, fd142), (134, fd134), (130, fd130), (82, fd82), (128, fd128), (78, fd78), (112, fd112), (65, fd65), (20, fd20), (102, fd102), (113, fd113), (114, fd114), (67, fd67), (109, fd109), (116, fd116), (90, fd90), (125, fd125), (147, fd147), (144, fd144), (146, fd146), (107, fd107), (110, fd110), (145, fd145), (106, fd106), (148, fd148), (117, fd117), (69, fd69), (115, fd115), (68, fd68), (22, fd22), (52, fd52), (23, fd23), (3, fd3), (70, fd70), (24, fd24), (123, fd123), (73, fd73), (26, fd26), (118, fd118), (121, fd121), (71, fd71), (72, fd72), (25, fd25), (124, fd124), (150, fd150), (149, fd149), (126, fd126), (74, fd74), (98, fd98), (75, fd75), (27, fd27), (127, fd127), (76, fd76), (28, fd28), (4, fd4), (77, fd77), (29, fd29), (79, fd79), (30, fd30), (53, fd53), (31, fd31), (80, fd80), (32, fd32), (81, fd81), (33, fd33), (5, fd5), (131, fd131), (83, fd83), (34, fd34), (132, fd132), (85, fd85), (10000, fd10000), (35, fd35), (6, fd6), (86, fd86), (36, fd36), (87, fd87), (10001, fd10001), (37, fd37), (7, fd7), (38, fd38), (89, fd89), (39, fd39), (8, fd8), (91, fd91), (40, fd40), (92, fd92), (41, fd41), (9, fd9), (93, fd93), (42, fd42), (94, fd94), (43, fd43), (10, fd10), (95, fd95), (135, fd135), (136, fd136), (96, fd96), (44, fd44), (97, fd97), (45, fd45), (11, fd11), (46, fd46), (47, fd47), (12, fd12), (48, fd48), (49, fd49), (13, fd13), (99, fd99), (50, fd50), (138, fd138), (10002, fd10002), (140, fd140), (139, fd139), (10003, fd10003), (100, fd100), (51, fd51), (54, fd54), (14, fd14), (55, fd55), (103, fd103), (56, fd56), (15, fd15), (141, fd141), (104, fd104), (57, fd57), (111, fd111), (143, fd143), (105, fd105), (10004, fd10004), (58, fd58), (16, fd16), (59, fd59), (10005, fd10005), (60, fd60), (17, fd17), (61, fd61), (108, fd108), (62, fd62), (18, fd18)]
noncomputable def ldTab : List (Nat × LD) := [(20000, ⟨66, 3, in20000⟩), (20001, ⟨64, 4, in20001⟩), (20003, ⟨119, 3, in20003⟩), (20005, ⟨120, 3, in20005⟩), (20006, ⟨152, 3, in20006⟩), (20004, ⟨122, 3, in20004⟩), (20007, ⟨88, 3, in20007⟩), (20010, ⟨134, 3, in20010⟩), (20008, ⟨130, 3, in20008⟩), (20009, ⟨130, 6, in20009⟩), (20011, ⟨82, 4, in20011⟩), (20012, ⟨82, 7, in20012⟩), (20002, ⟨78, 3, in20002⟩), (20013, ⟨112, 4, in20013⟩), (20014, ⟨67, 4, in20014⟩), (20016, ⟨109, 3, in20016⟩), (20018, ⟨90, 3, in20018⟩), (20019, ⟨125, 3, in20019⟩), (20020, ⟨147, 3, in20020⟩), (20021, ⟨146, 3, in20021⟩), (20022, ⟨146, 6, in20022⟩), (20023, ⟨107, 4, in20023⟩), (20024, ⟨107, 7, in20024⟩), (20017, ⟨110, 5, in20017⟩), (20025, ⟨110, 11, in20025⟩), (20026, ⟨110, 14, in20026⟩), (20027, ⟨106, 4, in20027⟩), (20015, ⟨69, 3, in20015⟩), (20028, ⟨115, 4, in20028⟩), (20029, ⟨52, 4, in20029⟩), (20031, ⟨123, 3, in20031⟩), (20030, ⟨73, 3, in20030⟩), (20033, ⟨118, 5, in20033⟩), (20034, ⟨121, 3, in20034⟩), (20032, ⟨71, 5, in20032⟩), (20035, ⟨25, 5, in20035⟩), (20037, ⟨124, 5, in20037⟩), (20038, ⟨149, 3, in20038⟩), (20039, ⟨126, 3, in20039⟩), (20036, ⟨74, 5, in20036⟩), (20041, ⟨75, 4, in20041⟩), (20040, ⟨27, 5, in20040⟩), (20043, ⟨127, 2, in20043⟩), (20042, ⟨76, 4, in20042⟩), (20044, ⟨53, 2, in20044⟩), (20045, ⟨80, 2, in20045⟩), (20046, ⟨80, 5, in20046⟩), (20047, ⟨81, 2, in20047⟩), (20048, ⟨81, 5, in20048⟩), (20049, ⟨87, 7, in20049⟩), (20050, ⟨38, 5, in20050⟩), (20051, ⟨38, 11, in20051⟩), (20052, ⟨89, 3, in20052⟩), (20053, ⟨39, 6, in20053⟩), (20054, ⟨91, 3, in20054⟩), (20055, ⟨92, 3, in20055⟩), (20056, ⟨96, 3, in20056⟩), (20057, ⟨99, 2, in20057⟩), (20058, ⟨99, 4, in20058⟩), (20059, ⟨99, 11, in20059⟩), (20061, ⟨10002, 3, in20061⟩), (20062, ⟨10003, 3, in20062⟩), (20060, ⟨100, 1, in20060⟩), (20063, ⟨54, 2, in20063⟩), (20064, ⟨55, 10, in20064⟩), (20065, ⟨56, 9, in20065⟩), (20066, ⟨62, 11, in20066⟩)]
noncomputable def pickTab : List ((FuncId × List FuncId) × Nat) := [((84, [85]), 10000), ((84, [87]), 10001), ((137, [85, 138]), 10002), ((137, [87, 139]), 10003), ((84, [105]), 10004), ((84, [100]), 10005)]
noncomputable def pick (f : FuncId) : List FuncId → Nat
  | [] => f
  | l => (pickTab.lookup (f, l)).getD 0
noncomputable def E : Env := ⟨fun T => tyTab.lookup T, pick, fun f => fdTab.lookup f, fun f => ldTab.lookup f⟩
/-- What a call answers. -/
noncomputable def R : Oracle := ev E
theorem R_ev (f : Nat) (l : List TV) : R f l = ev E f l := rfl
def iw_szInt64S : Nat := 63
def iw_szBraid : Nat := 19
def iw_toInt64S : Nat := 66
def iw_toInt64S_3 : Nat := 20000
def iw_toBraid : Nat := 21
def is_l01In : Nat := 101
def is_l01Is : Nat := 64
def is_l01Is_4 : Nat := 20001
def is_l02Same : Nat := 119
def is_l02Same_3 : Nat := 20003
def is_l02Exchange : Nat := 129
def is_l02Half : Nat := 120
def is_l02Half_3 : Nat := 20005
def is_l02Then : Nat := 152
def is_l02Then_3 : Nat := 20006
def is_l02Turn : Nat := 133
def is_l03Turned : Nat := 122
def is_l03Turned_3 : Nat := 20004
def is_l02Back : Nat := 88
def is_l02Back_3 : Nat := 20007
def is_l02Left : Nat := 151
def is_l02Complement : Nat := 142
def is_l02Meet : Nat := 134
def is_l02Meet_3 : Nat := 20010
def is_l03Weigh : Nat := 130
def is_l03Weigh_3 : Nat := 20008
def is_l03Weigh_6 : Nat := 20009
def is_l03Make : Nat := 82
def is_l03Make_4 : Nat := 20011
def is_l03Make_7 : Nat := 20012
def is_l03Times : Nat := 128
def is_l03Of : Nat := 78
def is_l03Of_3 : Nat := 20002
def is_l03Like : Nat := 112
def is_l03Like_4 : Nat := 20013
def is_l03Equal : Nat := 65
def is_SameBraid : Nat := 20
def ii_within : Nat := 102
def ii_isCount : Nat := 113
def ii_isLetter : Nat := 114
def ii_IsBraid : Nat := 67
def ii_IsBraid_4 : Nat := 20014
def ii_nothing : Nat := 109
def ii_nothing_3 : Nat := 20016
def ii_exchange : Nat := 116
def ii_backOf : Nat := 90
def ii_backOf_3 : Nat := 20018
def ii_halfTurn : Nat := 125
def ii_halfTurn_3 : Nat := 20019
def ii_then : Nat := 147
def ii_then_3 : Nat := 20020
def ii_complement : Nat := 144
def ii_descents : Nat := 146
def ii_descents_3 : Nat := 20021
def ii_descents_6 : Nat := 20022
def ii_meet : Nat := 107
def ii_meet_4 : Nat := 20023
def ii_meet_7 : Nat := 20024
def i__i_Normal__put : Nat := 110
def i__i_Normal__put_5 : Nat := 20017
def i__i_Normal__put_11 : Nat := 20025
def i__i_Normal__put_14 : Nat := 20026
def ii_turn : Nat := 145
def i__i_Normal__turnBy : Nat := 106
def i__i_Normal__turnBy_4 : Nat := 20027
def ii_leftComplement : Nat := 148
def i__i_Normal__putInverse : Nat := 117
def ii_normalOf : Nat := 69
def ii_normalOf_3 : Nat := 20015
def ig_Equal___i_Simple_i_Simple_ : Nat := 115
def ig_Equal___i_Simple_i_Simple__4 : Nat := 20028
def ii_sameNormal : Nat := 68
def ii_SameBraid : Nat := 22
def iw_eqInt64S : Nat := 52
def iw_eqInt64S_4 : Nat := 20029
def iw_eqBraid : Nat := 23
def iw_FnExactSameBraid : Nat := 3
def iw_szSimpleS : Nat := 70
def iw_szNormal : Nat := 24
def iw_toSimple : Nat := 123
def iw_toSimple_3 : Nat := 20031
def iw_toSimpleS : Nat := 73
def iw_toSimpleS_3 : Nat := 20030
def iw_toNormal : Nat := 26
def is_l02Is : Nat := 118
def is_l02Is_5 : Nat := 20033
def is_l03Weighted : Nat := 121
def is_l03Weighted_3 : Nat := 20034
def is_l03Is : Nat := 71
def is_l03Is_5 : Nat := 20032
def is_l03Product : Nat := 72
def is_IsPeriodic : Nat := 25
def is_IsPeriodic_5 : Nat := 20035
def ii_IsSimple : Nat := 124
def ii_IsSimple_5 : Nat := 20037
def ii_begins : Nat := 150
def ii_beginning : Nat := 149
def ii_beginning_3 : Nat := 20038
def ii_endsAll : Nat := 126
def ii_endsAll_3 : Nat := 20039
def ii_IsNormal : Nat := 74
def ii_IsNormal_5 : Nat := 20036
def ii_copyNormal : Nat := 98
def ii_product : Nat := 75
def ii_product_4 : Nat := 20041
def ii_IsPeriodic : Nat := 27
def ii_IsPeriodic_5 : Nat := 20040
def iw_eqSimple : Nat := 127
def iw_eqSimple_2 : Nat := 20043
def iw_eqSimpleS : Nat := 76
def iw_eqSimpleS_4 : Nat := 20042
def iw_eqNormal : Nat := 28
def iw_FnExactIsPeriodic : Nat := 4
def is_l03Fit : Nat := 77
def is_NormalOf : Nat := 29
def ii_limited : Nat := 79
def ii_NormalOf : Nat := 30
def iw_markInt64S : Nat := 53
def iw_markInt64S_2 : Nat := 20044
def iw_markBraid : Nat := 31
def iw_markSimpleS : Nat := 80
def iw_markSimpleS_2 : Nat := 20045
def iw_markSimpleS_5 : Nat := 20046
def iw_markNormal : Nat := 32
def iw_heldSimpleS : Nat := 81
def iw_heldSimpleS_2 : Nat := 20047
def iw_heldSimpleS_5 : Nat := 20048
def iw_heldNormal : Nat := 33
def iw_FnExactNormalOf : Nat := 5
def is_l04First : Nat := 131
def is_l04Cycle : Nat := 83
def is_CyclingOf : Nat := 34
def ii_turned : Nat := 132
def ii_cycled : Nat := 85
def ii_changed : Nat := 10000
def ii_CyclingOf : Nat := 35
def iw_FnExactCyclingOf : Nat := 6
def is_l04Decycle : Nat := 86
def is_DecyclingOf : Nat := 36
def ii_decycled : Nat := 87
def ii_decycled_7 : Nat := 20049
def ii_changed_v2 : Nat := 10001
def ii_DecyclingOf : Nat := 37
def iw_FnExactDecyclingOf : Nat := 7
def is_RightNormalOf : Nat := 38
def is_RightNormalOf_5 : Nat := 20050
def is_RightNormalOf_11 : Nat := 20051
def ii_reversed : Nat := 89
def ii_reversed_3 : Nat := 20052
def ii_RightNormalOf : Nat := 39
def ii_RightNormalOf_6 : Nat := 20053
def iw_FnExactRightNormalOf : Nat := 8
def is_l03Inverse : Nat := 91
def is_l03Inverse_3 : Nat := 20054
def is_InverseNormal : Nat := 40
def ii_inverse : Nat := 92
def ii_inverse_3 : Nat := 20055
def ii_InverseNormal : Nat := 41
def iw_FnExactInverseNormal : Nat := 9
def is_l03Both : Nat := 93
def is_MultiplyNormals : Nat := 42
def ii_areSameCount : Nat := 94
def ii_MultiplyNormals : Nat := 43
def iw_FnExactMultiplyNormals : Nat := 10
def is_l03Positive : Nat := 95
def is_l03First : Nat := 135
def is_l03Less : Nat := 136
def is_l03Common : Nat := 96
def is_l03Common_3 : Nat := 20056
def is_IsBeginningOf : Nat := 44
def ii_arePositive : Nat := 97
def ii_IsBeginningOf : Nat := 45
def iw_FnExactIsBeginningOf : Nat := 11
def is_FractionOf : Nat := 46
def ii_FractionOf : Nat := 47
def iw_FnExactFractionOf : Nat := 12
def is_ConjugateBy : Nat := 48
def ii_ConjugateBy : Nat := 49
def iw_FnExactConjugateBy : Nat := 13
def is_l04Summit : Nat := 99
def is_l04Summit_2 : Nat := 20057
def is_l04Summit_4 : Nat := 20058
def is_l04Summit_11 : Nat := 20059
def is_SummitLengths : Nat := 50
def ii_summitK1 : Nat := 138
def ii_better : Nat := 10002
def ii_better_3 : Nat := 20061
def ii_greatest : Nat := 140
def ii_summitK2 : Nat := 139
def ii_better_v2 : Nat := 10003
def ii_better_v2_3 : Nat := 20062
def ii_summit : Nat := 100
def ii_summit_1 : Nat := 20060
def ii_SummitLengths : Nat := 51
def iw_heldInt64S : Nat := 54
def iw_heldInt64S_2 : Nat := 20063
def iw_FnExactSummitLengths : Nat := 14
def is_PowerNormal : Nat := 55
def is_PowerNormal_10 : Nat := 20064
def ii_size : Nat := 103
def ii_PowerNormal : Nat := 56
def ii_PowerNormal_9 : Nat := 20065
def iw_FnExactPowerNormal : Nat := 15
def is_l04Conjugate : Nat := 141
def is_l04Slide : Nat := 104
def is_SlidingOf : Nat := 57
def ii_withoutHead : Nat := 111
def ii_conjugate : Nat := 143
def ii_slid : Nat := 105
def ii_changed_v3 : Nat := 10004
def ii_SlidingOf : Nat := 58
def iw_FnExactSlidingOf : Nat := 16
def is_SummitOf : Nat := 59
def ii_changed_v4 : Nat := 10005
def ii_SummitOf : Nat := 60
def iw_FnExactSummitOf : Nat := 17
def is_CommonBeginning : Nat := 61
def ii_head : Nat := 108
def ii_CommonBeginning : Nat := 62
def ii_CommonBeginning_11 : Nat := 20066
def iw_FnExactCommonBeginning : Nat := 18
end Go.Ev.Ytolpnaiincngjaa
