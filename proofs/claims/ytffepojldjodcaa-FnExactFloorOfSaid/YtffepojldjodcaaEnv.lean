/- What the evaluator knows of this program. -/
import Derived.Test.YtffepojldjodcaaProg
import Derived.Test.YtffepojldjodcaaV1
namespace Go.Ev.Ytffepojldjodcaa
open Go.Ev
@[reducible] noncomputable def tB (x : Bool) : TV := ⟨.bool, x⟩
@[reducible] noncomputable def gB (l : List TV) (i : Nat) : Bool := getTV (.bool) l i
@[reducible] noncomputable def tI (x : Int) : TV := ⟨.int .i64, x⟩
@[reducible] noncomputable def gI (l : List TV) (i : Nat) : Int := getTV (.int .i64) l i
@[reducible] noncomputable def tLI (x : List Int) : TV := ⟨.slice (.int .i64), x⟩
@[reducible] noncomputable def gLI (l : List TV) (i : Nat) : List Int := getTV (.slice (.int .i64)) l i
@[reducible] noncomputable def tPILI (x : Int × List Int) : TV := ⟨.pair (.int .i64) (.slice (.int .i64)), x⟩
@[reducible] noncomputable def gPILI (l : List TV) (i : Nat) : Int × List Int := getTV (.pair (.int .i64) (.slice (.int .i64))) l i
noncomputable def tyTab : List (Nat × Ty) := [(2, .int .i64), (3, .int .i64), (4, .bool), (5, .int .u8), (6, .int .u8), (7, .pair (.int .i64) (.pair (.int .i64) (.pair (.bool) (.int .u8)))), (8, .pair (.int .i64) (.pair (.int .i64) (.pair (.bool) (.int .u8)))), (12, .int .u64), (21, .int .i32), (22, .slice (.int .i64)), (26, .pair (.int .i64) (.slice (.int .i64))), (27, .pair (.int .i64) (.slice (.int .i64))), (31, .pair (.int .i64) (.slice (.int .i64))), (45, .slice (.pair (.int .i64) (.slice (.int .i64)))), (48, .slice (.pair (.int .i64) (.slice (.int .i64)))), (68, .arr .i64 10), (70, .slice (.int .i64)), (88, .int .u32), (89, .int .u8), (90, .int .u8), (93, .int .i32), (94, .int .i32)]
noncomputable def in20000 : LoopInfo := ⟨20000, ⟨[.row .ro (.int .i64), .row .own (.int .i64)], [(0, .w (.c (.sl 0))), (3, .w (.c (.sl 1))), (4, .w (.c (.int .i64)))]⟩, [(.exit 0, ⟨[.row .own (.int .i64)], [(3, .w (.c (.sl 0)))]⟩)]⟩
/-- laws.toInt64S -/
noncomputable def fd14 : FD := { id := 14, fn := Go.Proofs.Try.f14, sig := ⟨[.ro (.slice (.int .i64))], [(.own, false, .slice (.int .i64))]⟩, loops := [(3, in20000)], views := [] }
/-- spec.l01In -/
noncomputable def fd76 : FD := { id := 76, fn := Go.Proofs.Try.f76, sig := ⟨[.ro (.int .i64), .ro (.int .i64), .ro (.int .i64)], [(.own, false, .bool)]⟩, loops := [], views := [] }
noncomputable def in20001 : LoopInfo := ⟨20001, ⟨[.row .ro (.int .i64)], [(0, .w (.c (.sl 0))), (1, .w (.c (.int .i64))), (5, .w (.c (.int .i64)))]⟩, [(.exit 0, ⟨[], []⟩), (.ret, ⟨[], [(4, .w (.c (.bool)))]⟩)]⟩
/-- spec.l08Is -/
noncomputable def fd46 : FD := { id := 46, fn := Go.Proofs.Try.f46, sig := ⟨[.ro (.slice (.int .i64)), .ro (.int .i64)], [(.own, false, .bool)]⟩, loops := [(4, in20001)], views := [] }
/-- spec.IsFreeWord -/
noncomputable def fd13 : FD := { id := 13, fn := Go.Proofs.Try.f13, sig := ⟨[.ro (.slice (.int .i64)), .ro (.int .i64)], [(.own, false, .bool)]⟩, loops := [], views := [] }
/-- impl.within -/
noncomputable def fd77 : FD := { id := 77, fn := Go.Proofs.Try.f77, sig := ⟨[.ro (.int .i64), .ro (.int .i64), .ro (.int .i64)], [(.own, false, .bool)]⟩, loops := [], views := [] }
/-- impl.isCount -/
noncomputable def fd47 : FD := { id := 47, fn := Go.Proofs.Try.f47, sig := ⟨[.ro (.int .i64)], [(.own, false, .bool)]⟩, loops := [], views := [] }
/-- impl.isGenerator -/
noncomputable def fd48 : FD := { id := 48, fn := Go.Proofs.Try.f48, sig := ⟨[.ro (.int .i64), .ro (.int .i64)], [(.own, false, .bool)]⟩, loops := [], views := [] }
noncomputable def in20002 : LoopInfo := ⟨20002, ⟨[.row .ro (.int .i64)], [(0, .w (.c (.sl 0))), (1, .w (.c (.int .i64))), (15, .w (.c (.sl 0))), (16, .w (.c (.int .i64))), (17, .w (.c (.int .i64)))]⟩, [(.exit 0, ⟨[], []⟩), (.ret, ⟨[], [(4, .w (.c (.bool)))]⟩)]⟩
/-- impl.IsFreeWord -/
noncomputable def fd15 : FD := { id := 15, fn := Go.Proofs.Try.f15, sig := ⟨[.ro (.slice (.int .i64)), .ro (.int .i64)], [(.own, false, .bool)]⟩, loops := [(4, in20002)], views := [] }
noncomputable def in20003 : LoopInfo := ⟨20003, ⟨[.row .ro (.int .i64), .row .ro (.int .i64)], [(0, .w (.c (.sl 0))), (1, .w (.c (.sl 1))), (5, .w (.c (.int .i64)))]⟩, [(.exit 0, ⟨[], []⟩), (.ret, ⟨[], [(4, .w (.c (.bool)))]⟩)]⟩
/-- laws.eqInt64S -/
noncomputable def fd16 : FD := { id := 16, fn := Go.Proofs.Try.f16, sig := ⟨[.ro (.slice (.int .i64)), .ro (.slice (.int .i64))], [(.own, false, .bool)]⟩, loops := [(4, in20003)], views := [] }
/-- laws.FnExactIsFreeWord -/
noncomputable def fd3 : FD := { id := 3, fn := Go.Proofs.Try.f3, sig := ⟨[.ro (.slice (.int .i64)), .ro (.int .i64)], [(.own, false, .bool)]⟩, loops := [], views := [] }
/-- laws.szInt64S -/
noncomputable def fd49 : FD := { id := 49, fn := Go.Proofs.Try.f49, sig := ⟨[.ro (.slice (.int .i64)), .ro (.int .i64)], [(.own, false, .int .i64)]⟩, loops := [], views := [] }
/-- laws.szBraid -/
noncomputable def fd17 : FD := { id := 17, fn := Go.Proofs.Try.f17, sig := ⟨[.ro (.pair (.int .i64) (.slice (.int .i64))), .ro (.int .i64)], [(.own, false, .int .i64)]⟩, loops := [], views := [] }
/-- laws.toBraid -/
noncomputable def fd19 : FD := { id := 19, fn := Go.Proofs.Try.f19, sig := ⟨[.ro (.pair (.int .i64) (.slice (.int .i64)))], [(.own, false, .pair (.int .i64) (.slice (.int .i64)))]⟩, loops := [], views := [] }
noncomputable def in20004 : LoopInfo := ⟨20004, ⟨[.box .own (.st [.int .i64, .sl 1]), .row .ro (.int .i64)], [(1, .w (.c (.ptr 0))), (3, .w (.c (.int .i64)))]⟩, [(.exit 0, ⟨[], []⟩), (.ret, ⟨[], [(2, .w (.c (.bool)))]⟩)]⟩
/-- spec.l01Is -/
noncomputable def fd50 : FD := { id := 50, fn := Go.Proofs.Try.f50, sig := ⟨[.ro (.pair (.int .i64) (.slice (.int .i64)))], [(.own, false, .bool)]⟩, loops := [(4, in20004)], views := [] }
/-- spec.l06Index -/
noncomputable def fd78 : FD := { id := 78, fn := Go.Proofs.Try.f78, sig := ⟨[.ro (.int .i64)], [(.own, false, .int .i64)]⟩, loops := [], views := [] }
noncomputable def in20005 : LoopInfo := ⟨20005, ⟨[.row .ro (.int .i64)], [(0, .w (.c (.sl 0))), (4, .w (.c (.int .i64))), (5, .w (.c (.int .i64)))]⟩, [(.exit 0, ⟨[.row .ro (.int .i64)], [(0, .w (.c (.sl 0))), (4, .w (.c (.int .i64)))]⟩)]⟩
noncomputable def in20006 : LoopInfo := ⟨20006, ⟨[.row .ro (.int .i64)], [(0, .w (.c (.sl 0))), (4, .w (.c (.int .i64))), (6, .w (.c (.bool))), (7, .w (.c (.bool))), (8, .w (.c (.int .i64)))]⟩, [(.exit 2, ⟨[], [(4, .w (.c (.int .i64))), (6, .w (.c (.bool))), (7, .w (.c (.bool)))]⟩)]⟩
/-- spec.l06Main -/
noncomputable def fd51 : FD := { id := 51, fn := Go.Proofs.Try.f51, sig := ⟨[.ro (.slice (.int .i64))], [(.own, false, .int .i64), (.own, false, .int .i64)]⟩, loops := [(3, in20005), (8, in20006)], views := [] }
/-- spec.WordSign -/
noncomputable def fd18 : FD := { id := 18, fn := Go.Proofs.Try.f18, sig := ⟨[.ro (.pair (.int .i64) (.slice (.int .i64)))], [(.own, false, .int .i64), (.own, false, .int .i64)]⟩, loops := [], views := [] }
/-- impl.isLetter -/
noncomputable def fd79 : FD := { id := 79, fn := Go.Proofs.Try.f79, sig := ⟨[.ro (.int .i64), .ro (.int .i64)], [(.own, false, .bool)]⟩, loops := [], views := [] }
noncomputable def in20007 : LoopInfo := ⟨20007, ⟨[.box .own (.st [.int .i64, .sl 1]), .row .ro (.int .i64)], [(1, .w (.c (.ptr 0))), (16, .w (.c (.sl 1))), (17, .w (.c (.int .i64))), (18, .w (.c (.int .i64)))]⟩, [(.exit 0, ⟨[], []⟩), (.ret, ⟨[], [(2, .w (.c (.bool)))]⟩)]⟩
/-- impl.IsBraid -/
noncomputable def fd52 : FD := { id := 52, fn := Go.Proofs.Try.f52, sig := ⟨[.ro (.pair (.int .i64) (.slice (.int .i64)))], [(.own, false, .bool)]⟩, loops := [(4, in20007)], views := [] }
/-- impl.size -/
noncomputable def fd74 : FD := { id := 74, fn := Go.Proofs.Try.f74, sig := ⟨[.ro (.int .i64)], [(.own, false, .int .i64)]⟩, loops := [], views := [] }
noncomputable def in20008 : LoopInfo := ⟨20008, ⟨[.row .ro (.int .i64)], [(3, .w (.c (.int .i64))), (4, .w (.c (.bool))), (7, .w (.c (.sl 0))), (8, .w (.c (.int .i64))), (9, .w (.c (.int .i64)))]⟩, [(.exit 0, ⟨[], [(3, .w (.c (.int .i64))), (4, .w (.c (.bool)))]⟩)]⟩
/-- impl.mainOf -/
noncomputable def fd53 : FD := { id := 53, fn := Go.Proofs.Try.f53, sig := ⟨[.ro (.slice (.int .i64))], [(.own, false, .int .i64)]⟩, loops := [(3, in20008)], views := [] }
/-- impl.sign -/
noncomputable def fd54 : FD := { id := 54, fn := Go.Proofs.Try.f54, sig := ⟨[.ro (.int .i64)], [(.own, false, .int .i64)]⟩, loops := [], views := [] }
/-- impl.WordSign -/
noncomputable def fd20 : FD := { id := 20, fn := Go.Proofs.Try.f20, sig := ⟨[.ro (.pair (.int .i64) (.slice (.int .i64)))], [(.own, false, .int .i64), (.own, false, .int .i64)]⟩, loops := [], views := [] }
/-- laws.eqBraid -/
noncomputable def fd21 : FD := { id := 21, fn := Go.Proofs.Try.f21, sig := ⟨[.ro (.pair (.int .i64) (.slice (.int .i64))), .ro (.pair (.int .i64) (.slice (.int .i64)))], [(.own, false, .bool)]⟩, loops := [], views := [] }
/-- laws.FnExactWordSign -/
noncomputable def fd4 : FD := { id := 4, fn := Go.Proofs.Try.f4, sig := ⟨[.ro (.pair (.int .i64) (.slice (.int .i64)))], [(.own, false, .bool)]⟩, loops := [], views := [] }
noncomputable def in20009 : LoopInfo := ⟨20009, ⟨[.row .ro (.int .i64)], [(0, .w (.c (.sl 0))), (5, .w (.c (.int .i64)))]⟩, [(.exit 0, ⟨[], []⟩), (.ret, ⟨[], [(2, .w (.c (.int .i64))), (3, .w (.c (.int .i64))), (4, .w (.c (.bool)))]⟩)]⟩
noncomputable def in20010 : LoopInfo := ⟨20010, ⟨[.row .ro (.int .i64)], [(0, .w (.c (.sl 0))), (5, .w (.c (.int .i64))), (6, .w (.c (.int .i64))), (7, .w (.c (.int .i64)))]⟩, [(.exit 2, ⟨[.row .ro (.int .i64)], [(0, .w (.c (.sl 0))), (5, .w (.c (.int .i64)))]⟩), (.ret, ⟨[], [(2, .w (.c (.int .i64))), (3, .w (.c (.int .i64))), (4, .w (.c (.bool)))]⟩)]⟩
/-- spec.l06Handle -/
noncomputable def fd55 : FD := { id := 55, fn := Go.Proofs.Try.f55, sig := ⟨[.ro (.slice (.int .i64))], [(.own, false, .int .i64), (.own, false, .int .i64), (.own, false, .bool)]⟩, loops := [(2, in20009), (6, in20010)], views := [] }
/-- spec.FirstHandle -/
noncomputable def fd22 : FD := { id := 22, fn := Go.Proofs.Try.f22, sig := ⟨[.ro (.pair (.int .i64) (.slice (.int .i64)))], [(.own, false, .slice (.int .i64)), (.own, false, .int .i64)]⟩, loops := [], views := [] }
noncomputable def in20012 : LoopInfo := ⟨20012, ⟨[.row .ro (.int .i64)], [(0, .w (.c (.sl 0))), (1, .w (.c (.int .i64))), (6, .w (.c (.int .i64))), (7, .w (.c (.int .i64)))]⟩, [(.exit 0, ⟨[], []⟩), (.ret, ⟨[], [(4, .w (.c (.int .i64))), (5, .w (.c (.bool)))]⟩)]⟩
/-- impl.beginOf -/
noncomputable def fd80 : FD := { id := 80, fn := Go.Proofs.Try.f80, sig := ⟨[.ro (.slice (.int .i64)), .ro (.int .i64)], [(.own, false, .int .i64), (.own, false, .bool)]⟩, loops := [(3, in20012)], views := [] }
noncomputable def in20011 : LoopInfo := ⟨20011, ⟨[.row .ro (.int .i64)], [(0, .w (.c (.sl 0))), (9, .w (.c (.int .i64))), (10, .w (.c (.int .i64)))]⟩, [(.exit 0, ⟨[], []⟩), (.ret, ⟨[], [(2, .w (.c (.int .i64))), (3, .w (.c (.int .i64))), (4, .w (.c (.bool)))]⟩)]⟩
/-- impl.firstHandle -/
noncomputable def fd56 : FD := { id := 56, fn := Go.Proofs.Try.f56, sig := ⟨[.ro (.slice (.int .i64))], [(.own, false, .int .i64), (.own, false, .int .i64), (.own, false, .bool)]⟩, loops := [(2, in20011)], views := [] }
/-- impl.FirstHandle -/
noncomputable def fd23 : FD := { id := 23, fn := Go.Proofs.Try.f23, sig := ⟨[.ro (.pair (.int .i64) (.slice (.int .i64)))], [(.own, false, .slice (.int .i64)), (.own, false, .int .i64)]⟩, loops := [], views := [] }
noncomputable def in20013 : LoopInfo := ⟨20013, ⟨[.row .own (.int .i64)], [(0, .w (.c (.sl 0))), (1, .w (.c (.int .i64))), (5, .w (.c (.int .i64)))]⟩, [(.exit 0, ⟨[.row .own (.int .i64)], [(0, .w (.c (.sl 0))), (1, .w (.c (.int .i64)))]⟩)]⟩
/-- laws.markInt64S -/
noncomputable def fd25 : FD := { id := 25, fn := Go.Proofs.Try.f25, sig := ⟨[.mut (.slice (.int .i64)), .ro (.int .i64)], [(.own, false, .int .i64)]⟩, loops := [(2, in20013)], views := [] }
/-- laws.markBraid -/
noncomputable def fd24 : FD := { id := 24, fn := Go.Proofs.Try.f24, sig := ⟨[.mut (.pair (.int .i64) (.slice (.int .i64))), .ro (.int .i64)], [(.own, false, .int .i64)]⟩, loops := [], views := [] }
noncomputable def in20014 : LoopInfo := ⟨20014, ⟨[.row .ro (.int .i64)], [(0, .w (.c (.sl 0))), (1, .w (.c (.int .i64))), (5, .w (.c (.int .i64)))]⟩, [(.exit 0, ⟨[], [(1, .w (.c (.int .i64)))]⟩), (.ret, ⟨[], [(4, .w (.c (.int .i64)))]⟩)]⟩
/-- laws.heldInt64S -/
noncomputable def fd26 : FD := { id := 26, fn := Go.Proofs.Try.f26, sig := ⟨[.ro (.slice (.int .i64)), .ro (.int .i64)], [(.own, false, .int .i64)]⟩, loops := [(2, in20014)], views := [] }
/-- laws.FnExactFirstHandle -/
noncomputable def fd5 : FD := { id := 5, fn := Go.Proofs.Try.f5, sig := ⟨[.ro (.pair (.int .i64) (.slice (.int .i64)))], [(.own, false, .bool)]⟩, loops := [], views := [] }
/-- spec.l01Own -/
noncomputable def fd60 : FD := { id := 60, fn := Go.Proofs.Try.f60, sig := ⟨[.ro (.slice (.int .i64))], [(.own, false, .slice (.int .i64))]⟩, loops := [], views := [] }
noncomputable def in20015 : LoopInfo := ⟨20015, ⟨[.row .ro (.int .i64), .row .own (.int .i64)], [(0, .w (.c (.sl 0))), (2, .w (.c (.int .i64))), (7, .w (.c (.sl 1))), (8, .w (.c (.int .i64))), (9, .w (.c (.int .i64))), (10, .w (.c (.int .i64)))]⟩, [(.exit 0, ⟨[.row .ro (.int .i64), .row .own (.int .i64)], [(0, .w (.c (.sl 0))), (2, .w (.c (.int .i64))), (7, .w (.c (.sl 1)))]⟩)]⟩
/-- spec.l06Step -/
noncomputable def fd57 : FD := { id := 57, fn := Go.Proofs.Try.f57, sig := ⟨[.ro (.slice (.int .i64)), .ro (.int .i64), .ro (.int .i64)], [(.own, false, .slice (.int .i64))]⟩, loops := [(5, in20015)], views := [] }
/-- spec.ReduceHandle -/
noncomputable def fd27 : FD := { id := 27, fn := Go.Proofs.Try.f27, sig := ⟨[.ro (.pair (.int .i64) (.slice (.int .i64)))], [(.own, false, .pair (.int .i64) (.slice (.int .i64))), (.own, false, .int .i64)]⟩, loops := [], views := [] }
noncomputable def in20016 : LoopInfo := ⟨20016, ⟨[.row .ro (.int .i64), .row .own (.int .i64), .row .ro (.int .i64)], [(0, .w (.c (.sl 0))), (2, .w (.c (.int .i64))), (7, .w (.c (.int .i64))), (8, .w (.c (.int .i64))), (9, .w (.c (.sl 1))), (34, .w (.c (.sl 2))), (35, .w (.c (.int .i64))), (36, .w (.c (.int .i64)))]⟩, [(.exit 0, ⟨[.row .ro (.int .i64), .row .own (.int .i64)], [(0, .w (.c (.sl 0))), (2, .w (.c (.int .i64))), (9, .w (.c (.sl 1)))]⟩)]⟩
/-- impl.reduced -/
noncomputable def fd58 : FD := { id := 58, fn := Go.Proofs.Try.f58, sig := ⟨[.ro (.slice (.int .i64)), .ro (.int .i64), .ro (.int .i64)], [(.own, false, .slice (.int .i64))]⟩, loops := [(5, in20016)], views := [] }
/-- impl.ReduceHandle -/
noncomputable def fd28 : FD := { id := 28, fn := Go.Proofs.Try.f28, sig := ⟨[.ro (.pair (.int .i64) (.slice (.int .i64)))], [(.own, false, .pair (.int .i64) (.slice (.int .i64))), (.own, false, .int .i64)]⟩, loops := [], views := [] }
/-- laws.heldBraid -/
noncomputable def fd29 : FD := { id := 29, fn := Go.Proofs.Try.f29, sig := ⟨[.ro (.pair (.int .i64) (.slice (.int .i64))), .ro (.int .i64)], [(.own, false, .int .i64)]⟩, loops := [], views := [] }
/-- laws.FnExactReduceHandle -/
noncomputable def fd6 : FD := { id := 6, fn := Go.Proofs.Try.f6, sig := ⟨[.ro (.pair (.int .i64) (.slice (.int .i64)))], [(.own, false, .bool)]⟩, loops := [], views := [] }
noncomputable def in20017 : LoopInfo := ⟨20017, ⟨[.row .ro (.int .i64)], [(0, .w (.c (.sl 0))), (4, .w (.c (.int .i64)))]⟩, [(.ret, ⟨[.row .ro (.int .i64)], [(2, .w (.c (.sl 0))), (3, .w (.c (.bool)))]⟩)]⟩
/-- spec.l06Reduce -/
noncomputable def fd59 : FD := { id := 59, fn := Go.Proofs.Try.f59, sig := ⟨[.ro (.slice (.int .i64))], [(.ro, false, .slice (.int .i64)), (.own, false, .bool)]⟩, loops := [(3, in20017)], views := [] }
/-- spec.HandleFree -/
noncomputable def fd30 : FD := { id := 30, fn := Go.Proofs.Try.f30, sig := ⟨[.ro (.pair (.int .i64) (.slice (.int .i64)))], [(.own, false, .pair (.int .i64) (.slice (.int .i64))), (.own, false, .int .i64)]⟩, loops := [], views := [] }
noncomputable def in20018 : LoopInfo := ⟨20018, ⟨[.row .ro (.int .i64)], [(0, .w (.c (.sl 0))), (4, .w (.c (.int .i64)))]⟩, [(.ret, ⟨[.row .ro (.int .i64)], [(2, .w (.c (.sl 0))), (3, .w (.c (.int .i64)))]⟩)]⟩
/-- impl.reduction -/
noncomputable def fd61 : FD := { id := 61, fn := Go.Proofs.Try.f61, sig := ⟨[.ro (.slice (.int .i64))], [(.ro, false, .slice (.int .i64)), (.own, false, .int .i64)]⟩, loops := [(3, in20018)], views := [] }
/-- impl.HandleFree -/
noncomputable def fd31 : FD := { id := 31, fn := Go.Proofs.Try.f31, sig := ⟨[.ro (.pair (.int .i64) (.slice (.int .i64)))], [(.own, false, .pair (.int .i64) (.slice (.int .i64))), (.own, false, .int .i64)]⟩, loops := [], views := [] }
/-- laws.FnExactHandleFree -/
noncomputable def fd7 : FD := { id := 7, fn := Go.Proofs.Try.f7, sig := ⟨[.ro (.pair (.int .i64) (.slice (.int .i64)))], [(.own, false, .bool)]⟩, loops := [], views := [] }
/-- spec.l06Letter -/
noncomputable def fd62 : FD := { id := 62, fn := Go.Proofs.Try.f62, sig := ⟨[.ro (.slice (.int .i64))], [(.own, false, .int .i64), (.own, false, .bool)]⟩, loops := [], views := [] }
/-- spec.MainLetter -/
noncomputable def fd32 : FD := { id := 32, fn := Go.Proofs.Try.f32, sig := ⟨[.ro (.pair (.int .i64) (.slice (.int .i64)))], [(.own, false, .int .i64), (.own, false, .int .i64)]⟩, loops := [], views := [] }
/-- impl.mainLetter -/
noncomputable def fd63 : FD := { id := 63, fn := Go.Proofs.Try.f63, sig := ⟨[.ro (.slice (.int .i64))], [(.own, false, .int .i64), (.own, false, .int .i64)]⟩, loops := [], views := [] }
/-- impl.MainLetter -/
noncomputable def fd33 : FD := { id := 33, fn := Go.Proofs.Try.f33, sig := ⟨[.ro (.pair (.int .i64) (.slice (.int .i64)))], [(.own, false, .int .i64), (.own, false, .int .i64)]⟩, loops := [], views := [] }
/-- laws.FnExactMainLetter -/
noncomputable def fd8 : FD := { id := 8, fn := Go.Proofs.Try.f8, sig := ⟨[.ro (.pair (.int .i64) (.slice (.int .i64)))], [(.own, false, .bool)]⟩, loops := [], views := [] }
/-- spec.IsTrivial -/
noncomputable def fd34 : FD := { id := 34, fn := Go.Proofs.Try.f34, sig := ⟨[.ro (.pair (.int .i64) (.slice (.int .i64)))], [(.own, false, .bool), (.own, false, .int .i64)]⟩, loops := [], views := [] }
/-- impl.IsTrivial -/
noncomputable def fd35 : FD := { id := 35, fn := Go.Proofs.Try.f35, sig := ⟨[.ro (.pair (.int .i64) (.slice (.int .i64)))], [(.own, false, .bool), (.own, false, .int .i64)]⟩, loops := [], views := [] }
/-- laws.FnExactIsTrivial -/
noncomputable def fd9 : FD := { id := 9, fn := Go.Proofs.Try.f9, sig := ⟨[.ro (.pair (.int .i64) (.slice (.int .i64)))], [(.own, false, .bool)]⟩, loops := [], views := [] }
noncomputable def in20019 : LoopInfo := ⟨20019, ⟨[.row .ro (.int .i64), .row .own (.int .i64)], [(0, .w (.c (.sl 0))), (3, .w (.c (.sl 1))), (4, .w (.c (.int .i64)))]⟩, [(.exit 0, ⟨[.row .own (.int .i64)], [(3, .w (.c (.sl 0)))]⟩)]⟩
/-- spec.l01Inverse -/
noncomputable def fd81 : FD := { id := 81, fn := Go.Proofs.Try.f81, sig := ⟨[.ro (.slice (.int .i64))], [(.own, false, .slice (.int .i64))]⟩, loops := [(3, in20019)], views := [] }
/-- spec.l06Compare -/
noncomputable def fd64 : FD := { id := 64, fn := Go.Proofs.Try.f64, sig := ⟨[.ro (.slice (.int .i64)), .ro (.slice (.int .i64))], [(.own, false, .int .i64), (.own, false, .bool)]⟩, loops := [], views := [] }
/-- spec.CompareBraids -/
noncomputable def fd36 : FD := { id := 36, fn := Go.Proofs.Try.f36, sig := ⟨[.ro (.pair (.int .i64) (.slice (.int .i64))), .ro (.pair (.int .i64) (.slice (.int .i64)))], [(.own, false, .int .i64), (.own, false, .int .i64)]⟩, loops := [], views := [] }
noncomputable def in20020 : LoopInfo := ⟨20020, ⟨[.box .own (.st [.int .i64, .sl 1]), .row .ro (.int .i64), .box .own (.st [.int .i64, .sl 3]), .row .own (.int .i64), .box .own (.st [.int .i64, .sl 5]), .row .own (.int .i64)], [(1, .w (.c (.ptr 0))), (2, .w (.c (.ptr 2))), (3, .w (.c (.ptr 4))), (4, .w (.c (.int .i64)))]⟩, [(.exit 0, ⟨[.box .own (.st [.int .i64, .sl 1]), .row .own (.int .i64), .box .own (.st [.int .i64, .sl 3]), .row .own (.int .i64)], [(2, .w (.c (.ptr 0))), (3, .w (.c (.ptr 2)))]⟩)]⟩
/-- impl.reversed -/
noncomputable def fd72 : FD := { id := 72, fn := Go.Proofs.Try.f72, sig := ⟨[.ro (.pair (.int .i64) (.slice (.int .i64)))], [(.own, false, .pair (.int .i64) (.slice (.int .i64)))]⟩, loops := [(3, in20020)], views := [] }
/-- impl.opposite -/
noncomputable def fd73 : FD := { id := 73, fn := Go.Proofs.Try.f73, sig := ⟨[.ro (.int .i64)], [(.own, false, .int .i64)]⟩, loops := [], views := [] }
noncomputable def in20021 : LoopInfo := ⟨20021, ⟨[.box .own (.st [.int .i64, .sl 1]), .row .own (.int .i64), .box .own (.st [.int .i64, .sl 3]), .row .own (.int .i64), .row .ro (.int .i64)], [(1, .fn 73 []), (4, .w (.c (.ptr 0))), (5, .w (.c (.ptr 2))), (12, .w (.c (.sl 4))), (13, .w (.c (.int .i64))), (14, .w (.c (.int .i64)))]⟩, [(.exit 0, ⟨[.box .own (.st [.int .i64, .sl 1]), .row .own (.int .i64), .box .own (.st [.int .i64, .sl 3]), .row .own (.int .i64)], [(4, .w (.c (.ptr 0))), (5, .w (.c (.ptr 2)))]⟩)]⟩
/-- impl.letterBy -/
noncomputable def fd10000 : FD := { id := 71, fn := Go.Proofs.Try.f71, sig := ⟨[.ro (.pair (.int .i64) (.slice (.int .i64))), .fn 73 []], [(.own, false, .pair (.int .i64) (.slice (.int .i64)))]⟩, loops := [(3, in20021)], views := [] }
/-- impl.joined -/
noncomputable def fd75 : FD := { id := 75, fn := Go.Proofs.Try.f75, sig := ⟨[.ro (.pair (.int .i64) (.slice (.int .i64))), .ro (.pair (.int .i64) (.slice (.int .i64)))], [(.own, false, .pair (.int .i64) (.slice (.int .i64)))]⟩, loops := [], views := [] }
/-- impl.compare -/
noncomputable def fd65 : FD := { id := 65, fn := Go.Proofs.Try.f65, sig := ⟨[.ro (.pair (.int .i64) (.slice (.int .i64))), .ro (.pair (.int .i64) (.slice (.int .i64)))], [(.own, false, .int .i64), (.own, false, .int .i64)]⟩, loops := [], views := [] }
/-- impl.CompareBraids -/
noncomputable def fd37 : FD := { id := 37, fn := Go.Proofs.Try.f37, sig := ⟨[.ro (.pair (.int .i64) (.slice (.int .i64))), .ro (.pair (.int .i64) (.slice (.int .i64)))], [(.own, false, .int .i64), (.own, false, .int .i64)]⟩, loops := [], views := [] }
/-- laws.FnExactCompareBraids -/
noncomputable def fd10 : FD := { id := 10, fn := Go.Proofs.Try.f10, sig := ⟨[.ro (.pair (.int .i64) (.slice (.int .i64))), .ro (.pair (.int .i64) (.slice (.int .i64)))], [(.own, false, .bool)]⟩, loops := [], views := [] }
noncomputable def in20023 : LoopInfo := ⟨20023, ⟨[.row .own (.int .i64)], [(3, .w (.c (.sl 0))), (4, .w (.c (.int .i64)))]⟩, [(.exit 0, ⟨[.row .own (.int .i64)], [(3, .w (.c (.sl 0)))]⟩)]⟩
noncomputable def in20024 : LoopInfo := ⟨20024, ⟨[.row .own (.int .i64)], [(3, .w (.c (.sl 0))), (4, .w (.c (.int .i64))), (5, .w (.c (.int .i64)))]⟩, [(.exit 2, ⟨[.row .own (.int .i64)], [(3, .w (.c (.sl 0))), (4, .w (.c (.int .i64)))]⟩)]⟩
/-- spec.l01Half -/
noncomputable def fd83 : FD := { id := 83, fn := Go.Proofs.Try.f83, sig := ⟨[.ro (.int .i64)], [(.own, false, .slice (.int .i64))]⟩, loops := [(3, in20023), (6, in20024)], views := [] }
noncomputable def in20025 : LoopInfo := ⟨20025, ⟨[.row .own (.int .i64), .row .own (.int .i64)], [(5, .w (.c (.sl 0))), (6, .w (.c (.sl 1))), (7, .w (.c (.int .i64)))]⟩, [(.exit 0, ⟨[.row .own (.int .i64)], [(5, .w (.c (.sl 0)))]⟩)]⟩
/-- spec.l06Turns -/
noncomputable def fd69 : FD := { id := 69, fn := Go.Proofs.Try.f69, sig := ⟨[.ro (.int .i64), .ro (.int .i64)], [(.own, false, .slice (.int .i64))]⟩, loops := [(5, in20025)], views := [] }
noncomputable def in20022 : LoopInfo := ⟨20022, ⟨[.box .own (.st [.int .i64, .sl 1]), .row .ro (.int .i64)], [(1, .w (.c (.ptr 0))), (4, .w (.c (.int .i64)))]⟩, [(.exit 1, ⟨[], []⟩), (.ret, ⟨[], [(2, .w (.c (.int .i64))), (3, .w (.c (.int .i64)))]⟩)]⟩
/-- spec.FloorOf -/
noncomputable def fd44 : FD := { id := 44, fn := Go.Proofs.Try.f44, sig := ⟨[.ro (.pair (.int .i64) (.slice (.int .i64)))], [(.own, false, .int .i64), (.own, false, .int .i64)]⟩, loops := [(6, in20022)], views := [] }
noncomputable def in20026 : LoopInfo := ⟨20026, ⟨[.box .own (.st [.int .i64, .sl 1]), .row .own (.int .i64), .box .own (.st [.int .i64, .sl 3]), .row .own (.int .i64)], [(2, .w (.c (.ptr 0))), (4, .w (.c (.ptr 2))), (5, .w (.c (.int .i64)))]⟩, [(.exit 0, ⟨[.box .own (.st [.int .i64, .sl 1]), .row .own (.int .i64), .box .own (.st [.int .i64, .sl 3]), .row .own (.int .i64)], [(2, .w (.c (.ptr 0))), (4, .w (.c (.ptr 2)))]⟩)]⟩
noncomputable def in20027 : LoopInfo := ⟨20027, ⟨[.box .own (.st [.int .i64, .sl 1]), .row .own (.int .i64), .box .own (.st [.int .i64, .sl 3]), .row .own (.int .i64)], [(2, .w (.c (.ptr 0))), (4, .w (.c (.ptr 2))), (5, .w (.c (.int .i64))), (6, .w (.c (.int .i64)))]⟩, [(.exit 2, ⟨[.box .own (.st [.int .i64, .sl 1]), .row .own (.int .i64), .box .own (.st [.int .i64, .sl 3]), .row .own (.int .i64)], [(2, .w (.c (.ptr 0))), (4, .w (.c (.ptr 2))), (5, .w (.c (.int .i64)))]⟩)]⟩
/-- impl.HalfTurnBraid -/
noncomputable def fd84 : FD := { id := 84, fn := Go.Proofs.Try.f84, sig := ⟨[.ro (.int .i64)], [(.own, false, .pair (.int .i64) (.slice (.int .i64))), (.own, false, .int .i64)]⟩, loops := [(5, in20026), (8, in20027)], views := [] }
/-- impl.FullTurnBraid -/
noncomputable def fd70 : FD := { id := 70, fn := Go.Proofs.Try.f70, sig := ⟨[.ro (.int .i64)], [(.own, false, .pair (.int .i64) (.slice (.int .i64))), (.own, false, .int .i64)]⟩, loops := [], views := [] }
noncomputable def in20028 : LoopInfo := ⟨20028, ⟨[.box .own (.st [.int .i64, .sl 1]), .row .ro (.int .i64), .box .own (.st [.int .i64, .sl 3]), .row .ro (.int .i64)], [(1, .w (.c (.ptr 0))), (4, .w (.c (.ptr 2))), (6, .w (.c (.int .i64)))]⟩, [(.exit 1, ⟨[], []⟩), (.ret, ⟨[], [(2, .w (.c (.int .i64))), (3, .w (.c (.int .i64)))]⟩)]⟩
noncomputable def in20029 : LoopInfo := ⟨20029, ⟨[.box .own (.st [.int .i64, .sl 1]), .row .ro (.int .i64), .box .own (.st [.int .i64, .sl 3]), .row .ro (.int .i64), .box .own (.st [.int .i64, .sl 5]), .row .ro (.int .i64), .box .own (.st [.int .i64, .sl 7]), .row .own (.int .i64)], [(1, .w (.c (.ptr 0))), (4, .w (.c (.ptr 2))), (6, .w (.c (.int .i64))), (7, .w (.c (.ptr 4))), (8, .w (.c (.ptr 6))), (39, .w (.c (.int .i64))), (40, .w (.c (.int .i64)))]⟩, [(.exit 3, ⟨[.box .own (.st [.int .i64, .sl 1]), .row .ro (.int .i64), .box .own (.st [.int .i64, .sl 3]), .row .ro (.int .i64), .box .own (.st [.int .i64, .sl 5]), .row .own (.int .i64)], [(1, .w (.c (.ptr 0))), (4, .w (.c (.ptr 2))), (6, .w (.c (.int .i64))), (8, .w (.c (.ptr 4)))]⟩)]⟩
/-- impl.FloorOf -/
noncomputable def fd45 : FD := { id := 45, fn := Go.Proofs.Try.f45, sig := ⟨[.ro (.pair (.int .i64) (.slice (.int .i64)))], [(.own, false, .int .i64), (.own, false, .int .i64)]⟩, loops := [(7, in20028), (13, in20029)], views := [] }
/-- laws.FnExactFloorOf -/
noncomputable def fd12 : FD := { id := 12, fn := Go.Proofs.Try.f12, sig := ⟨[.ro (.pair (.int .i64) (.slice (.int .i64)))], [(.own, false, .bool)]⟩, loops := [], views := [] }
noncomputable def fdTab : List (Nat × FD) := [(14, fd14), (76, fd76), (46, fd46), (13, fd13), (77, fd77), (47, fd47), (48, fd48), (15, fd15), (16, fd16), (3, fd3), (49, fd49), (17, fd17), (19, fd19), (50, fd50), (78, fd78), (51, fd51), (18, fd18), (79, fd79), (52, fd52), (74, fd74), (53, fd53), (54, fd54), (20, fd20), (21, fd21), (4, fd4), (55, fd55), (22, fd22), (80, fd80), (56, fd56), (23, fd23), (25, fd25), (24, fd24), (26, fd26), (5, fd5), (60, fd60), (57, fd57), (27, fd27), (58, fd58), (28, fd28), (29, fd29), (6, fd6), (59, fd59), (30, fd30), (61, fd61), (31, fd31), (7, fd7), (62, fd62), (32, fd32), (63, fd63), (33, fd33), (8, fd8), (34, fd34), (35, fd35), (9, fd9), (81, fd81), (64, fd64), (36, fd36), (72, fd72), (73, fd73), (10000, fd10000), (75, fd75), (65, fd65), (37, fd37), (10, fd10), (83, fd83), (69, fd69), (44, fd44), (84, fd84), (70, fd70), (45, fd45), (12, fd12)]
noncomputable def ldTab : List (Nat × LD) := [(20000, ⟨14, 3, in20000⟩), (20001, ⟨46, 4, in20001⟩), (20002, ⟨15, 4, in20002⟩), (20003, ⟨16, 4, in20003⟩), (20004, ⟨50, 4, in20004⟩), (20005, ⟨51, 3, in20005⟩), (20006, ⟨51, 8, in20006⟩), (20007, ⟨52, 4, in20007⟩), (20008, ⟨53, 3, in20008⟩), (20009, ⟨55, 2, in20009⟩), (20010, ⟨55, 6, in20010⟩), (20012, ⟨80, 3, in20012⟩), (20011, ⟨56, 2, in20011⟩), (20013, ⟨25, 2, in20013⟩), (20014, ⟨26, 2, in20014⟩), (20015, ⟨57, 5, in20015⟩), (20016, ⟨58, 5, in20016⟩), (20017, ⟨59, 3, in20017⟩), (20018, ⟨61, 3, in20018⟩), (20019, ⟨81, 3, in20019⟩), (20020, ⟨72, 3, in20020⟩), (20021, ⟨10000, 3, in20021⟩), (20023, ⟨83, 3, in20023⟩), (20024, ⟨83, 6, in20024⟩), (20025, ⟨69, 5, in20025⟩), (20022, ⟨44, 6, in20022⟩), (20026, ⟨84, 5, in20026⟩), (20027, ⟨84, 8, in20027⟩), (20028, ⟨45, 7, in20028⟩), (20029, ⟨45, 13, in20029⟩)]
noncomputable def pickTab : List ((FuncId × List FuncId) × Nat) := [((71, [73]), 10000)]
noncomputable def pick (f : FuncId) : List FuncId → Nat
  | [] => f
  | l => (pickTab.lookup (f, l)).getD 0
noncomputable def E : Env := ⟨fun T => tyTab.lookup T, pick, fun f => fdTab.lookup f, fun f => ldTab.lookup f⟩
/-- What a call answers. -/
noncomputable def R : Oracle := ev E
theorem R_ev (f : Nat) (l : List TV) : R f l = ev E f l := rfl
def iw_toInt64S : Nat := 14
def iw_toInt64S_3 : Nat := 20000
def is_l01In : Nat := 76
def is_l08Is : Nat := 46
def is_l08Is_4 : Nat := 20001
def is_IsFreeWord : Nat := 13
def ii_within : Nat := 77
def ii_isCount : Nat := 47
def ii_isGenerator : Nat := 48
def ii_IsFreeWord : Nat := 15
def ii_IsFreeWord_4 : Nat := 20002
def iw_eqInt64S : Nat := 16
def iw_eqInt64S_4 : Nat := 20003
def iw_FnExactIsFreeWord : Nat := 3
def iw_szInt64S : Nat := 49
def iw_szBraid : Nat := 17
def iw_toBraid : Nat := 19
def is_l01Is : Nat := 50
def is_l01Is_4 : Nat := 20004
def is_l06Index : Nat := 78
def is_l06Main : Nat := 51
def is_l06Main_3 : Nat := 20005
def is_l06Main_8 : Nat := 20006
def is_WordSign : Nat := 18
def ii_isLetter : Nat := 79
def ii_IsBraid : Nat := 52
def ii_IsBraid_4 : Nat := 20007
def ii_size : Nat := 74
def ii_mainOf : Nat := 53
def ii_mainOf_3 : Nat := 20008
def ii_sign : Nat := 54
def ii_WordSign : Nat := 20
def iw_eqBraid : Nat := 21
def iw_FnExactWordSign : Nat := 4
def is_l06Handle : Nat := 55
def is_l06Handle_2 : Nat := 20009
def is_l06Handle_6 : Nat := 20010
def is_FirstHandle : Nat := 22
def ii_beginOf : Nat := 80
def ii_beginOf_3 : Nat := 20012
def ii_firstHandle : Nat := 56
def ii_firstHandle_2 : Nat := 20011
def ii_FirstHandle : Nat := 23
def iw_markInt64S : Nat := 25
def iw_markInt64S_2 : Nat := 20013
def iw_markBraid : Nat := 24
def iw_heldInt64S : Nat := 26
def iw_heldInt64S_2 : Nat := 20014
def iw_FnExactFirstHandle : Nat := 5
def is_l01Own : Nat := 60
def is_l06Step : Nat := 57
def is_l06Step_5 : Nat := 20015
def is_ReduceHandle : Nat := 27
def ii_reduced : Nat := 58
def ii_reduced_5 : Nat := 20016
def ii_ReduceHandle : Nat := 28
def iw_heldBraid : Nat := 29
def iw_FnExactReduceHandle : Nat := 6
def is_l06Reduce : Nat := 59
def is_l06Reduce_3 : Nat := 20017
def is_HandleFree : Nat := 30
def ii_reduction : Nat := 61
def ii_reduction_3 : Nat := 20018
def ii_HandleFree : Nat := 31
def iw_FnExactHandleFree : Nat := 7
def is_l06Letter : Nat := 62
def is_MainLetter : Nat := 32
def ii_mainLetter : Nat := 63
def ii_MainLetter : Nat := 33
def iw_FnExactMainLetter : Nat := 8
def is_IsTrivial : Nat := 34
def ii_IsTrivial : Nat := 35
def iw_FnExactIsTrivial : Nat := 9
def is_l01Inverse : Nat := 81
def is_l01Inverse_3 : Nat := 20019
def is_l06Compare : Nat := 64
def is_CompareBraids : Nat := 36
def ii_reversed : Nat := 72
def ii_reversed_3 : Nat := 20020
def ii_opposite : Nat := 73
def ii_letterBy : Nat := 10000
def ii_letterBy_3 : Nat := 20021
def ii_joined : Nat := 75
def ii_compare : Nat := 65
def ii_CompareBraids : Nat := 37
def iw_FnExactCompareBraids : Nat := 10
def is_l01Half : Nat := 83
def is_l01Half_3 : Nat := 20023
def is_l01Half_6 : Nat := 20024
def is_l06Turns : Nat := 69
def is_l06Turns_5 : Nat := 20025
def is_FloorOf : Nat := 44
def is_FloorOf_6 : Nat := 20022
def ii_HalfTurnBraid : Nat := 84
def ii_HalfTurnBraid_5 : Nat := 20026
def ii_HalfTurnBraid_8 : Nat := 20027
def ii_FullTurnBraid : Nat := 70
def ii_FloorOf : Nat := 45
def ii_FloorOf_7 : Nat := 20028
def ii_FloorOf_13 : Nat := 20029
def iw_FnExactFloorOf : Nat := 12
end Go.Ev.Ytffepojldjodcaa
