/- What the evaluator knows of this program. -/
import Derived.Test.YtpfpjhfimmmkmaaProg
import Derived.Test.YtpfpjhfimmmkmaaV1
namespace Go.Ev.Ytpfpjhfimmmkmaa
open Go.Ev
@[reducible] noncomputable def tA8 (x : List Int) : TV := ⟨.arr .u8 8, x⟩
@[reducible] noncomputable def gA8 (l : List TV) (i : Nat) : List Int := getTV (.arr .u8 8) l i
@[reducible] noncomputable def tAB8 (x : List Bool) : TV := ⟨.barr 8, x⟩
@[reducible] noncomputable def gAB8 (l : List TV) (i : Nat) : List Bool := getTV (.barr 8) l i
@[reducible] noncomputable def tB (x : Bool) : TV := ⟨.bool, x⟩
@[reducible] noncomputable def gB (l : List TV) (i : Nat) : Bool := getTV (.bool) l i
@[reducible] noncomputable def tI (x : Int) : TV := ⟨.int .i64, x⟩
@[reducible] noncomputable def gI (l : List TV) (i : Nat) : Int := getTV (.int .i64) l i
@[reducible] noncomputable def tLA8 (x : List (List Int)) : TV := ⟨.slice (.arr .u8 8), x⟩
@[reducible] noncomputable def gLA8 (l : List TV) (i : Nat) : List (List Int) := getTV (.slice (.arr .u8 8)) l i
@[reducible] noncomputable def tLI (x : List Int) : TV := ⟨.slice (.int .i64), x⟩
@[reducible] noncomputable def gLI (l : List TV) (i : Nat) : List Int := getTV (.slice (.int .i64)) l i
@[reducible] noncomputable def tLU8 (x : List Int) : TV := ⟨.slice (.int .u8), x⟩
@[reducible] noncomputable def gLU8 (l : List TV) (i : Nat) : List Int := getTV (.slice (.int .u8)) l i
@[reducible] noncomputable def tPILI (x : Int × List Int) : TV := ⟨.pair (.int .i64) (.slice (.int .i64)), x⟩
@[reducible] noncomputable def gPILI (l : List TV) (i : Nat) : Int × List Int := getTV (.pair (.int .i64) (.slice (.int .i64))) l i
@[reducible] noncomputable def tPIPILA8 (x : Int × Int × List (List Int)) : TV := ⟨.pair (.int .i64) (.pair (.int .i64) (.slice (.arr .u8 8))), x⟩
@[reducible] noncomputable def gPIPILA8 (l : List TV) (i : Nat) : Int × Int × List (List Int) := getTV (.pair (.int .i64) (.pair (.int .i64) (.slice (.arr .u8 8)))) l i
@[reducible] noncomputable def tPLU8PIU64 (x : List Int × Int × Int) : TV := ⟨.pair (.slice (.int .u8)) (.pair (.int .i64) (.int .u64)), x⟩
@[reducible] noncomputable def gPLU8PIU64 (l : List TV) (i : Nat) : List Int × Int × Int := getTV (.pair (.slice (.int .u8)) (.pair (.int .i64) (.int .u64))) l i
@[reducible] noncomputable def tU64 (x : Int) : TV := ⟨.int .u64, x⟩
@[reducible] noncomputable def gU64 (l : List TV) (i : Nat) : Int := getTV (.int .u64) l i
noncomputable def tyTab : List (Nat × Ty) := [(2, .int .i64), (3, .int .i64), (4, .bool), (5, .int .u8), (6, .int .u8), (7, .pair (.int .i64) (.pair (.int .i64) (.pair (.bool) (.int .u8)))), (8, .pair (.int .i64) (.pair (.int .i64) (.pair (.bool) (.int .u8)))), (12, .int .u64), (21, .int .i32), (22, .slice (.int .u8)), (24, .slice (.int .i64)), (25, .pair (.int .i64) (.slice (.int .i64))), (26, .pair (.int .i64) (.slice (.int .i64))), (28, .slice (.arr .u8 8)), (29, .pair (.int .i64) (.pair (.int .i64) (.slice (.arr .u8 8)))), (30, .pair (.int .i64) (.pair (.int .i64) (.slice (.arr .u8 8)))), (47, .arr .u8 8), (48, .arr .u8 8), (58, .int .u64), (88, .pair (.slice (.int .u8)) (.pair (.int .i64) (.int .u64))), (89, .pair (.slice (.int .u8)) (.pair (.int .i64) (.int .u64))), (98, .pair (.slice (.int .u8)) (.pair (.int .i64) (.int .u64))), (99, .pair (.slice (.int .u8)) (.pair (.int .i64) (.int .u64))), (105, .barr 8), (106, .int .u64), (121, .int .u32), (122, .int .u8), (123, .int .u8), (126, .int .i32), (127, .int .i32)]
/-- laws.big -/
noncomputable def fd6 : FD := { id := 6, fn := Go.Proofs.Try.f6, sig := ⟨[.ro (.slice (.int .u8))], [(.own, false, .bool)]⟩, loops := [], views := [], joins := [] }
noncomputable def in20000 : LoopInfo := ⟨20000, ⟨[.row .ro (.int .u8), .box .own (.st [.sl 0, .int .i64, .int .u64])], [(0, .w (.c (.sl 0))), (3, .w (.c (.ptr 1))), (4, .w (.c (.int .i64)))]⟩, [(.exit 0, ⟨[.box .own (.st [.sl 1, .int .i64, .int .u64]), .row .ro (.int .u8)], [(3, .w (.c (.ptr 0)))]⟩)]⟩
/-- spec.l01From -/
noncomputable def fd52 : FD := { id := 52, fn := Go.Proofs.Try.f52, sig := ⟨[.ro (.slice (.int .u8))], [(.ro, true, .pair (.slice (.int .u8)) (.pair (.int .i64) (.int .u64)))]⟩, loops := [(3, in20000)], views := [], joins := [] }
/-- spec.l01Next -/
noncomputable def fd75 : FD := { id := 75, fn := Go.Proofs.Try.f75, sig := ⟨[.boxr (.pair (.slice (.int .u8)) (.pair (.int .i64) (.int .u64))), .ro (.int .i64)], [(.own, false, .int .i64)]⟩, loops := [], views := [], joins := [] }
/-- spec.l01Pick -/
noncomputable def fd88 : FD := { id := 88, fn := Go.Proofs.Try.f88, sig := ⟨[.boxr (.pair (.slice (.int .u8)) (.pair (.int .i64) (.int .u64))), .ro (.slice (.int .i64))], [(.own, false, .int .i64)]⟩, loops := [], views := [], joins := [] }
noncomputable def in20001 : LoopInfo := ⟨20001, ⟨[.box .own (.st [.sl 1, .int .i64, .int .u64]), .row .ro (.int .u8), .row .own (.int .i64)], [(0, .w (.c (.ptr 0))), (1, .w (.c (.int .i64))), (7, .w (.c (.sl 2))), (8, .w (.c (.int .i64))), (9, .w (.c (.int .i64)))]⟩, [(.exit 0, ⟨[.box .own (.st [.sl 1, .int .i64, .int .u64]), .row .ro (.int .u8), .row .own (.int .i64)], [(0, .w (.c (.ptr 0))), (7, .w (.c (.sl 2)))]⟩)]⟩
/-- spec.l01Draw -/
noncomputable def fd76 : FD := { id := 76, fn := Go.Proofs.Try.f76, sig := ⟨[.boxr (.pair (.slice (.int .u8)) (.pair (.int .i64) (.int .u64))), .ro (.int .i64), .ro (.int .i64)], [(.own, false, .slice (.int .i64))]⟩, loops := [(6, in20001)], views := [], joins := [] }
/-- spec.l01Own -/
noncomputable def fd127 : FD := { id := 127, fn := Go.Proofs.Try.f127, sig := ⟨[.ro (.slice (.int .i64))], [(.own, false, .slice (.int .i64))]⟩, loops := [], views := [], joins := [] }
/-- spec.l01Broken -/
noncomputable def fd101 : FD := { id := 101, fn := Go.Proofs.Try.f101, sig := ⟨[.boxr (.pair (.slice (.int .u8)) (.pair (.int .i64) (.int .u64))), .ro (.pair (.int .i64) (.slice (.int .i64)))], [(.ro, false, .pair (.int .i64) (.slice (.int .i64)))]⟩, loops := [], views := [], joins := [] }
/-- spec.l01DrawBraid -/
noncomputable def fd102 : FD := { id := 102, fn := Go.Proofs.Try.f102, sig := ⟨[.boxr (.pair (.slice (.int .u8)) (.pair (.int .i64) (.int .u64)))], [(.own, false, .pair (.int .i64) (.slice (.int .i64)))]⟩, loops := [], views := [], joins := [] }
/-- spec.l01Spoil -/
noncomputable def fd51 : FD := { id := 51, fn := Go.Proofs.Try.f51, sig := ⟨[.boxr (.pair (.slice (.int .u8)) (.pair (.int .i64) (.int .u64)))], [(.ro, false, .pair (.int .i64) (.slice (.int .i64)))]⟩, loops := [], views := [], joins := [] }
/-- spec.DrawNormalOf -/
noncomputable def fd7 : FD := { id := 7, fn := Go.Proofs.Try.f7, sig := ⟨[.ro (.slice (.int .u8))], [(.ro, false, .pair (.int .i64) (.slice (.int .i64)))]⟩, loops := [], views := [], joins := [] }
/-- impl.within -/
noncomputable def fd71 : FD := { id := 71, fn := Go.Proofs.Try.f71, sig := ⟨[.ro (.int .i64), .ro (.int .i64), .ro (.int .i64)], [(.own, false, .bool)]⟩, loops := [], views := [], joins := [] }
/-- impl.isCount -/
noncomputable def fd70 : FD := { id := 70, fn := Go.Proofs.Try.f70, sig := ⟨[.ro (.int .i64)], [(.own, false, .bool)]⟩, loops := [], views := [], joins := [] }
/-- impl.isLetter -/
noncomputable def fd103 : FD := { id := 103, fn := Go.Proofs.Try.f103, sig := ⟨[.ro (.int .i64), .ro (.int .i64)], [(.own, false, .bool)]⟩, loops := [], views := [], joins := [] }
noncomputable def in20002 : LoopInfo := ⟨20002, ⟨[.box .own (.st [.int .i64, .sl 1]), .row .ro (.int .i64)], [(1, .w (.c (.ptr 0))), (16, .w (.c (.sl 1))), (17, .w (.c (.int .i64))), (18, .w (.c (.int .i64)))]⟩, [(.exit 0, ⟨[], []⟩), (.ret, ⟨[], [(2, .w (.c (.bool)))]⟩)]⟩
/-- impl.IsBraid -/
noncomputable def fd53 : FD := { id := 53, fn := Go.Proofs.Try.f53, sig := ⟨[.ro (.pair (.int .i64) (.slice (.int .i64)))], [(.own, false, .bool)]⟩, loops := [(4, in20002)], views := [], joins := [] }
noncomputable def in20004 : LoopInfo := ⟨20004, ⟨[.box .own (.arr .u8 8), .box .own (.arr .u8 8)], [(2, .w (.c (.ptr 0))), (3, .w (.c (.ptr 1))), (6, .w (.c (.int .i64))), (7, .w (.c (.int .i64)))]⟩, [(.exit 0, ⟨[.box .own (.arr .u8 8), .box .own (.arr .u8 8)], [(2, .w (.c (.ptr 0))), (3, .w (.c (.ptr 1)))]⟩)]⟩
/-- impl.nothing -/
noncomputable def fd73 : FD := { id := 73, fn := Go.Proofs.Try.f73, sig := ⟨[.ro (.int .i64)], [(.own, false, .arr .u8 8)]⟩, loops := [(3, in20004)], views := [], joins := [] }
/-- impl.exchange -/
noncomputable def fd104 : FD := { id := 104, fn := Go.Proofs.Try.f104, sig := ⟨[.ro (.int .i64), .ro (.int .i64)], [(.own, false, .arr .u8 8)]⟩, loops := [], views := [], joins := [] }
noncomputable def in20006 : LoopInfo := ⟨20006, ⟨[.box .own (.arr .u8 8), .box .own (.arr .u8 8), .box .own (.arr .u8 8)], [(2, .w (.c (.ptr 0))), (4, .w (.c (.ptr 1))), (5, .w (.c (.ptr 2))), (8, .w (.c (.int .i64))), (9, .w (.c (.int .i64)))]⟩, [(.exit 0, ⟨[.box .own (.arr .u8 8), .box .own (.arr .u8 8)], [(4, .w (.c (.ptr 0))), (5, .w (.c (.ptr 1)))]⟩)]⟩
/-- impl.backOf -/
noncomputable def fd60 : FD := { id := 60, fn := Go.Proofs.Try.f60, sig := ⟨[.ro (.arr .u8 8), .ro (.int .i64)], [(.own, false, .arr .u8 8)]⟩, loops := [(3, in20006)], views := [], joins := [] }
noncomputable def in20007 : LoopInfo := ⟨20007, ⟨[.box .own (.arr .u8 8), .box .own (.arr .u8 8)], [(0, .w (.c (.int .i64))), (2, .w (.c (.ptr 0))), (3, .w (.c (.ptr 1))), (6, .w (.c (.int .i64))), (7, .w (.c (.int .i64)))]⟩, [(.exit 0, ⟨[.box .own (.arr .u8 8), .box .own (.arr .u8 8)], [(2, .w (.c (.ptr 0))), (3, .w (.c (.ptr 1)))]⟩)]⟩
/-- impl.halfTurn -/
noncomputable def fd64 : FD := { id := 64, fn := Go.Proofs.Try.f64, sig := ⟨[.ro (.int .i64)], [(.own, false, .arr .u8 8)]⟩, loops := [(3, in20007)], views := [], joins := [] }
noncomputable def in20008 : LoopInfo := ⟨20008, ⟨[.box .own (.arr .u8 8), .box .own (.arr .u8 8), .box .own (.arr .u8 8), .box .own (.arr .u8 8)], [(3, .w (.c (.ptr 0))), (4, .w (.c (.ptr 1))), (6, .w (.c (.ptr 2))), (7, .w (.c (.ptr 3))), (10, .w (.c (.int .i64))), (11, .w (.c (.int .i64)))]⟩, [(.exit 0, ⟨[.box .own (.arr .u8 8), .box .own (.arr .u8 8)], [(6, .w (.c (.ptr 0))), (7, .w (.c (.ptr 1)))]⟩)]⟩
/-- impl.then -/
noncomputable def fd123 : FD := { id := 123, fn := Go.Proofs.Try.f123, sig := ⟨[.ro (.arr .u8 8), .ro (.arr .u8 8), .ro (.int .i64)], [(.own, false, .arr .u8 8)]⟩, loops := [(3, in20008)], views := [], joins := [] }
/-- impl.complement -/
noncomputable def fd122 : FD := { id := 122, fn := Go.Proofs.Try.f122, sig := ⟨[.ro (.arr .u8 8), .ro (.int .i64)], [(.own, false, .arr .u8 8)]⟩, loops := [], views := [], joins := [] }
noncomputable def in20009 : LoopInfo := ⟨20009, ⟨[.box .own (.arr .u8 8)], [(2, .w (.c (.ptr 0))), (5, .w (.c (.int .u64))), (8, .w (.c (.int .i64))), (9, .w (.c (.int .i64)))]⟩, [(.exit 0, ⟨[], [(5, .w (.c (.int .u64)))]⟩)]⟩
noncomputable def in20010 : LoopInfo := ⟨20010, ⟨[.box .own (.arr .u8 8)], [(2, .w (.c (.ptr 0))), (5, .w (.c (.int .u64))), (6, .w (.c (.int .i64))), (8, .w (.c (.int .i64))), (9, .w (.c (.int .i64))), (12, .w (.c (.int .i64))), (13, .w (.c (.int .i64)))]⟩, [(.exit 2, ⟨[.box .own (.arr .u8 8)], [(2, .w (.c (.ptr 0))), (5, .w (.c (.int .u64))), (8, .w (.c (.int .i64))), (9, .w (.c (.int .i64)))]⟩)]⟩
/-- impl.descents -/
noncomputable def fd118 : FD := { id := 118, fn := Go.Proofs.Try.f118, sig := ⟨[.ro (.arr .u8 8), .ro (.int .i64)], [(.own, false, .int .u64)]⟩, loops := [(3, in20009), (6, in20010)], views := [], joins := [] }
noncomputable def in20011 : LoopInfo := ⟨20011, ⟨[.box .own (.arr .u8 8), .box .own (.arr .u8 8)], [(2, .w (.c (.int .i64))), (6, .w (.c (.ptr 0))), (7, .w (.c (.int .u64))), (8, .w (.c (.ptr 1))), (9, .w (.c (.bool)))]⟩, [(.exit 0, ⟨[.box .own (.arr .u8 8), .box .own (.arr .u8 8)], [(2, .w (.c (.int .i64))), (6, .w (.c (.ptr 0))), (8, .w (.c (.ptr 1)))]⟩)]⟩
noncomputable def in20012 : LoopInfo := ⟨20012, ⟨[.box .own (.arr .u8 8), .box .own (.arr .u8 8)], [(2, .w (.c (.int .i64))), (6, .w (.c (.ptr 0))), (7, .w (.c (.int .u64))), (8, .w (.c (.ptr 1))), (9, .w (.c (.bool))), (10, .w (.c (.int .i64)))]⟩, [(.exit 2, ⟨[.box .own (.arr .u8 8), .box .own (.arr .u8 8)], [(2, .w (.c (.int .i64))), (6, .w (.c (.ptr 0))), (7, .w (.c (.int .u64))), (8, .w (.c (.ptr 1))), (9, .w (.c (.bool)))]⟩)]⟩
/-- impl.meet -/
noncomputable def fd94 : FD := { id := 94, fn := Go.Proofs.Try.f94, sig := ⟨[.ro (.arr .u8 8), .ro (.arr .u8 8), .ro (.int .i64)], [(.own, false, .arr .u8 8)]⟩, loops := [(4, in20011), (7, in20012)], views := [], joins := [] }
noncomputable def in20005 : LoopInfo := ⟨20005, ⟨[.box .own (.st [.int .i64, .int .i64, .sl 1]), .row .own (.arr .u8 8)], [(0, .w (.c (.ptr 0))), (4, .w (.c (.int .i64))), (5, .w (.c (.int .i64)))]⟩, [(.exit 0, ⟨[.box .own (.st [.int .i64, .int .i64, .sl 1]), .row .own (.arr .u8 8)], [(0, .w (.c (.ptr 0))), (4, .w (.c (.int .i64)))]⟩)]⟩
noncomputable def in20013 : LoopInfo := ⟨20013, ⟨[.box .own (.st [.int .i64, .int .i64, .sl 1]), .row .own (.arr .u8 8)], [(0, .w (.c (.ptr 0))), (4, .w (.c (.int .i64)))]⟩, [(.exit 2, ⟨[.box .own (.st [.int .i64, .int .i64, .sl 1]), .row .own (.arr .u8 8)], [(0, .w (.c (.ptr 0))), (4, .w (.c (.int .i64)))]⟩)]⟩
noncomputable def in20014 : LoopInfo := ⟨20014, ⟨[.box .own (.st [.int .i64, .int .i64, .sl 1]), .row .own (.arr .u8 8)], [(0, .w (.c (.ptr 0))), (4, .w (.c (.int .i64)))]⟩, [(.exit 4, ⟨[.box .own (.st [.int .i64, .int .i64, .sl 1]), .row .own (.arr .u8 8)], [(0, .w (.c (.ptr 0)))]⟩)]⟩
/-- (*impl.Normal).put -/
noncomputable def fd96 : FD := { id := 96, fn := Go.Proofs.Try.f96, sig := ⟨[.box (.pair (.int .i64) (.pair (.int .i64) (.slice (.arr .u8 8)))), .ro (.arr .u8 8)], []⟩, loops := [(5, in20005), (11, in20013), (14, in20014)], views := [], joins := [] }
/-- impl.turn -/
noncomputable def fd121 : FD := { id := 121, fn := Go.Proofs.Try.f121, sig := ⟨[.ro (.arr .u8 8), .ro (.int .i64)], [(.own, false, .arr .u8 8)]⟩, loops := [], views := [], joins := [] }
noncomputable def in20015 : LoopInfo := ⟨20015, ⟨[.box .own (.st [.int .i64, .int .i64, .sl 1]), .row .own (.arr .u8 8)], [(0, .w (.c (.ptr 0))), (25, .w (.c (.sl 1))), (26, .w (.c (.int .i64))), (27, .w (.c (.int .i64)))]⟩, [(.exit 0, ⟨[.box .own (.st [.int .i64, .int .i64, .sl 1]), .row .own (.arr .u8 8)], [(0, .w (.c (.ptr 0)))]⟩)]⟩
/-- (*impl.Normal).turnBy -/
noncomputable def fd93 : FD := { id := 93, fn := Go.Proofs.Try.f93, sig := ⟨[.box (.pair (.int .i64) (.pair (.int .i64) (.slice (.arr .u8 8)))), .ro (.int .i64)], []⟩, loops := [(4, in20015)], views := [], joins := [] }
/-- impl.leftComplement -/
noncomputable def fd128 : FD := { id := 128, fn := Go.Proofs.Try.f128, sig := ⟨[.ro (.arr .u8 8), .ro (.int .i64)], [(.own, false, .arr .u8 8)]⟩, loops := [], views := [], joins := [] }
/-- (*impl.Normal).putInverse -/
noncomputable def fd105 : FD := { id := 105, fn := Go.Proofs.Try.f105, sig := ⟨[.box (.pair (.int .i64) (.pair (.int .i64) (.slice (.arr .u8 8)))), .ro (.arr .u8 8)], []⟩, loops := [], views := [], joins := [] }
noncomputable def in20003 : LoopInfo := ⟨20003, ⟨[.box .own (.st [.int .i64, .sl 1]), .row .ro (.int .i64), .box .own (.st [.int .i64, .int .i64, .sl 3]), .row .own (.arr .u8 8), .box .own (.st [.int .i64, .int .i64, .sl 5]), .row .own (.arr .u8 8)], [(1, .w (.c (.ptr 0))), (2, .w (.c (.ptr 2))), (3, .w (.c (.ptr 4))), (10, .w (.c (.sl 1))), (11, .w (.c (.int .i64))), (12, .w (.c (.int .i64)))]⟩, [(.exit 0, ⟨[.box .own (.st [.int .i64, .int .i64, .sl 1]), .row .own (.arr .u8 8), .box .own (.st [.int .i64, .int .i64, .sl 3]), .row .own (.arr .u8 8)], [(2, .w (.c (.ptr 0))), (3, .w (.c (.ptr 2)))]⟩)]⟩
/-- impl.normalOf -/
noncomputable def fd55 : FD := { id := 55, fn := Go.Proofs.Try.f55, sig := ⟨[.ro (.pair (.int .i64) (.slice (.int .i64)))], [(.own, false, .pair (.int .i64) (.pair (.int .i64) (.slice (.arr .u8 8))))]⟩, loops := [(3, in20003)], views := [], joins := [] }
/-- impl.limited -/
noncomputable def fd54 : FD := { id := 54, fn := Go.Proofs.Try.f54, sig := ⟨[.own (.pair (.int .i64) (.pair (.int .i64) (.slice (.arr .u8 8))))], [(.own, false, .pair (.int .i64) (.pair (.int .i64) (.slice (.arr .u8 8)))), (.own, false, .int .i64)]⟩, loops := [], views := [], joins := [] }
/-- impl.NormalOf -/
noncomputable def fd8 : FD := { id := 8, fn := Go.Proofs.Try.f8, sig := ⟨[.ro (.pair (.int .i64) (.slice (.int .i64)))], [(.own, false, .pair (.int .i64) (.pair (.int .i64) (.slice (.arr .u8 8)))), (.own, false, .int .i64)]⟩, loops := [], views := [], joins := [] }
/-- spec.l01In -/
noncomputable def fd89 : FD := { id := 89, fn := Go.Proofs.Try.f89, sig := ⟨[.ro (.int .i64), .ro (.int .i64), .ro (.int .i64)], [(.own, false, .bool)]⟩, loops := [], views := [], joins := [] }
noncomputable def in20016 : LoopInfo := ⟨20016, ⟨[.box .own (.st [.int .i64, .sl 1]), .row .ro (.int .i64)], [(1, .w (.c (.ptr 0))), (3, .w (.c (.int .i64)))]⟩, [(.exit 0, ⟨[], []⟩), (.ret, ⟨[], [(2, .w (.c (.bool)))]⟩)]⟩
/-- spec.l01Is -/
noncomputable def fd56 : FD := { id := 56, fn := Go.Proofs.Try.f56, sig := ⟨[.ro (.pair (.int .i64) (.slice (.int .i64)))], [(.own, false, .bool)]⟩, loops := [(4, in20016)], views := [], joins := [] }
noncomputable def in20018 : LoopInfo := ⟨20018, ⟨[.box .own (.arr .u8 8), .box .own (.arr .u8 8)], [(0, .w (.c (.int .i64))), (2, .w (.c (.ptr 0))), (3, .w (.c (.ptr 1))), (4, .w (.c (.int .i64)))]⟩, [(.exit 0, ⟨[.box .own (.arr .u8 8), .box .own (.arr .u8 8)], [(2, .w (.c (.ptr 0))), (3, .w (.c (.ptr 1)))]⟩)]⟩
/-- spec.l02Same -/
noncomputable def fd109 : FD := { id := 109, fn := Go.Proofs.Try.f109, sig := ⟨[.ro (.int .i64)], [(.own, false, .arr .u8 8)]⟩, loops := [(3, in20018)], views := [], joins := [] }
/-- spec.l02Exchange -/
noncomputable def fd107 : FD := { id := 107, fn := Go.Proofs.Try.f107, sig := ⟨[.ro (.int .i64), .ro (.int .i64)], [(.own, false, .arr .u8 8)]⟩, loops := [], views := [], joins := [] }
noncomputable def in20020 : LoopInfo := ⟨20020, ⟨[.box .own (.arr .u8 8), .box .own (.arr .u8 8)], [(0, .w (.c (.int .i64))), (2, .w (.c (.ptr 0))), (3, .w (.c (.ptr 1))), (4, .w (.c (.int .i64)))]⟩, [(.exit 0, ⟨[.box .own (.arr .u8 8), .box .own (.arr .u8 8)], [(2, .w (.c (.ptr 0))), (3, .w (.c (.ptr 1)))]⟩)]⟩
/-- spec.l02Half -/
noncomputable def fd110 : FD := { id := 110, fn := Go.Proofs.Try.f110, sig := ⟨[.ro (.int .i64)], [(.own, false, .arr .u8 8)]⟩, loops := [(3, in20020)], views := [], joins := [] }
noncomputable def in20021 : LoopInfo := ⟨20021, ⟨[.box .own (.arr .u8 8), .box .own (.arr .u8 8), .box .own (.arr .u8 8), .box .own (.arr .u8 8)], [(2, .w (.c (.int .i64))), (3, .w (.c (.ptr 0))), (4, .w (.c (.ptr 1))), (6, .w (.c (.ptr 2))), (7, .w (.c (.ptr 3))), (8, .w (.c (.int .i64)))]⟩, [(.exit 0, ⟨[.box .own (.arr .u8 8), .box .own (.arr .u8 8)], [(6, .w (.c (.ptr 0))), (7, .w (.c (.ptr 1)))]⟩)]⟩
/-- spec.l02Then -/
noncomputable def fd131 : FD := { id := 131, fn := Go.Proofs.Try.f131, sig := ⟨[.ro (.arr .u8 8), .ro (.arr .u8 8), .ro (.int .i64)], [(.own, false, .arr .u8 8)]⟩, loops := [(3, in20021)], views := [], joins := [] }
/-- spec.l02Turn -/
noncomputable def fd133 : FD := { id := 133, fn := Go.Proofs.Try.f133, sig := ⟨[.ro (.arr .u8 8), .ro (.int .i64)], [(.own, false, .arr .u8 8)]⟩, loops := [], views := [], joins := [] }
noncomputable def in20019 : LoopInfo := ⟨20019, ⟨[.row .ro (.arr .u8 8), .row .own (.arr .u8 8)], [(0, .w (.c (.sl 0))), (1, .w (.c (.int .i64))), (2, .w (.c (.int .i64))), (7, .w (.c (.sl 1))), (8, .w (.c (.int .i64)))]⟩, [(.exit 0, ⟨[.row .own (.arr .u8 8)], [(7, .w (.c (.sl 0)))]⟩)]⟩
/-- spec.l03Turned -/
noncomputable def fd120 : FD := { id := 120, fn := Go.Proofs.Try.f120, sig := ⟨[.ro (.slice (.arr .u8 8)), .ro (.int .i64), .ro (.int .i64)], [(.own, false, .slice (.arr .u8 8))]⟩, loops := [(3, in20019)], views := [], joins := [] }
noncomputable def in20022 : LoopInfo := ⟨20022, ⟨[.box .own (.arr .u8 8), .box .own (.arr .u8 8), .box .own (.arr .u8 8)], [(1, .w (.c (.int .i64))), (2, .w (.c (.ptr 0))), (4, .w (.c (.ptr 1))), (5, .w (.c (.ptr 2))), (6, .w (.c (.int .i64)))]⟩, [(.exit 0, ⟨[.box .own (.arr .u8 8), .box .own (.arr .u8 8)], [(4, .w (.c (.ptr 0))), (5, .w (.c (.ptr 1)))]⟩)]⟩
/-- spec.l02Back -/
noncomputable def fd61 : FD := { id := 61, fn := Go.Proofs.Try.f61, sig := ⟨[.ro (.arr .u8 8), .ro (.int .i64)], [(.own, false, .arr .u8 8)]⟩, loops := [(3, in20022)], views := [], joins := [] }
/-- spec.l02Left -/
noncomputable def fd129 : FD := { id := 129, fn := Go.Proofs.Try.f129, sig := ⟨[.ro (.arr .u8 8), .ro (.int .i64)], [(.own, false, .arr .u8 8)]⟩, loops := [], views := [], joins := [] }
/-- spec.l02Complement -/
noncomputable def fd134 : FD := { id := 134, fn := Go.Proofs.Try.f134, sig := ⟨[.ro (.arr .u8 8), .ro (.int .i64)], [(.own, false, .arr .u8 8)]⟩, loops := [], views := [], joins := [] }
noncomputable def in20025 : LoopInfo := ⟨20025, ⟨[.box .own (.arr .u8 8), .box .own (.arr .u8 8), .box .own (.arr .u8 8), .box .own (.arr .u8 8)], [(2, .w (.c (.int .i64))), (3, .w (.c (.ptr 0))), (4, .w (.c (.ptr 1))), (6, .w (.c (.ptr 2))), (7, .w (.c (.ptr 3))), (8, .w (.c (.int .i64)))]⟩, [(.exit 0, ⟨[.box .own (.arr .u8 8), .box .own (.arr .u8 8)], [(6, .w (.c (.ptr 0))), (7, .w (.c (.ptr 1)))]⟩)]⟩
/-- spec.l02Meet -/
noncomputable def fd124 : FD := { id := 124, fn := Go.Proofs.Try.f124, sig := ⟨[.ro (.arr .u8 8), .ro (.arr .u8 8), .ro (.int .i64)], [(.own, false, .arr .u8 8)]⟩, loops := [(3, in20025)], views := [], joins := [] }
noncomputable def in20023 : LoopInfo := ⟨20023, ⟨[.row .own (.arr .u8 8)], [(1, .w (.c (.int .i64))), (5, .w (.c (.sl 0))), (6, .w (.c (.bool)))]⟩, [(.exit 0, ⟨[.row .own (.arr .u8 8)], [(5, .w (.c (.sl 0)))]⟩)]⟩
noncomputable def in20024 : LoopInfo := ⟨20024, ⟨[.row .own (.arr .u8 8)], [(1, .w (.c (.int .i64))), (5, .w (.c (.sl 0))), (6, .w (.c (.bool))), (7, .w (.c (.int .i64)))]⟩, [(.exit 2, ⟨[.row .own (.arr .u8 8)], [(1, .w (.c (.int .i64))), (5, .w (.c (.sl 0))), (6, .w (.c (.bool)))]⟩)]⟩
/-- spec.l03Weigh -/
noncomputable def fd132 : FD := { id := 132, fn := Go.Proofs.Try.f132, sig := ⟨[.ro (.slice (.arr .u8 8)), .ro (.int .i64)], [(.own, false, .slice (.arr .u8 8))]⟩, loops := [(3, in20023), (6, in20024)], views := [], joins := [] }
noncomputable def in20026 : LoopInfo := ⟨20026, ⟨[.row .own (.arr .u8 8), .box .own (.st [.int .i64, .int .i64, .sl 2]), .row .own (.arr .u8 8)], [(0, .w (.c (.int .i64))), (1, .w (.c (.int .i64))), (2, .w (.c (.sl 0))), (6, .w (.c (.ptr 1))), (7, .w (.c (.int .i64))), (8, .w (.c (.int .i64)))]⟩, [(.exit 0, ⟨[.row .own (.arr .u8 8), .box .own (.st [.int .i64, .int .i64, .sl 2]), .row .own (.arr .u8 8)], [(0, .w (.c (.int .i64))), (1, .w (.c (.int .i64))), (2, .w (.c (.sl 0))), (6, .w (.c (.ptr 1))), (7, .w (.c (.int .i64))), (8, .w (.c (.int .i64)))]⟩)]⟩
noncomputable def in20027 : LoopInfo := ⟨20027, ⟨[.row .own (.arr .u8 8), .box .own (.st [.int .i64, .int .i64, .sl 2]), .row .own (.arr .u8 8)], [(0, .w (.c (.int .i64))), (1, .w (.c (.int .i64))), (2, .w (.c (.sl 0))), (6, .w (.c (.ptr 1))), (7, .w (.c (.int .i64))), (8, .w (.c (.int .i64)))]⟩, [(.exit 2, ⟨[.row .own (.arr .u8 8), .box .own (.st [.int .i64, .int .i64, .sl 2]), .row .own (.arr .u8 8)], [(0, .w (.c (.int .i64))), (1, .w (.c (.int .i64))), (2, .w (.c (.sl 0))), (6, .w (.c (.ptr 1))), (7, .w (.c (.int .i64))), (8, .w (.c (.int .i64)))]⟩)]⟩
/-- spec.l03Make -/
noncomputable def fd119 : FD := { id := 119, fn := Go.Proofs.Try.f119, sig := ⟨[.ro (.int .i64), .ro (.int .i64), .ro (.slice (.arr .u8 8))], [(.own, false, .pair (.int .i64) (.pair (.int .i64) (.slice (.arr .u8 8))))]⟩, loops := [(4, in20026), (7, in20027)], views := [], joins := [] }
/-- spec.l03Times -/
noncomputable def fd106 : FD := { id := 106, fn := Go.Proofs.Try.f106, sig := ⟨[.ro (.pair (.int .i64) (.pair (.int .i64) (.slice (.arr .u8 8)))), .ro (.arr .u8 8), .ro (.bool)], [(.own, false, .pair (.int .i64) (.pair (.int .i64) (.slice (.arr .u8 8))))]⟩, loops := [], views := [], joins := [] }
noncomputable def in20017 : LoopInfo := ⟨20017, ⟨[.row .ro (.int .i64), .box .own (.st [.int .i64, .int .i64, .sl 2]), .row .own (.arr .u8 8), .box .own (.st [.int .i64, .int .i64, .sl 4]), .row .own (.arr .u8 8)], [(0, .w (.c (.int .i64))), (1, .w (.c (.sl 0))), (4, .w (.c (.ptr 1))), (5, .w (.c (.ptr 3))), (6, .w (.c (.int .i64)))]⟩, [(.exit 0, ⟨[.box .own (.st [.int .i64, .int .i64, .sl 1]), .row .own (.arr .u8 8), .box .own (.st [.int .i64, .int .i64, .sl 3]), .row .own (.arr .u8 8)], [(4, .w (.c (.ptr 0))), (5, .w (.c (.ptr 2)))]⟩)]⟩
/-- spec.l03Of -/
noncomputable def fd58 : FD := { id := 58, fn := Go.Proofs.Try.f58, sig := ⟨[.ro (.int .i64), .ro (.slice (.int .i64))], [(.own, false, .pair (.int .i64) (.pair (.int .i64) (.slice (.arr .u8 8))))]⟩, loops := [(3, in20017)], views := [], joins := [] }
/-- spec.l03Fit -/
noncomputable def fd57 : FD := { id := 57, fn := Go.Proofs.Try.f57, sig := ⟨[.ro (.pair (.int .i64) (.pair (.int .i64) (.slice (.arr .u8 8))))], [(.ro, false, .pair (.int .i64) (.pair (.int .i64) (.slice (.arr .u8 8)))), (.own, false, .int .i64)]⟩, loops := [], views := [], joins := [] }
/-- spec.NormalOf -/
noncomputable def fd9 : FD := { id := 9, fn := Go.Proofs.Try.f9, sig := ⟨[.ro (.pair (.int .i64) (.slice (.int .i64)))], [(.ro, false, .pair (.int .i64) (.pair (.int .i64) (.slice (.arr .u8 8)))), (.own, false, .int .i64)]⟩, loops := [], views := [], joins := [] }
noncomputable def in20028 : LoopInfo := ⟨20028, ⟨[.box .own (.st [.int .i64, .int .i64, .sl 1]), .row .ro (.arr .u8 8), .box .own (.st [.int .i64, .int .i64, .sl 3]), .row .ro (.arr .u8 8)], [(2, .w (.c (.ptr 0))), (3, .w (.c (.ptr 2))), (5, .w (.c (.int .i64)))]⟩, [(.exit 0, ⟨[], []⟩), (.ret, ⟨[], [(4, .w (.c (.bool)))]⟩)]⟩
/-- laws.normal9 -/
noncomputable def fd10 : FD := { id := 10, fn := Go.Proofs.Try.f10, sig := ⟨[.ro (.pair (.int .i64) (.pair (.int .i64) (.slice (.arr .u8 8)))), .ro (.pair (.int .i64) (.pair (.int .i64) (.slice (.arr .u8 8))))], [(.own, false, .bool)]⟩, loops := [(4, in20028)], views := [], joins := [] }
/-- spec.DrawRightNormalOf -/
noncomputable def fd11 : FD := { id := 11, fn := Go.Proofs.Try.f11, sig := ⟨[.ro (.slice (.int .u8))], [(.ro, false, .pair (.int .i64) (.slice (.int .i64)))]⟩, loops := [], views := [], joins := [] }
noncomputable def in20029 : LoopInfo := ⟨20029, ⟨[.box .own (.st [.int .i64, .sl 1]), .row .ro (.int .i64), .box .own (.st [.int .i64, .sl 3]), .row .own (.int .i64), .box .own (.st [.int .i64, .sl 5]), .row .own (.int .i64)], [(1, .w (.c (.ptr 0))), (2, .w (.c (.ptr 2))), (3, .w (.c (.ptr 4))), (4, .w (.c (.int .i64)))]⟩, [(.exit 0, ⟨[.box .own (.st [.int .i64, .sl 1]), .row .own (.int .i64), .box .own (.st [.int .i64, .sl 3]), .row .own (.int .i64)], [(2, .w (.c (.ptr 0))), (3, .w (.c (.ptr 2)))]⟩)]⟩
/-- impl.reversed -/
noncomputable def fd59 : FD := { id := 59, fn := Go.Proofs.Try.f59, sig := ⟨[.ro (.pair (.int .i64) (.slice (.int .i64)))], [(.own, false, .pair (.int .i64) (.slice (.int .i64)))]⟩, loops := [(3, in20029)], views := [], joins := [] }
noncomputable def in20030 : LoopInfo := ⟨20030, ⟨[.box .own (.st [.int .i64, .int .i64, .sl 1]), .row .own (.arr .u8 8), .box .own (.st [.int .i64, .int .i64, .sl 3]), .row .own (.arr .u8 8), .box .own (.st [.int .i64, .int .i64, .sl 5]), .row .own (.arr .u8 8)], [(2, .w (.c (.ptr 0))), (4, .w (.c (.ptr 2))), (5, .w (.c (.ptr 4))), (6, .w (.c (.int .i64)))]⟩, [(.exit 0, ⟨[.box .own (.st [.int .i64, .int .i64, .sl 1]), .row .own (.arr .u8 8), .box .own (.st [.int .i64, .int .i64, .sl 3]), .row .own (.arr .u8 8)], [(2, .w (.c (.ptr 0))), (5, .w (.c (.ptr 2)))]⟩)]⟩
/-- impl.RightNormalOf -/
noncomputable def fd12 : FD := { id := 12, fn := Go.Proofs.Try.f12, sig := ⟨[.ro (.pair (.int .i64) (.slice (.int .i64)))], [(.own, false, .pair (.int .i64) (.pair (.int .i64) (.slice (.arr .u8 8)))), (.own, false, .int .i64)]⟩, loops := [(6, in20030)], views := [], joins := [] }
noncomputable def in20031 : LoopInfo := ⟨20031, ⟨[.box .own (.st [.int .i64, .sl 1]), .row .ro (.int .i64), .box .own (.st [.int .i64, .int .i64, .sl 3]), .row .own (.arr .u8 8), .row .own (.int .i64)], [(1, .w (.c (.ptr 0))), (2, .w (.c (.ptr 2))), (4, .w (.c (.sl 4))), (5, .w (.c (.int .i64)))]⟩, [(.exit 0, ⟨[.box .own (.st [.int .i64, .sl 1]), .row .ro (.int .i64), .box .own (.st [.int .i64, .int .i64, .sl 3]), .row .own (.arr .u8 8), .row .own (.int .i64)], [(1, .w (.c (.ptr 0))), (2, .w (.c (.ptr 2))), (4, .w (.c (.sl 4)))]⟩)]⟩
noncomputable def in20032 : LoopInfo := ⟨20032, ⟨[.box .own (.st [.int .i64, .int .i64, .sl 1]), .row .own (.arr .u8 8), .box .own (.st [.int .i64, .int .i64, .sl 3]), .row .own (.arr .u8 8), .box .own (.st [.int .i64, .int .i64, .sl 5]), .row .own (.arr .u8 8)], [(2, .w (.c (.ptr 0))), (6, .w (.c (.ptr 2))), (7, .w (.c (.ptr 4))), (8, .w (.c (.int .i64)))]⟩, [(.exit 2, ⟨[.box .own (.st [.int .i64, .int .i64, .sl 1]), .row .own (.arr .u8 8), .box .own (.st [.int .i64, .int .i64, .sl 3]), .row .own (.arr .u8 8)], [(2, .w (.c (.ptr 0))), (7, .w (.c (.ptr 2)))]⟩)]⟩
/-- spec.RightNormalOf -/
noncomputable def fd13 : FD := { id := 13, fn := Go.Proofs.Try.f13, sig := ⟨[.ro (.pair (.int .i64) (.slice (.int .i64)))], [(.ro, false, .pair (.int .i64) (.pair (.int .i64) (.slice (.arr .u8 8)))), (.own, false, .int .i64)]⟩, loops := [(5, in20031), (11, in20032)], views := [], joins := [] }
/-- spec.l03Draw -/
noncomputable def fd108 : FD := { id := 108, fn := Go.Proofs.Try.f108, sig := ⟨[.boxr (.pair (.slice (.int .u8)) (.pair (.int .i64) (.int .u64))), .ro (.int .i64)], [(.own, false, .pair (.int .i64) (.pair (.int .i64) (.slice (.arr .u8 8))))]⟩, loops := [], views := [], joins := [] }
/-- spec.l03Some -/
noncomputable def fd62 : FD := { id := 62, fn := Go.Proofs.Try.f62, sig := ⟨[.boxr (.pair (.slice (.int .u8)) (.pair (.int .i64) (.int .u64)))], [(.own, false, .pair (.int .i64) (.pair (.int .i64) (.slice (.arr .u8 8))))]⟩, loops := [], views := [], joins := [] }
/-- spec.DrawWordOfNormal -/
noncomputable def fd14 : FD := { id := 14, fn := Go.Proofs.Try.f14, sig := ⟨[.ro (.slice (.int .u8))], [(.own, false, .pair (.int .i64) (.pair (.int .i64) (.slice (.arr .u8 8))))]⟩, loops := [], views := [], joins := [] }
noncomputable def in20034 : LoopInfo := ⟨20034, ⟨[.box .own (.barr 8)], [(1, .w (.c (.int .i64))), (5, .w (.c (.ptr 0))), (12, .w (.arr .u8 8)), (13, .w (.c (.int .i64)))]⟩, [(.exit 0, ⟨[], []⟩), (.ret, ⟨[], [(4, .w (.c (.bool)))]⟩)]⟩
/-- impl.IsSimple -/
noncomputable def fd72 : FD := { id := 72, fn := Go.Proofs.Try.f72, sig := ⟨[.ro (.arr .u8 8), .ro (.int .i64)], [(.own, false, .bool)]⟩, loops := [(5, in20034)], views := [], joins := [] }
/-- impl.begins -/
noncomputable def fd115 : FD := { id := 115, fn := Go.Proofs.Try.f115, sig := ⟨[.ro (.arr .u8 8), .ro (.int .i64)], [(.own, false, .bool)]⟩, loops := [], views := [], joins := [] }
noncomputable def in20035 : LoopInfo := ⟨20035, ⟨[.box .own (.arr .u8 8), .row .own (.int .i64)], [(1, .w (.c (.int .i64))), (2, .w (.c (.ptr 0))), (5, .w (.c (.sl 1))), (6, .w (.c (.int .i64)))]⟩, [(.exit 0, ⟨[.row .own (.int .i64)], [(5, .w (.c (.sl 0)))]⟩)]⟩
/-- impl.beginning -/
noncomputable def fd111 : FD := { id := 111, fn := Go.Proofs.Try.f111, sig := ⟨[.ro (.arr .u8 8), .ro (.int .i64)], [(.own, false, .slice (.int .i64))]⟩, loops := [(3, in20035)], views := [], joins := [] }
noncomputable def in20036 : LoopInfo := ⟨20036, ⟨[.box .own (.arr .u8 8), .row .own (.int .i64)], [(7, .w (.c (.ptr 0))), (15, .w (.c (.sl 1))), (16, .w (.c (.int .i64))), (17, .w (.c (.int .i64)))]⟩, [(.exit 0, ⟨[], []⟩), (.ret, ⟨[], [(6, .w (.c (.bool)))]⟩)]⟩
/-- impl.endsAll -/
noncomputable def fd74 : FD := { id := 74, fn := Go.Proofs.Try.f74, sig := ⟨[.ro (.arr .u8 8), .ro (.arr .u8 8), .ro (.int .i64)], [(.own, false, .bool)]⟩, loops := [(3, in20036)], views := [], joins := [] }
noncomputable def in20033 : LoopInfo := ⟨20033, ⟨[.box .own (.st [.int .i64, .int .i64, .sl 1]), .row .ro (.arr .u8 8)], [(1, .w (.c (.ptr 0))), (3, .w (.c (.int .i64))), (33, .w (.c (.sl 1))), (34, .w (.c (.int .i64))), (35, .w (.c (.int .i64)))]⟩, [(.exit 0, ⟨[], []⟩), (.ret, ⟨[], [(2, .w (.c (.bool)))]⟩)]⟩
/-- impl.IsNormal -/
noncomputable def fd18 : FD := { id := 18, fn := Go.Proofs.Try.f18, sig := ⟨[.ro (.pair (.int .i64) (.pair (.int .i64) (.slice (.arr .u8 8))))], [(.own, false, .bool)]⟩, loops := [(5, in20033)], views := [], joins := [] }
noncomputable def in20037 : LoopInfo := ⟨20037, ⟨[.box .own (.arr .u8 8), .row .own (.int .i64)], [(1, .w (.c (.int .i64))), (2, .w (.c (.ptr 0))), (5, .w (.c (.sl 1)))]⟩, [(.ret, ⟨[.row .own (.int .i64)], [(4, .w (.c (.sl 0)))]⟩)]⟩
/-- impl.wordOf -/
noncomputable def fd63 : FD := { id := 63, fn := Go.Proofs.Try.f63, sig := ⟨[.ro (.arr .u8 8), .ro (.int .i64)], [(.own, false, .slice (.int .i64))]⟩, loops := [(2, in20037)], views := [], joins := [] }
/-- impl.opposite -/
noncomputable def fd66 : FD := { id := 66, fn := Go.Proofs.Try.f66, sig := ⟨[.ro (.int .i64)], [(.own, false, .int .i64)]⟩, loops := [], views := [], joins := [] }
noncomputable def in20038 : LoopInfo := ⟨20038, ⟨[.box .own (.st [.int .i64, .sl 1]), .row .own (.int .i64), .box .own (.st [.int .i64, .sl 3]), .row .own (.int .i64), .row .ro (.int .i64)], [(1, .fn 66 []), (4, .w (.c (.ptr 0))), (5, .w (.c (.ptr 2))), (12, .w (.c (.sl 4))), (13, .w (.c (.int .i64))), (14, .w (.c (.int .i64)))]⟩, [(.exit 0, ⟨[.box .own (.st [.int .i64, .sl 1]), .row .own (.int .i64), .box .own (.st [.int .i64, .sl 3]), .row .own (.int .i64)], [(4, .w (.c (.ptr 0))), (5, .w (.c (.ptr 2)))]⟩)]⟩
/-- impl.letterBy -/
noncomputable def fd10000 : FD := { id := 65, fn := Go.Proofs.Try.f65, sig := ⟨[.ro (.pair (.int .i64) (.slice (.int .i64))), .fn 66 []], [(.own, false, .pair (.int .i64) (.slice (.int .i64)))]⟩, loops := [(3, in20038)], views := [], joins := [] }
/-- impl.size -/
noncomputable def fd67 : FD := { id := 67, fn := Go.Proofs.Try.f67, sig := ⟨[.ro (.int .i64)], [(.own, false, .int .i64)]⟩, loops := [], views := [], joins := [] }
noncomputable def in20039 : LoopInfo := ⟨20039, ⟨[.box .own (.st [.int .i64, .int .i64, .sl 1]), .row .ro (.arr .u8 8), .row .own (.int .i64), .row .own (.int .i64)], [(1, .w (.c (.ptr 0))), (4, .w (.c (.sl 2))), (5, .w (.c (.sl 3))), (30, .w (.c (.int .i64))), (31, .w (.c (.int .i64)))]⟩, [(.exit 0, ⟨[.box .own (.st [.int .i64, .int .i64, .sl 1]), .row .ro (.arr .u8 8), .row .own (.int .i64)], [(1, .w (.c (.ptr 0))), (5, .w (.c (.sl 2)))]⟩)]⟩
noncomputable def in20040 : LoopInfo := ⟨20040, ⟨[.box .own (.st [.int .i64, .int .i64, .sl 1]), .row .ro (.arr .u8 8), .row .own (.int .i64)], [(1, .w (.c (.ptr 0))), (5, .w (.c (.sl 2))), (38, .w (.c (.sl 1))), (39, .w (.c (.int .i64))), (40, .w (.c (.int .i64)))]⟩, [(.exit 2, ⟨[.row .own (.int .i64)], [(5, .w (.c (.sl 0)))]⟩)]⟩
/-- impl.WordOfNormal -/
noncomputable def fd15 : FD := { id := 15, fn := Go.Proofs.Try.f15, sig := ⟨[.ro (.pair (.int .i64) (.pair (.int .i64) (.slice (.arr .u8 8))))], [(.own, false, .slice (.int .i64)), (.own, false, .int .i64)]⟩, loops := [(8, in20039), (12, in20040)], views := [], joins := [] }
noncomputable def in20042 : LoopInfo := ⟨20042, ⟨[.box .own (.arr .u8 8), .box .own (.barr 8)], [(1, .w (.c (.int .i64))), (2, .w (.c (.ptr 0))), (5, .w (.c (.ptr 1))), (6, .w (.c (.int .i64)))]⟩, [(.exit 0, ⟨[], []⟩), (.ret, ⟨[], [(4, .w (.c (.bool)))]⟩)]⟩
/-- spec.l02Is -/
noncomputable def fd112 : FD := { id := 112, fn := Go.Proofs.Try.f112, sig := ⟨[.ro (.arr .u8 8), .ro (.int .i64)], [(.own, false, .bool)]⟩, loops := [(5, in20042)], views := [], joins := [] }
noncomputable def in20043 : LoopInfo := ⟨20043, ⟨[.box .own (.arr .u8 8), .box .own (.arr .u8 8)], [(2, .w (.c (.int .i64))), (4, .w (.c (.ptr 0))), (7, .w (.c (.ptr 1))), (8, .w (.c (.int .i64)))]⟩, [(.exit 0, ⟨[], []⟩), (.ret, ⟨[], [(6, .w (.c (.bool)))]⟩)]⟩
/-- spec.l03Weighted -/
noncomputable def fd113 : FD := { id := 113, fn := Go.Proofs.Try.f113, sig := ⟨[.ro (.arr .u8 8), .ro (.arr .u8 8), .ro (.int .i64)], [(.own, false, .bool)]⟩, loops := [(3, in20043)], views := [], joins := [] }
noncomputable def in20041 : LoopInfo := ⟨20041, ⟨[.box .own (.st [.int .i64, .int .i64, .sl 1]), .row .ro (.arr .u8 8)], [(1, .w (.c (.ptr 0))), (3, .w (.c (.int .i64))), (4, .w (.c (.int .i64)))]⟩, [(.exit 0, ⟨[], []⟩), (.ret, ⟨[], [(2, .w (.c (.bool)))]⟩)]⟩
/-- spec.l03Is -/
noncomputable def fd68 : FD := { id := 68, fn := Go.Proofs.Try.f68, sig := ⟨[.ro (.pair (.int .i64) (.pair (.int .i64) (.slice (.arr .u8 8))))], [(.own, false, .bool)]⟩, loops := [(5, in20041)], views := [], joins := [] }
noncomputable def in20045 : LoopInfo := ⟨20045, ⟨[.box .own (.arr .u8 8), .row .own (.int .i64)], [(1, .w (.c (.int .i64))), (2, .w (.c (.ptr 0))), (5, .w (.c (.sl 1))), (6, .w (.c (.int .i64)))]⟩, [(.exit 0, ⟨[.row .own (.int .i64)], [(5, .w (.c (.sl 0)))]⟩)]⟩
/-- spec.l02Begins -/
noncomputable def fd130 : FD := { id := 130, fn := Go.Proofs.Try.f130, sig := ⟨[.ro (.arr .u8 8), .ro (.int .i64)], [(.own, false, .slice (.int .i64))]⟩, loops := [(3, in20045)], views := [], joins := [] }
noncomputable def in20044 : LoopInfo := ⟨20044, ⟨[.box .own (.arr .u8 8), .row .own (.int .i64)], [(0, .w (.c (.int .i64))), (3, .w (.c (.ptr 0))), (5, .w (.c (.sl 1)))]⟩, [(.ret, ⟨[.row .own (.int .i64)], [(4, .w (.c (.sl 0)))]⟩)]⟩
/-- spec.l02Word -/
noncomputable def fd114 : FD := { id := 114, fn := Go.Proofs.Try.f114, sig := ⟨[.ro (.int .i64), .ro (.arr .u8 8)], [(.own, false, .slice (.int .i64))]⟩, loops := [(2, in20044)], views := [], joins := [] }
noncomputable def in20046 : LoopInfo := ⟨20046, ⟨[.box .own (.st [.int .i64, .int .i64, .sl 1]), .row .ro (.arr .u8 8), .row .own (.int .i64), .row .own (.int .i64)], [(1, .w (.c (.ptr 0))), (3, .w (.c (.sl 2))), (4, .w (.c (.sl 3))), (5, .w (.c (.int .i64)))]⟩, [(.exit 0, ⟨[.box .own (.st [.int .i64, .int .i64, .sl 1]), .row .ro (.arr .u8 8), .row .own (.int .i64), .row .own (.int .i64)], [(1, .w (.c (.ptr 0))), (3, .w (.c (.sl 2))), (4, .w (.c (.sl 3)))]⟩)]⟩
noncomputable def in20047 : LoopInfo := ⟨20047, ⟨[.box .own (.st [.int .i64, .int .i64, .sl 1]), .row .ro (.arr .u8 8), .row .own (.int .i64), .row .own (.int .i64)], [(1, .w (.c (.ptr 0))), (3, .w (.c (.sl 2))), (4, .w (.c (.sl 3))), (6, .w (.c (.int .i64)))]⟩, [(.exit 2, ⟨[.box .own (.st [.int .i64, .int .i64, .sl 1]), .row .ro (.arr .u8 8), .row .own (.int .i64)], [(1, .w (.c (.ptr 0))), (4, .w (.c (.sl 2)))]⟩)]⟩
noncomputable def in20048 : LoopInfo := ⟨20048, ⟨[.box .own (.st [.int .i64, .int .i64, .sl 1]), .row .ro (.arr .u8 8), .row .own (.int .i64), .row .own (.int .i64)], [(1, .w (.c (.ptr 0))), (3, .w (.c (.sl 2))), (4, .w (.c (.sl 3))), (6, .w (.c (.int .i64))), (7, .w (.c (.int .i64)))]⟩, [(.exit 4, ⟨[.box .own (.st [.int .i64, .int .i64, .sl 1]), .row .ro (.arr .u8 8), .row .own (.int .i64), .row .own (.int .i64)], [(1, .w (.c (.ptr 0))), (3, .w (.c (.sl 2))), (4, .w (.c (.sl 3))), (6, .w (.c (.int .i64)))]⟩)]⟩
noncomputable def in20049 : LoopInfo := ⟨20049, ⟨[.box .own (.st [.int .i64, .int .i64, .sl 1]), .row .ro (.arr .u8 8), .row .own (.int .i64)], [(1, .w (.c (.ptr 0))), (4, .w (.c (.sl 2))), (8, .w (.c (.int .i64)))]⟩, [(.exit 6, ⟨[.row .own (.int .i64)], [(4, .w (.c (.sl 0)))]⟩)]⟩
/-- spec.l03Word -/
noncomputable def fd69 : FD := { id := 69, fn := Go.Proofs.Try.f69, sig := ⟨[.ro (.pair (.int .i64) (.pair (.int .i64) (.slice (.arr .u8 8))))], [(.own, false, .slice (.int .i64))]⟩, loops := [(3, in20046), (7, in20047), (10, in20048), (14, in20049)], views := [], joins := [] }
/-- spec.WordOfNormal -/
noncomputable def fd16 : FD := { id := 16, fn := Go.Proofs.Try.f16, sig := ⟨[.ro (.pair (.int .i64) (.pair (.int .i64) (.slice (.arr .u8 8))))], [(.own, false, .slice (.int .i64)), (.own, false, .int .i64)]⟩, loops := [], views := [], joins := [] }
noncomputable def in20050 : LoopInfo := ⟨20050, ⟨[.row .ro (.int .i64), .row .ro (.int .i64)], [(0, .w (.c (.sl 0))), (1, .w (.c (.sl 1))), (5, .w (.c (.int .i64)))]⟩, [(.exit 0, ⟨[], []⟩), (.ret, ⟨[], [(4, .w (.c (.bool)))]⟩)]⟩
/-- laws.likeInts -/
noncomputable def fd17 : FD := { id := 17, fn := Go.Proofs.Try.f17, sig := ⟨[.ro (.slice (.int .i64)), .ro (.slice (.int .i64))], [(.own, false, .bool)]⟩, loops := [(4, in20050)], views := [], joins := [] }
/-- spec.IsNormal -/
noncomputable def fd19 : FD := { id := 19, fn := Go.Proofs.Try.f19, sig := ⟨[.ro (.pair (.int .i64) (.pair (.int .i64) (.slice (.arr .u8 8))))], [(.own, false, .bool)]⟩, loops := [], views := [], joins := [] }
/-- spec.DrawSameBraid -/
noncomputable def fd20 : FD := { id := 20, fn := Go.Proofs.Try.f20, sig := ⟨[.ro (.slice (.int .u8))], [(.ro, false, .pair (.int .i64) (.slice (.int .i64))), (.ro, false, .pair (.int .i64) (.slice (.int .i64)))]⟩, loops := [], views := [], joins := [] }
noncomputable def in20051 : LoopInfo := ⟨20051, ⟨[.row .ro (.arr .u8 8), .row .ro (.arr .u8 8)], [(0, .w (.c (.sl 0))), (1, .w (.c (.sl 1))), (12, .w (.c (.int .i64))), (13, .w (.c (.int .i64)))]⟩, [(.exit 0, ⟨[], []⟩), (.ret, ⟨[], [(4, .w (.c (.bool)))]⟩)]⟩
/-- slices.Equal[[]impl.Simple,impl.Simple] -/
noncomputable def fd116 : FD := { id := 116, fn := Go.Proofs.Try.f116, sig := ⟨[.ro (.slice (.arr .u8 8)), .ro (.slice (.arr .u8 8))], [(.own, false, .bool)]⟩, loops := [(4, in20051)], views := [], joins := [] }
/-- impl.sameNormal -/
noncomputable def fd77 : FD := { id := 77, fn := Go.Proofs.Try.f77, sig := ⟨[.ro (.pair (.int .i64) (.pair (.int .i64) (.slice (.arr .u8 8)))), .ro (.pair (.int .i64) (.pair (.int .i64) (.slice (.arr .u8 8))))], [(.own, false, .bool)]⟩, loops := [], views := [], joins := [] }
/-- impl.SameBraid -/
noncomputable def fd21 : FD := { id := 21, fn := Go.Proofs.Try.f21, sig := ⟨[.ro (.pair (.int .i64) (.slice (.int .i64))), .ro (.pair (.int .i64) (.slice (.int .i64)))], [(.own, false, .bool), (.own, false, .int .i64)]⟩, loops := [], views := [], joins := [] }
noncomputable def in20052 : LoopInfo := ⟨20052, ⟨[.box .own (.st [.int .i64, .int .i64, .sl 1]), .row .ro (.arr .u8 8), .box .own (.st [.int .i64, .int .i64, .sl 3]), .row .ro (.arr .u8 8)], [(2, .w (.c (.ptr 0))), (3, .w (.c (.ptr 2))), (5, .w (.c (.int .i64)))]⟩, [(.exit 0, ⟨[], []⟩), (.ret, ⟨[], [(4, .w (.c (.bool)))]⟩)]⟩
/-- spec.l03Like -/
noncomputable def fd117 : FD := { id := 117, fn := Go.Proofs.Try.f117, sig := ⟨[.ro (.pair (.int .i64) (.pair (.int .i64) (.slice (.arr .u8 8)))), .ro (.pair (.int .i64) (.pair (.int .i64) (.slice (.arr .u8 8))))], [(.own, false, .bool)]⟩, loops := [(4, in20052)], views := [], joins := [] }
/-- spec.l03Equal -/
noncomputable def fd78 : FD := { id := 78, fn := Go.Proofs.Try.f78, sig := ⟨[.ro (.int .i64), .ro (.slice (.int .i64)), .ro (.slice (.int .i64))], [(.own, false, .bool)]⟩, loops := [], views := [], joins := [] }
/-- spec.SameBraid -/
noncomputable def fd22 : FD := { id := 22, fn := Go.Proofs.Try.f22, sig := ⟨[.ro (.pair (.int .i64) (.slice (.int .i64))), .ro (.pair (.int .i64) (.slice (.int .i64)))], [(.own, false, .bool), (.own, false, .int .i64)]⟩, loops := [], views := [], joins := [] }
/-- spec.DrawLengthsOf -/
noncomputable def fd23 : FD := { id := 23, fn := Go.Proofs.Try.f23, sig := ⟨[.ro (.slice (.int .u8))], [(.own, false, .pair (.int .i64) (.pair (.int .i64) (.slice (.arr .u8 8))))]⟩, loops := [], views := [], joins := [] }
/-- impl.LengthsOf -/
noncomputable def fd24 : FD := { id := 24, fn := Go.Proofs.Try.f24, sig := ⟨[.ro (.pair (.int .i64) (.pair (.int .i64) (.slice (.arr .u8 8))))], [(.own, false, .slice (.int .i64)), (.own, false, .int .i64)]⟩, loops := [], views := [], joins := [] }
/-- spec.LengthsOf -/
noncomputable def fd25 : FD := { id := 25, fn := Go.Proofs.Try.f25, sig := ⟨[.ro (.pair (.int .i64) (.pair (.int .i64) (.slice (.arr .u8 8))))], [(.own, false, .slice (.int .i64)), (.own, false, .int .i64)]⟩, loops := [], views := [], joins := [] }
/-- impl.IsPositive -/
noncomputable def fd26 : FD := { id := 26, fn := Go.Proofs.Try.f26, sig := ⟨[.ro (.pair (.int .i64) (.pair (.int .i64) (.slice (.arr .u8 8))))], [(.own, false, .bool), (.own, false, .int .i64)]⟩, loops := [], views := [], joins := [] }
/-- spec.IsPositive -/
noncomputable def fd27 : FD := { id := 27, fn := Go.Proofs.Try.f27, sig := ⟨[.ro (.pair (.int .i64) (.pair (.int .i64) (.slice (.arr .u8 8))))], [(.own, false, .bool), (.own, false, .int .i64)]⟩, loops := [], views := [], joins := [] }
/-- impl.sign -/
noncomputable def fd79 : FD := { id := 79, fn := Go.Proofs.Try.f79, sig := ⟨[.ro (.int .i64)], [(.own, false, .int .i64)]⟩, loops := [], views := [], joins := [] }
noncomputable def in20056 : LoopInfo := ⟨20056, ⟨[.row .ro (.int .i64)], [(4, .w (.c (.int .i64))), (11, .w (.c (.sl 0))), (12, .w (.c (.int .i64))), (13, .w (.c (.int .i64)))]⟩, [(.exit 0, ⟨[], [(4, .w (.c (.int .i64)))]⟩)]⟩
/-- impl.SumOf -/
noncomputable def fd28 : FD := { id := 28, fn := Go.Proofs.Try.f28, sig := ⟨[.ro (.pair (.int .i64) (.slice (.int .i64)))], [(.own, false, .int .i64), (.own, false, .int .i64)]⟩, loops := [(5, in20056)], views := [], joins := [] }
noncomputable def in20058 : LoopInfo := ⟨20058, ⟨[], [(5, .w (.c (.int .i64))), (6, .w (.c (.int .u64)))]⟩, [(.exit 0, ⟨[], [(5, .w (.c (.int .i64)))]⟩)]⟩
/-- impl.lengthOf -/
noncomputable def fd80 : FD := { id := 80, fn := Go.Proofs.Try.f80, sig := ⟨[.ro (.arr .u8 8), .ro (.int .i64)], [(.own, false, .int .i64)]⟩, loops := [(3, in20058)], views := [], joins := [] }
/-- impl.LengthOfSimple -/
noncomputable def fd29 : FD := { id := 29, fn := Go.Proofs.Try.f29, sig := ⟨[.ro (.arr .u8 8), .ro (.int .i64)], [(.own, false, .int .i64), (.own, false, .int .i64)]⟩, loops := [], views := [], joins := [] }
noncomputable def in20057 : LoopInfo := ⟨20057, ⟨[.box .own (.st [.int .i64, .int .i64, .sl 1]), .row .own (.arr .u8 8)], [(4, .w (.c (.ptr 0))), (41, .w (.c (.int .i64))), (42, .w (.c (.int .i64))), (43, .w (.c (.int .i64))), (44, .w (.c (.int .i64))), (45, .w (.c (.int .i64)))]⟩, [(.exit 0, ⟨[.box .own (.st [.int .i64, .int .i64, .sl 1]), .row .own (.arr .u8 8)], [(4, .w (.c (.ptr 0))), (41, .w (.c (.int .i64))), (42, .w (.c (.int .i64))), (44, .w (.c (.int .i64)))]⟩), (.ret, ⟨[], [(2, .w (.c (.bool)))]⟩)]⟩
noncomputable def in20053 : LoopInfo := ⟨20053, ⟨[.box .own (.st [.int .i64, .sl 1]), .row .ro (.int .i64), .box .own (.st [.int .i64, .int .i64, .sl 3]), .row .own (.arr .u8 8), .box .own (.st [.int .i64, .sl 5]), .row .ro (.int .i64), .box .own (.st [.int .i64, .int .i64, .sl 7]), .row .own (.arr .u8 8), .box .own (.st [.int .i64, .sl 9]), .row .ro (.int .i64), .box .own (.st [.int .i64, .sl 11]), .row .ro (.int .i64)], [(3, .w (.c (.ptr 0))), (4, .w (.c (.ptr 2))), (5, .w (.c (.int .i64))), (8, .w (.c (.ptr 4))), (9, .w (.c (.ptr 6))), (10, .w (.c (.int .i64))), (18, .w (.c (.ptr 8))), (19, .w (.c (.ptr 10))), (20, .w (.c (.bool))), (21, .w (.c (.int .i64)))]⟩, [(.ret, ⟨[], [(2, .w (.c (.bool)))]⟩)]⟩
noncomputable def in20054 : LoopInfo := ⟨20054, ⟨[.box .own (.st [.int .i64, .sl 1]), .row .ro (.int .i64), .box .own (.st [.int .i64, .int .i64, .sl 3]), .row .own (.arr .u8 8), .box .own (.st [.int .i64, .sl 5]), .row .ro (.int .i64), .box .own (.st [.int .i64, .sl 7]), .row .ro (.int .i64)], [(3, .w (.c (.ptr 0))), (4, .w (.c (.ptr 2))), (5, .w (.c (.int .i64))), (18, .w (.c (.ptr 4))), (19, .w (.c (.ptr 6))), (20, .w (.c (.bool))), (21, .w (.c (.int .i64)))]⟩, [(.ret, ⟨[], [(2, .w (.c (.bool)))]⟩)]⟩
noncomputable def in20055 : LoopInfo := ⟨20055, ⟨[.box .own (.st [.int .i64, .sl 1]), .row .ro (.int .i64), .box .own (.st [.int .i64, .int .i64, .sl 3]), .row .own (.arr .u8 8)], [(3, .w (.c (.ptr 0))), (4, .w (.c (.ptr 2))), (5, .w (.c (.int .i64)))]⟩, [(.ret, ⟨[], [(2, .w (.c (.bool)))]⟩)]⟩
/-- laws.FnNormals -/
noncomputable def fd3 : FD := { id := 3, fn := Go.Proofs.Try.f3, sig := ⟨[.ro (.slice (.int .u8))], [(.own, false, .bool)]⟩, loops := [(51, in20057)], views := [], joins := [(36, in20053), (40, in20054), (45, in20055)] }
/-- spec.l03Pair -/
noncomputable def fd81 : FD := { id := 81, fn := Go.Proofs.Try.f81, sig := ⟨[.ro (.slice (.int .u8))], [(.own, false, .pair (.int .i64) (.pair (.int .i64) (.slice (.arr .u8 8)))), (.own, false, .pair (.int .i64) (.pair (.int .i64) (.slice (.arr .u8 8))))]⟩, loops := [], views := [], joins := [] }
/-- spec.DrawMultiplyNormals -/
noncomputable def fd30 : FD := { id := 30, fn := Go.Proofs.Try.f30, sig := ⟨[.ro (.slice (.int .u8))], [(.own, false, .pair (.int .i64) (.pair (.int .i64) (.slice (.arr .u8 8)))), (.own, false, .pair (.int .i64) (.pair (.int .i64) (.slice (.arr .u8 8))))]⟩, loops := [], views := [], joins := [] }
/-- impl.areSameCount -/
noncomputable def fd82 : FD := { id := 82, fn := Go.Proofs.Try.f82, sig := ⟨[.ro (.pair (.int .i64) (.pair (.int .i64) (.slice (.arr .u8 8)))), .ro (.pair (.int .i64) (.pair (.int .i64) (.slice (.arr .u8 8))))], [(.own, false, .int .i64)]⟩, loops := [], views := [], joins := [] }
/-- impl.copyNormal -/
noncomputable def fd100 : FD := { id := 100, fn := Go.Proofs.Try.f100, sig := ⟨[.ro (.pair (.int .i64) (.pair (.int .i64) (.slice (.arr .u8 8))))], [(.own, false, .pair (.int .i64) (.pair (.int .i64) (.slice (.arr .u8 8))))]⟩, loops := [], views := [], joins := [] }
noncomputable def in20059 : LoopInfo := ⟨20059, ⟨[.box .own (.st [.int .i64, .int .i64, .sl 1]), .row .own (.arr .u8 8), .box .own (.st [.int .i64, .int .i64, .sl 3]), .row .own (.arr .u8 8), .row .ro (.arr .u8 8)], [(4, .w (.c (.ptr 0))), (5, .w (.c (.ptr 2))), (14, .w (.c (.sl 4))), (15, .w (.c (.int .i64))), (16, .w (.c (.int .i64)))]⟩, [(.exit 0, ⟨[.box .own (.st [.int .i64, .int .i64, .sl 1]), .row .own (.arr .u8 8), .box .own (.st [.int .i64, .int .i64, .sl 3]), .row .own (.arr .u8 8)], [(4, .w (.c (.ptr 0))), (5, .w (.c (.ptr 2)))]⟩)]⟩
/-- impl.product -/
noncomputable def fd83 : FD := { id := 83, fn := Go.Proofs.Try.f83, sig := ⟨[.ro (.pair (.int .i64) (.pair (.int .i64) (.slice (.arr .u8 8)))), .ro (.pair (.int .i64) (.pair (.int .i64) (.slice (.arr .u8 8))))], [(.own, false, .pair (.int .i64) (.pair (.int .i64) (.slice (.arr .u8 8))))]⟩, loops := [(4, in20059)], views := [], joins := [] }
/-- impl.MultiplyNormals -/
noncomputable def fd31 : FD := { id := 31, fn := Go.Proofs.Try.f31, sig := ⟨[.ro (.pair (.int .i64) (.pair (.int .i64) (.slice (.arr .u8 8)))), .ro (.pair (.int .i64) (.pair (.int .i64) (.slice (.arr .u8 8))))], [(.own, false, .pair (.int .i64) (.pair (.int .i64) (.slice (.arr .u8 8)))), (.own, false, .int .i64)]⟩, loops := [], views := [], joins := [] }
/-- spec.l03Both -/
noncomputable def fd84 : FD := { id := 84, fn := Go.Proofs.Try.f84, sig := ⟨[.ro (.pair (.int .i64) (.pair (.int .i64) (.slice (.arr .u8 8)))), .ro (.pair (.int .i64) (.pair (.int .i64) (.slice (.arr .u8 8))))], [(.own, false, .int .i64)]⟩, loops := [], views := [], joins := [] }
/-- spec.l03Product -/
noncomputable def fd85 : FD := { id := 85, fn := Go.Proofs.Try.f85, sig := ⟨[.ro (.pair (.int .i64) (.pair (.int .i64) (.slice (.arr .u8 8)))), .ro (.pair (.int .i64) (.pair (.int .i64) (.slice (.arr .u8 8))))], [(.own, false, .pair (.int .i64) (.pair (.int .i64) (.slice (.arr .u8 8))))]⟩, loops := [], views := [], joins := [] }
/-- spec.MultiplyNormals -/
noncomputable def fd32 : FD := { id := 32, fn := Go.Proofs.Try.f32, sig := ⟨[.ro (.pair (.int .i64) (.pair (.int .i64) (.slice (.arr .u8 8)))), .ro (.pair (.int .i64) (.pair (.int .i64) (.slice (.arr .u8 8))))], [(.ro, false, .pair (.int .i64) (.pair (.int .i64) (.slice (.arr .u8 8)))), (.own, false, .int .i64)]⟩, loops := [], views := [], joins := [] }
/-- spec.DrawInverseNormal -/
noncomputable def fd33 : FD := { id := 33, fn := Go.Proofs.Try.f33, sig := ⟨[.ro (.slice (.int .u8))], [(.own, false, .pair (.int .i64) (.pair (.int .i64) (.slice (.arr .u8 8))))]⟩, loops := [], views := [], joins := [] }
noncomputable def in20060 : LoopInfo := ⟨20060, ⟨[.box .own (.st [.int .i64, .int .i64, .sl 1]), .row .ro (.arr .u8 8), .box .own (.st [.int .i64, .int .i64, .sl 3]), .row .own (.arr .u8 8), .box .own (.st [.int .i64, .int .i64, .sl 5]), .row .own (.arr .u8 8)], [(1, .w (.c (.ptr 0))), (2, .w (.c (.ptr 2))), (3, .w (.c (.ptr 4))), (4, .w (.c (.int .i64)))]⟩, [(.exit 0, ⟨[.box .own (.st [.int .i64, .int .i64, .sl 1]), .row .ro (.arr .u8 8), .box .own (.st [.int .i64, .int .i64, .sl 3]), .row .own (.arr .u8 8), .box .own (.st [.int .i64, .int .i64, .sl 5]), .row .own (.arr .u8 8)], [(1, .w (.c (.ptr 0))), (2, .w (.c (.ptr 2))), (3, .w (.c (.ptr 4)))]⟩)]⟩
/-- impl.inverse -/
noncomputable def fd86 : FD := { id := 86, fn := Go.Proofs.Try.f86, sig := ⟨[.ro (.pair (.int .i64) (.pair (.int .i64) (.slice (.arr .u8 8))))], [(.own, false, .pair (.int .i64) (.pair (.int .i64) (.slice (.arr .u8 8))))]⟩, loops := [(3, in20060)], views := [], joins := [] }
/-- impl.InverseNormal -/
noncomputable def fd34 : FD := { id := 34, fn := Go.Proofs.Try.f34, sig := ⟨[.ro (.pair (.int .i64) (.pair (.int .i64) (.slice (.arr .u8 8))))], [(.own, false, .pair (.int .i64) (.pair (.int .i64) (.slice (.arr .u8 8)))), (.own, false, .int .i64)]⟩, loops := [], views := [], joins := [] }
noncomputable def in20061 : LoopInfo := ⟨20061, ⟨[.box .own (.st [.int .i64, .int .i64, .sl 1]), .row .ro (.arr .u8 8), .box .own (.st [.int .i64, .int .i64, .sl 3]), .row .own (.arr .u8 8), .box .own (.st [.int .i64, .int .i64, .sl 5]), .row .own (.arr .u8 8)], [(1, .w (.c (.ptr 0))), (2, .w (.c (.ptr 2))), (3, .w (.c (.ptr 4))), (4, .w (.c (.int .i64)))]⟩, [(.exit 0, ⟨[.box .own (.st [.int .i64, .int .i64, .sl 1]), .row .ro (.arr .u8 8), .box .own (.st [.int .i64, .int .i64, .sl 3]), .row .own (.arr .u8 8), .box .own (.st [.int .i64, .int .i64, .sl 5]), .row .own (.arr .u8 8)], [(1, .w (.c (.ptr 0))), (2, .w (.c (.ptr 2))), (3, .w (.c (.ptr 4)))]⟩)]⟩
/-- spec.l03Inverse -/
noncomputable def fd87 : FD := { id := 87, fn := Go.Proofs.Try.f87, sig := ⟨[.ro (.pair (.int .i64) (.pair (.int .i64) (.slice (.arr .u8 8))))], [(.own, false, .pair (.int .i64) (.pair (.int .i64) (.slice (.arr .u8 8))))]⟩, loops := [(3, in20061)], views := [], joins := [] }
/-- spec.InverseNormal -/
noncomputable def fd35 : FD := { id := 35, fn := Go.Proofs.Try.f35, sig := ⟨[.ro (.pair (.int .i64) (.pair (.int .i64) (.slice (.arr .u8 8))))], [(.ro, false, .pair (.int .i64) (.pair (.int .i64) (.slice (.arr .u8 8)))), (.own, false, .int .i64)]⟩, loops := [], views := [], joins := [] }
/-- spec.DrawPowerNormal -/
noncomputable def fd36 : FD := { id := 36, fn := Go.Proofs.Try.f36, sig := ⟨[.ro (.slice (.int .u8))], [(.own, false, .pair (.int .i64) (.pair (.int .i64) (.slice (.arr .u8 8)))), (.own, false, .int .i64)]⟩, loops := [], views := [], joins := [] }
noncomputable def in20062 : LoopInfo := ⟨20062, ⟨[.box .own (.st [.int .i64, .int .i64, .sl 1]), .row .own (.arr .u8 8), .box .own (.st [.int .i64, .int .i64, .sl 3]), .row .ro (.arr .u8 8), .box .own (.st [.int .i64, .int .i64, .sl 5]), .row .own (.arr .u8 8)], [(4, .w (.c (.ptr 0))), (6, .w (.c (.ptr 2))), (7, .w (.c (.ptr 4))), (29, .w (.c (.int .i64))), (30, .w (.c (.int .i64)))]⟩, [(.exit 1, ⟨[.box .own (.st [.int .i64, .int .i64, .sl 1]), .row .own (.arr .u8 8), .box .own (.st [.int .i64, .int .i64, .sl 3]), .row .own (.arr .u8 8)], [(4, .w (.c (.ptr 0))), (7, .w (.c (.ptr 2)))]⟩), (.ret, ⟨[.box .own (.st [.int .i64, .int .i64, .sl 1]), .row .own (.arr .u8 8)], [(4, .w (.c (.ptr 0))), (5, .w (.c (.int .i64)))]⟩)]⟩
/-- impl.PowerNormal -/
noncomputable def fd37 : FD := { id := 37, fn := Go.Proofs.Try.f37, sig := ⟨[.ro (.pair (.int .i64) (.pair (.int .i64) (.slice (.arr .u8 8)))), .ro (.int .i64)], [(.own, false, .pair (.int .i64) (.pair (.int .i64) (.slice (.arr .u8 8)))), (.own, false, .int .i64)]⟩, loops := [(9, in20062)], views := [], joins := [] }
noncomputable def in20063 : LoopInfo := ⟨20063, ⟨[.box .own (.st [.int .i64, .int .i64, .sl 1]), .row .own (.arr .u8 8), .box .own (.st [.int .i64, .int .i64, .sl 3]), .row .ro (.arr .u8 8), .box .own (.st [.int .i64, .int .i64, .sl 5]), .row .ro (.arr .u8 8)], [(1, .w (.c (.int .i64))), (4, .w (.c (.ptr 0))), (6, .w (.c (.ptr 2))), (7, .w (.c (.ptr 4)))]⟩, [(.exit 1, ⟨[.box .own (.st [.int .i64, .int .i64, .sl 1]), .row .own (.arr .u8 8), .box .own (.st [.int .i64, .int .i64, .sl 3]), .row .ro (.arr .u8 8)], [(4, .w (.c (.ptr 0))), (7, .w (.c (.ptr 2)))]⟩), (.ret, ⟨[.box .own (.st [.int .i64, .int .i64, .sl 1]), .row .own (.arr .u8 8)], [(4, .w (.c (.ptr 0))), (5, .w (.c (.int .i64)))]⟩)]⟩
/-- spec.PowerNormal -/
noncomputable def fd38 : FD := { id := 38, fn := Go.Proofs.Try.f38, sig := ⟨[.ro (.pair (.int .i64) (.pair (.int .i64) (.slice (.arr .u8 8)))), .ro (.int .i64)], [(.ro, false, .pair (.int .i64) (.pair (.int .i64) (.slice (.arr .u8 8)))), (.own, false, .int .i64)]⟩, loops := [(10, in20063)], views := [], joins := [] }
/-- laws.trivial9 -/
noncomputable def fd39 : FD := { id := 39, fn := Go.Proofs.Try.f39, sig := ⟨[.ro (.pair (.int .i64) (.pair (.int .i64) (.slice (.arr .u8 8))))], [(.own, false, .bool)]⟩, loops := [], views := [], joins := [] }
noncomputable def in20066 : LoopInfo := ⟨20066, ⟨[.row .ro (.int .u8), .box .own (.st [.sl 0, .int .i64, .int .u64])], [(0, .w (.c (.sl 0))), (5, .w (.c (.ptr 1))), (6, .w (.c (.int .i64)))]⟩, [(.exit 0, ⟨[.box .own (.st [.sl 1, .int .i64, .int .u64]), .row .ro (.int .u8)], [(5, .w (.c (.ptr 0)))]⟩)]⟩
/-- laws.roll -/
noncomputable def fd41 : FD := { id := 41, fn := Go.Proofs.Try.f41, sig := ⟨[.ro (.slice (.int .u8)), .ro (.int .u64)], [(.ro, true, .pair (.slice (.int .u8)) (.pair (.int .i64) (.int .u64)))]⟩, loops := [(3, in20066)], views := [], joins := [] }
/-- (*laws.dice).below -/
noncomputable def fd90 : FD := { id := 90, fn := Go.Proofs.Try.f90, sig := ⟨[.boxr (.pair (.slice (.int .u8)) (.pair (.int .i64) (.int .u64))), .ro (.int .i64)], [(.own, false, .int .i64)]⟩, loops := [], views := [], joins := [] }
noncomputable def in20067 : LoopInfo := ⟨20067, ⟨[.box .own (.st [.sl 1, .int .i64, .int .u64]), .row .ro (.int .u8), .row .own (.int .i64)], [(0, .w (.c (.ptr 0))), (1, .w (.c (.int .i64))), (2, .w (.c (.int .i64))), (7, .w (.c (.sl 2)))]⟩, [(.exit 0, ⟨[.box .own (.st [.sl 1, .int .i64, .int .u64]), .row .ro (.int .u8), .row .own (.int .i64)], [(0, .w (.c (.ptr 0))), (7, .w (.c (.sl 2)))]⟩)]⟩
/-- laws.letters9 -/
noncomputable def fd40 : FD := { id := 40, fn := Go.Proofs.Try.f40, sig := ⟨[.boxr (.pair (.slice (.int .u8)) (.pair (.int .i64) (.int .u64))), .ro (.int .i64), .ro (.int .i64)], [(.own, false, .slice (.int .i64))]⟩, loops := [(2, in20067)], views := [], joins := [] }
noncomputable def in20064 : LoopInfo := ⟨20064, ⟨[.row .ro (.int .u8), .box .own (.st [.int .i64, .int .i64, .sl 2]), .row .ro (.arr .u8 8), .box .own (.st [.int .i64, .int .i64, .sl 4]), .row .ro (.arr .u8 8), .box .own (.st [.int .i64, .int .i64, .sl 6]), .row .own (.arr .u8 8), .box .own (.st [.int .i64, .int .i64, .sl 8]), .row .ro (.arr .u8 8), .box .own (.st [.int .i64, .int .i64, .sl 10]), .row .own (.arr .u8 8)], [(0, .w (.c (.sl 0))), (3, .w (.c (.ptr 1))), (4, .w (.c (.ptr 3))), (5, .w (.c (.ptr 5))), (6, .w (.c (.int .i64))), (14, .w (.c (.ptr 7))), (15, .w (.c (.int .i64))), (16, .w (.c (.ptr 9))), (17, .w (.c (.int .i64)))]⟩, [(.ret, ⟨[], [(2, .w (.c (.bool)))]⟩)]⟩
noncomputable def in20065 : LoopInfo := ⟨20065, ⟨[.row .ro (.int .u8), .box .own (.st [.int .i64, .int .i64, .sl 2]), .row .ro (.arr .u8 8), .box .own (.st [.int .i64, .int .i64, .sl 4]), .row .ro (.arr .u8 8), .box .own (.st [.int .i64, .int .i64, .sl 6]), .row .own (.arr .u8 8)], [(0, .w (.c (.sl 0))), (3, .w (.c (.ptr 1))), (4, .w (.c (.ptr 3))), (5, .w (.c (.ptr 5))), (6, .w (.c (.int .i64)))]⟩, [(.ret, ⟨[], [(2, .w (.c (.bool)))]⟩)]⟩
/-- laws.FnNormalProducts -/
noncomputable def fd4 : FD := { id := 4, fn := Go.Proofs.Try.f4, sig := ⟨[.ro (.slice (.int .u8))], [(.own, false, .bool)]⟩, loops := [], views := [], joins := [(23, in20064), (28, in20065)] }
/-- spec.l03Up -/
noncomputable def fd91 : FD := { id := 91, fn := Go.Proofs.Try.f91, sig := ⟨[.ro (.slice (.int .u8))], [(.own, false, .pair (.int .i64) (.pair (.int .i64) (.slice (.arr .u8 8)))), (.own, false, .pair (.int .i64) (.pair (.int .i64) (.slice (.arr .u8 8))))]⟩, loops := [], views := [], joins := [] }
/-- spec.DrawCommonBeginning -/
noncomputable def fd42 : FD := { id := 42, fn := Go.Proofs.Try.f42, sig := ⟨[.ro (.slice (.int .u8))], [(.own, false, .pair (.int .i64) (.pair (.int .i64) (.slice (.arr .u8 8)))), (.own, false, .pair (.int .i64) (.pair (.int .i64) (.slice (.arr .u8 8))))]⟩, loops := [], views := [], joins := [] }
/-- impl.arePositive -/
noncomputable def fd92 : FD := { id := 92, fn := Go.Proofs.Try.f92, sig := ⟨[.ro (.pair (.int .i64) (.pair (.int .i64) (.slice (.arr .u8 8)))), .ro (.pair (.int .i64) (.pair (.int .i64) (.slice (.arr .u8 8))))], [(.own, false, .int .i64)]⟩, loops := [], views := [], joins := [] }
/-- impl.head -/
noncomputable def fd95 : FD := { id := 95, fn := Go.Proofs.Try.f95, sig := ⟨[.ro (.pair (.int .i64) (.pair (.int .i64) (.slice (.arr .u8 8))))], [(.own, false, .arr .u8 8)]⟩, loops := [], views := [], joins := [] }
/-- impl.withoutHead -/
noncomputable def fd97 : FD := { id := 97, fn := Go.Proofs.Try.f97, sig := ⟨[.ro (.pair (.int .i64) (.pair (.int .i64) (.slice (.arr .u8 8)))), .ro (.arr .u8 8)], [(.own, false, .pair (.int .i64) (.pair (.int .i64) (.slice (.arr .u8 8))))]⟩, loops := [], views := [], joins := [] }
noncomputable def in20068 : LoopInfo := ⟨20068, ⟨[.box .own (.st [.int .i64, .int .i64, .sl 1]), .row .ro (.arr .u8 8), .box .own (.st [.int .i64, .int .i64, .sl 3]), .row .ro (.arr .u8 8), .box .own (.st [.int .i64, .int .i64, .sl 5]), .row .own (.arr .u8 8), .box .own (.st [.int .i64, .int .i64, .sl 7]), .row .own (.arr .u8 8)], [(2, .w (.c (.ptr 0))), (3, .w (.c (.ptr 2))), (4, .w (.c (.ptr 4))), (7, .w (.c (.int .i64))), (8, .w (.c (.ptr 6)))]⟩, [(.ret, ⟨[.box .own (.st [.int .i64, .int .i64, .sl 1]), .row .own (.arr .u8 8)], [(4, .w (.c (.ptr 0))), (5, .w (.c (.int .i64)))]⟩)]⟩
/-- impl.CommonBeginning -/
noncomputable def fd43 : FD := { id := 43, fn := Go.Proofs.Try.f43, sig := ⟨[.ro (.pair (.int .i64) (.pair (.int .i64) (.slice (.arr .u8 8)))), .ro (.pair (.int .i64) (.pair (.int .i64) (.slice (.arr .u8 8))))], [(.own, false, .pair (.int .i64) (.pair (.int .i64) (.slice (.arr .u8 8)))), (.own, false, .int .i64)]⟩, loops := [(11, in20068)], views := [], joins := [] }
/-- spec.l03Positive -/
noncomputable def fd98 : FD := { id := 98, fn := Go.Proofs.Try.f98, sig := ⟨[.ro (.pair (.int .i64) (.pair (.int .i64) (.slice (.arr .u8 8)))), .ro (.pair (.int .i64) (.pair (.int .i64) (.slice (.arr .u8 8))))], [(.own, false, .int .i64)]⟩, loops := [], views := [], joins := [] }
/-- spec.l03First -/
noncomputable def fd125 : FD := { id := 125, fn := Go.Proofs.Try.f125, sig := ⟨[.ro (.pair (.int .i64) (.pair (.int .i64) (.slice (.arr .u8 8))))], [(.own, false, .arr .u8 8)]⟩, loops := [], views := [], joins := [] }
/-- spec.l03Less -/
noncomputable def fd126 : FD := { id := 126, fn := Go.Proofs.Try.f126, sig := ⟨[.ro (.pair (.int .i64) (.pair (.int .i64) (.slice (.arr .u8 8)))), .ro (.arr .u8 8)], [(.own, false, .pair (.int .i64) (.pair (.int .i64) (.slice (.arr .u8 8))))]⟩, loops := [], views := [], joins := [] }
noncomputable def in20069 : LoopInfo := ⟨20069, ⟨[.box .own (.st [.int .i64, .int .i64, .sl 1]), .row .ro (.arr .u8 8), .box .own (.st [.int .i64, .int .i64, .sl 3]), .row .ro (.arr .u8 8), .box .own (.st [.int .i64, .int .i64, .sl 5]), .row .own (.arr .u8 8), .box .own (.st [.int .i64, .int .i64, .sl 7]), .row .own (.arr .u8 8), .box .own (.st [.int .i64, .int .i64, .sl 9]), .row .own (.arr .u8 8), .box .own (.st [.int .i64, .int .i64, .sl 11]), .row .own (.arr .u8 8)], [(2, .w (.c (.ptr 0))), (3, .w (.c (.ptr 2))), (4, .w (.c (.ptr 4))), (5, .w (.c (.ptr 6))), (6, .w (.c (.ptr 8))), (7, .w (.c (.int .i64))), (8, .w (.c (.ptr 10)))]⟩, [(.ret, ⟨[.box .own (.st [.int .i64, .int .i64, .sl 1]), .row .own (.arr .u8 8), .box .own (.st [.int .i64, .int .i64, .sl 3]), .row .ro (.arr .u8 8), .box .own (.st [.int .i64, .int .i64, .sl 5]), .row .ro (.arr .u8 8)], [(4, .w (.c (.ptr 0))), (5, .w (.c (.ptr 2))), (6, .w (.c (.ptr 4)))]⟩)]⟩
/-- spec.l03Common -/
noncomputable def fd99 : FD := { id := 99, fn := Go.Proofs.Try.f99, sig := ⟨[.ro (.pair (.int .i64) (.pair (.int .i64) (.slice (.arr .u8 8)))), .ro (.pair (.int .i64) (.pair (.int .i64) (.slice (.arr .u8 8))))], [(.ro, false, .pair (.int .i64) (.pair (.int .i64) (.slice (.arr .u8 8)))), (.ro, false, .pair (.int .i64) (.pair (.int .i64) (.slice (.arr .u8 8)))), (.ro, false, .pair (.int .i64) (.pair (.int .i64) (.slice (.arr .u8 8))))]⟩, loops := [(3, in20069)], views := [], joins := [] }
/-- spec.CommonBeginning -/
noncomputable def fd44 : FD := { id := 44, fn := Go.Proofs.Try.f44, sig := ⟨[.ro (.pair (.int .i64) (.pair (.int .i64) (.slice (.arr .u8 8)))), .ro (.pair (.int .i64) (.pair (.int .i64) (.slice (.arr .u8 8))))], [(.ro, false, .pair (.int .i64) (.pair (.int .i64) (.slice (.arr .u8 8)))), (.own, false, .int .i64)]⟩, loops := [], views := [], joins := [] }
/-- spec.DrawIsBeginningOf -/
noncomputable def fd45 : FD := { id := 45, fn := Go.Proofs.Try.f45, sig := ⟨[.ro (.slice (.int .u8))], [(.own, false, .pair (.int .i64) (.pair (.int .i64) (.slice (.arr .u8 8)))), (.own, false, .pair (.int .i64) (.pair (.int .i64) (.slice (.arr .u8 8))))]⟩, loops := [], views := [], joins := [] }
/-- impl.IsBeginningOf -/
noncomputable def fd46 : FD := { id := 46, fn := Go.Proofs.Try.f46, sig := ⟨[.ro (.pair (.int .i64) (.pair (.int .i64) (.slice (.arr .u8 8)))), .ro (.pair (.int .i64) (.pair (.int .i64) (.slice (.arr .u8 8))))], [(.own, false, .bool), (.own, false, .int .i64)]⟩, loops := [], views := [], joins := [] }
/-- spec.IsBeginningOf -/
noncomputable def fd47 : FD := { id := 47, fn := Go.Proofs.Try.f47, sig := ⟨[.ro (.pair (.int .i64) (.pair (.int .i64) (.slice (.arr .u8 8)))), .ro (.pair (.int .i64) (.pair (.int .i64) (.slice (.arr .u8 8))))], [(.own, false, .bool), (.own, false, .int .i64)]⟩, loops := [], views := [], joins := [] }
/-- spec.DrawFractionOf -/
noncomputable def fd48 : FD := { id := 48, fn := Go.Proofs.Try.f48, sig := ⟨[.ro (.slice (.int .u8))], [(.own, false, .pair (.int .i64) (.pair (.int .i64) (.slice (.arr .u8 8))))]⟩, loops := [], views := [], joins := [] }
/-- impl.FractionOf -/
noncomputable def fd49 : FD := { id := 49, fn := Go.Proofs.Try.f49, sig := ⟨[.ro (.pair (.int .i64) (.pair (.int .i64) (.slice (.arr .u8 8))))], [(.own, false, .pair (.int .i64) (.pair (.int .i64) (.slice (.arr .u8 8)))), (.own, false, .pair (.int .i64) (.pair (.int .i64) (.slice (.arr .u8 8)))), (.own, false, .int .i64)]⟩, loops := [], views := [], joins := [] }
/-- spec.FractionOf -/
noncomputable def fd50 : FD := { id := 50, fn := Go.Proofs.Try.f50, sig := ⟨[.ro (.pair (.int .i64) (.pair (.int .i64) (.slice (.arr .u8 8))))], [(.ro, false, .pair (.int .i64) (.pair (.int .i64) (.slice (.arr .u8 8)))), (.ro, false, .pair (.int .i64) (.pair (.int .i64) (.slice (.arr .u8 8)))), (.own, false, .int .i64)]⟩, loops := [], views := [], joins := [] }
noncomputable def in20070 : LoopInfo := ⟨20070, ⟨[.box .own (.st [.int .i64, .int .i64, .sl 1]), .row .ro (.arr .u8 8), .box .own (.st [.int .i64, .int .i64, .sl 3]), .row .ro (.arr .u8 8), .box .own (.st [.int .i64, .int .i64, .sl 5]), .row .own (.arr .u8 8), .box .own (.st [.int .i64, .int .i64, .sl 7]), .row .own (.arr .u8 8), .box .own (.st [.int .i64, .int .i64, .sl 9]), .row .own (.arr .u8 8)], [(3, .w (.c (.ptr 0))), (4, .w (.c (.ptr 2))), (5, .w (.c (.ptr 4))), (6, .w (.c (.int .i64))), (9, .w (.c (.ptr 6))), (10, .w (.c (.ptr 8))), (11, .w (.c (.bool))), (12, .w (.c (.int .i64)))]⟩, [(.ret, ⟨[], [(2, .w (.c (.bool)))]⟩)]⟩
noncomputable def in20071 : LoopInfo := ⟨20071, ⟨[.box .own (.st [.int .i64, .int .i64, .sl 1]), .row .ro (.arr .u8 8), .box .own (.st [.int .i64, .int .i64, .sl 3]), .row .ro (.arr .u8 8), .box .own (.st [.int .i64, .int .i64, .sl 5]), .row .own (.arr .u8 8)], [(3, .w (.c (.ptr 0))), (4, .w (.c (.ptr 2))), (5, .w (.c (.ptr 4))), (6, .w (.c (.int .i64)))]⟩, [(.ret, ⟨[], [(2, .w (.c (.bool)))]⟩)]⟩
/-- laws.FnBeginnings -/
noncomputable def fd5 : FD := { id := 5, fn := Go.Proofs.Try.f5, sig := ⟨[.ro (.slice (.int .u8))], [(.own, false, .bool)]⟩, loops := [], views := [], joins := [(24, in20070), (29, in20071)] }
noncomputable def fdTab : List (Nat × FD) := [(6, fd6), (52, fd52), (75, fd75), (88, fd88), (76, fd76), (127, fd127), (101, fd101), (102, fd102), (51, fd51), (7, fd7), (71, fd71), (70, fd70), (103, fd103), (53, fd53), (73, fd73), (104, fd104), (60, fd60), (64, fd64), (123, fd123), (122, fd122), (118, fd118), (94, fd94), (96, fd96), (121, fd121), (93, fd93), (128, fd128), (105, fd105), (55, fd55), (54, fd54), (8, fd8), (89, fd89), (56, fd56), (109, fd109), (107, fd107), (110, fd110), (131, fd131), (133, fd133), (120, fd120), (61, fd61), (129, fd129), (134, fd134), (124, fd124), (132, fd132), (119, fd119), (106, fd106), (58, fd58), (57, fd57), (9, fd9), (10, fd10), (11, fd11), (59, fd59), (12, fd12), (13, fd13), (108, fd108), (62, fd62), (14, fd14), (72, fd72), (115, fd115), (111, fd111), (74, fd74), (18, fd18), (63, fd63), (66, fd66), (10000, fd10000), (67, fd67), (15, fd15), (112, fd112), (113, fd113), (68, fd68), (130, fd130), (114, fd114), (69, fd69), (16, fd16), (17, fd17), (19, fd19), (20, fd20), (116, fd116), (77, fd77), (21, fd21), (117, fd117), (78, fd78), (22, fd22), (23, fd23), (24, fd24), (25, fd25), (26, fd26), (27, fd27), (79, fd79), (28, fd28), (80, fd80), (29, fd29), (3, fd3), (81, fd81), (30, fd30), (82, fd82), (100, fd100), (83, fd83), (31, fd31), (84, fd84), (85, fd85), (32, fd32), (33, fd33), (86, fd86), (34, fd34), (87, fd87), (35, fd35), (36, fd36), (37, fd37), (38, fd38), (39, fd39), (41, fd41), (90, fd90), (40, fd40), (4, fd4), (91, fd91), (42, fd42), (92, fd92), (95, fd95), (97, fd97), (43, fd43), (98, fd98), (125, fd125), (126, fd126), (99, fd99), (44, fd44), (45, fd45), (46, fd46), (47, fd47), (48, fd48), (49, fd49), (50, fd50), (5, fd5)]
noncomputable def ldTab : List (Nat × LD) := [(20000, ⟨52, 3, in20000, false⟩), (20001, ⟨76, 6, in20001, false⟩), (20002, ⟨53, 4, in20002, false⟩), (20004, ⟨73, 3, in20004, false⟩), (20006, ⟨60, 3, in20006, false⟩), (20007, ⟨64, 3, in20007, false⟩), (20008, ⟨123, 3, in20008, false⟩), (20009, ⟨118, 3, in20009, false⟩), (20010, ⟨118, 6, in20010, false⟩), (20011, ⟨94, 4, in20011, false⟩), (20012, ⟨94, 7, in20012, false⟩), (20005, ⟨96, 5, in20005, false⟩), (20013, ⟨96, 11, in20013, false⟩), (20014, ⟨96, 14, in20014, false⟩), (20015, ⟨93, 4, in20015, false⟩), (20003, ⟨55, 3, in20003, false⟩), (20016, ⟨56, 4, in20016, false⟩), (20018, ⟨109, 3, in20018, false⟩), (20020, ⟨110, 3, in20020, false⟩), (20021, ⟨131, 3, in20021, false⟩), (20019, ⟨120, 3, in20019, false⟩), (20022, ⟨61, 3, in20022, false⟩), (20025, ⟨124, 3, in20025, false⟩), (20023, ⟨132, 3, in20023, false⟩), (20024, ⟨132, 6, in20024, false⟩), (20026, ⟨119, 4, in20026, false⟩), (20027, ⟨119, 7, in20027, false⟩), (20017, ⟨58, 3, in20017, false⟩), (20028, ⟨10, 4, in20028, false⟩), (20029, ⟨59, 3, in20029, false⟩), (20030, ⟨12, 6, in20030, false⟩), (20031, ⟨13, 5, in20031, false⟩), (20032, ⟨13, 11, in20032, false⟩), (20034, ⟨72, 5, in20034, false⟩), (20035, ⟨111, 3, in20035, false⟩), (20036, ⟨74, 3, in20036, false⟩), (20033, ⟨18, 5, in20033, false⟩), (20037, ⟨63, 2, in20037, false⟩), (20038, ⟨10000, 3, in20038, false⟩), (20039, ⟨15, 8, in20039, false⟩), (20040, ⟨15, 12, in20040, false⟩), (20042, ⟨112, 5, in20042, false⟩), (20043, ⟨113, 3, in20043, false⟩), (20041, ⟨68, 5, in20041, false⟩), (20045, ⟨130, 3, in20045, false⟩), (20044, ⟨114, 2, in20044, false⟩), (20046, ⟨69, 3, in20046, false⟩), (20047, ⟨69, 7, in20047, false⟩), (20048, ⟨69, 10, in20048, false⟩), (20049, ⟨69, 14, in20049, false⟩), (20050, ⟨17, 4, in20050, false⟩), (20051, ⟨116, 4, in20051, false⟩), (20052, ⟨117, 4, in20052, false⟩), (20056, ⟨28, 5, in20056, false⟩), (20058, ⟨80, 3, in20058, false⟩), (20057, ⟨3, 51, in20057, false⟩), (20053, ⟨3, 36, in20053, true⟩), (20054, ⟨3, 40, in20054, true⟩), (20055, ⟨3, 45, in20055, true⟩), (20059, ⟨83, 4, in20059, false⟩), (20060, ⟨86, 3, in20060, false⟩), (20061, ⟨87, 3, in20061, false⟩), (20062, ⟨37, 9, in20062, false⟩), (20063, ⟨38, 10, in20063, false⟩), (20066, ⟨41, 3, in20066, false⟩), (20067, ⟨40, 2, in20067, false⟩), (20064, ⟨4, 23, in20064, true⟩), (20065, ⟨4, 28, in20065, true⟩), (20068, ⟨43, 11, in20068, false⟩), (20069, ⟨99, 3, in20069, false⟩), (20070, ⟨5, 24, in20070, true⟩), (20071, ⟨5, 29, in20071, true⟩)]
noncomputable def pickTab : List ((FuncId × List FuncId) × Nat) := [((65, [66]), 10000)]
noncomputable def pick (f : FuncId) : List FuncId → Nat
  | [] => f
  | l => (pickTab.lookup (f, l)).getD 0
noncomputable def E : Env := ⟨[9, 10, 11], fun T => tyTab.lookup T, pick, fun f => fdTab.lookup f, fun f => ldTab.lookup f⟩
/-- What a call answers. -/
noncomputable def R : Oracle := ev E
theorem R_ev (f : Nat) (l : List TV) : R f l = ev E f l := rfl
def iw_big : Nat := 6
def is_l01From : Nat := 52
def is_l01From_3 : Nat := 20000
def is_l01Next : Nat := 75
def is_l01Pick : Nat := 88
def is_l01Draw : Nat := 76
def is_l01Draw_6 : Nat := 20001
def is_l01Own : Nat := 127
def is_l01Broken : Nat := 101
def is_l01DrawBraid : Nat := 102
def is_l01Spoil : Nat := 51
def is_DrawNormalOf : Nat := 7
def ii_within : Nat := 71
def ii_isCount : Nat := 70
def ii_isLetter : Nat := 103
def ii_IsBraid : Nat := 53
def ii_IsBraid_4 : Nat := 20002
def ii_nothing : Nat := 73
def ii_nothing_3 : Nat := 20004
def ii_exchange : Nat := 104
def ii_backOf : Nat := 60
def ii_backOf_3 : Nat := 20006
def ii_halfTurn : Nat := 64
def ii_halfTurn_3 : Nat := 20007
def ii_then : Nat := 123
def ii_then_3 : Nat := 20008
def ii_complement : Nat := 122
def ii_descents : Nat := 118
def ii_descents_3 : Nat := 20009
def ii_descents_6 : Nat := 20010
def ii_meet : Nat := 94
def ii_meet_4 : Nat := 20011
def ii_meet_7 : Nat := 20012
def i__i_Normal__put : Nat := 96
def i__i_Normal__put_5 : Nat := 20005
def i__i_Normal__put_11 : Nat := 20013
def i__i_Normal__put_14 : Nat := 20014
def ii_turn : Nat := 121
def i__i_Normal__turnBy : Nat := 93
def i__i_Normal__turnBy_4 : Nat := 20015
def ii_leftComplement : Nat := 128
def i__i_Normal__putInverse : Nat := 105
def ii_normalOf : Nat := 55
def ii_normalOf_3 : Nat := 20003
def ii_limited : Nat := 54
def ii_NormalOf : Nat := 8
def is_l01In : Nat := 89
def is_l01Is : Nat := 56
def is_l01Is_4 : Nat := 20016
def is_l02Same : Nat := 109
def is_l02Same_3 : Nat := 20018
def is_l02Exchange : Nat := 107
def is_l02Half : Nat := 110
def is_l02Half_3 : Nat := 20020
def is_l02Then : Nat := 131
def is_l02Then_3 : Nat := 20021
def is_l02Turn : Nat := 133
def is_l03Turned : Nat := 120
def is_l03Turned_3 : Nat := 20019
def is_l02Back : Nat := 61
def is_l02Back_3 : Nat := 20022
def is_l02Left : Nat := 129
def is_l02Complement : Nat := 134
def is_l02Meet : Nat := 124
def is_l02Meet_3 : Nat := 20025
def is_l03Weigh : Nat := 132
def is_l03Weigh_3 : Nat := 20023
def is_l03Weigh_6 : Nat := 20024
def is_l03Make : Nat := 119
def is_l03Make_4 : Nat := 20026
def is_l03Make_7 : Nat := 20027
def is_l03Times : Nat := 106
def is_l03Of : Nat := 58
def is_l03Of_3 : Nat := 20017
def is_l03Fit : Nat := 57
def is_NormalOf : Nat := 9
def iw_normal9 : Nat := 10
def iw_normal9_4 : Nat := 20028
def is_DrawRightNormalOf : Nat := 11
def ii_reversed : Nat := 59
def ii_reversed_3 : Nat := 20029
def ii_RightNormalOf : Nat := 12
def ii_RightNormalOf_6 : Nat := 20030
def is_RightNormalOf : Nat := 13
def is_RightNormalOf_5 : Nat := 20031
def is_RightNormalOf_11 : Nat := 20032
def is_l03Draw : Nat := 108
def is_l03Some : Nat := 62
def is_DrawWordOfNormal : Nat := 14
def ii_IsSimple : Nat := 72
def ii_IsSimple_5 : Nat := 20034
def ii_begins : Nat := 115
def ii_beginning : Nat := 111
def ii_beginning_3 : Nat := 20035
def ii_endsAll : Nat := 74
def ii_endsAll_3 : Nat := 20036
def ii_IsNormal : Nat := 18
def ii_IsNormal_5 : Nat := 20033
def ii_wordOf : Nat := 63
def ii_wordOf_2 : Nat := 20037
def ii_opposite : Nat := 66
def ii_letterBy : Nat := 10000
def ii_letterBy_3 : Nat := 20038
def ii_size : Nat := 67
def ii_WordOfNormal : Nat := 15
def ii_WordOfNormal_8 : Nat := 20039
def ii_WordOfNormal_12 : Nat := 20040
def is_l02Is : Nat := 112
def is_l02Is_5 : Nat := 20042
def is_l03Weighted : Nat := 113
def is_l03Weighted_3 : Nat := 20043
def is_l03Is : Nat := 68
def is_l03Is_5 : Nat := 20041
def is_l02Begins : Nat := 130
def is_l02Begins_3 : Nat := 20045
def is_l02Word : Nat := 114
def is_l02Word_2 : Nat := 20044
def is_l03Word : Nat := 69
def is_l03Word_3 : Nat := 20046
def is_l03Word_7 : Nat := 20047
def is_l03Word_10 : Nat := 20048
def is_l03Word_14 : Nat := 20049
def is_WordOfNormal : Nat := 16
def iw_likeInts : Nat := 17
def iw_likeInts_4 : Nat := 20050
def is_IsNormal : Nat := 19
def is_DrawSameBraid : Nat := 20
def ig_Equal___i_Simple_i_Simple_ : Nat := 116
def ig_Equal___i_Simple_i_Simple__4 : Nat := 20051
def ii_sameNormal : Nat := 77
def ii_SameBraid : Nat := 21
def is_l03Like : Nat := 117
def is_l03Like_4 : Nat := 20052
def is_l03Equal : Nat := 78
def is_SameBraid : Nat := 22
def is_DrawLengthsOf : Nat := 23
def ii_LengthsOf : Nat := 24
def is_LengthsOf : Nat := 25
def ii_IsPositive : Nat := 26
def is_IsPositive : Nat := 27
def ii_sign : Nat := 79
def ii_SumOf : Nat := 28
def ii_SumOf_5 : Nat := 20056
def ii_lengthOf : Nat := 80
def ii_lengthOf_3 : Nat := 20058
def ii_LengthOfSimple : Nat := 29
def iw_FnNormals : Nat := 3
def iw_FnNormals_51 : Nat := 20057
def iw_FnNormals_j36 : Nat := 20053
def iw_FnNormals_j40 : Nat := 20054
def iw_FnNormals_j45 : Nat := 20055
def is_l03Pair : Nat := 81
def is_DrawMultiplyNormals : Nat := 30
def ii_areSameCount : Nat := 82
def ii_copyNormal : Nat := 100
def ii_product : Nat := 83
def ii_product_4 : Nat := 20059
def ii_MultiplyNormals : Nat := 31
def is_l03Both : Nat := 84
def is_l03Product : Nat := 85
def is_MultiplyNormals : Nat := 32
def is_DrawInverseNormal : Nat := 33
def ii_inverse : Nat := 86
def ii_inverse_3 : Nat := 20060
def ii_InverseNormal : Nat := 34
def is_l03Inverse : Nat := 87
def is_l03Inverse_3 : Nat := 20061
def is_InverseNormal : Nat := 35
def is_DrawPowerNormal : Nat := 36
def ii_PowerNormal : Nat := 37
def ii_PowerNormal_9 : Nat := 20062
def is_PowerNormal : Nat := 38
def is_PowerNormal_10 : Nat := 20063
def iw_trivial9 : Nat := 39
def iw_roll : Nat := 41
def iw_roll_3 : Nat := 20066
def i__w_dice__below : Nat := 90
def iw_letters9 : Nat := 40
def iw_letters9_2 : Nat := 20067
def iw_FnNormalProducts : Nat := 4
def iw_FnNormalProducts_j23 : Nat := 20064
def iw_FnNormalProducts_j28 : Nat := 20065
def is_l03Up : Nat := 91
def is_DrawCommonBeginning : Nat := 42
def ii_arePositive : Nat := 92
def ii_head : Nat := 95
def ii_withoutHead : Nat := 97
def ii_CommonBeginning : Nat := 43
def ii_CommonBeginning_11 : Nat := 20068
def is_l03Positive : Nat := 98
def is_l03First : Nat := 125
def is_l03Less : Nat := 126
def is_l03Common : Nat := 99
def is_l03Common_3 : Nat := 20069
def is_CommonBeginning : Nat := 44
def is_DrawIsBeginningOf : Nat := 45
def ii_IsBeginningOf : Nat := 46
def is_IsBeginningOf : Nat := 47
def is_DrawFractionOf : Nat := 48
def ii_FractionOf : Nat := 49
def is_FractionOf : Nat := 50
def iw_FnBeginnings : Nat := 5
def iw_FnBeginnings_j24 : Nat := 20070
def iw_FnBeginnings_j29 : Nat := 20071
end Go.Ev.Ytpfpjhfimmmkmaa
