/-
  No cell of these rows narrows 'for every input' (looked for: loops, veiled, ifaces, maps, wideKeys, modest, calm, conditions, laid).
  DERIVED. THE GIVEN ROWS OF THIS SEAT. 15 by the template 'for every input the law returns true; each argument reads behind the call as it read before'; 0 by the template 'total and deterministic' (their statements: YtadjhggdddbicaaTotals.lean).
  GIVEN WITH THE SEED: the statements are not yours to turn. If you find one false, say at which input.
  Laid BY PROGRAM, IN A SANDBOX (cutbox-rows.mjs): the forced cells as the released guide's own fill.sh prints them over the translation ee21d7685c4db80d… (all of the seat's roots in one cut). By AI agents, Wed Nov 11 2026. No macro, syntax, notation, axiom, sorry.
-/
import Derived.Test.YtadjhggdddbicaaChecked
import GoSem.Claim
import GoSem.ClaimJoined
import GoSem.ClaimMapViews
import Derived.JoinedTies
import Derived.KernelRfl
namespace Go.Proofs.Ytadjhggdddbicaa
/- THE CELL 'sum', in the pinned program and in every row, IS THE sha256 OF THE DUMP (.gsa) THAT YtadjhggdddbicaaProg.lean LOADS. Nothing in Lean hashes anything: it is a label: what it is worth is what the hold of that sum in a sandbox is worth. -/
noncomputable def Try.pinned : Pinned := { name := "ytadjhggdddbicaa", sum := "ee21d7685c4db80deea9cef6c2d8255b8e228bc9f571b18815655483ed28e078", checked := Try.checked }
namespace Rows
def none {H : Type} : Left H := { results := [], args := [] }

/-- 'laws.FnExactBandOf': WHATEVER THE INPUT: true; the input reads as it did. -/
def fnExactBandOfSpec : ChangeSpec := { name := "fnExactBandOf", fn := fun _ => fun
  | [d1, d2, d3] => { results := [.lit (.bool true)], args := [d1, d2, d3] }
  | _ => none }
def fnExactBandOfRow : OpenClaim := { program := "ytadjhggdddbicaa", sum := "ee21d7685c4db80deea9cef6c2d8255b8e228bc9f571b18815655483ed28e078", func := "loop.example/g01205/laws.FnExactBandOf", spec := "fnExactBandOf", apart := false }
def FnExactBandOfSaid : Prop := fnExactBandOfRow.holds Try.pinned (OpenSpec.ofChange fnExactBandOfSpec)

/-- ITS FALSE NEIGHBOUR: 'it returns false'. Refute it at one input. -/
def fnExactBandOfWrong : ChangeSpec := { name := "fnExactBandOf", fn := fun _ => fun
  | [d1, d2, d3] => { results := [.lit (.bool false)], args := [d1, d2, d3] }
  | _ => none }
def FnExactBandOfWrongFalsely : Prop := fnExactBandOfRow.holds Try.pinned (OpenSpec.ofChange fnExactBandOfWrong)

/-- 'laws.FnExactIsPart': WHATEVER THE INPUT: true; the input reads as it did. -/
def fnExactIsPartSpec : ChangeSpec := { name := "fnExactIsPart", fn := fun _ => fun
  | [d1, d2] => { results := [.lit (.bool true)], args := [d1, d2] }
  | _ => none }
def fnExactIsPartRow : OpenClaim := { program := "ytadjhggdddbicaa", sum := "ee21d7685c4db80deea9cef6c2d8255b8e228bc9f571b18815655483ed28e078", func := "loop.example/g01205/laws.FnExactIsPart", spec := "fnExactIsPart", apart := false }
def FnExactIsPartSaid : Prop := fnExactIsPartRow.holds Try.pinned (OpenSpec.ofChange fnExactIsPartSpec)

/-- ITS FALSE NEIGHBOUR: 'it returns false'. Refute it at one input. -/
def fnExactIsPartWrong : ChangeSpec := { name := "fnExactIsPart", fn := fun _ => fun
  | [d1, d2] => { results := [.lit (.bool false)], args := [d1, d2] }
  | _ => none }
def FnExactIsPartWrongFalsely : Prop := fnExactIsPartRow.holds Try.pinned (OpenSpec.ofChange fnExactIsPartWrong)

/-- 'laws.FnExactTurnOfPart': WHATEVER THE INPUT: true; the input reads as it did. -/
def fnExactTurnOfPartSpec : ChangeSpec := { name := "fnExactTurnOfPart", fn := fun _ => fun
  | [d1, d2] => { results := [.lit (.bool true)], args := [d1, d2] }
  | _ => none }
def fnExactTurnOfPartRow : OpenClaim := { program := "ytadjhggdddbicaa", sum := "ee21d7685c4db80deea9cef6c2d8255b8e228bc9f571b18815655483ed28e078", func := "loop.example/g01205/laws.FnExactTurnOfPart", spec := "fnExactTurnOfPart", apart := false }
def FnExactTurnOfPartSaid : Prop := fnExactTurnOfPartRow.holds Try.pinned (OpenSpec.ofChange fnExactTurnOfPartSpec)

/-- ITS FALSE NEIGHBOUR: 'it returns false'. Refute it at one input. -/
def fnExactTurnOfPartWrong : ChangeSpec := { name := "fnExactTurnOfPart", fn := fun _ => fun
  | [d1, d2] => { results := [.lit (.bool false)], args := [d1, d2] }
  | _ => none }
def FnExactTurnOfPartWrongFalsely : Prop := fnExactTurnOfPartRow.holds Try.pinned (OpenSpec.ofChange fnExactTurnOfPartWrong)

/-- 'laws.FnExactRankOf': WHATEVER THE INPUT: true; the input reads as it did. -/
def fnExactRankOfSpec : ChangeSpec := { name := "fnExactRankOf", fn := fun _ => fun
  | [d1, d2] => { results := [.lit (.bool true)], args := [d1, d2] }
  | _ => none }
def fnExactRankOfRow : OpenClaim := { program := "ytadjhggdddbicaa", sum := "ee21d7685c4db80deea9cef6c2d8255b8e228bc9f571b18815655483ed28e078", func := "loop.example/g01205/laws.FnExactRankOf", spec := "fnExactRankOf", apart := false }
def FnExactRankOfSaid : Prop := fnExactRankOfRow.holds Try.pinned (OpenSpec.ofChange fnExactRankOfSpec)

/-- ITS FALSE NEIGHBOUR: 'it returns false'. Refute it at one input. -/
def fnExactRankOfWrong : ChangeSpec := { name := "fnExactRankOf", fn := fun _ => fun
  | [d1, d2] => { results := [.lit (.bool false)], args := [d1, d2] }
  | _ => none }
def FnExactRankOfWrongFalsely : Prop := fnExactRankOfRow.holds Try.pinned (OpenSpec.ofChange fnExactRankOfWrong)

/-- 'laws.FnExactMeetOfParts': WHATEVER THE INPUT: true; the input reads as it did. -/
def fnExactMeetOfPartsSpec : ChangeSpec := { name := "fnExactMeetOfParts", fn := fun _ => fun
  | [d1, d2, d3] => { results := [.lit (.bool true)], args := [d1, d2, d3] }
  | _ => none }
def fnExactMeetOfPartsRow : OpenClaim := { program := "ytadjhggdddbicaa", sum := "ee21d7685c4db80deea9cef6c2d8255b8e228bc9f571b18815655483ed28e078", func := "loop.example/g01205/laws.FnExactMeetOfParts", spec := "fnExactMeetOfParts", apart := false }
def FnExactMeetOfPartsSaid : Prop := fnExactMeetOfPartsRow.holds Try.pinned (OpenSpec.ofChange fnExactMeetOfPartsSpec)

/-- ITS FALSE NEIGHBOUR: 'it returns false'. Refute it at one input. -/
def fnExactMeetOfPartsWrong : ChangeSpec := { name := "fnExactMeetOfParts", fn := fun _ => fun
  | [d1, d2, d3] => { results := [.lit (.bool false)], args := [d1, d2, d3] }
  | _ => none }
def FnExactMeetOfPartsWrongFalsely : Prop := fnExactMeetOfPartsRow.holds Try.pinned (OpenSpec.ofChange fnExactMeetOfPartsWrong)

/-- 'laws.FnExactPartOfBlocks': WHATEVER THE INPUT: true; the input reads as it did. -/
def fnExactPartOfBlocksSpec : ChangeSpec := { name := "fnExactPartOfBlocks", fn := fun _ => fun
  | [d1, d2] => { results := [.lit (.bool true)], args := [d1, d2] }
  | _ => none }
def fnExactPartOfBlocksRow : OpenClaim := { program := "ytadjhggdddbicaa", sum := "ee21d7685c4db80deea9cef6c2d8255b8e228bc9f571b18815655483ed28e078", func := "loop.example/g01205/laws.FnExactPartOfBlocks", spec := "fnExactPartOfBlocks", apart := false }
def FnExactPartOfBlocksSaid : Prop := fnExactPartOfBlocksRow.holds Try.pinned (OpenSpec.ofChange fnExactPartOfBlocksSpec)

/-- ITS FALSE NEIGHBOUR: 'it returns false'. Refute it at one input. -/
def fnExactPartOfBlocksWrong : ChangeSpec := { name := "fnExactPartOfBlocks", fn := fun _ => fun
  | [d1, d2] => { results := [.lit (.bool false)], args := [d1, d2] }
  | _ => none }
def FnExactPartOfBlocksWrongFalsely : Prop := fnExactPartOfBlocksRow.holds Try.pinned (OpenSpec.ofChange fnExactPartOfBlocksWrong)

/-- 'laws.FnExactComplementOfPart': WHATEVER THE INPUT: true; the input reads as it did. -/
def fnExactComplementOfPartSpec : ChangeSpec := { name := "fnExactComplementOfPart", fn := fun _ => fun
  | [d1, d2] => { results := [.lit (.bool true)], args := [d1, d2] }
  | _ => none }
def fnExactComplementOfPartRow : OpenClaim := { program := "ytadjhggdddbicaa", sum := "ee21d7685c4db80deea9cef6c2d8255b8e228bc9f571b18815655483ed28e078", func := "loop.example/g01205/laws.FnExactComplementOfPart", spec := "fnExactComplementOfPart", apart := false }
def FnExactComplementOfPartSaid : Prop := fnExactComplementOfPartRow.holds Try.pinned (OpenSpec.ofChange fnExactComplementOfPartSpec)

/-- ITS FALSE NEIGHBOUR: 'it returns false'. Refute it at one input. -/
def fnExactComplementOfPartWrong : ChangeSpec := { name := "fnExactComplementOfPart", fn := fun _ => fun
  | [d1, d2] => { results := [.lit (.bool false)], args := [d1, d2] }
  | _ => none }
def FnExactComplementOfPartWrongFalsely : Prop := fnExactComplementOfPartRow.holds Try.pinned (OpenSpec.ofChange fnExactComplementOfPartWrong)

/-- 'laws.FnExactJoinOfParts': WHATEVER THE INPUT: true; the input reads as it did. -/
def fnExactJoinOfPartsSpec : ChangeSpec := { name := "fnExactJoinOfParts", fn := fun _ => fun
  | [d1, d2, d3] => { results := [.lit (.bool true)], args := [d1, d2, d3] }
  | _ => none }
def fnExactJoinOfPartsRow : OpenClaim := { program := "ytadjhggdddbicaa", sum := "ee21d7685c4db80deea9cef6c2d8255b8e228bc9f571b18815655483ed28e078", func := "loop.example/g01205/laws.FnExactJoinOfParts", spec := "fnExactJoinOfParts", apart := false }
def FnExactJoinOfPartsSaid : Prop := fnExactJoinOfPartsRow.holds Try.pinned (OpenSpec.ofChange fnExactJoinOfPartsSpec)

/-- ITS FALSE NEIGHBOUR: 'it returns false'. Refute it at one input. -/
def fnExactJoinOfPartsWrong : ChangeSpec := { name := "fnExactJoinOfParts", fn := fun _ => fun
  | [d1, d2, d3] => { results := [.lit (.bool false)], args := [d1, d2, d3] }
  | _ => none }
def FnExactJoinOfPartsWrongFalsely : Prop := fnExactJoinOfPartsRow.holds Try.pinned (OpenSpec.ofChange fnExactJoinOfPartsWrong)

/-- 'laws.FnExactBlocksOfPart': WHATEVER THE INPUT: true; the input reads as it did. -/
def fnExactBlocksOfPartSpec : ChangeSpec := { name := "fnExactBlocksOfPart", fn := fun _ => fun
  | [d1, d2] => { results := [.lit (.bool true)], args := [d1, d2] }
  | _ => none }
def fnExactBlocksOfPartRow : OpenClaim := { program := "ytadjhggdddbicaa", sum := "ee21d7685c4db80deea9cef6c2d8255b8e228bc9f571b18815655483ed28e078", func := "loop.example/g01205/laws.FnExactBlocksOfPart", spec := "fnExactBlocksOfPart", apart := false }
def FnExactBlocksOfPartSaid : Prop := fnExactBlocksOfPartRow.holds Try.pinned (OpenSpec.ofChange fnExactBlocksOfPartSpec)

/-- ITS FALSE NEIGHBOUR: 'it returns false'. Refute it at one input. -/
def fnExactBlocksOfPartWrong : ChangeSpec := { name := "fnExactBlocksOfPart", fn := fun _ => fun
  | [d1, d2] => { results := [.lit (.bool false)], args := [d1, d2] }
  | _ => none }
def FnExactBlocksOfPartWrongFalsely : Prop := fnExactBlocksOfPartRow.holds Try.pinned (OpenSpec.ofChange fnExactBlocksOfPartWrong)

/-- 'laws.FnExactWordOfPart': WHATEVER THE INPUT: true; the input reads as it did. -/
def fnExactWordOfPartSpec : ChangeSpec := { name := "fnExactWordOfPart", fn := fun _ => fun
  | [d1, d2] => { results := [.lit (.bool true)], args := [d1, d2] }
  | _ => none }
def fnExactWordOfPartRow : OpenClaim := { program := "ytadjhggdddbicaa", sum := "ee21d7685c4db80deea9cef6c2d8255b8e228bc9f571b18815655483ed28e078", func := "loop.example/g01205/laws.FnExactWordOfPart", spec := "fnExactWordOfPart", apart := false }
def FnExactWordOfPartSaid : Prop := fnExactWordOfPartRow.holds Try.pinned (OpenSpec.ofChange fnExactWordOfPartSpec)

/-- ITS FALSE NEIGHBOUR: 'it returns false'. Refute it at one input. -/
def fnExactWordOfPartWrong : ChangeSpec := { name := "fnExactWordOfPart", fn := fun _ => fun
  | [d1, d2] => { results := [.lit (.bool false)], args := [d1, d2] }
  | _ => none }
def FnExactWordOfPartWrongFalsely : Prop := fnExactWordOfPartRow.holds Try.pinned (OpenSpec.ofChange fnExactWordOfPartWrong)

/-- 'laws.FnExactIsDual': WHATEVER THE INPUT: true; the input reads as it did. -/
def fnExactIsDualSpec : ChangeSpec := { name := "fnExactIsDual", fn := fun _ => fun
  | [d] => { results := [.lit (.bool true)], args := [d] }
  | _ => none }
def fnExactIsDualRow : OpenClaim := { program := "ytadjhggdddbicaa", sum := "ee21d7685c4db80deea9cef6c2d8255b8e228bc9f571b18815655483ed28e078", func := "loop.example/g01205/laws.FnExactIsDual", spec := "fnExactIsDual", apart := false }
def FnExactIsDualSaid : Prop := fnExactIsDualRow.holds Try.pinned (OpenSpec.ofChange fnExactIsDualSpec)

/-- ITS FALSE NEIGHBOUR: 'it returns false'. Refute it at one input. -/
def fnExactIsDualWrong : ChangeSpec := { name := "fnExactIsDual", fn := fun _ => fun
  | [d] => { results := [.lit (.bool false)], args := [d] }
  | _ => none }
def FnExactIsDualWrongFalsely : Prop := fnExactIsDualRow.holds Try.pinned (OpenSpec.ofChange fnExactIsDualWrong)

/-- 'laws.FnExactAllParts': WHATEVER THE INPUT: true; the input reads as it did. -/
def fnExactAllPartsSpec : ChangeSpec := { name := "fnExactAllParts", fn := fun _ => fun
  | [d] => { results := [.lit (.bool true)], args := [d] }
  | _ => none }
def fnExactAllPartsRow : OpenClaim := { program := "ytadjhggdddbicaa", sum := "ee21d7685c4db80deea9cef6c2d8255b8e228bc9f571b18815655483ed28e078", func := "loop.example/g01205/laws.FnExactAllParts", spec := "fnExactAllParts", unfollowed := true, recurses := true, apart := false }
def FnExactAllPartsSaid : Prop := fnExactAllPartsRow.holds Try.pinned (OpenSpec.ofChange fnExactAllPartsSpec)

/-- ITS FALSE NEIGHBOUR: 'it returns false'. Refute it at one input. -/
def fnExactAllPartsWrong : ChangeSpec := { name := "fnExactAllParts", fn := fun _ => fun
  | [d] => { results := [.lit (.bool false)], args := [d] }
  | _ => none }
def FnExactAllPartsWrongFalsely : Prop := fnExactAllPartsRow.holds Try.pinned (OpenSpec.ofChange fnExactAllPartsWrong)

/-- 'laws.FnExactDualForm': WHATEVER THE INPUT: true; the input reads as it did. -/
def fnExactDualFormSpec : ChangeSpec := { name := "fnExactDualForm", fn := fun _ => fun
  | [d] => { results := [.lit (.bool true)], args := [d] }
  | _ => none }
def fnExactDualFormRow : OpenClaim := { program := "ytadjhggdddbicaa", sum := "ee21d7685c4db80deea9cef6c2d8255b8e228bc9f571b18815655483ed28e078", func := "loop.example/g01205/laws.FnExactDualForm", spec := "fnExactDualForm", apart := false }
def FnExactDualFormSaid : Prop := fnExactDualFormRow.holds Try.pinned (OpenSpec.ofChange fnExactDualFormSpec)

/-- ITS FALSE NEIGHBOUR: 'it returns false'. Refute it at one input. -/
def fnExactDualFormWrong : ChangeSpec := { name := "fnExactDualForm", fn := fun _ => fun
  | [d] => { results := [.lit (.bool false)], args := [d] }
  | _ => none }
def FnExactDualFormWrongFalsely : Prop := fnExactDualFormRow.holds Try.pinned (OpenSpec.ofChange fnExactDualFormWrong)

/-- 'laws.FnExactWordOfDual': WHATEVER THE INPUT: true; the input reads as it did. -/
def fnExactWordOfDualSpec : ChangeSpec := { name := "fnExactWordOfDual", fn := fun _ => fun
  | [d] => { results := [.lit (.bool true)], args := [d] }
  | _ => none }
def fnExactWordOfDualRow : OpenClaim := { program := "ytadjhggdddbicaa", sum := "ee21d7685c4db80deea9cef6c2d8255b8e228bc9f571b18815655483ed28e078", func := "loop.example/g01205/laws.FnExactWordOfDual", spec := "fnExactWordOfDual", unfollowed := true, recurses := true, apart := false }
def FnExactWordOfDualSaid : Prop := fnExactWordOfDualRow.holds Try.pinned (OpenSpec.ofChange fnExactWordOfDualSpec)

/-- ITS FALSE NEIGHBOUR: 'it returns false'. Refute it at one input. -/
def fnExactWordOfDualWrong : ChangeSpec := { name := "fnExactWordOfDual", fn := fun _ => fun
  | [d] => { results := [.lit (.bool false)], args := [d] }
  | _ => none }
def FnExactWordOfDualWrongFalsely : Prop := fnExactWordOfDualRow.holds Try.pinned (OpenSpec.ofChange fnExactWordOfDualWrong)

/-- 'laws.FnExactEqualByBands': WHATEVER THE INPUT: true; the input reads as it did. -/
def fnExactEqualByBandsSpec : ChangeSpec := { name := "fnExactEqualByBands", fn := fun _ => fun
  | [d1, d2] => { results := [.lit (.bool true)], args := [d1, d2] }
  | _ => none }
def fnExactEqualByBandsRow : OpenClaim := { program := "ytadjhggdddbicaa", sum := "ee21d7685c4db80deea9cef6c2d8255b8e228bc9f571b18815655483ed28e078", func := "loop.example/g01205/laws.FnExactEqualByBands", spec := "fnExactEqualByBands", apart := false }
def FnExactEqualByBandsSaid : Prop := fnExactEqualByBandsRow.holds Try.pinned (OpenSpec.ofChange fnExactEqualByBandsSpec)

/-- ITS FALSE NEIGHBOUR: 'it returns false'. Refute it at one input. -/
def fnExactEqualByBandsWrong : ChangeSpec := { name := "fnExactEqualByBands", fn := fun _ => fun
  | [d1, d2] => { results := [.lit (.bool false)], args := [d1, d2] }
  | _ => none }
def FnExactEqualByBandsWrongFalsely : Prop := fnExactEqualByBandsRow.holds Try.pinned (OpenSpec.ofChange fnExactEqualByBandsWrong)

/- THE SECOND FORM. 'bulk': how many values and letters a reading holds, each counted each time it is reached (what is shared counts as often as it is met; a slice's spare places count too). A statement '..UptoSaid' is the law's where the arguments, and the package variables that the reading takes, are together of bulk at most 1048576: NARROWER than '..Said'. Prove '..Said' where nothing that the law and all that it calls make is longer than what came in: it says more and counts as full. Else prove '..UptoSaid'. A law counts once. -/
mutual
def uptoBulk {H : Type} : DataW H → Nat
  | .lit (.string bytes) => bytes.length + 1
  | .lit _ => 1
  | .nil => 1
  | .ptr d => uptoBulk d + 1
  | .slice elems spare => uptoBulkAll elems + uptoBulkAll spare + 1
  | .agg parts => uptoBulkAll parts + 1
  | .iface _ d => uptoBulk d + 1
  | .map entries => uptoBulkEntries entries + 1
  | .held _ => 1
def uptoBulkAll {H : Type} : List (DataW H) → Nat
  | [] => 0
  | d :: r => uptoBulk d + uptoBulkAll r
def uptoBulkEntries {H : Type} : List (Lit × DataW H) → Nat
  | [] => 0
  | x :: r => uptoBulkEntry x + uptoBulkEntries r
def uptoBulkEntry {H : Type} : Lit × DataW H → Nat
  | (.string bytes, d) => bytes.length + uptoBulk d + 1
  | (_, d) => uptoBulk d + 1
 end
def uptoSmall : (H : Type) → List (DataW H) → Bool := fun _ ds => decide (uptoBulkAll ds ≤ 1048576)
def OpenSpec.upto (s : _root_.Go.ChangeSpec) : _root_.Go.OpenSpec := { _root_.Go.OpenSpec.ofChange s with cond := some uptoSmall }

/-- 'laws.FnExactBandOf', WHERE WHAT IT READS IS OF BULK AT MOST 1048576: true; the input reads as it did. -/
def fnExactBandOfUptoRow : OpenClaim := { program := "ytadjhggdddbicaa", sum := "ee21d7685c4db80deea9cef6c2d8255b8e228bc9f571b18815655483ed28e078", func := "loop.example/g01205/laws.FnExactBandOf", spec := "fnExactBandOf", apart := false, narrowed := true }
def FnExactBandOfUptoSaid : Prop := fnExactBandOfUptoRow.holds Try.pinned (OpenSpec.upto fnExactBandOfSpec)

/-- 'laws.FnExactIsPart', WHERE WHAT IT READS IS OF BULK AT MOST 1048576: true; the input reads as it did. -/
def fnExactIsPartUptoRow : OpenClaim := { program := "ytadjhggdddbicaa", sum := "ee21d7685c4db80deea9cef6c2d8255b8e228bc9f571b18815655483ed28e078", func := "loop.example/g01205/laws.FnExactIsPart", spec := "fnExactIsPart", apart := false, narrowed := true }
def FnExactIsPartUptoSaid : Prop := fnExactIsPartUptoRow.holds Try.pinned (OpenSpec.upto fnExactIsPartSpec)

/-- 'laws.FnExactTurnOfPart', WHERE WHAT IT READS IS OF BULK AT MOST 1048576: true; the input reads as it did. -/
def fnExactTurnOfPartUptoRow : OpenClaim := { program := "ytadjhggdddbicaa", sum := "ee21d7685c4db80deea9cef6c2d8255b8e228bc9f571b18815655483ed28e078", func := "loop.example/g01205/laws.FnExactTurnOfPart", spec := "fnExactTurnOfPart", apart := false, narrowed := true }
def FnExactTurnOfPartUptoSaid : Prop := fnExactTurnOfPartUptoRow.holds Try.pinned (OpenSpec.upto fnExactTurnOfPartSpec)

/-- 'laws.FnExactRankOf', WHERE WHAT IT READS IS OF BULK AT MOST 1048576: true; the input reads as it did. -/
def fnExactRankOfUptoRow : OpenClaim := { program := "ytadjhggdddbicaa", sum := "ee21d7685c4db80deea9cef6c2d8255b8e228bc9f571b18815655483ed28e078", func := "loop.example/g01205/laws.FnExactRankOf", spec := "fnExactRankOf", apart := false, narrowed := true }
def FnExactRankOfUptoSaid : Prop := fnExactRankOfUptoRow.holds Try.pinned (OpenSpec.upto fnExactRankOfSpec)

/-- 'laws.FnExactMeetOfParts', WHERE WHAT IT READS IS OF BULK AT MOST 1048576: true; the input reads as it did. -/
def fnExactMeetOfPartsUptoRow : OpenClaim := { program := "ytadjhggdddbicaa", sum := "ee21d7685c4db80deea9cef6c2d8255b8e228bc9f571b18815655483ed28e078", func := "loop.example/g01205/laws.FnExactMeetOfParts", spec := "fnExactMeetOfParts", apart := false, narrowed := true }
def FnExactMeetOfPartsUptoSaid : Prop := fnExactMeetOfPartsUptoRow.holds Try.pinned (OpenSpec.upto fnExactMeetOfPartsSpec)

/-- 'laws.FnExactPartOfBlocks', WHERE WHAT IT READS IS OF BULK AT MOST 1048576: true; the input reads as it did. -/
def fnExactPartOfBlocksUptoRow : OpenClaim := { program := "ytadjhggdddbicaa", sum := "ee21d7685c4db80deea9cef6c2d8255b8e228bc9f571b18815655483ed28e078", func := "loop.example/g01205/laws.FnExactPartOfBlocks", spec := "fnExactPartOfBlocks", apart := false, narrowed := true }
def FnExactPartOfBlocksUptoSaid : Prop := fnExactPartOfBlocksUptoRow.holds Try.pinned (OpenSpec.upto fnExactPartOfBlocksSpec)

/-- 'laws.FnExactComplementOfPart', WHERE WHAT IT READS IS OF BULK AT MOST 1048576: true; the input reads as it did. -/
def fnExactComplementOfPartUptoRow : OpenClaim := { program := "ytadjhggdddbicaa", sum := "ee21d7685c4db80deea9cef6c2d8255b8e228bc9f571b18815655483ed28e078", func := "loop.example/g01205/laws.FnExactComplementOfPart", spec := "fnExactComplementOfPart", apart := false, narrowed := true }
def FnExactComplementOfPartUptoSaid : Prop := fnExactComplementOfPartUptoRow.holds Try.pinned (OpenSpec.upto fnExactComplementOfPartSpec)

/-- 'laws.FnExactJoinOfParts', WHERE WHAT IT READS IS OF BULK AT MOST 1048576: true; the input reads as it did. -/
def fnExactJoinOfPartsUptoRow : OpenClaim := { program := "ytadjhggdddbicaa", sum := "ee21d7685c4db80deea9cef6c2d8255b8e228bc9f571b18815655483ed28e078", func := "loop.example/g01205/laws.FnExactJoinOfParts", spec := "fnExactJoinOfParts", apart := false, narrowed := true }
def FnExactJoinOfPartsUptoSaid : Prop := fnExactJoinOfPartsUptoRow.holds Try.pinned (OpenSpec.upto fnExactJoinOfPartsSpec)

/-- 'laws.FnExactBlocksOfPart', WHERE WHAT IT READS IS OF BULK AT MOST 1048576: true; the input reads as it did. -/
def fnExactBlocksOfPartUptoRow : OpenClaim := { program := "ytadjhggdddbicaa", sum := "ee21d7685c4db80deea9cef6c2d8255b8e228bc9f571b18815655483ed28e078", func := "loop.example/g01205/laws.FnExactBlocksOfPart", spec := "fnExactBlocksOfPart", apart := false, narrowed := true }
def FnExactBlocksOfPartUptoSaid : Prop := fnExactBlocksOfPartUptoRow.holds Try.pinned (OpenSpec.upto fnExactBlocksOfPartSpec)

/-- 'laws.FnExactWordOfPart', WHERE WHAT IT READS IS OF BULK AT MOST 1048576: true; the input reads as it did. -/
def fnExactWordOfPartUptoRow : OpenClaim := { program := "ytadjhggdddbicaa", sum := "ee21d7685c4db80deea9cef6c2d8255b8e228bc9f571b18815655483ed28e078", func := "loop.example/g01205/laws.FnExactWordOfPart", spec := "fnExactWordOfPart", apart := false, narrowed := true }
def FnExactWordOfPartUptoSaid : Prop := fnExactWordOfPartUptoRow.holds Try.pinned (OpenSpec.upto fnExactWordOfPartSpec)

/-- 'laws.FnExactIsDual', WHERE WHAT IT READS IS OF BULK AT MOST 1048576: true; the input reads as it did. -/
def fnExactIsDualUptoRow : OpenClaim := { program := "ytadjhggdddbicaa", sum := "ee21d7685c4db80deea9cef6c2d8255b8e228bc9f571b18815655483ed28e078", func := "loop.example/g01205/laws.FnExactIsDual", spec := "fnExactIsDual", apart := false, narrowed := true }
def FnExactIsDualUptoSaid : Prop := fnExactIsDualUptoRow.holds Try.pinned (OpenSpec.upto fnExactIsDualSpec)

/-- 'laws.FnExactAllParts', WHERE WHAT IT READS IS OF BULK AT MOST 1048576: true; the input reads as it did. -/
def fnExactAllPartsUptoRow : OpenClaim := { program := "ytadjhggdddbicaa", sum := "ee21d7685c4db80deea9cef6c2d8255b8e228bc9f571b18815655483ed28e078", func := "loop.example/g01205/laws.FnExactAllParts", spec := "fnExactAllParts", unfollowed := true, recurses := true, apart := false, narrowed := true }
def FnExactAllPartsUptoSaid : Prop := fnExactAllPartsUptoRow.holds Try.pinned (OpenSpec.upto fnExactAllPartsSpec)

/-- 'laws.FnExactDualForm', WHERE WHAT IT READS IS OF BULK AT MOST 1048576: true; the input reads as it did. -/
def fnExactDualFormUptoRow : OpenClaim := { program := "ytadjhggdddbicaa", sum := "ee21d7685c4db80deea9cef6c2d8255b8e228bc9f571b18815655483ed28e078", func := "loop.example/g01205/laws.FnExactDualForm", spec := "fnExactDualForm", apart := false, narrowed := true }
def FnExactDualFormUptoSaid : Prop := fnExactDualFormUptoRow.holds Try.pinned (OpenSpec.upto fnExactDualFormSpec)

/-- 'laws.FnExactWordOfDual', WHERE WHAT IT READS IS OF BULK AT MOST 1048576: true; the input reads as it did. -/
def fnExactWordOfDualUptoRow : OpenClaim := { program := "ytadjhggdddbicaa", sum := "ee21d7685c4db80deea9cef6c2d8255b8e228bc9f571b18815655483ed28e078", func := "loop.example/g01205/laws.FnExactWordOfDual", spec := "fnExactWordOfDual", unfollowed := true, recurses := true, apart := false, narrowed := true }
def FnExactWordOfDualUptoSaid : Prop := fnExactWordOfDualUptoRow.holds Try.pinned (OpenSpec.upto fnExactWordOfDualSpec)

/-- 'laws.FnExactEqualByBands', WHERE WHAT IT READS IS OF BULK AT MOST 1048576: true; the input reads as it did. -/
def fnExactEqualByBandsUptoRow : OpenClaim := { program := "ytadjhggdddbicaa", sum := "ee21d7685c4db80deea9cef6c2d8255b8e228bc9f571b18815655483ed28e078", func := "loop.example/g01205/laws.FnExactEqualByBands", spec := "fnExactEqualByBands", apart := false, narrowed := true }
def FnExactEqualByBandsUptoSaid : Prop := fnExactEqualByBandsUptoRow.holds Try.pinned (OpenSpec.upto fnExactEqualByBandsSpec)

end Rows
end Go.Proofs.Ytadjhggdddbicaa
