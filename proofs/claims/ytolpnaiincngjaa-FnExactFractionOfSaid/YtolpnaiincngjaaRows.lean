/-
  No cell of these rows narrows 'for every input' (looked for: loops, veiled, ifaces, maps, wideKeys, modest, calm, conditions, laid).
  DERIVED. THE GIVEN ROWS OF THIS SEAT. 16 by the template 'for every input the law returns true; each argument reads behind the call as it read before'; 0 by the template 'total and deterministic' (their statements: YtolpnaiincngjaaTotals.lean).
  GIVEN WITH THE SEED: the statements are not yours to turn. If you find one false, say at which input.
  Laid BY PROGRAM, IN A SANDBOX (cutbox-rows.mjs): the forced cells as the released guide's own fill.sh prints them over the translation aebd249d3cd48508… (all of the seat's roots in one cut). By AI agents, Wed Nov 11 2026. No macro, syntax, notation, axiom, sorry.
-/
import Derived.Test.YtolpnaiincngjaaChecked
import GoSem.Claim
import GoSem.ClaimJoined
import GoSem.ClaimMapViews
import Derived.JoinedTies
import Derived.KernelRfl
namespace Go.Proofs.Ytolpnaiincngjaa
/- THE CELL 'sum', in the pinned program and in every row, IS THE sha256 OF THE DUMP (.gsa) THAT YtolpnaiincngjaaProg.lean LOADS. Nothing in Lean hashes anything: it is a label: what it is worth is what the hold of that sum in a sandbox is worth. -/
noncomputable def Try.pinned : Pinned := { name := "ytolpnaiincngjaa", sum := "aebd249d3cd485083c769b90ef0117d0b7e43c0f6bdbf48d63c7454ec95275d6", checked := Try.checked }
namespace Rows
def none {H : Type} : Left H := { results := [], args := [] }

/-- 'laws.FnExactSameBraid': WHATEVER THE INPUT: true; the input reads as it did. -/
def fnExactSameBraidSpec : ChangeSpec := { name := "fnExactSameBraid", fn := fun _ => fun
  | [d1, d2] => { results := [.lit (.bool true)], args := [d1, d2] }
  | _ => none }
def fnExactSameBraidRow : OpenClaim := { program := "ytolpnaiincngjaa", sum := "aebd249d3cd485083c769b90ef0117d0b7e43c0f6bdbf48d63c7454ec95275d6", func := "loop.example/g01205/laws.FnExactSameBraid", spec := "fnExactSameBraid", apart := false }
def FnExactSameBraidSaid : Prop := fnExactSameBraidRow.holds Try.pinned (OpenSpec.ofChange fnExactSameBraidSpec)

/-- ITS FALSE NEIGHBOUR: 'it returns false'. Refute it at one input. -/
def fnExactSameBraidWrong : ChangeSpec := { name := "fnExactSameBraid", fn := fun _ => fun
  | [d1, d2] => { results := [.lit (.bool false)], args := [d1, d2] }
  | _ => none }
def FnExactSameBraidWrongFalsely : Prop := fnExactSameBraidRow.holds Try.pinned (OpenSpec.ofChange fnExactSameBraidWrong)

/-- 'laws.FnExactIsPeriodic': WHATEVER THE INPUT: true; the input reads as it did. -/
def fnExactIsPeriodicSpec : ChangeSpec := { name := "fnExactIsPeriodic", fn := fun _ => fun
  | [d] => { results := [.lit (.bool true)], args := [d] }
  | _ => none }
def fnExactIsPeriodicRow : OpenClaim := { program := "ytolpnaiincngjaa", sum := "aebd249d3cd485083c769b90ef0117d0b7e43c0f6bdbf48d63c7454ec95275d6", func := "loop.example/g01205/laws.FnExactIsPeriodic", spec := "fnExactIsPeriodic", apart := false }
def FnExactIsPeriodicSaid : Prop := fnExactIsPeriodicRow.holds Try.pinned (OpenSpec.ofChange fnExactIsPeriodicSpec)

/-- ITS FALSE NEIGHBOUR: 'it returns false'. Refute it at one input. -/
def fnExactIsPeriodicWrong : ChangeSpec := { name := "fnExactIsPeriodic", fn := fun _ => fun
  | [d] => { results := [.lit (.bool false)], args := [d] }
  | _ => none }
def FnExactIsPeriodicWrongFalsely : Prop := fnExactIsPeriodicRow.holds Try.pinned (OpenSpec.ofChange fnExactIsPeriodicWrong)

/-- 'laws.FnExactNormalOf': WHATEVER THE INPUT: true; the input reads as it did. -/
def fnExactNormalOfSpec : ChangeSpec := { name := "fnExactNormalOf", fn := fun _ => fun
  | [d] => { results := [.lit (.bool true)], args := [d] }
  | _ => none }
def fnExactNormalOfRow : OpenClaim := { program := "ytolpnaiincngjaa", sum := "aebd249d3cd485083c769b90ef0117d0b7e43c0f6bdbf48d63c7454ec95275d6", func := "loop.example/g01205/laws.FnExactNormalOf", spec := "fnExactNormalOf", apart := false }
def FnExactNormalOfSaid : Prop := fnExactNormalOfRow.holds Try.pinned (OpenSpec.ofChange fnExactNormalOfSpec)

/-- ITS FALSE NEIGHBOUR: 'it returns false'. Refute it at one input. -/
def fnExactNormalOfWrong : ChangeSpec := { name := "fnExactNormalOf", fn := fun _ => fun
  | [d] => { results := [.lit (.bool false)], args := [d] }
  | _ => none }
def FnExactNormalOfWrongFalsely : Prop := fnExactNormalOfRow.holds Try.pinned (OpenSpec.ofChange fnExactNormalOfWrong)

/-- 'laws.FnExactCyclingOf': WHATEVER THE INPUT: true; the input reads as it did. -/
def fnExactCyclingOfSpec : ChangeSpec := { name := "fnExactCyclingOf", fn := fun _ => fun
  | [d] => { results := [.lit (.bool true)], args := [d] }
  | _ => none }
def fnExactCyclingOfRow : OpenClaim := { program := "ytolpnaiincngjaa", sum := "aebd249d3cd485083c769b90ef0117d0b7e43c0f6bdbf48d63c7454ec95275d6", func := "loop.example/g01205/laws.FnExactCyclingOf", spec := "fnExactCyclingOf", unfollowed := true, recurses := true, apart := false }
def FnExactCyclingOfSaid : Prop := fnExactCyclingOfRow.holds Try.pinned (OpenSpec.ofChange fnExactCyclingOfSpec)

/-- ITS FALSE NEIGHBOUR: 'it returns false'. Refute it at one input. -/
def fnExactCyclingOfWrong : ChangeSpec := { name := "fnExactCyclingOf", fn := fun _ => fun
  | [d] => { results := [.lit (.bool false)], args := [d] }
  | _ => none }
def FnExactCyclingOfWrongFalsely : Prop := fnExactCyclingOfRow.holds Try.pinned (OpenSpec.ofChange fnExactCyclingOfWrong)

/-- 'laws.FnExactDecyclingOf': WHATEVER THE INPUT: true; the input reads as it did. -/
def fnExactDecyclingOfSpec : ChangeSpec := { name := "fnExactDecyclingOf", fn := fun _ => fun
  | [d] => { results := [.lit (.bool true)], args := [d] }
  | _ => none }
def fnExactDecyclingOfRow : OpenClaim := { program := "ytolpnaiincngjaa", sum := "aebd249d3cd485083c769b90ef0117d0b7e43c0f6bdbf48d63c7454ec95275d6", func := "loop.example/g01205/laws.FnExactDecyclingOf", spec := "fnExactDecyclingOf", unfollowed := true, recurses := true, apart := false }
def FnExactDecyclingOfSaid : Prop := fnExactDecyclingOfRow.holds Try.pinned (OpenSpec.ofChange fnExactDecyclingOfSpec)

/-- ITS FALSE NEIGHBOUR: 'it returns false'. Refute it at one input. -/
def fnExactDecyclingOfWrong : ChangeSpec := { name := "fnExactDecyclingOf", fn := fun _ => fun
  | [d] => { results := [.lit (.bool false)], args := [d] }
  | _ => none }
def FnExactDecyclingOfWrongFalsely : Prop := fnExactDecyclingOfRow.holds Try.pinned (OpenSpec.ofChange fnExactDecyclingOfWrong)

/-- 'laws.FnExactRightNormalOf': WHATEVER THE INPUT: true; the input reads as it did. -/
def fnExactRightNormalOfSpec : ChangeSpec := { name := "fnExactRightNormalOf", fn := fun _ => fun
  | [d] => { results := [.lit (.bool true)], args := [d] }
  | _ => none }
def fnExactRightNormalOfRow : OpenClaim := { program := "ytolpnaiincngjaa", sum := "aebd249d3cd485083c769b90ef0117d0b7e43c0f6bdbf48d63c7454ec95275d6", func := "loop.example/g01205/laws.FnExactRightNormalOf", spec := "fnExactRightNormalOf", apart := false }
def FnExactRightNormalOfSaid : Prop := fnExactRightNormalOfRow.holds Try.pinned (OpenSpec.ofChange fnExactRightNormalOfSpec)

/-- ITS FALSE NEIGHBOUR: 'it returns false'. Refute it at one input. -/
def fnExactRightNormalOfWrong : ChangeSpec := { name := "fnExactRightNormalOf", fn := fun _ => fun
  | [d] => { results := [.lit (.bool false)], args := [d] }
  | _ => none }
def FnExactRightNormalOfWrongFalsely : Prop := fnExactRightNormalOfRow.holds Try.pinned (OpenSpec.ofChange fnExactRightNormalOfWrong)

/-- 'laws.FnExactInverseNormal': WHATEVER THE INPUT: true; the input reads as it did. -/
def fnExactInverseNormalSpec : ChangeSpec := { name := "fnExactInverseNormal", fn := fun _ => fun
  | [d] => { results := [.lit (.bool true)], args := [d] }
  | _ => none }
def fnExactInverseNormalRow : OpenClaim := { program := "ytolpnaiincngjaa", sum := "aebd249d3cd485083c769b90ef0117d0b7e43c0f6bdbf48d63c7454ec95275d6", func := "loop.example/g01205/laws.FnExactInverseNormal", spec := "fnExactInverseNormal", apart := false }
def FnExactInverseNormalSaid : Prop := fnExactInverseNormalRow.holds Try.pinned (OpenSpec.ofChange fnExactInverseNormalSpec)

/-- ITS FALSE NEIGHBOUR: 'it returns false'. Refute it at one input. -/
def fnExactInverseNormalWrong : ChangeSpec := { name := "fnExactInverseNormal", fn := fun _ => fun
  | [d] => { results := [.lit (.bool false)], args := [d] }
  | _ => none }
def FnExactInverseNormalWrongFalsely : Prop := fnExactInverseNormalRow.holds Try.pinned (OpenSpec.ofChange fnExactInverseNormalWrong)

/-- 'laws.FnExactMultiplyNormals': WHATEVER THE INPUT: true; the input reads as it did. -/
def fnExactMultiplyNormalsSpec : ChangeSpec := { name := "fnExactMultiplyNormals", fn := fun _ => fun
  | [d1, d2] => { results := [.lit (.bool true)], args := [d1, d2] }
  | _ => none }
def fnExactMultiplyNormalsRow : OpenClaim := { program := "ytolpnaiincngjaa", sum := "aebd249d3cd485083c769b90ef0117d0b7e43c0f6bdbf48d63c7454ec95275d6", func := "loop.example/g01205/laws.FnExactMultiplyNormals", spec := "fnExactMultiplyNormals", apart := false }
def FnExactMultiplyNormalsSaid : Prop := fnExactMultiplyNormalsRow.holds Try.pinned (OpenSpec.ofChange fnExactMultiplyNormalsSpec)

/-- ITS FALSE NEIGHBOUR: 'it returns false'. Refute it at one input. -/
def fnExactMultiplyNormalsWrong : ChangeSpec := { name := "fnExactMultiplyNormals", fn := fun _ => fun
  | [d1, d2] => { results := [.lit (.bool false)], args := [d1, d2] }
  | _ => none }
def FnExactMultiplyNormalsWrongFalsely : Prop := fnExactMultiplyNormalsRow.holds Try.pinned (OpenSpec.ofChange fnExactMultiplyNormalsWrong)

/-- 'laws.FnExactIsBeginningOf': WHATEVER THE INPUT: true; the input reads as it did. -/
def fnExactIsBeginningOfSpec : ChangeSpec := { name := "fnExactIsBeginningOf", fn := fun _ => fun
  | [d1, d2] => { results := [.lit (.bool true)], args := [d1, d2] }
  | _ => none }
def fnExactIsBeginningOfRow : OpenClaim := { program := "ytolpnaiincngjaa", sum := "aebd249d3cd485083c769b90ef0117d0b7e43c0f6bdbf48d63c7454ec95275d6", func := "loop.example/g01205/laws.FnExactIsBeginningOf", spec := "fnExactIsBeginningOf", apart := false }
def FnExactIsBeginningOfSaid : Prop := fnExactIsBeginningOfRow.holds Try.pinned (OpenSpec.ofChange fnExactIsBeginningOfSpec)

/-- ITS FALSE NEIGHBOUR: 'it returns false'. Refute it at one input. -/
def fnExactIsBeginningOfWrong : ChangeSpec := { name := "fnExactIsBeginningOf", fn := fun _ => fun
  | [d1, d2] => { results := [.lit (.bool false)], args := [d1, d2] }
  | _ => none }
def FnExactIsBeginningOfWrongFalsely : Prop := fnExactIsBeginningOfRow.holds Try.pinned (OpenSpec.ofChange fnExactIsBeginningOfWrong)

/-- 'laws.FnExactFractionOf': WHATEVER THE INPUT: true; the input reads as it did. -/
def fnExactFractionOfSpec : ChangeSpec := { name := "fnExactFractionOf", fn := fun _ => fun
  | [d] => { results := [.lit (.bool true)], args := [d] }
  | _ => none }
def fnExactFractionOfRow : OpenClaim := { program := "ytolpnaiincngjaa", sum := "aebd249d3cd485083c769b90ef0117d0b7e43c0f6bdbf48d63c7454ec95275d6", func := "loop.example/g01205/laws.FnExactFractionOf", spec := "fnExactFractionOf", apart := false }
def FnExactFractionOfSaid : Prop := fnExactFractionOfRow.holds Try.pinned (OpenSpec.ofChange fnExactFractionOfSpec)

/-- ITS FALSE NEIGHBOUR: 'it returns false'. Refute it at one input. -/
def fnExactFractionOfWrong : ChangeSpec := { name := "fnExactFractionOf", fn := fun _ => fun
  | [d] => { results := [.lit (.bool false)], args := [d] }
  | _ => none }
def FnExactFractionOfWrongFalsely : Prop := fnExactFractionOfRow.holds Try.pinned (OpenSpec.ofChange fnExactFractionOfWrong)

/-- 'laws.FnExactConjugateBy': WHATEVER THE INPUT: true; the input reads as it did. -/
def fnExactConjugateBySpec : ChangeSpec := { name := "fnExactConjugateBy", fn := fun _ => fun
  | [d1, d2] => { results := [.lit (.bool true)], args := [d1, d2] }
  | _ => none }
def fnExactConjugateByRow : OpenClaim := { program := "ytolpnaiincngjaa", sum := "aebd249d3cd485083c769b90ef0117d0b7e43c0f6bdbf48d63c7454ec95275d6", func := "loop.example/g01205/laws.FnExactConjugateBy", spec := "fnExactConjugateBy", apart := false }
def FnExactConjugateBySaid : Prop := fnExactConjugateByRow.holds Try.pinned (OpenSpec.ofChange fnExactConjugateBySpec)

/-- ITS FALSE NEIGHBOUR: 'it returns false'. Refute it at one input. -/
def fnExactConjugateByWrong : ChangeSpec := { name := "fnExactConjugateBy", fn := fun _ => fun
  | [d1, d2] => { results := [.lit (.bool false)], args := [d1, d2] }
  | _ => none }
def FnExactConjugateByWrongFalsely : Prop := fnExactConjugateByRow.holds Try.pinned (OpenSpec.ofChange fnExactConjugateByWrong)

/-- 'laws.FnExactSummitLengths': WHATEVER THE INPUT: true; the input reads as it did. -/
def fnExactSummitLengthsSpec : ChangeSpec := { name := "fnExactSummitLengths", fn := fun _ => fun
  | [d] => { results := [.lit (.bool true)], args := [d] }
  | _ => none }
def fnExactSummitLengthsRow : OpenClaim := { program := "ytolpnaiincngjaa", sum := "aebd249d3cd485083c769b90ef0117d0b7e43c0f6bdbf48d63c7454ec95275d6", func := "loop.example/g01205/laws.FnExactSummitLengths", spec := "fnExactSummitLengths", unfollowed := true, recurses := true, apart := false }
def FnExactSummitLengthsSaid : Prop := fnExactSummitLengthsRow.holds Try.pinned (OpenSpec.ofChange fnExactSummitLengthsSpec)

/-- ITS FALSE NEIGHBOUR: 'it returns false'. Refute it at one input. -/
def fnExactSummitLengthsWrong : ChangeSpec := { name := "fnExactSummitLengths", fn := fun _ => fun
  | [d] => { results := [.lit (.bool false)], args := [d] }
  | _ => none }
def FnExactSummitLengthsWrongFalsely : Prop := fnExactSummitLengthsRow.holds Try.pinned (OpenSpec.ofChange fnExactSummitLengthsWrong)

/-- 'laws.FnExactPowerNormal': WHATEVER THE INPUT: true; the input reads as it did. -/
def fnExactPowerNormalSpec : ChangeSpec := { name := "fnExactPowerNormal", fn := fun _ => fun
  | [d1, d2] => { results := [.lit (.bool true)], args := [d1, d2] }
  | _ => none }
def fnExactPowerNormalRow : OpenClaim := { program := "ytolpnaiincngjaa", sum := "aebd249d3cd485083c769b90ef0117d0b7e43c0f6bdbf48d63c7454ec95275d6", func := "loop.example/g01205/laws.FnExactPowerNormal", spec := "fnExactPowerNormal", apart := false }
def FnExactPowerNormalSaid : Prop := fnExactPowerNormalRow.holds Try.pinned (OpenSpec.ofChange fnExactPowerNormalSpec)

/-- ITS FALSE NEIGHBOUR: 'it returns false'. Refute it at one input. -/
def fnExactPowerNormalWrong : ChangeSpec := { name := "fnExactPowerNormal", fn := fun _ => fun
  | [d1, d2] => { results := [.lit (.bool false)], args := [d1, d2] }
  | _ => none }
def FnExactPowerNormalWrongFalsely : Prop := fnExactPowerNormalRow.holds Try.pinned (OpenSpec.ofChange fnExactPowerNormalWrong)

/-- 'laws.FnExactSlidingOf': WHATEVER THE INPUT: true; the input reads as it did. -/
def fnExactSlidingOfSpec : ChangeSpec := { name := "fnExactSlidingOf", fn := fun _ => fun
  | [d] => { results := [.lit (.bool true)], args := [d] }
  | _ => none }
def fnExactSlidingOfRow : OpenClaim := { program := "ytolpnaiincngjaa", sum := "aebd249d3cd485083c769b90ef0117d0b7e43c0f6bdbf48d63c7454ec95275d6", func := "loop.example/g01205/laws.FnExactSlidingOf", spec := "fnExactSlidingOf", unfollowed := true, recurses := true, apart := false }
def FnExactSlidingOfSaid : Prop := fnExactSlidingOfRow.holds Try.pinned (OpenSpec.ofChange fnExactSlidingOfSpec)

/-- ITS FALSE NEIGHBOUR: 'it returns false'. Refute it at one input. -/
def fnExactSlidingOfWrong : ChangeSpec := { name := "fnExactSlidingOf", fn := fun _ => fun
  | [d] => { results := [.lit (.bool false)], args := [d] }
  | _ => none }
def FnExactSlidingOfWrongFalsely : Prop := fnExactSlidingOfRow.holds Try.pinned (OpenSpec.ofChange fnExactSlidingOfWrong)

/-- 'laws.FnExactSummitOf': WHATEVER THE INPUT: true; the input reads as it did. -/
def fnExactSummitOfSpec : ChangeSpec := { name := "fnExactSummitOf", fn := fun _ => fun
  | [d] => { results := [.lit (.bool true)], args := [d] }
  | _ => none }
def fnExactSummitOfRow : OpenClaim := { program := "ytolpnaiincngjaa", sum := "aebd249d3cd485083c769b90ef0117d0b7e43c0f6bdbf48d63c7454ec95275d6", func := "loop.example/g01205/laws.FnExactSummitOf", spec := "fnExactSummitOf", unfollowed := true, recurses := true, apart := false }
def FnExactSummitOfSaid : Prop := fnExactSummitOfRow.holds Try.pinned (OpenSpec.ofChange fnExactSummitOfSpec)

/-- ITS FALSE NEIGHBOUR: 'it returns false'. Refute it at one input. -/
def fnExactSummitOfWrong : ChangeSpec := { name := "fnExactSummitOf", fn := fun _ => fun
  | [d] => { results := [.lit (.bool false)], args := [d] }
  | _ => none }
def FnExactSummitOfWrongFalsely : Prop := fnExactSummitOfRow.holds Try.pinned (OpenSpec.ofChange fnExactSummitOfWrong)

/-- 'laws.FnExactCommonBeginning': WHATEVER THE INPUT: true; the input reads as it did. -/
def fnExactCommonBeginningSpec : ChangeSpec := { name := "fnExactCommonBeginning", fn := fun _ => fun
  | [d1, d2] => { results := [.lit (.bool true)], args := [d1, d2] }
  | _ => none }
def fnExactCommonBeginningRow : OpenClaim := { program := "ytolpnaiincngjaa", sum := "aebd249d3cd485083c769b90ef0117d0b7e43c0f6bdbf48d63c7454ec95275d6", func := "loop.example/g01205/laws.FnExactCommonBeginning", spec := "fnExactCommonBeginning", apart := false }
def FnExactCommonBeginningSaid : Prop := fnExactCommonBeginningRow.holds Try.pinned (OpenSpec.ofChange fnExactCommonBeginningSpec)

/-- ITS FALSE NEIGHBOUR: 'it returns false'. Refute it at one input. -/
def fnExactCommonBeginningWrong : ChangeSpec := { name := "fnExactCommonBeginning", fn := fun _ => fun
  | [d1, d2] => { results := [.lit (.bool false)], args := [d1, d2] }
  | _ => none }
def FnExactCommonBeginningWrongFalsely : Prop := fnExactCommonBeginningRow.holds Try.pinned (OpenSpec.ofChange fnExactCommonBeginningWrong)

/- THE SECOND FORM. 'bulk': how many values and letters a reading holds, each counted each time it is reached (what is shared counts as often as it is met; a slice's spare places count too). A statement '..UptoSaid' is the law's where the arguments, and the package variables that the reading takes, are together of bulk at most 1048576: NARROWER than '..Said'. Prove '..Said' where nothing that the law and all that it calls make is longer than what came in: it says more and counts as full. Else prove '..UptoSaid'. A law counts once. -/
mutual
def uptoBulk {H : Type} : DataW H → Nat
  | .lit (.string bytes) => bytes.length + 1
  | .lit _ => 1
  | .nil => 1
  | .ptr d => uptoBulk d + 1
  | .slice elems spare => uptoBulkAll elems + uptoBulkAll spare + 1
  | .agg parts => uptoBulkAll parts + 1
  | .iface _ d => uptoBulk d + 1
  | .map entries => uptoBulkEntries entries + 1
  | .held _ => 1
def uptoBulkAll {H : Type} : List (DataW H) → Nat
  | [] => 0
  | d :: r => uptoBulk d + uptoBulkAll r
def uptoBulkEntries {H : Type} : List (Lit × DataW H) → Nat
  | [] => 0
  | x :: r => uptoBulkEntry x + uptoBulkEntries r
def uptoBulkEntry {H : Type} : Lit × DataW H → Nat
  | (.string bytes, d) => bytes.length + uptoBulk d + 1
  | (_, d) => uptoBulk d + 1
 end
def uptoSmall : (H : Type) → List (DataW H) → Bool := fun _ ds => decide (uptoBulkAll ds ≤ 1048576)
def OpenSpec.upto (s : _root_.Go.ChangeSpec) : _root_.Go.OpenSpec := { _root_.Go.OpenSpec.ofChange s with cond := some uptoSmall }

/-- 'laws.FnExactSameBraid', WHERE WHAT IT READS IS OF BULK AT MOST 1048576: true; the input reads as it did. -/
def fnExactSameBraidUptoRow : OpenClaim := { program := "ytolpnaiincngjaa", sum := "aebd249d3cd485083c769b90ef0117d0b7e43c0f6bdbf48d63c7454ec95275d6", func := "loop.example/g01205/laws.FnExactSameBraid", spec := "fnExactSameBraid", apart := false, narrowed := true }
def FnExactSameBraidUptoSaid : Prop := fnExactSameBraidUptoRow.holds Try.pinned (OpenSpec.upto fnExactSameBraidSpec)

/-- 'laws.FnExactIsPeriodic', WHERE WHAT IT READS IS OF BULK AT MOST 1048576: true; the input reads as it did. -/
def fnExactIsPeriodicUptoRow : OpenClaim := { program := "ytolpnaiincngjaa", sum := "aebd249d3cd485083c769b90ef0117d0b7e43c0f6bdbf48d63c7454ec95275d6", func := "loop.example/g01205/laws.FnExactIsPeriodic", spec := "fnExactIsPeriodic", apart := false, narrowed := true }
def FnExactIsPeriodicUptoSaid : Prop := fnExactIsPeriodicUptoRow.holds Try.pinned (OpenSpec.upto fnExactIsPeriodicSpec)

/-- 'laws.FnExactNormalOf', WHERE WHAT IT READS IS OF BULK AT MOST 1048576: true; the input reads as it did. -/
def fnExactNormalOfUptoRow : OpenClaim := { program := "ytolpnaiincngjaa", sum := "aebd249d3cd485083c769b90ef0117d0b7e43c0f6bdbf48d63c7454ec95275d6", func := "loop.example/g01205/laws.FnExactNormalOf", spec := "fnExactNormalOf", apart := false, narrowed := true }
def FnExactNormalOfUptoSaid : Prop := fnExactNormalOfUptoRow.holds Try.pinned (OpenSpec.upto fnExactNormalOfSpec)

/-- 'laws.FnExactCyclingOf', WHERE WHAT IT READS IS OF BULK AT MOST 1048576: true; the input reads as it did. -/
def fnExactCyclingOfUptoRow : OpenClaim := { program := "ytolpnaiincngjaa", sum := "aebd249d3cd485083c769b90ef0117d0b7e43c0f6bdbf48d63c7454ec95275d6", func := "loop.example/g01205/laws.FnExactCyclingOf", spec := "fnExactCyclingOf", unfollowed := true, recurses := true, apart := false, narrowed := true }
def FnExactCyclingOfUptoSaid : Prop := fnExactCyclingOfUptoRow.holds Try.pinned (OpenSpec.upto fnExactCyclingOfSpec)

/-- 'laws.FnExactDecyclingOf', WHERE WHAT IT READS IS OF BULK AT MOST 1048576: true; the input reads as it did. -/
def fnExactDecyclingOfUptoRow : OpenClaim := { program := "ytolpnaiincngjaa", sum := "aebd249d3cd485083c769b90ef0117d0b7e43c0f6bdbf48d63c7454ec95275d6", func := "loop.example/g01205/laws.FnExactDecyclingOf", spec := "fnExactDecyclingOf", unfollowed := true, recurses := true, apart := false, narrowed := true }
def FnExactDecyclingOfUptoSaid : Prop := fnExactDecyclingOfUptoRow.holds Try.pinned (OpenSpec.upto fnExactDecyclingOfSpec)

/-- 'laws.FnExactRightNormalOf', WHERE WHAT IT READS IS OF BULK AT MOST 1048576: true; the input reads as it did. -/
def fnExactRightNormalOfUptoRow : OpenClaim := { program := "ytolpnaiincngjaa", sum := "aebd249d3cd485083c769b90ef0117d0b7e43c0f6bdbf48d63c7454ec95275d6", func := "loop.example/g01205/laws.FnExactRightNormalOf", spec := "fnExactRightNormalOf", apart := false, narrowed := true }
def FnExactRightNormalOfUptoSaid : Prop := fnExactRightNormalOfUptoRow.holds Try.pinned (OpenSpec.upto fnExactRightNormalOfSpec)

/-- 'laws.FnExactInverseNormal', WHERE WHAT IT READS IS OF BULK AT MOST 1048576: true; the input reads as it did. -/
def fnExactInverseNormalUptoRow : OpenClaim := { program := "ytolpnaiincngjaa", sum := "aebd249d3cd485083c769b90ef0117d0b7e43c0f6bdbf48d63c7454ec95275d6", func := "loop.example/g01205/laws.FnExactInverseNormal", spec := "fnExactInverseNormal", apart := false, narrowed := true }
def FnExactInverseNormalUptoSaid : Prop := fnExactInverseNormalUptoRow.holds Try.pinned (OpenSpec.upto fnExactInverseNormalSpec)

/-- 'laws.FnExactMultiplyNormals', WHERE WHAT IT READS IS OF BULK AT MOST 1048576: true; the input reads as it did. -/
def fnExactMultiplyNormalsUptoRow : OpenClaim := { program := "ytolpnaiincngjaa", sum := "aebd249d3cd485083c769b90ef0117d0b7e43c0f6bdbf48d63c7454ec95275d6", func := "loop.example/g01205/laws.FnExactMultiplyNormals", spec := "fnExactMultiplyNormals", apart := false, narrowed := true }
def FnExactMultiplyNormalsUptoSaid : Prop := fnExactMultiplyNormalsUptoRow.holds Try.pinned (OpenSpec.upto fnExactMultiplyNormalsSpec)

/-- 'laws.FnExactIsBeginningOf', WHERE WHAT IT READS IS OF BULK AT MOST 1048576: true; the input reads as it did. -/
def fnExactIsBeginningOfUptoRow : OpenClaim := { program := "ytolpnaiincngjaa", sum := "aebd249d3cd485083c769b90ef0117d0b7e43c0f6bdbf48d63c7454ec95275d6", func := "loop.example/g01205/laws.FnExactIsBeginningOf", spec := "fnExactIsBeginningOf", apart := false, narrowed := true }
def FnExactIsBeginningOfUptoSaid : Prop := fnExactIsBeginningOfUptoRow.holds Try.pinned (OpenSpec.upto fnExactIsBeginningOfSpec)

/-- 'laws.FnExactFractionOf', WHERE WHAT IT READS IS OF BULK AT MOST 1048576: true; the input reads as it did. -/
def fnExactFractionOfUptoRow : OpenClaim := { program := "ytolpnaiincngjaa", sum := "aebd249d3cd485083c769b90ef0117d0b7e43c0f6bdbf48d63c7454ec95275d6", func := "loop.example/g01205/laws.FnExactFractionOf", spec := "fnExactFractionOf", apart := false, narrowed := true }
def FnExactFractionOfUptoSaid : Prop := fnExactFractionOfUptoRow.holds Try.pinned (OpenSpec.upto fnExactFractionOfSpec)

/-- 'laws.FnExactConjugateBy', WHERE WHAT IT READS IS OF BULK AT MOST 1048576: true; the input reads as it did. -/
def fnExactConjugateByUptoRow : OpenClaim := { program := "ytolpnaiincngjaa", sum := "aebd249d3cd485083c769b90ef0117d0b7e43c0f6bdbf48d63c7454ec95275d6", func := "loop.example/g01205/laws.FnExactConjugateBy", spec := "fnExactConjugateBy", apart := false, narrowed := true }
def FnExactConjugateByUptoSaid : Prop := fnExactConjugateByUptoRow.holds Try.pinned (OpenSpec.upto fnExactConjugateBySpec)

/-- 'laws.FnExactSummitLengths', WHERE WHAT IT READS IS OF BULK AT MOST 1048576: true; the input reads as it did. -/
def fnExactSummitLengthsUptoRow : OpenClaim := { program := "ytolpnaiincngjaa", sum := "aebd249d3cd485083c769b90ef0117d0b7e43c0f6bdbf48d63c7454ec95275d6", func := "loop.example/g01205/laws.FnExactSummitLengths", spec := "fnExactSummitLengths", unfollowed := true, recurses := true, apart := false, narrowed := true }
def FnExactSummitLengthsUptoSaid : Prop := fnExactSummitLengthsUptoRow.holds Try.pinned (OpenSpec.upto fnExactSummitLengthsSpec)

/-- 'laws.FnExactPowerNormal', WHERE WHAT IT READS IS OF BULK AT MOST 1048576: true; the input reads as it did. -/
def fnExactPowerNormalUptoRow : OpenClaim := { program := "ytolpnaiincngjaa", sum := "aebd249d3cd485083c769b90ef0117d0b7e43c0f6bdbf48d63c7454ec95275d6", func := "loop.example/g01205/laws.FnExactPowerNormal", spec := "fnExactPowerNormal", apart := false, narrowed := true }
def FnExactPowerNormalUptoSaid : Prop := fnExactPowerNormalUptoRow.holds Try.pinned (OpenSpec.upto fnExactPowerNormalSpec)

/-- 'laws.FnExactSlidingOf', WHERE WHAT IT READS IS OF BULK AT MOST 1048576: true; the input reads as it did. -/
def fnExactSlidingOfUptoRow : OpenClaim := { program := "ytolpnaiincngjaa", sum := "aebd249d3cd485083c769b90ef0117d0b7e43c0f6bdbf48d63c7454ec95275d6", func := "loop.example/g01205/laws.FnExactSlidingOf", spec := "fnExactSlidingOf", unfollowed := true, recurses := true, apart := false, narrowed := true }
def FnExactSlidingOfUptoSaid : Prop := fnExactSlidingOfUptoRow.holds Try.pinned (OpenSpec.upto fnExactSlidingOfSpec)

/-- 'laws.FnExactSummitOf', WHERE WHAT IT READS IS OF BULK AT MOST 1048576: true; the input reads as it did. -/
def fnExactSummitOfUptoRow : OpenClaim := { program := "ytolpnaiincngjaa", sum := "aebd249d3cd485083c769b90ef0117d0b7e43c0f6bdbf48d63c7454ec95275d6", func := "loop.example/g01205/laws.FnExactSummitOf", spec := "fnExactSummitOf", unfollowed := true, recurses := true, apart := false, narrowed := true }
def FnExactSummitOfUptoSaid : Prop := fnExactSummitOfUptoRow.holds Try.pinned (OpenSpec.upto fnExactSummitOfSpec)

/-- 'laws.FnExactCommonBeginning', WHERE WHAT IT READS IS OF BULK AT MOST 1048576: true; the input reads as it did. -/
def fnExactCommonBeginningUptoRow : OpenClaim := { program := "ytolpnaiincngjaa", sum := "aebd249d3cd485083c769b90ef0117d0b7e43c0f6bdbf48d63c7454ec95275d6", func := "loop.example/g01205/laws.FnExactCommonBeginning", spec := "fnExactCommonBeginning", apart := false, narrowed := true }
def FnExactCommonBeginningUptoSaid : Prop := fnExactCommonBeginningUptoRow.holds Try.pinned (OpenSpec.upto fnExactCommonBeginningSpec)

end Rows
end Go.Proofs.Ytolpnaiincngjaa
