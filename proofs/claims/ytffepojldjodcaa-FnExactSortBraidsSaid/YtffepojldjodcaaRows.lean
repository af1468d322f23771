/-
  No cell of these rows narrows 'for every input' (looked for: loops, veiled, ifaces, maps, wideKeys, modest, calm, conditions, laid).
  DERIVED. THE GIVEN ROWS OF THIS SEAT. 10 by the template 'for every input the law returns true; each argument reads behind the call as it read before'; 0 by the template 'total and deterministic' (their statements: YtffepojldjodcaaTotals.lean).
  GIVEN WITH THE SEED: the statements are not yours to turn. If you find one false, say at which input.
  Laid BY PROGRAM, IN A SANDBOX (cutbox-rows.mjs): the forced cells as the released guide's own fill.sh prints them over the translation e24eec9a48a91f93… (all of the seat's roots in one cut). By AI agents, Wed Nov 11 2026. No macro, syntax, notation, axiom, sorry.
-/
import Derived.Test.YtffepojldjodcaaChecked
import GoSem.Claim
import GoSem.ClaimJoined
import GoSem.ClaimMapViews
import Derived.JoinedTies
import Derived.KernelRfl
namespace Go.Proofs.Ytffepojldjodcaa
/- THE CELL 'sum', in the pinned program and in every row, IS THE sha256 OF THE DUMP (.gsa) THAT YtffepojldjodcaaProg.lean LOADS. Nothing in Lean hashes anything: it is a label: what it is worth is what the hold of that sum in a sandbox is worth. -/
noncomputable def Try.pinned : Pinned := { name := "ytffepojldjodcaa", sum := "e24eec9a48a91f931de171c8d4d22e143142580fd4abcab61cf9c73ed7990c36", checked := Try.checked }
namespace Rows
def none {H : Type} : Left H := { results := [], args := [] }

/-- 'laws.FnExactIsFreeWord': WHATEVER THE INPUT: true; the input reads as it did. -/
def fnExactIsFreeWordSpec : ChangeSpec := { name := "fnExactIsFreeWord", fn := fun _ => fun
  | [d1, d2] => { results := [.lit (.bool true)], args := [d1, d2] }
  | _ => none }
def fnExactIsFreeWordRow : OpenClaim := { program := "ytffepojldjodcaa", sum := "e24eec9a48a91f931de171c8d4d22e143142580fd4abcab61cf9c73ed7990c36", func := "loop.example/g01205/laws.FnExactIsFreeWord", spec := "fnExactIsFreeWord", apart := false }
def FnExactIsFreeWordSaid : Prop := fnExactIsFreeWordRow.holds Try.pinned (OpenSpec.ofChange fnExactIsFreeWordSpec)

/-- ITS FALSE NEIGHBOUR: 'it returns false'. Refute it at one input. -/
def fnExactIsFreeWordWrong : ChangeSpec := { name := "fnExactIsFreeWord", fn := fun _ => fun
  | [d1, d2] => { results := [.lit (.bool false)], args := [d1, d2] }
  | _ => none }
def FnExactIsFreeWordWrongFalsely : Prop := fnExactIsFreeWordRow.holds Try.pinned (OpenSpec.ofChange fnExactIsFreeWordWrong)

/-- 'laws.FnExactWordSign': WHATEVER THE INPUT: true; the input reads as it did. -/
def fnExactWordSignSpec : ChangeSpec := { name := "fnExactWordSign", fn := fun _ => fun
  | [d] => { results := [.lit (.bool true)], args := [d] }
  | _ => none }
def fnExactWordSignRow : OpenClaim := { program := "ytffepojldjodcaa", sum := "e24eec9a48a91f931de171c8d4d22e143142580fd4abcab61cf9c73ed7990c36", func := "loop.example/g01205/laws.FnExactWordSign", spec := "fnExactWordSign", apart := false }
def FnExactWordSignSaid : Prop := fnExactWordSignRow.holds Try.pinned (OpenSpec.ofChange fnExactWordSignSpec)

/-- ITS FALSE NEIGHBOUR: 'it returns false'. Refute it at one input. -/
def fnExactWordSignWrong : ChangeSpec := { name := "fnExactWordSign", fn := fun _ => fun
  | [d] => { results := [.lit (.bool false)], args := [d] }
  | _ => none }
def FnExactWordSignWrongFalsely : Prop := fnExactWordSignRow.holds Try.pinned (OpenSpec.ofChange fnExactWordSignWrong)

/-- 'laws.FnExactFirstHandle': WHATEVER THE INPUT: true; the input reads as it did. -/
def fnExactFirstHandleSpec : ChangeSpec := { name := "fnExactFirstHandle", fn := fun _ => fun
  | [d] => { results := [.lit (.bool true)], args := [d] }
  | _ => none }
def fnExactFirstHandleRow : OpenClaim := { program := "ytffepojldjodcaa", sum := "e24eec9a48a91f931de171c8d4d22e143142580fd4abcab61cf9c73ed7990c36", func := "loop.example/g01205/laws.FnExactFirstHandle", spec := "fnExactFirstHandle", apart := false }
def FnExactFirstHandleSaid : Prop := fnExactFirstHandleRow.holds Try.pinned (OpenSpec.ofChange fnExactFirstHandleSpec)

/-- ITS FALSE NEIGHBOUR: 'it returns false'. Refute it at one input. -/
def fnExactFirstHandleWrong : ChangeSpec := { name := "fnExactFirstHandle", fn := fun _ => fun
  | [d] => { results := [.lit (.bool false)], args := [d] }
  | _ => none }
def FnExactFirstHandleWrongFalsely : Prop := fnExactFirstHandleRow.holds Try.pinned (OpenSpec.ofChange fnExactFirstHandleWrong)

/-- 'laws.FnExactReduceHandle': WHATEVER THE INPUT: true; the input reads as it did. -/
def fnExactReduceHandleSpec : ChangeSpec := { name := "fnExactReduceHandle", fn := fun _ => fun
  | [d] => { results := [.lit (.bool true)], args := [d] }
  | _ => none }
def fnExactReduceHandleRow : OpenClaim := { program := "ytffepojldjodcaa", sum := "e24eec9a48a91f931de171c8d4d22e143142580fd4abcab61cf9c73ed7990c36", func := "loop.example/g01205/laws.FnExactReduceHandle", spec := "fnExactReduceHandle", apart := false }
def FnExactReduceHandleSaid : Prop := fnExactReduceHandleRow.holds Try.pinned (OpenSpec.ofChange fnExactReduceHandleSpec)

/-- ITS FALSE NEIGHBOUR: 'it returns false'. Refute it at one input. -/
def fnExactReduceHandleWrong : ChangeSpec := { name := "fnExactReduceHandle", fn := fun _ => fun
  | [d] => { results := [.lit (.bool false)], args := [d] }
  | _ => none }
def FnExactReduceHandleWrongFalsely : Prop := fnExactReduceHandleRow.holds Try.pinned (OpenSpec.ofChange fnExactReduceHandleWrong)

/-- 'laws.FnExactHandleFree': WHATEVER THE INPUT: true; the input reads as it did. -/
def fnExactHandleFreeSpec : ChangeSpec := { name := "fnExactHandleFree", fn := fun _ => fun
  | [d] => { results := [.lit (.bool true)], args := [d] }
  | _ => none }
def fnExactHandleFreeRow : OpenClaim := { program := "ytffepojldjodcaa", sum := "e24eec9a48a91f931de171c8d4d22e143142580fd4abcab61cf9c73ed7990c36", func := "loop.example/g01205/laws.FnExactHandleFree", spec := "fnExactHandleFree", apart := false }
def FnExactHandleFreeSaid : Prop := fnExactHandleFreeRow.holds Try.pinned (OpenSpec.ofChange fnExactHandleFreeSpec)

/-- ITS FALSE NEIGHBOUR: 'it returns false'. Refute it at one input. -/
def fnExactHandleFreeWrong : ChangeSpec := { name := "fnExactHandleFree", fn := fun _ => fun
  | [d] => { results := [.lit (.bool false)], args := [d] }
  | _ => none }
def FnExactHandleFreeWrongFalsely : Prop := fnExactHandleFreeRow.holds Try.pinned (OpenSpec.ofChange fnExactHandleFreeWrong)

/-- 'laws.FnExactMainLetter': WHATEVER THE INPUT: true; the input reads as it did. -/
def fnExactMainLetterSpec : ChangeSpec := { name := "fnExactMainLetter", fn := fun _ => fun
  | [d] => { results := [.lit (.bool true)], args := [d] }
  | _ => none }
def fnExactMainLetterRow : OpenClaim := { program := "ytffepojldjodcaa", sum := "e24eec9a48a91f931de171c8d4d22e143142580fd4abcab61cf9c73ed7990c36", func := "loop.example/g01205/laws.FnExactMainLetter", spec := "fnExactMainLetter", apart := false }
def FnExactMainLetterSaid : Prop := fnExactMainLetterRow.holds Try.pinned (OpenSpec.ofChange fnExactMainLetterSpec)

/-- ITS FALSE NEIGHBOUR: 'it returns false'. Refute it at one input. -/
def fnExactMainLetterWrong : ChangeSpec := { name := "fnExactMainLetter", fn := fun _ => fun
  | [d] => { results := [.lit (.bool false)], args := [d] }
  | _ => none }
def FnExactMainLetterWrongFalsely : Prop := fnExactMainLetterRow.holds Try.pinned (OpenSpec.ofChange fnExactMainLetterWrong)

/-- 'laws.FnExactIsTrivial': WHATEVER THE INPUT: true; the input reads as it did. -/
def fnExactIsTrivialSpec : ChangeSpec := { name := "fnExactIsTrivial", fn := fun _ => fun
  | [d] => { results := [.lit (.bool true)], args := [d] }
  | _ => none }
def fnExactIsTrivialRow : OpenClaim := { program := "ytffepojldjodcaa", sum := "e24eec9a48a91f931de171c8d4d22e143142580fd4abcab61cf9c73ed7990c36", func := "loop.example/g01205/laws.FnExactIsTrivial", spec := "fnExactIsTrivial", apart := false }
def FnExactIsTrivialSaid : Prop := fnExactIsTrivialRow.holds Try.pinned (OpenSpec.ofChange fnExactIsTrivialSpec)

/-- ITS FALSE NEIGHBOUR: 'it returns false'. Refute it at one input. -/
def fnExactIsTrivialWrong : ChangeSpec := { name := "fnExactIsTrivial", fn := fun _ => fun
  | [d] => { results := [.lit (.bool false)], args := [d] }
  | _ => none }
def FnExactIsTrivialWrongFalsely : Prop := fnExactIsTrivialRow.holds Try.pinned (OpenSpec.ofChange fnExactIsTrivialWrong)

/-- 'laws.FnExactCompareBraids': WHATEVER THE INPUT: true; the input reads as it did. -/
def fnExactCompareBraidsSpec : ChangeSpec := { name := "fnExactCompareBraids", fn := fun _ => fun
  | [d1, d2] => { results := [.lit (.bool true)], args := [d1, d2] }
  | _ => none }
def fnExactCompareBraidsRow : OpenClaim := { program := "ytffepojldjodcaa", sum := "e24eec9a48a91f931de171c8d4d22e143142580fd4abcab61cf9c73ed7990c36", func := "loop.example/g01205/laws.FnExactCompareBraids", spec := "fnExactCompareBraids", unfollowed := true, recurses := true, apart := false }
def FnExactCompareBraidsSaid : Prop := fnExactCompareBraidsRow.holds Try.pinned (OpenSpec.ofChange fnExactCompareBraidsSpec)

/-- ITS FALSE NEIGHBOUR: 'it returns false'. Refute it at one input. -/
def fnExactCompareBraidsWrong : ChangeSpec := { name := "fnExactCompareBraids", fn := fun _ => fun
  | [d1, d2] => { results := [.lit (.bool false)], args := [d1, d2] }
  | _ => none }
def FnExactCompareBraidsWrongFalsely : Prop := fnExactCompareBraidsRow.holds Try.pinned (OpenSpec.ofChange fnExactCompareBraidsWrong)

/-- 'laws.FnExactSortBraids': WHATEVER THE INPUT: true; the input reads as it did. -/
def fnExactSortBraidsSpec : ChangeSpec := { name := "fnExactSortBraids", fn := fun _ => fun
  | [d] => { results := [.lit (.bool true)], args := [d] }
  | _ => none }
def fnExactSortBraidsRow : OpenClaim := { program := "ytffepojldjodcaa", sum := "e24eec9a48a91f931de171c8d4d22e143142580fd4abcab61cf9c73ed7990c36", func := "loop.example/g01205/laws.FnExactSortBraids", spec := "fnExactSortBraids", unfollowed := true, recurses := true, apart := false }
def FnExactSortBraidsSaid : Prop := fnExactSortBraidsRow.holds Try.pinned (OpenSpec.ofChange fnExactSortBraidsSpec)

/-- ITS FALSE NEIGHBOUR: 'it returns false'. Refute it at one input. -/
def fnExactSortBraidsWrong : ChangeSpec := { name := "fnExactSortBraids", fn := fun _ => fun
  | [d] => { results := [.lit (.bool false)], args := [d] }
  | _ => none }
def FnExactSortBraidsWrongFalsely : Prop := fnExactSortBraidsRow.holds Try.pinned (OpenSpec.ofChange fnExactSortBraidsWrong)

/-- 'laws.FnExactFloorOf': WHATEVER THE INPUT: true; the input reads as it did. -/
def fnExactFloorOfSpec : ChangeSpec := { name := "fnExactFloorOf", fn := fun _ => fun
  | [d] => { results := [.lit (.bool true)], args := [d] }
  | _ => none }
def fnExactFloorOfRow : OpenClaim := { program := "ytffepojldjodcaa", sum := "e24eec9a48a91f931de171c8d4d22e143142580fd4abcab61cf9c73ed7990c36", func := "loop.example/g01205/laws.FnExactFloorOf", spec := "fnExactFloorOf", unfollowed := true, recurses := true, apart := false }
def FnExactFloorOfSaid : Prop := fnExactFloorOfRow.holds Try.pinned (OpenSpec.ofChange fnExactFloorOfSpec)

/-- ITS FALSE NEIGHBOUR: 'it returns false'. Refute it at one input. -/
def fnExactFloorOfWrong : ChangeSpec := { name := "fnExactFloorOf", fn := fun _ => fun
  | [d] => { results := [.lit (.bool false)], args := [d] }
  | _ => none }
def FnExactFloorOfWrongFalsely : Prop := fnExactFloorOfRow.holds Try.pinned (OpenSpec.ofChange fnExactFloorOfWrong)

/- THE SECOND FORM. 'bulk': how many values and letters a reading holds, each counted each time it is reached (what is shared counts as often as it is met; a slice's spare places count too). A statement '..UptoSaid' is the law's where the arguments, and the package variables that the reading takes, are together of bulk at most 1048576: NARROWER than '..Said'. Prove '..Said' where nothing that the law and all that it calls make is longer than what came in: it says more and counts as full. Else prove '..UptoSaid'. A law counts once. -/
mutual
def uptoBulk {H : Type} : DataW H → Nat
  | .lit (.string bytes) => bytes.length + 1
  | .lit _ => 1
  | .nil => 1
  | .ptr d => uptoBulk d + 1
  | .slice elems spare => uptoBulkAll elems + uptoBulkAll spare + 1
  | .agg parts => uptoBulkAll parts + 1
  | .iface _ d => uptoBulk d + 1
  | .map entries => uptoBulkEntries entries + 1
  | .held _ => 1
def uptoBulkAll {H : Type} : List (DataW H) → Nat
  | [] => 0
  | d :: r => uptoBulk d + uptoBulkAll r
def uptoBulkEntries {H : Type} : List (Lit × DataW H) → Nat
  | [] => 0
  | x :: r => uptoBulkEntry x + uptoBulkEntries r
def uptoBulkEntry {H : Type} : Lit × DataW H → Nat
  | (.string bytes, d) => bytes.length + uptoBulk d + 1
  | (_, d) => uptoBulk d + 1
 end
def uptoSmall : (H : Type) → List (DataW H) → Bool := fun _ ds => decide (uptoBulkAll ds ≤ 1048576)
def OpenSpec.upto (s : _root_.Go.ChangeSpec) : _root_.Go.OpenSpec := { _root_.Go.OpenSpec.ofChange s with cond := some uptoSmall }

/-- 'laws.FnExactIsFreeWord', WHERE WHAT IT READS IS OF BULK AT MOST 1048576: true; the input reads as it did. -/
def fnExactIsFreeWordUptoRow : OpenClaim := { program := "ytffepojldjodcaa", sum := "e24eec9a48a91f931de171c8d4d22e143142580fd4abcab61cf9c73ed7990c36", func := "loop.example/g01205/laws.FnExactIsFreeWord", spec := "fnExactIsFreeWord", apart := false, narrowed := true }
def FnExactIsFreeWordUptoSaid : Prop := fnExactIsFreeWordUptoRow.holds Try.pinned (OpenSpec.upto fnExactIsFreeWordSpec)

/-- 'laws.FnExactWordSign', WHERE WHAT IT READS IS OF BULK AT MOST 1048576: true; the input reads as it did. -/
def fnExactWordSignUptoRow : OpenClaim := { program := "ytffepojldjodcaa", sum := "e24eec9a48a91f931de171c8d4d22e143142580fd4abcab61cf9c73ed7990c36", func := "loop.example/g01205/laws.FnExactWordSign", spec := "fnExactWordSign", apart := false, narrowed := true }
def FnExactWordSignUptoSaid : Prop := fnExactWordSignUptoRow.holds Try.pinned (OpenSpec.upto fnExactWordSignSpec)

/-- 'laws.FnExactFirstHandle', WHERE WHAT IT READS IS OF BULK AT MOST 1048576: true; the input reads as it did. -/
def fnExactFirstHandleUptoRow : OpenClaim := { program := "ytffepojldjodcaa", sum := "e24eec9a48a91f931de171c8d4d22e143142580fd4abcab61cf9c73ed7990c36", func := "loop.example/g01205/laws.FnExactFirstHandle", spec := "fnExactFirstHandle", apart := false, narrowed := true }
def FnExactFirstHandleUptoSaid : Prop := fnExactFirstHandleUptoRow.holds Try.pinned (OpenSpec.upto fnExactFirstHandleSpec)

/-- 'laws.FnExactReduceHandle', WHERE WHAT IT READS IS OF BULK AT MOST 1048576: true; the input reads as it did. -/
def fnExactReduceHandleUptoRow : OpenClaim := { program := "ytffepojldjodcaa", sum := "e24eec9a48a91f931de171c8d4d22e143142580fd4abcab61cf9c73ed7990c36", func := "loop.example/g01205/laws.FnExactReduceHandle", spec := "fnExactReduceHandle", apart := false, narrowed := true }
def FnExactReduceHandleUptoSaid : Prop := fnExactReduceHandleUptoRow.holds Try.pinned (OpenSpec.upto fnExactReduceHandleSpec)

/-- 'laws.FnExactHandleFree', WHERE WHAT IT READS IS OF BULK AT MOST 1048576: true; the input reads as it did. -/
def fnExactHandleFreeUptoRow : OpenClaim := { program := "ytffepojldjodcaa", sum := "e24eec9a48a91f931de171c8d4d22e143142580fd4abcab61cf9c73ed7990c36", func := "loop.example/g01205/laws.FnExactHandleFree", spec := "fnExactHandleFree", apart := false, narrowed := true }
def FnExactHandleFreeUptoSaid : Prop := fnExactHandleFreeUptoRow.holds Try.pinned (OpenSpec.upto fnExactHandleFreeSpec)

/-- 'laws.FnExactMainLetter', WHERE WHAT IT READS IS OF BULK AT MOST 1048576: true; the input reads as it did. -/
def fnExactMainLetterUptoRow : OpenClaim := { program := "ytffepojldjodcaa", sum := "e24eec9a48a91f931de171c8d4d22e143142580fd4abcab61cf9c73ed7990c36", func := "loop.example/g01205/laws.FnExactMainLetter", spec := "fnExactMainLetter", apart := false, narrowed := true }
def FnExactMainLetterUptoSaid : Prop := fnExactMainLetterUptoRow.holds Try.pinned (OpenSpec.upto fnExactMainLetterSpec)

/-- 'laws.FnExactIsTrivial', WHERE WHAT IT READS IS OF BULK AT MOST 1048576: true; the input reads as it did. -/
def fnExactIsTrivialUptoRow : OpenClaim := { program := "ytffepojldjodcaa", sum := "e24eec9a48a91f931de171c8d4d22e143142580fd4abcab61cf9c73ed7990c36", func := "loop.example/g01205/laws.FnExactIsTrivial", spec := "fnExactIsTrivial", apart := false, narrowed := true }
def FnExactIsTrivialUptoSaid : Prop := fnExactIsTrivialUptoRow.holds Try.pinned (OpenSpec.upto fnExactIsTrivialSpec)

/-- 'laws.FnExactCompareBraids', WHERE WHAT IT READS IS OF BULK AT MOST 1048576: true; the input reads as it did. -/
def fnExactCompareBraidsUptoRow : OpenClaim := { program := "ytffepojldjodcaa", sum := "e24eec9a48a91f931de171c8d4d22e143142580fd4abcab61cf9c73ed7990c36", func := "loop.example/g01205/laws.FnExactCompareBraids", spec := "fnExactCompareBraids", unfollowed := true, recurses := true, apart := false, narrowed := true }
def FnExactCompareBraidsUptoSaid : Prop := fnExactCompareBraidsUptoRow.holds Try.pinned (OpenSpec.upto fnExactCompareBraidsSpec)

/-- 'laws.FnExactSortBraids', WHERE WHAT IT READS IS OF BULK AT MOST 1048576: true; the input reads as it did. -/
def fnExactSortBraidsUptoRow : OpenClaim := { program := "ytffepojldjodcaa", sum := "e24eec9a48a91f931de171c8d4d22e143142580fd4abcab61cf9c73ed7990c36", func := "loop.example/g01205/laws.FnExactSortBraids", spec := "fnExactSortBraids", unfollowed := true, recurses := true, apart := false, narrowed := true }
def FnExactSortBraidsUptoSaid : Prop := fnExactSortBraidsUptoRow.holds Try.pinned (OpenSpec.upto fnExactSortBraidsSpec)

/-- 'laws.FnExactFloorOf', WHERE WHAT IT READS IS OF BULK AT MOST 1048576: true; the input reads as it did. -/
def fnExactFloorOfUptoRow : OpenClaim := { program := "ytffepojldjodcaa", sum := "e24eec9a48a91f931de171c8d4d22e143142580fd4abcab61cf9c73ed7990c36", func := "loop.example/g01205/laws.FnExactFloorOf", spec := "fnExactFloorOf", unfollowed := true, recurses := true, apart := false, narrowed := true }
def FnExactFloorOfUptoSaid : Prop := fnExactFloorOfUptoRow.holds Try.pinned (OpenSpec.upto fnExactFloorOfSpec)

end Rows
end Go.Proofs.Ytffepojldjodcaa
