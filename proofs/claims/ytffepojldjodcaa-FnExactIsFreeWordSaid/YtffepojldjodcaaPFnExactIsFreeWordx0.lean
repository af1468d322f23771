-- PRINTED BY print.sh 35421559b90ae4d0a3588c463048766b98c2df88dd9212a6774a882060cdf62d: not written by this session
import Derived.Test.YtffepojldjodcaaProg
import Derived.Below
import Derived.Deep.Draws
import Derived.Deep.AppendLies
import Derived.Maps.AppendAt
import Derived.OwnWalk
import Derived.Laws.BytesArg
import Derived.Laws.MakeOwn
import Derived.Laws.OwnMore
import Derived.Deep.OwnRows
import Derived.Tactics
import Derived.Lib.ConvBytes
import Derived.Laws.Slices
import Derived.WalkKit
import Derived.KernelRfl
import Derived.RowKit3
import Derived.Deep.LoopGhost
import Derived.Deep.QuietTactic
import Derived.BigQuiet
import Derived.WideLaws
import Derived.Deep.DeepCutAuto
import Derived.Deep.CutBlock
import Derived.Deep.RegionHeld3
import Derived.Laws.Rows
import Derived.Lib.AppendStr
import Derived.ArgAppend
import Derived.Laws.IdiomCopy
import Derived.OrdersHeld
import Derived.Laws.BitsLemmas
import Derived.RowKit
import Derived.Test.YtffepojldjodcaaWWords
import Derived.Test.YtffepojldjodcaaWLast
import Derived.Test.YtffepojldjodcaaWTab
import Derived.Test.YtffepojldjodcaaWFour
import Derived.Test.YtffepojldjodcaaWQPut
import Derived.Test.YtffepojldjodcaaWApart
import Derived.Test.YtffepojldjodcaaWArr
import Derived.Test.YtffepojldjodcaaWZeros
import Derived.Test.YtffepojldjodcaaWFoot
import Derived.Test.YtffepojldjodcaaWKept
import Derived.Test.YtffepojldjodcaaWShare
import Derived.Test.YtffepojldjodcaaWN
import Derived.Test.YtffepojldjodcaaWFootNe
import Derived.Test.YtffepojldjodcaaWAt
import Derived.Test.YtffepojldjodcaaWEqStruct
import Derived.Test.YtffepojldjodcaaWRepsOne
import Derived.Test.YtffepojldjodcaaWInv
import Derived.Test.YtffepojldjodcaaWInvWords
import Derived.Test.YtffepojldjodcaaWGuard
import Derived.Test.YtffepojldjodcaaWNEv
import Derived.Test.YtffepojldjodcaaWMore
namespace Go.Proofs.Ytffepojldjodcaa.PFnExactIsFreeWord
open Go.RowKit Go.Proofs.YtffepojldjodcaaW.PrintWords Go.Proofs.YtffepojldjodcaaW.PrintLast Go.Proofs.YtffepojldjodcaaW.PrintMore
attribute [local go_sem] max2_int min2_int max_two min_two max_three min_three max_four min_four   -- for this text's walks alone
set_option linter.unusedVariables false
set_option linter.unusedSimpArgs false



def errW : Option Int → Value
  | none => .nilIface
  | some c => .iface 0 (.int .i64 c)
theorem errW_none : errW none = .nilIface := rfl
theorem errW_some (c : Int) : errW (some c) = .iface 0 (.int .i64 c) := rfl

theorem info2 : (Try.prog.info? 2).map (fun i => (i.zero, i.size, i.bytes)) = some (some (.int .i64 0), 1, 8) := by kernel_rfl
-- the values' own types

end Go.Proofs.Ytffepojldjodcaa.PFnExactIsFreeWord
