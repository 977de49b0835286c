/- The functions that a law uses, as Lean functions, and proofs that the Go code comes to just what they say: written by a program of this session over the translation. Conditions: as each theorem states. -/
import Derived.Test.YtdbmagdidkdeoaaProg
import Derived.Below
import Derived.Deep.Draws
import Derived.Deep.AppendLies
import Derived.Maps.AppendAt
import Derived.OwnWalk
import Derived.Laws.BytesArg
import Derived.Laws.MakeOwn
import Derived.Laws.OwnMore
import Derived.Deep.OwnRows
import Derived.Tactics
import Derived.Lib.ConvBytes
import Derived.Laws.Slices
import Derived.WalkKit
import Derived.KernelRfl
import Derived.RowKit3
import Derived.Deep.LoopGhost
import Derived.Deep.QuietTactic
import Derived.BigQuiet
import Derived.WideLaws
import Derived.Deep.DeepCutAuto
import Derived.Deep.CutBlock
import Derived.Deep.RegionHeld3
import Derived.Laws.Rows
import Derived.Lib.AppendStr
import Derived.ArgAppend
import Derived.Laws.IdiomCopy
import Derived.OrdersHeld
import Derived.Laws.BitsLemmas
import Derived.RowKit
import Derived.Test.YtdbmagdidkdeoaaStrCmp
import Derived.Test.YtdbmagdidkdeoaaShort
import Derived.Test.YtdbmagdidkdeoaaSfIndexByte
import Derived.Test.YtdbmagdidkdeoaaWWords
import Derived.Test.YtdbmagdidkdeoaaWLast
import Derived.Test.YtdbmagdidkdeoaaWTab
import Derived.Test.YtdbmagdidkdeoaaWFour
import Derived.Test.YtdbmagdidkdeoaaWQPut
import Derived.Test.YtdbmagdidkdeoaaWApart
import Derived.Test.YtdbmagdidkdeoaaWArr
import Derived.Test.YtdbmagdidkdeoaaWZeros
import Derived.Test.YtdbmagdidkdeoaaWFoot
import Derived.Test.YtdbmagdidkdeoaaWKept
import Derived.Test.YtdbmagdidkdeoaaWShare
import Derived.Test.YtdbmagdidkdeoaaWN
import Derived.Test.YtdbmagdidkdeoaaWFootNe
import Derived.Test.YtdbmagdidkdeoaaWAt
import Derived.Test.YtdbmagdidkdeoaaWEqStruct
import Derived.Test.YtdbmagdidkdeoaaWRepsOne
import Derived.Test.YtdbmagdidkdeoaaWInv
import Derived.Test.YtdbmagdidkdeoaaWInvWords
import Derived.Test.YtdbmagdidkdeoaaWGuard
import Derived.Test.YtdbmagdidkdeoaaWNEv
import Derived.Test.YtdbmagdidkdeoaaWMore
namespace Go.Proofs.Ytdbmagdidkdeoaa.QFnExactUnhex
open Go.RowKit Go.Proofs.Ytdbmagdidkdeoaa.Sf Go.Proofs.YtdbmagdidkdeoaaW.PrintWords Go.Proofs.YtdbmagdidkdeoaaW.PrintLast Go.Proofs.YtdbmagdidkdeoaaW.PrintMore Go.Proofs.YtdbmagdidkdeoaaW.Sh
attribute [local go_sem] max2_int min2_int max_two min_two max_three min_three max_four min_four   -- for this text's walks alone
set_option linter.unusedVariables false
set_option linter.unusedSimpArgs false



def errW : Option Int → Value
  | none => .nilIface
  | some c => .iface 0 (.int .i64 c)
theorem errW_none : errW none = .nilIface := rfl
theorem errW_some (c : Int) : errW (some c) = .iface 0 (.int .i64 c) := rfl

theorem info5 : (Try.prog.info? 5).map (fun i => (i.zero, i.size, i.bytes)) = some (some (.int .u8 0), 1, 1) := by kernel_rfl
-- the values' own types

end Go.Proofs.Ytdbmagdidkdeoaa.QFnExactUnhex
