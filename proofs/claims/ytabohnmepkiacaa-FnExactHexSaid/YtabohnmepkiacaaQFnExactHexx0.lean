/- The functions that a law uses, as Lean functions, and proofs that the Go code comes to just what they say: written by a program of this session over the translation. Conditions: as each theorem states. -/
import Derived.Test.YtabohnmepkiacaaProg
import Derived.Below
import Derived.Deep.Draws
import Derived.Deep.AppendLies
import Derived.Maps.AppendAt
import Derived.OwnWalk
import Derived.Laws.BytesArg
import Derived.Laws.MakeOwn
import Derived.Laws.OwnMore
import Derived.Deep.OwnRows
import Derived.Tactics
import Derived.Lib.ConvBytes
import Derived.Laws.Slices
import Derived.WalkKit
import Derived.KernelRfl
import Derived.RowKit3
import Derived.Deep.LoopGhost
import Derived.Deep.QuietTactic
import Derived.BigQuiet
import Derived.WideLaws
import Derived.Deep.DeepCutAuto
import Derived.Deep.CutBlock
import Derived.Deep.RegionHeld3
import Derived.Laws.Rows
import Derived.Lib.AppendStr
import Derived.ArgAppend
import Derived.Laws.IdiomCopy
import Derived.OrdersHeld
import Derived.Laws.BitsLemmas
import Derived.RowKit
import Derived.Test.YtabohnmepkiacaaStrCmp
import Derived.Test.YtabohnmepkiacaaWWords
import Derived.Test.YtabohnmepkiacaaWLast
import Derived.Test.YtabohnmepkiacaaWTab
import Derived.Test.YtabohnmepkiacaaWFour
import Derived.Test.YtabohnmepkiacaaWQPut
import Derived.Test.YtabohnmepkiacaaWApart
import Derived.Test.YtabohnmepkiacaaWArr
import Derived.Test.YtabohnmepkiacaaWZeros
import Derived.Test.YtabohnmepkiacaaWFoot
import Derived.Test.YtabohnmepkiacaaWKept
import Derived.Test.YtabohnmepkiacaaWShare
import Derived.Test.YtabohnmepkiacaaWN
import Derived.Test.YtabohnmepkiacaaWFootNe
import Derived.Test.YtabohnmepkiacaaWAt
import Derived.Test.YtabohnmepkiacaaWEqStruct
import Derived.Test.YtabohnmepkiacaaWRepsOne
import Derived.Test.YtabohnmepkiacaaWInv
import Derived.Test.YtabohnmepkiacaaWInvWords
import Derived.Test.YtabohnmepkiacaaWGuard
import Derived.Test.YtabohnmepkiacaaWNEv
import Derived.Test.YtabohnmepkiacaaWMore
namespace Go.Proofs.Ytabohnmepkiacaa.QFnExactHex
open Go.RowKit Go.Proofs.YtabohnmepkiacaaW.PrintWords Go.Proofs.YtabohnmepkiacaaW.PrintLast Go.Proofs.YtabohnmepkiacaaW.PrintMore
attribute [local go_sem] max2_int min2_int max_two min_two max_three min_three max_four min_four   -- for this text's walks alone
set_option linter.unusedVariables false
set_option linter.unusedSimpArgs false



def errW : Option Int → Value
  | none => .nilIface
  | some c => .iface 0 (.int .i64 c)
theorem errW_none : errW none = .nilIface := rfl
theorem errW_some (c : Int) : errW (some c) = .iface 0 (.int .i64 c) := rfl

theorem info5 : (Try.prog.info? 5).map (fun i => (i.zero, i.size, i.bytes)) = some (some (.int .u8 0), 1, 1) := by kernel_rfl
-- the values' own types

end Go.Proofs.Ytabohnmepkiacaa.QFnExactHex
