/- The functions that a law uses, as Lean functions, and proofs that the Go code comes to just what they say: written by a program of this session over the translation. Conditions: as each theorem states. -/
import Derived.Test.YtoddbednkedmaaaDoorProg
import Derived.Below
import Derived.Deep.Draws
import Derived.Deep.AppendLies
import Derived.Maps.AppendAt
import Derived.OwnWalk
import Derived.Laws.BytesArg
import Derived.Laws.MakeOwn
import Derived.Laws.OwnMore
import Derived.Deep.OwnRows
import Derived.Tactics
import Derived.Lib.ConvBytes
import Derived.Laws.Slices
import Derived.WalkKit
import Derived.KernelRfl
import Derived.RowKit3
import Derived.Deep.LoopGhost
import Derived.Deep.QuietTactic
import Derived.BigQuiet
import Derived.WideLaws
import Derived.Deep.DeepCutAuto
import Derived.Deep.CutBlock
import Derived.Deep.RegionHeld3
import Derived.Laws.Rows
import Derived.Lib.AppendStr
import Derived.ArgAppend
import Derived.Laws.IdiomCopy
import Derived.OrdersHeld
import Derived.Laws.BitsLemmas
import Derived.RowKit
import Derived.Test.YtoddbednkedmaaaDoorStrCmp
import Derived.Test.YtoddbednkedmaaaDoorWWords
import Derived.Test.YtoddbednkedmaaaDoorWLast
import Derived.Test.YtoddbednkedmaaaDoorWTab
import Derived.Test.YtoddbednkedmaaaDoorWFour
import Derived.Test.YtoddbednkedmaaaDoorWQPut
import Derived.Test.YtoddbednkedmaaaDoorWApart
import Derived.Test.YtoddbednkedmaaaDoorWArr
import Derived.Test.YtoddbednkedmaaaDoorWZeros
import Derived.Test.YtoddbednkedmaaaDoorWFoot
import Derived.Test.YtoddbednkedmaaaDoorWKept
import Derived.Test.YtoddbednkedmaaaDoorWShare
import Derived.Test.YtoddbednkedmaaaDoorWN
import Derived.Test.YtoddbednkedmaaaDoorWFootNe
import Derived.Test.YtoddbednkedmaaaDoorWAt
import Derived.Test.YtoddbednkedmaaaDoorWEqStruct
import Derived.Test.YtoddbednkedmaaaDoorWRepsOne
import Derived.Test.YtoddbednkedmaaaDoorWInv
import Derived.Test.YtoddbednkedmaaaDoorWInvWords
import Derived.Test.YtoddbednkedmaaaDoorWGuard
import Derived.Test.YtoddbednkedmaaaDoorWNEv
import Derived.Test.YtoddbednkedmaaaDoorWMore
namespace Go.Proofs.YtoddbednkedmaaaDoor.QFnExactDecimal
open Go.RowKit Go.Proofs.YtoddbednkedmaaaDoorW.PrintWords Go.Proofs.YtoddbednkedmaaaDoorW.PrintLast Go.Proofs.YtoddbednkedmaaaDoorW.PrintMore
attribute [local go_sem] max2_int min2_int max_two min_two max_three min_three max_four min_four   -- for this text's walks alone
set_option linter.unusedVariables false
set_option linter.unusedSimpArgs false



def errW : Option Int → Value
  | none => .nilIface
  | some c => .iface 0 (.int .i64 c)
theorem errW_none : errW none = .nilIface := rfl
theorem errW_some (c : Int) : errW (some c) = .iface 0 (.int .i64 c) := rfl

theorem info5 : (Tryd.prog.info? 5).map (fun i => (i.zero, i.size, i.bytes)) = some (some (.int .u8 0), 1, 1) := by kernel_rfl
-- the values' own types

end Go.Proofs.YtoddbednkedmaaaDoor.QFnExactDecimal
