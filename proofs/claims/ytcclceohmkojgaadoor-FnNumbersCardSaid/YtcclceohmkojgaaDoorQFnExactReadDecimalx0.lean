/- The functions that a law uses, as Lean functions, and proofs that the Go code comes to just what they say: written by a program of this session over the translation. Conditions: as each theorem states. -/
import Derived.Test.YtcclceohmkojgaaDoorProg
import Derived.Below
import Derived.Deep.Draws
import Derived.Deep.AppendLies
import Derived.Maps.AppendAt
import Derived.OwnWalk
import Derived.Laws.BytesArg
import Derived.Laws.MakeOwn
import Derived.Laws.OwnMore
import Derived.Deep.OwnRows
import Derived.Tactics
import Derived.Lib.ConvBytes
import Derived.Laws.Slices
import Derived.WalkKit
import Derived.KernelRfl
import Derived.RowKit3
import Derived.Deep.LoopGhost
import Derived.Deep.QuietTactic
import Derived.BigQuiet
import Derived.WideLaws
import Derived.Deep.DeepCutAuto
import Derived.Deep.CutBlock
import Derived.Deep.RegionHeld3
import Derived.Laws.Rows
import Derived.Lib.AppendStr
import Derived.ArgAppend
import Derived.Laws.IdiomCopy
import Derived.OrdersHeld
import Derived.Laws.BitsLemmas
import Derived.RowKit
import Derived.Test.YtcclceohmkojgaaDoorStrCmp
import Derived.Test.YtcclceohmkojgaaDoorWWords
import Derived.Test.YtcclceohmkojgaaDoorWLast
import Derived.Test.YtcclceohmkojgaaDoorWTab
import Derived.Test.YtcclceohmkojgaaDoorWFour
import Derived.Test.YtcclceohmkojgaaDoorWQPut
import Derived.Test.YtcclceohmkojgaaDoorWApart
import Derived.Test.YtcclceohmkojgaaDoorWArr
import Derived.Test.YtcclceohmkojgaaDoorWZeros
import Derived.Test.YtcclceohmkojgaaDoorWFoot
import Derived.Test.YtcclceohmkojgaaDoorWKept
import Derived.Test.YtcclceohmkojgaaDoorWShare
import Derived.Test.YtcclceohmkojgaaDoorWN
import Derived.Test.YtcclceohmkojgaaDoorWFootNe
import Derived.Test.YtcclceohmkojgaaDoorWAt
import Derived.Test.YtcclceohmkojgaaDoorWEqStruct
import Derived.Test.YtcclceohmkojgaaDoorWRepsOne
import Derived.Test.YtcclceohmkojgaaDoorWInv
import Derived.Test.YtcclceohmkojgaaDoorWInvWords
import Derived.Test.YtcclceohmkojgaaDoorWGuard
import Derived.Test.YtcclceohmkojgaaDoorWNEv
import Derived.Test.YtcclceohmkojgaaDoorWMore
namespace Go.Proofs.YtcclceohmkojgaaDoor.QFnExactReadDecimal
open Go.RowKit Go.Proofs.YtcclceohmkojgaaDoorW.PrintWords Go.Proofs.YtcclceohmkojgaaDoorW.PrintLast Go.Proofs.YtcclceohmkojgaaDoorW.PrintMore
attribute [local go_sem] max2_int min2_int max_two min_two max_three min_three max_four min_four   -- for this text's walks alone
set_option linter.unusedVariables false
set_option linter.unusedSimpArgs false



def errW : Option Int → Value
  | none => .nilIface
  | some c => .iface 0 (.int .i64 c)
theorem errW_none : errW none = .nilIface := rfl
theorem errW_some (c : Int) : errW (some c) = .iface 0 (.int .i64 c) := rfl

theorem info5 : (Tryd.prog.info? 5).map (fun i => (i.zero, i.size, i.bytes)) = some (some (.int .u8 0), 1, 1) := by kernel_rfl
-- the values' own types

end Go.Proofs.YtcclceohmkojgaaDoor.QFnExactReadDecimal
