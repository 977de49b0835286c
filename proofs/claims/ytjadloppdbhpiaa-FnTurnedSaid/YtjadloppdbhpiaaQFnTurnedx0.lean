/- The functions that a law uses, as Lean functions, and proofs that the Go code comes to just what they say: written by a program of this session over the translation. Conditions: as each theorem states. -/
import Derived.Test.YtjadloppdbhpiaaProg
import Derived.Below
import Derived.Deep.Draws
import Derived.Deep.AppendLies
import Derived.Maps.AppendAt
import Derived.OwnWalk
import Derived.Laws.BytesArg
import Derived.Laws.MakeOwn
import Derived.Laws.OwnMore
import Derived.Deep.OwnRows
import Derived.Tactics
import Derived.Lib.ConvBytes
import Derived.Laws.Slices
import Derived.WalkKit
import Derived.KernelRfl
import Derived.RowKit3
import Derived.Deep.LoopGhost
import Derived.Deep.QuietTactic
import Derived.BigQuiet
import Derived.WideLaws
import Derived.Deep.DeepCutAuto
import Derived.Deep.CutBlock
import Derived.Deep.RegionHeld3
import Derived.Laws.Rows
import Derived.Lib.AppendStr
import Derived.ArgAppend
import Derived.Laws.IdiomCopy
import Derived.OrdersHeld
import Derived.Laws.BitsLemmas
import Derived.RowKit
import Derived.Test.YtjadloppdbhpiaaStrCmp
import Derived.Test.YtjadloppdbhpiaaStrB
import Derived.Test.YtjadloppdbhpiaaWWords
import Derived.Test.YtjadloppdbhpiaaWLast
import Derived.Test.YtjadloppdbhpiaaWTab
import Derived.Test.YtjadloppdbhpiaaWFour
import Derived.Test.YtjadloppdbhpiaaWQPut
import Derived.Test.YtjadloppdbhpiaaWApart
import Derived.Test.YtjadloppdbhpiaaWArr
import Derived.Test.YtjadloppdbhpiaaWZeros
import Derived.Test.YtjadloppdbhpiaaWFoot
import Derived.Test.YtjadloppdbhpiaaWKept
import Derived.Test.YtjadloppdbhpiaaWShare
import Derived.Test.YtjadloppdbhpiaaWN
import Derived.Test.YtjadloppdbhpiaaWFootNe
import Derived.Test.YtjadloppdbhpiaaWAt
import Derived.Test.YtjadloppdbhpiaaWEqStruct
import Derived.Test.YtjadloppdbhpiaaWRepsOne
import Derived.Test.YtjadloppdbhpiaaWInv
import Derived.Test.YtjadloppdbhpiaaWInvWords
import Derived.Test.YtjadloppdbhpiaaWGuard
import Derived.Test.YtjadloppdbhpiaaWNEv
import Derived.Test.YtjadloppdbhpiaaWMore
namespace Go.Proofs.Ytjadloppdbhpiaa.QFnTurned
open Go.RowKit Go.Proofs.YtjadloppdbhpiaaW.PrintWords Go.Proofs.YtjadloppdbhpiaaW.PrintLast Go.Proofs.YtjadloppdbhpiaaW.PrintMore
attribute [local go_sem] max2_int min2_int max_two min_two max_three min_three max_four min_four   -- for this text's walks alone
set_option linter.unusedVariables false
set_option linter.unusedSimpArgs false



def errW : Option Int → Value
  | none => .nilIface
  | some c => .iface 0 (.int .i64 c)
theorem errW_none : errW none = .nilIface := rfl
theorem errW_some (c : Int) : errW (some c) = .iface 0 (.int .i64 c) := rfl

theorem info3 : (Try.prog.info? 3).map (fun i => (i.zero, i.size, i.bytes)) = some (some (.int .i64 0), 1, 8) := by kernel_rfl
theorem info5 : (Try.prog.info? 5).map (fun i => (i.zero, i.size, i.bytes)) = some (some (.int .u8 0), 1, 1) := by kernel_rfl
-- the values' own types

end Go.Proofs.Ytjadloppdbhpiaa.QFnTurned
