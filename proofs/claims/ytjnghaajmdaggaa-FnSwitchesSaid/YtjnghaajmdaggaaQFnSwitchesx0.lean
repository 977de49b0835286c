/- Sq: Go functions as Lean functions, and that the code comes to what they say: written by this session's program. Conditions: as each theorem states. -/
import Derived.Test.YtjnghaajmdaggaaProg
import Derived.Below
import Derived.Deep.Draws
import Derived.Deep.AppendLies
import Derived.Maps.AppendAt
import Derived.OwnWalk
import Derived.Laws.BytesArg
import Derived.Laws.MakeOwn
import Derived.Laws.OwnMore
import Derived.Deep.OwnRows
import Derived.Tactics
import Derived.Lib.ConvBytes
import Derived.Laws.Slices
import Derived.WalkKit
import Derived.KernelRfl
import Derived.RowKit3
import Derived.Deep.LoopGhost
import Derived.Deep.QuietTactic
import Derived.BigQuiet
import Derived.WideLaws
import Derived.Deep.DeepCutAuto
import Derived.Deep.CutBlock
import Derived.Deep.RegionHeld3
import Derived.Laws.Rows
import Derived.Lib.AppendStr
import Derived.ArgAppend
import Derived.Laws.IdiomCopy
import Derived.OrdersHeld
import Derived.Laws.BitsLemmas
import Derived.RowKit
import Derived.Test.YtjnghaajmdaggaaStrCmp
import Derived.Test.YtjnghaajmdaggaaShort
import Derived.Test.YtjnghaajmdaggaaWWords
import Derived.Test.YtjnghaajmdaggaaWLast
import Derived.Test.YtjnghaajmdaggaaWTab
import Derived.Test.YtjnghaajmdaggaaWFour
import Derived.Test.YtjnghaajmdaggaaWQPut
import Derived.Test.YtjnghaajmdaggaaWApart
import Derived.Test.YtjnghaajmdaggaaWArr
import Derived.Test.YtjnghaajmdaggaaWZeros
import Derived.Test.YtjnghaajmdaggaaWFoot
import Derived.Test.YtjnghaajmdaggaaWKept
import Derived.Test.YtjnghaajmdaggaaWShare
import Derived.Test.YtjnghaajmdaggaaWN
import Derived.Test.YtjnghaajmdaggaaWFootNe
import Derived.Test.YtjnghaajmdaggaaWAt
import Derived.Test.YtjnghaajmdaggaaWEqStruct
import Derived.Test.YtjnghaajmdaggaaWRepsOne
import Derived.Test.YtjnghaajmdaggaaWInv
import Derived.Test.YtjnghaajmdaggaaWInvWords
import Derived.Test.YtjnghaajmdaggaaWGuard
import Derived.Test.YtjnghaajmdaggaaWNEv
import Derived.Test.YtjnghaajmdaggaaWMore
namespace Go.Proofs.Ytjnghaajmdaggaa.QFnSwitches
open Go.RowKit Go.Proofs.YtjnghaajmdaggaaW.PrintWords Go.Proofs.YtjnghaajmdaggaaW.PrintLast Go.Proofs.YtjnghaajmdaggaaW.PrintMore Go.Proofs.YtjnghaajmdaggaaW.Sh
attribute [local go_sem] max2_int min2_int max_two min_two max_three min_three max_four min_four
set_option linter.unusedVariables false
set_option linter.unusedSimpArgs false



def errW:Option Int→Value
  | none => .nilIface
  | some c => .iface 0 (.int .i64 c)
theorem errW_none:errW none=.nilIface:=rfl
theorem errW_some (c:Int):errW (some c)=.iface 0 (.int .i64 c):=rfl

theorem info3:(Try.prog.info? 3).map (fun i=>(i.zero,i.size,i.bytes))=some (some (.int .i64 0),1,8):=by kernel_rfl
theorem info5:(Try.prog.info? 5).map (fun i=>(i.zero,i.size,i.bytes))=some (some (.int .u8 0),1,1):=by kernel_rfl
theorem info9:(Try.prog.info? 9).map (fun i=>(i.zero,i.size,i.bytes))=some (some (.string ⟨#[]⟩),1,16):=by kernel_rfl
theorem info78:(Try.prog.info? 78).map (fun i=>(i.zero,i.size,i.bytes))=some (some (.agg #[(.int .i64 0),(.string ⟨#[]⟩)]),2,24):=by kernel_rfl
-- the values' own types
structure S78 where
  f0:Int
  f1:ByteArray
def z78:S78:=⟨(0:Int),(⟨#[]⟩:ByteArray)⟩
def k78:Kd S78:=Kd.iso (Kd.pair (Kd.int .i64) Kd.string) (fun x:S78=>(x.f0,x.f1))
theorem k78_open {w:World} {x:S78} {cs:List Value} (h:k78.K w x cs):cs=[.int .i64 x.f0, .string x.f1]:=by
  obtain⟨_,_,rfl,rfl,rfl⟩:=h;exact rfl
theorem k78_openM {w:World} {base:Nat} {ok:Nat→Prop} {x:S78} {cs:List Value} (h:k78.M w base ok x cs):cs=[.int .i64 x.f0, .string x.f1]:=by
  obtain⟨_,_,rfl,rfl,rfl⟩:=h;exact rfl
theorem k78_mk (w:World) (x:S78)  : k78.K w x [.int .i64 x.f0, .string x.f1]:=⟨[.int .i64 x.f0],[.string x.f1],rfl,rfl,rfl⟩
theorem k78_mkM (w:World) (base:Nat) (ok:Nat→Prop) (x:S78)  : k78.M w base ok x [.int .i64 x.f0, .string x.f1]:=⟨[.int .i64 x.f0],[.string x.f1],rfl,rfl,rfl⟩
def rd_T78 (xs:List S78) (i:Int):S78:=xs.getD i.toNat z78
theorem at_T78 {w:World} {A:Option Addr} {n:Nat} {xs:List S78} (h:Kd.C k78 w A n xs) (i:Int) (h0:0≤i) (h1:i < n):∃ ad ,A=some ad∧w.cell? (ad.add (i.toNat * 2))=some (.int .i64 (rd_T78 xs i).f0)∧w.cell? ⟨(ad.add (i.toNat * 2)).block,(ad.add (i.toNat * 2)).off+1,none⟩=some (.string (rd_T78 xs i).f1):=by
  obtain⟨ad,c,e,_,hK,hc0⟩:=Kd.C_get h z78 i h0 h1;have hc:∀ j u,c[j]?=some u→w.cell? (ad.add (i.toNat * 2+j))=some u:=hc0;obtain rfl:=k78_open hK;(exact⟨ad,e,hc 0 _ rfl,by rw [← add_field _ _ 1 (by omega)];exact hc 1 _ rfl⟩)

end Go.Proofs.Ytjnghaajmdaggaa.QFnSwitches
